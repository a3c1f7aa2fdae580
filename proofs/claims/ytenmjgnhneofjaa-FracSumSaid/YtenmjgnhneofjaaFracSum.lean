/- THE WALK OF credencelaw03.FracSum: of any fractions the sum (of the first 30); the list stays. -/
import Derived.Test.YtenmjgnhneofjaaQn
import Derived.Test.YtenmjgnhneofjaaRa
namespace Go.Proofs.Ytenmjgnhneofjaa
set_option linter.unusedVariables false
set_option linter.unusedSimpArgs false
open Go.ChangeShapes Go.WideShapes Go.ChangeAt Go.RowKit Go.NatP

theorem qrow_row {w : World} {B : Nat} {a : Option Addr} {n c : Nat} {ys : List QA} {vs : List Value} {N : Nat} (hr : w.ownsRow B 32 3 (.slice a N c) N (ys.flatMap QA.cs ++ vs)) (hl : ys.length = n) (hN : n ≤ N) (hR : ∀ i, i < n → Rd w (ys.getD i QA.o).a (ys.getD i QA.o).n (ys.getD i QA.o).c (ys.getD i QA.o).l ∧ Rd w (ys.getD i QA.o).b (ys.getD i QA.o).m (ys.getD i QA.o).d (ys.getD i QA.o).k) : QRow w a n ys := fun i hi => by
  obtain ⟨g, rfl, hg⟩ : ∃ g, a = some ⟨g, 0, none⟩ ∧ B ≤ g := by
    rcases ownsRow_cases3 hr (by decide) with ⟨_, h, _⟩ | ⟨g, h, h2, _⟩
    · omega
    · exact ⟨g, h, h2⟩
  obtain ⟨e0, e1, e2⟩ := flat_get ys i (by omega)
  have hfl := flat_len ys
  refine ⟨(hR i hi).1, (hR i hi).2, g, 0, rfl, ?_, ?_, ?_⟩
  · rw [Nat.zero_add, World.ownsRow.cellAt hr _ (by omega), List.getElem?_append_left (by omega), e0]
  · rw [Nat.zero_add, World.ownsRow.cellAt hr _ (by omega), List.getElem?_append_left (by omega), e1]
  · rw [Nat.zero_add, World.ownsRow.cellAt hr _ (by omega), List.getElem?_append_left (by omega), e2]
def QA.qi (x : QA) : QI := ⟨x.s, x.a, x.n, x.c, x.b, x.m, x.d, qv x.s (val x.l) (val x.k)⟩
theorem qi_get {ys : List QA} {i : Nat} (h : i < ys.length) : (ys.map QA.qi).getD i QI.o = (ys.getD i QA.o).qi := by
  simp [List.getD_eq_getElem?_getD, h]
theorem rdqs_of {w : World} {a : Option Addr} {n c : Nat} {ys : List QA} (h : QRow w a n ys) (hl : ys.length = n) (hn : n ≤ c) (hc : c ≤ maxLen) (hb : ∀ i, i < n → (ys.getD i QA.o).n ≤ 40 ∧ (ys.getD i QA.o).m ≤ 40) : RdQs 40 w a n c (ys.map QA.qi) := by
  refine ⟨by simp [hl], hn, hc, fun i hi => ?_⟩
  obtain ⟨h1, h2, h3⟩ := h i hi
  rw [qi_get (by omega)]
  exact ⟨⟨_, _, h1.rdN (hb i hi).1, h2.rdN (hb i hi).2, rfl⟩, h3⟩
theorem qsm_eq {xs ys : List QI} : ∀ n, (∀ i, i < n → (xs.getD i QI.o).q = (ys.getD i QI.o).q) → qsm xs n = qsm ys n
  | 0, _ => rfl
  | n + 1, h => by
    show qsm xs n + _ = qsm ys n + _
    rw [qsm_eq n (fun i hi => h i (by omega)), h n (by omega)]
def LentAll (B : Nat) (W : World) (a : Option Addr) (c n : Nat) (zs ys : List QA) (gs : List Nat) : Prop :=
  W.ownsRow B 32 3 (.slice a (n + 5) c) (n + 5) (zs.flatMap QA.cs ++ gs.flatMap markQ) ∧ (∀ j, j < n → LentOK B W a (zs.getD j QA.o) (ys.getD j QA.o)) ∧ (∀ j, j < 5 → MarkOK B W a (gs.getD j 0) j)
theorem LentAll.below {B : Nat} {W W' : World} {a : Option Addr} {c n : Nat} {zs ys : List QA} {gs : List Nat} (h : LentAll B W a c n zs ys gs) (hB : Below W.heap.size W W') : LentAll B W' a c n zs ys gs :=
  ⟨ownsRow_block3 h.1 (fun g e => hB.block g (by rcases ownsRow_cases3 h.1 (by decide) with ⟨h1, _⟩ | ⟨g2, h1, _, h2, _⟩ <;> rw [h1] at e <;> cases e; exact h2)), fun j hj => (h.2.1 j hj).below hB, fun j hj => (h.2.2 j hj).below hB⟩
theorem LentAll.row {B : Nat} {W : World} {a : Option Addr} {c n : Nat} {zs ys : List QA} {gs : List Nat} (h : LentAll B W a c n zs ys gs) (hl : zs.length = n) : QRow W a n zs :=
  qrow_row h.1 hl (by omega) fun i hi => ⟨(h.2.1 i hi).fa.2, (h.2.1 i hi).fb.2⟩
theorem LentAll.qsm {B : Nat} {W : World} {a : Option Addr} {c n : Nat} {zs ys : List QA} {gs : List Nat} (h : LentAll B W a c n zs ys gs) (hl : zs.length = n) (hl2 : ys.length = n) : qsm (zs.map QA.qi) n = qsm (ys.map QA.qi) n :=
  qsm_eq n fun i hi => by
    rw [qi_get (by omega), qi_get (by omega)]
    obtain ⟨e1, e2, e3, e4, e5⟩ := (h.2.1 i hi).eq
    show qv _ _ _ = qv _ _ _
    rw [e1, e4, e5]

set_option maxRecDepth 100000 in
set_option maxHeartbeats 8000000 in
theorem fracSum_walk {w : World} {sa : Option Addr} {n c : Nat} {xs : List QA} (hx : QRow w sa n xs) (hn : n ≤ c) (hc : c ≤ maxLen) :
    Calls Try.prog 5 #[.slice sa n c] w (fun e w' => e = .returned (.bool true) ∧ Below w.heap.size w w') := by
  obtain ⟨N, hN⟩ : ∃ N, min n 30 = N := ⟨_, rfl⟩
  have hN30 : N ≤ 30 := by omega
  go_enter Try.func5, Try.ntmps5
  have hbel_0 : Below w.heap.size w w := Below.refl _ _
  have hx_0 := hx
  clear hx
  go_wp2_with fail
  refine (fawake).mono ?_
  rintro e w1 ⟨rfl, hB⟩
  have hB_1 : Below w.heap.size w w1 := (by first | exact hB | exact below_drew hB | exact bel_alloc hB | exact below_drew (bel_alloc hB) | exact bel_alloc (below_drew hB) | exact bel_alloc (bel_alloc hB) | exact bel_alloc (bel_alloc (below_drew hB)))
  have hx_1 := hx_0.below hB_1
  have hbel_1 := hbel_0.next hB_1
  have hsz_1 := hB_1.size
  clear hx_0 hbel_0 hB_1
  try clear hB
  go_wp2_with fail
  refine (cutall hx_1 hn hc).mono ?_
  rw [hN]
  rintro e w2 ⟨la, lc, ys, rfl, hyl, hrow, hY, hB⟩
  have hB_2 : Below w1.heap.size w1 w2 := (by first | exact hB | exact below_drew hB | exact bel_alloc hB | exact below_drew (bel_alloc hB) | exact bel_alloc (below_drew hB) | exact bel_alloc (bel_alloc hB) | exact bel_alloc (bel_alloc (below_drew hB)))
  have hx_2 := hx_1.below hB_2
  have hbel_2 := hbel_1.next hB_2
  have hsz_2 := hB_2.size
  clear hx_1 hbel_1 hB_2
  try clear hB
  have hgm : ∀ i, i < N → ys.getD i QA.o ∈ ys := fun i hi => by rw [List.getD_eq_getElem?_getD, List.getElem?_eq_getElem (by omega)]; exact List.getElem_mem _
  have hlc : N ≤ lc ∧ lc ≤ maxLen := by
    rcases ownsRow_cases3 hrow (by decide) with ⟨_, h1, h2, _⟩ | ⟨g, h1, h2, h3, h4, h5⟩
    · exact ⟨by omega, by rw [h2]; exact Nat.zero_le _⟩
    · exact ⟨h4, h5⟩
  have hb40 := hid (fun i (hi : i < N) => (hY _ (hgm i hi)).2.2.2.2)
  have RY_2 := qrow_row (vs := []) (by rw [List.append_nil]; exact hrow) hyl (Nat.le_refl _) (fun i hi => ⟨(hY _ (hgm i hi)).2.2.1, (hY _ (hgm i hi)).2.2.2.1⟩)
  clear hrow hY hgm
  clear hx_2
  go_wp2_with fail
  refine (lendall RY_2 hlc.1 hlc.2 (by omega) (fun j hj => by have := hb40.out j hj; omega)).mono ?_
  rintro e w3 ⟨ma, mc, zs, gs, rfl, hmc, hmm, hzl, hgl, hrow, hZ, hM, hB⟩
  have hB_3 : Below w2.heap.size w2 w3 := (by first | exact hB | exact below_drew hB | exact bel_alloc hB | exact below_drew (bel_alloc hB) | exact bel_alloc (below_drew hB) | exact bel_alloc (bel_alloc hB) | exact bel_alloc (bel_alloc (below_drew hB)))
  have RY_3 := RY_2.below hB_3
  have hbel_3 := hbel_2.next hB_3
  have hsz_3 := hB_3.size
  clear RY_2 hbel_2 hB_3
  try clear hB
  have LA_3 := (show LentAll w2.heap.size w3 ma mc N zs ys gs from ⟨hrow, hZ, hM⟩)
  clear hrow hZ hM
  have RM_3 := LA_3.row hzl
  have hzb := hid (fun i (hi : i < N) => (by have := (LA_3.2.1 i hi).eq; have := hb40.out i hi; omega : (zs.getD i QA.o).n ≤ 40 ∧ (zs.getD i QA.o).m ≤ 40))
  have SY_3 := rdqs_of RY_3 hyl hlc.1 hlc.2 (fun i hi => hb40.out i hi)
  have SM_3 := rdqs_of RM_3 hzl (by omega) hmm (fun i hi => hzb.out i hi)
  have hqe := hid (LA_3.qsm hzl hyl)
  have hqs := hid ((SY_3.sum (by omega) N (Nat.le_refl _)).mono (show N * (40 + 1) + 1 ≤ 2000 by omega))
  obtain ⟨q, hq⟩ : ∃ q, qsm (ys.map QA.qi) N = q := ⟨_, rfl⟩
  rw [hq] at hqe hqs
  have hqh := hid hq
  clear hq
  have mRY := hid RY_3
  have mLA := hid LA_3
  have mRM := hid RM_3
  have mSY := hid SY_3
  have mSM := hid SM_3
  have mhbel := hid hbel_3
  have hbM_3 : Below w3.heap.size w3 w3 := Below.refl _ _
  go_wp2_with fail
  refine (qsum SM_3 (by omega) (by omega)).mono ?_
  rw [hqe.out]
  rintro e w4 ⟨xa, xn, xc, xb, xm, xd, rfl, hO, hO', hDx, hB⟩
  have hB_4 : Below w3.heap.size w3 w4 := (by first | exact hB | exact below_drew hB | exact bel_alloc hB | exact below_drew (bel_alloc hB) | exact bel_alloc (below_drew hB) | exact bel_alloc (bel_alloc hB) | exact bel_alloc (bel_alloc (below_drew hB)))
  have RY_4 := RY_3.below hB_4
  have LA_4 := LA_3.below hB_4
  have RM_4 := RM_3.below hB_4
  have SY_4 := SY_3.below hB_4
  have SM_4 := SM_3.below hB_4
  have hbM_4 := hbM_3.next hB_4
  have hbel_4 := hbel_3.next hB_4
  have hsz_4 := hB_4.size
  clear RY_3 LA_3 RM_3 SY_3 SM_3 hbM_3 hbel_3 hB_4
  have Ox_4 := hO
  have ltOx := hO.ltB
  have Px_4 := hO'
  have ltPx := hO'.ltB
  clear hO hO'
  try clear hB
  have hbx := blk_new w4 #[Value.bool (decide (q.num < 0)), Value.slice xa xn xc, Value.slice xb xm xd] 32
  have hbB := (Below.refl w4.heap.size w4).alloc (Nat.le_refl _) (.cells #[Value.bool (decide (q.num < 0)), Value.slice xa xn xc, Value.slice xb xm xd] 32)
  have hltU := hbx.lt
  have hB_5 : Below w4.heap.size w4 (w4.alloc (.cells #[Value.bool (decide (q.num < 0)), Value.slice xa xn xc, Value.slice xb xm xd] 32)) := hbB
  have RY_5 := RY_4.below hB_5
  have LA_5 := LA_4.below hB_5
  have RM_5 := RM_4.below hB_5
  have SY_5 := SY_4.below hB_5
  have SM_5 := SM_4.below hB_5
  have hbM_5 := hbM_4.next hB_5
  have Ox_5 := Ox_4.below hB_5
  have Px_5 := Px_4.below hB_5
  have hbel_5 := hbel_4.next hB_5
  have hsz_5 := hB_5.size
  clear hB_5
  have U_5 := hbx
  clear hbx hbB
  have cU_5_0 : _ = some (Value.bool (decide (q.num < 0))) := U_5.cell 0
  have cU_5_1 : _ = some (Value.slice xa xn xc) := U_5.cell 1
  have cU_5_2 : _ = some (Value.slice xb xm xd) := U_5.cell 2
  go_wp2_with fail
  clear RY_4 LA_4 RM_4 SY_4 SM_4 hbM_4 Ox_4 Px_4 hbel_4
  generalize (w4.alloc (.cells #[Value.bool (decide (q.num < 0)), Value.slice xa xn xc, Value.slice xb xm xd] 32)) = v5 at *
  go_wp2_with fail
  refine (qsum SM_5 (by omega) (by omega)).mono ?_
  rw [hqe.out]
  rintro e w6 ⟨za, zn, zc, zb, zm, zd, rfl, hO, hO', hDz, hB⟩
  have hB_6 : Below v5.heap.size v5 w6 := (by first | exact hB | exact below_drew hB | exact bel_alloc hB | exact below_drew (bel_alloc hB) | exact bel_alloc (below_drew hB) | exact bel_alloc (bel_alloc hB) | exact bel_alloc (bel_alloc (below_drew hB)))
  have U_6 := U_5.next hB_6
  have cU_6_0 : _ = some (Value.bool (decide (q.num < 0))) := U_6.cell 0
  have cU_6_1 : _ = some (Value.slice xa xn xc) := U_6.cell 1
  have cU_6_2 : _ = some (Value.slice xb xm xd) := U_6.cell 2
  have RY_6 := RY_5.below hB_6
  have LA_6 := LA_5.below hB_6
  have RM_6 := RM_5.below hB_6
  have SY_6 := SY_5.below hB_6
  have SM_6 := SM_5.below hB_6
  have hbM_6 := hbM_5.next hB_6
  have Ox_6 := Ox_5.below hB_6
  have Px_6 := Px_5.below hB_6
  have hbel_6 := hbel_5.next hB_6
  have hsz_6 := hB_6.size
  clear U_5 cU_5_0 cU_5_1 cU_5_2 RY_5 LA_5 RM_5 SY_5 SM_5 hbM_5 Ox_5 Px_5 hbel_5 hB_6
  have Oz_6 := hO
  have ltOz := hO.ltB
  have Pz_6 := hO'
  have ltPz := hO'.ltB
  clear hO hO'
  try clear hB
  have hbx := blk_new w6 #[Value.bool (decide (q.num < 0)), Value.slice za zn zc, Value.slice zb zm zd] 32
  have hbB := (Below.refl w6.heap.size w6).alloc (Nat.le_refl _) (.cells #[Value.bool (decide (q.num < 0)), Value.slice za zn zc, Value.slice zb zm zd] 32)
  have hltV := hbx.lt
  have hB_7 : Below w6.heap.size w6 (w6.alloc (.cells #[Value.bool (decide (q.num < 0)), Value.slice za zn zc, Value.slice zb zm zd] 32)) := hbB
  have U_7 := U_6.next hB_7
  have cU_7_0 : _ = some (Value.bool (decide (q.num < 0))) := U_7.cell 0
  have cU_7_1 : _ = some (Value.slice xa xn xc) := U_7.cell 1
  have cU_7_2 : _ = some (Value.slice xb xm xd) := U_7.cell 2
  have RY_7 := RY_6.below hB_7
  have LA_7 := LA_6.below hB_7
  have RM_7 := RM_6.below hB_7
  have SY_7 := SY_6.below hB_7
  have SM_7 := SM_6.below hB_7
  have hbM_7 := hbM_6.next hB_7
  have Ox_7 := Ox_6.below hB_7
  have Px_7 := Px_6.below hB_7
  have Oz_7 := Oz_6.below hB_7
  have Pz_7 := Pz_6.below hB_7
  have hbel_7 := hbel_6.next hB_7
  have hsz_7 := hB_7.size
  clear hB_7
  have V_7 := hbx
  clear hbx hbB
  have cV_7_0 : _ = some (Value.bool (decide (q.num < 0))) := V_7.cell 0
  have cV_7_1 : _ = some (Value.slice za zn zc) := V_7.cell 1
  have cV_7_2 : _ = some (Value.slice zb zm zd) := V_7.cell 2
  go_wp2_with fail
  clear U_6 cU_6_0 cU_6_1 cU_6_2 RY_6 LA_6 RM_6 SY_6 SM_6 hbM_6 Ox_6 Px_6 Oz_6 Pz_6 hbel_6
  generalize (w6.alloc (.cells #[Value.bool (decide (q.num < 0)), Value.slice za zn zc, Value.slice zb zm zd] 32)) = v7 at *
  go_wp2_with fail
  go_region_held3 (fun w' => w'.cell? ⟨w4.heap.size, 0, none⟩ = some (Value.bool (decide (q.num < 0))) ∧ w'.cell? ⟨w4.heap.size, 1, none⟩ = some (Value.slice xa xn xc) ∧ w'.cell? ⟨w4.heap.size, 2, none⟩ = some (Value.slice xb xm xd) ∧ w'.cell? ⟨w6.heap.size, 0, none⟩ = some (Value.bool (decide (q.num < 0))) ∧ w'.cell? ⟨w6.heap.size, 1, none⟩ = some (Value.slice za zn zc) ∧ w'.cell? ⟨w6.heap.size, 2, none⟩ = some (Value.slice zb zm zd))
    (first | exact ⟨cU_7_0, cU_7_1, cU_7_2, cV_7_0, cV_7_1, cV_7_2⟩ | exact ⟨cU_8_0, cU_8_1, cU_8_2, cV_8_0, cV_8_1, cV_8_2⟩ | exact ⟨cU_9_0, cU_9_1, cU_9_2, cV_9_0, cV_9_1, cV_9_2⟩ | exact ⟨cU_10_0, cU_10_1, cU_10_2, cV_10_0, cV_10_1, cV_10_2⟩ | go_keep)
    (first
      | (go_at_call 26; ((with_reducible refine (rqsum (SY_7.below (by first | exact Below.refl _ _ | exact (Below.refl _ _).drew | exact (Below.refl _ _).alloc (Nat.le_refl _) _ | exact ((Below.refl _ _).alloc (Nat.le_refl _) _).drew | exact (Below.refl _ _).drew.alloc (Nat.le_refl _) _ | exact ((Below.refl _ _).alloc (Nat.le_refl _) _).alloc (by simp) _ | exact (((Below.refl _ _).alloc (Nat.le_refl _) _).alloc (by simp) _).drew)) (by omega) (by omega)).mono ?_); (rw [hqh.out]; rintro e w8 ⟨ya, yn, yc, yb, ym, yd, rfl, hO, hO', hDy, hB⟩; have hB_8 : Below v7.heap.size v7 w8 := (by first | exact hB | exact below_drew hB | exact bel_alloc hB | exact below_drew (bel_alloc hB) | exact bel_alloc (below_drew hB) | exact bel_alloc (bel_alloc hB) | exact bel_alloc (bel_alloc (below_drew hB))); have U_8 := U_7.next hB_8; have cU_8_0 : _ = some (Value.bool (decide (q.num < 0))) := U_8.cell 0; have cU_8_1 : _ = some (Value.slice xa xn xc) := U_8.cell 1; have cU_8_2 : _ = some (Value.slice xb xm xd) := U_8.cell 2; have V_8 := V_7.next hB_8; have cV_8_0 : _ = some (Value.bool (decide (q.num < 0))) := V_8.cell 0; have cV_8_1 : _ = some (Value.slice za zn zc) := V_8.cell 1; have cV_8_2 : _ = some (Value.slice zb zm zd) := V_8.cell 2; have RY_8 := RY_7.below hB_8; have LA_8 := LA_7.below hB_8; have RM_8 := RM_7.below hB_8; have SY_8 := SY_7.below hB_8; have SM_8 := SM_7.below hB_8; have hbM_8 := hbM_7.next hB_8; have Ox_8 := Ox_7.below hB_8; have Px_8 := Px_7.below hB_8; have Oz_8 := Oz_7.below hB_8; have Pz_8 := Pz_7.below hB_8; have hbel_8 := hbel_7.next hB_8; have hsz_8 := hB_8.size; clear U_7 cU_7_0 cU_7_1 cU_7_2 V_7 cV_7_0 cV_7_1 cV_7_2 RY_7 LA_7 RM_7 SY_7 SM_7 hbM_7 Ox_7 Px_7 Oz_7 Pz_7 hbel_7 hB_8; have Oy_8 := hO; have ltOy := hO.ltB; have Py_8 := hO'; have ltPy := hO'.ltB; clear hO hO'; try clear hB)))
      | (go_at_call 20; ((with_reducible refine (qsame_true (Ox_8.below (by first | exact Below.refl _ _ | exact (Below.refl _ _).drew | exact (Below.refl _ _).alloc (Nat.le_refl _) _ | exact ((Below.refl _ _).alloc (Nat.le_refl _) _).drew | exact (Below.refl _ _).drew.alloc (Nat.le_refl _) _ | exact ((Below.refl _ _).alloc (Nat.le_refl _) _).alloc (by simp) _ | exact (((Below.refl _ _).alloc (Nat.le_refl _) _).alloc (by simp) _).drew)).rd (Px_8.below (by first | exact Below.refl _ _ | exact (Below.refl _ _).drew | exact (Below.refl _ _).alloc (Nat.le_refl _) _ | exact ((Below.refl _ _).alloc (Nat.le_refl _) _).drew | exact (Below.refl _ _).drew.alloc (Nat.le_refl _) _ | exact ((Below.refl _ _).alloc (Nat.le_refl _) _).alloc (by simp) _ | exact (((Below.refl _ _).alloc (Nat.le_refl _) _).alloc (by simp) _).drew)).rd (Oy_8.below (by first | exact Below.refl _ _ | exact (Below.refl _ _).drew | exact (Below.refl _ _).alloc (Nat.le_refl _) _ | exact ((Below.refl _ _).alloc (Nat.le_refl _) _).drew | exact (Below.refl _ _).drew.alloc (Nat.le_refl _) _ | exact ((Below.refl _ _).alloc (Nat.le_refl _) _).alloc (by simp) _ | exact (((Below.refl _ _).alloc (Nat.le_refl _) _).alloc (by simp) _).drew)).rd (Py_8.below (by first | exact Below.refl _ _ | exact (Below.refl _ _).drew | exact (Below.refl _ _).alloc (Nat.le_refl _) _ | exact ((Below.refl _ _).alloc (Nat.le_refl _) _).drew | exact (Below.refl _ _).drew.alloc (Nat.le_refl _) _ | exact ((Below.refl _ _).alloc (Nat.le_refl _) _).alloc (by simp) _ | exact (((Below.refl _ _).alloc (Nat.le_refl _) _).alloc (by simp) _).drew)).rd).mono ?_); (rintro e w9 ⟨rfl, hB⟩; have hB_9 : Below w8.heap.size w8 w9 := (by first | exact hB | exact below_drew hB | exact bel_alloc hB | exact below_drew (bel_alloc hB) | exact bel_alloc (below_drew hB) | exact bel_alloc (bel_alloc hB) | exact bel_alloc (bel_alloc (below_drew hB))); have U_9 := U_8.next hB_9; have cU_9_0 : _ = some (Value.bool (decide (q.num < 0))) := U_9.cell 0; have cU_9_1 : _ = some (Value.slice xa xn xc) := U_9.cell 1; have cU_9_2 : _ = some (Value.slice xb xm xd) := U_9.cell 2; have V_9 := V_8.next hB_9; have cV_9_0 : _ = some (Value.bool (decide (q.num < 0))) := V_9.cell 0; have cV_9_1 : _ = some (Value.slice za zn zc) := V_9.cell 1; have cV_9_2 : _ = some (Value.slice zb zm zd) := V_9.cell 2; have RY_9 := RY_8.below hB_9; have LA_9 := LA_8.below hB_9; have RM_9 := RM_8.below hB_9; have SY_9 := SY_8.below hB_9; have SM_9 := SM_8.below hB_9; have hbM_9 := hbM_8.next hB_9; have Ox_9 := Ox_8.below hB_9; have Px_9 := Px_8.below hB_9; have Oz_9 := Oz_8.below hB_9; have Pz_9 := Pz_8.below hB_9; have Oy_9 := Oy_8.below hB_9; have Py_9 := Py_8.below hB_9; have hbel_9 := hbel_8.next hB_9; have hsz_9 := hB_9.size; clear U_8 cU_8_0 cU_8_1 cU_8_2 V_8 cV_8_0 cV_8_1 cV_8_2 RY_8 LA_8 RM_8 SY_8 SM_8 hbM_8 Ox_8 Px_8 Oz_8 Pz_8 Oy_8 Py_8 hbel_8 hB_9; try clear hB)))
      | (go_at_call 20; ((with_reducible refine (qsame_true (Oz_9.below (by first | exact Below.refl _ _ | exact (Below.refl _ _).drew | exact (Below.refl _ _).alloc (Nat.le_refl _) _ | exact ((Below.refl _ _).alloc (Nat.le_refl _) _).drew | exact (Below.refl _ _).drew.alloc (Nat.le_refl _) _ | exact ((Below.refl _ _).alloc (Nat.le_refl _) _).alloc (by simp) _ | exact (((Below.refl _ _).alloc (Nat.le_refl _) _).alloc (by simp) _).drew)).rd (Pz_9.below (by first | exact Below.refl _ _ | exact (Below.refl _ _).drew | exact (Below.refl _ _).alloc (Nat.le_refl _) _ | exact ((Below.refl _ _).alloc (Nat.le_refl _) _).drew | exact (Below.refl _ _).drew.alloc (Nat.le_refl _) _ | exact ((Below.refl _ _).alloc (Nat.le_refl _) _).alloc (by simp) _ | exact (((Below.refl _ _).alloc (Nat.le_refl _) _).alloc (by simp) _).drew)).rd (Ox_9.below (by first | exact Below.refl _ _ | exact (Below.refl _ _).drew | exact (Below.refl _ _).alloc (Nat.le_refl _) _ | exact ((Below.refl _ _).alloc (Nat.le_refl _) _).drew | exact (Below.refl _ _).drew.alloc (Nat.le_refl _) _ | exact ((Below.refl _ _).alloc (Nat.le_refl _) _).alloc (by simp) _ | exact (((Below.refl _ _).alloc (Nat.le_refl _) _).alloc (by simp) _).drew)).rd (Px_9.below (by first | exact Below.refl _ _ | exact (Below.refl _ _).drew | exact (Below.refl _ _).alloc (Nat.le_refl _) _ | exact ((Below.refl _ _).alloc (Nat.le_refl _) _).drew | exact (Below.refl _ _).drew.alloc (Nat.le_refl _) _ | exact ((Below.refl _ _).alloc (Nat.le_refl _) _).alloc (by simp) _ | exact (((Below.refl _ _).alloc (Nat.le_refl _) _).alloc (by simp) _).drew)).rd).mono ?_); (rintro e w10 ⟨rfl, hB⟩; have hB_10 : Below w9.heap.size w9 w10 := (by first | exact hB | exact below_drew hB | exact bel_alloc hB | exact below_drew (bel_alloc hB) | exact bel_alloc (below_drew hB) | exact bel_alloc (bel_alloc hB) | exact bel_alloc (bel_alloc (below_drew hB))); have U_10 := U_9.next hB_10; have cU_10_0 : _ = some (Value.bool (decide (q.num < 0))) := U_10.cell 0; have cU_10_1 : _ = some (Value.slice xa xn xc) := U_10.cell 1; have cU_10_2 : _ = some (Value.slice xb xm xd) := U_10.cell 2; have V_10 := V_9.next hB_10; have cV_10_0 : _ = some (Value.bool (decide (q.num < 0))) := V_10.cell 0; have cV_10_1 : _ = some (Value.slice za zn zc) := V_10.cell 1; have cV_10_2 : _ = some (Value.slice zb zm zd) := V_10.cell 2; have RY_10 := RY_9.below hB_10; have LA_10 := LA_9.below hB_10; have RM_10 := RM_9.below hB_10; have SY_10 := SY_9.below hB_10; have SM_10 := SM_9.below hB_10; have hbM_10 := hbM_9.next hB_10; have Ox_10 := Ox_9.below hB_10; have Px_10 := Px_9.below hB_10; have Oz_10 := Oz_9.below hB_10; have Pz_10 := Pz_9.below hB_10; have Oy_10 := Oy_9.below hB_10; have Py_10 := Py_9.below hB_10; have hbel_10 := hbel_9.next hB_10; have hsz_10 := hB_10.size; clear U_9 cU_9_0 cU_9_1 cU_9_2 V_9 cV_9_0 cV_9_1 cV_9_2 RY_9 LA_9 RM_9 SY_9 SM_9 hbM_9 Ox_9 Px_9 Oz_9 Pz_9 Oy_9 Py_9 hbel_9 hB_10; try clear hB))))
  have hbx := blk_new w10 #[Value.bool (decide (q.num < 0)), Value.slice xa xn xc, Value.slice xb xm xd, Value.bool (decide (q.num < 0)), Value.slice za zn zc, Value.slice zb zm zd] 32
  have hbB := (Below.refl w10.heap.size w10).alloc (Nat.le_refl _) (.cells #[Value.bool (decide (q.num < 0)), Value.slice xa xn xc, Value.slice xb xm xd, Value.bool (decide (q.num < 0)), Value.slice za zn zc, Value.slice zb zm zd] 32)
  have hltROW := hbx.lt
  have hB_11 : Below w10.heap.size w10 (w10.alloc (.cells #[Value.bool (decide (q.num < 0)), Value.slice xa xn xc, Value.slice xb xm xd, Value.bool (decide (q.num < 0)), Value.slice za zn zc, Value.slice zb zm zd] 32)) := hbB
  have U_11 := U_10.next hB_11
  have cU_11_0 : _ = some (Value.bool (decide (q.num < 0))) := U_11.cell 0
  have cU_11_1 : _ = some (Value.slice xa xn xc) := U_11.cell 1
  have cU_11_2 : _ = some (Value.slice xb xm xd) := U_11.cell 2
  have V_11 := V_10.next hB_11
  have cV_11_0 : _ = some (Value.bool (decide (q.num < 0))) := V_11.cell 0
  have cV_11_1 : _ = some (Value.slice za zn zc) := V_11.cell 1
  have cV_11_2 : _ = some (Value.slice zb zm zd) := V_11.cell 2
  have RY_11 := RY_10.below hB_11
  have LA_11 := LA_10.below hB_11
  have RM_11 := RM_10.below hB_11
  have SY_11 := SY_10.below hB_11
  have SM_11 := SM_10.below hB_11
  have hbM_11 := hbM_10.next hB_11
  have Ox_11 := Ox_10.below hB_11
  have Px_11 := Px_10.below hB_11
  have Oz_11 := Oz_10.below hB_11
  have Pz_11 := Pz_10.below hB_11
  have Oy_11 := Oy_10.below hB_11
  have Py_11 := Py_10.below hB_11
  have hbel_11 := hbel_10.next hB_11
  have hsz_11 := hB_11.size
  clear hB_11
  have ROW_11 := hbx
  clear hbx hbB
  have cROW_11_0 : _ = some (Value.bool (decide (q.num < 0))) := ROW_11.cell 0
  have cROW_11_1 : _ = some (Value.slice xa xn xc) := ROW_11.cell 1
  have cROW_11_2 : _ = some (Value.slice xb xm xd) := ROW_11.cell 2
  have cROW_11_3 : _ = some (Value.bool (decide (q.num < 0))) := ROW_11.cell 3
  have cROW_11_4 : _ = some (Value.slice za zn zc) := ROW_11.cell 4
  have cROW_11_5 : _ = some (Value.slice zb zm zd) := ROW_11.cell 5
  go_wp2_with fail
  clear U_10 cU_10_0 cU_10_1 cU_10_2 V_10 cV_10_0 cV_10_1 cV_10_2 RY_10 LA_10 RM_10 SY_10 SM_10 hbM_10 Ox_10 Px_10 Oz_10 Pz_10 Oy_10 Py_10 hbel_10
  generalize (w10.alloc (.cells #[Value.bool (decide (q.num < 0)), Value.slice xa xn xc, Value.slice xb xm xd, Value.bool (decide (q.num < 0)), Value.slice za zn zc, Value.slice zb zm zd] 32)) = v11 at *
  have hl1 : xn ≤ 268435456 := by have := Ox_11.len; have := hqs.out.len1; omega
  have hl2 : xm ≤ 268435456 := by have := Px_11.len; have := hqs.out.len2; omega
  have hl3 : zn ≤ 268435456 := by have := Oz_11.len; have := hqs.out.len1; omega
  have hl4 : zm ≤ 268435456 := by have := Pz_11.len; have := hqs.out.len2; omega
  have hRG := rgot2 ROW_11 Ox_11 Px_11 Oz_11 Pz_11 hDx (ltOx.diff Oz_11 (by omega)).symm (ltOx.diff Pz_11 (by omega)).symm (ltPx.diff Oz_11 (by omega)).symm (ltPx.diff Pz_11 (by omega)).symm hDz
  go_wp2_with fail
  refine (ownrats_any (c := 2) hRG (by omega) (by omega) (by omega) (by unfold maxLen; omega) (fun i _ => pick4_le hl1 hl2 hl3 hl4 i)).mono ?_
  rintro e wo ⟨rfl, hK⟩
  have hM := below_own2 hbM_11 hK Ox_11 Px_11 Oz_11 Pz_11 (by omega) (by omega) (by omega) (by omega)
  clear hRG hK
  have hbM_12 := hM
  have RY_12 := mRY.out.below hbM_12
  have LA_12 := mLA.out.below hbM_12
  have RM_12 := mRM.out.below hbM_12
  have SY_12 := mSY.out.below hbM_12
  have SM_12 := mSM.out.below hbM_12
  have hbel_12 := mhbel.out.next hbM_12
  have hsz_12 := hbM_12.size
  clear U_11 V_11 ROW_11 cU_11_0 cU_11_1 cU_11_2 cV_11_0 cV_11_1 cV_11_2 cROW_11_0 cROW_11_1 cROW_11_2 cROW_11_3 cROW_11_4 cROW_11_5 RY_11 LA_11 RM_11 SY_11 SM_11 hbM_11 Ox_11 Px_11 Oz_11 Pz_11 Oy_11 Py_11 hbel_11
  clear hM
  go_wp2_with fail
  refine (keptall LA_12.1 hzl hgl LA_12.2.1 LA_12.2.2 RY_12 (by omega) hlc.1).mono ?_
  rintro e w13 ⟨rfl, hB⟩
  have hB_13 : Below wo.heap.size wo w13 := (by first | exact hB | exact below_drew hB | exact bel_alloc hB | exact below_drew (bel_alloc hB) | exact bel_alloc (below_drew hB) | exact bel_alloc (bel_alloc hB) | exact bel_alloc (bel_alloc (below_drew hB)))
  have RY_13 := RY_12.below hB_13
  have LA_13 := LA_12.below hB_13
  have RM_13 := RM_12.below hB_13
  have SY_13 := SY_12.below hB_13
  have SM_13 := SM_12.below hB_13
  have hbM_13 := hbM_12.next hB_13
  have hbel_13 := hbel_12.next hB_13
  have hsz_13 := hB_13.size
  clear RY_12 LA_12 RM_12 SY_12 SM_12 hbM_12 hbel_12 hB_13
  try clear hB
  go_wp2
  go_ret
  exact ⟨rfl, hbel_13⟩

end Go.Proofs.Ytenmjgnhneofjaa
