/- THE WALK OF credencelaw09.ExprJoined: two lists and a term behind them. -/
import Derived.Test.YtennilapmcgnbaaV5
namespace Go.Proofs.Ytennilapmcgnbaa
set_option linter.unusedVariables false
set_option linter.unusedSimpArgs false
open Go.ChangeShapes Go.WideShapes Go.ChangeAt Go.RowKit Go.NatP

theorem TOK.far {K : Nat} {WN W : World} {la b : Option Addr} {x : QA} (h : TOK K WN b x) (hB : Below WN.heap.size WN W) (hla : ∀ g, la = some ⟨g, 0, none⟩ → WN.heap.size ≤ g) : TOK K W la x :=
  ⟨h.ra.below hB, h.rb.below hB, fun g o h0 e e2 => by have := Rd.lt0 (e ▸ h.ra) h0; have := hla g e2; omega, fun g o h0 e e2 => by have := Rd.lt0 (e ▸ h.rb) h0; have := hla g e2; omega, h.na, h.nb⟩
theorem TRw.blkB {K B : Nat} {W : World} {a : Option Addr} {c : Nat} {ts : List TA} (h : TRw K B W a c ts) : ∀ g, a = some ⟨g, 0, none⟩ → B ≤ g := fun g e => (h.blk g e).1
theorem ans_pz {xs : List TI} {n K : Nat} {at_ : Int} (hl : xs.length = n) (hK : 2 ≤ K) (hq : ∀ i, i < n → QS (xs.getD i TI.o).x.q K) {P : PV} (h : ansV at_ xs = some P) : ∃ m, m ≤ n ∧ PZ K P m := by
  subst hl
  obtain ⟨m, hm, hk, _⟩ := wrkV_pz hK hq (ansV_wrk.1 h)
  exact ⟨m, hk, hm⟩
theorem trw_qs {K B : Nat} {W : World} {a : Option Addr} {c : Nat} {ts : List TA} (h : TRw K B W a c ts) (hK : 1 ≤ K) : ∀ i, i < ts.length → QS ((ts.map TA.ti).getD i TI.o).x.q K := fun i hi => (h.rdTs.2.2.2 i hi).1.qs hK
/-- what a list that is an expression is worth: how great, how deep -/
theorem trw_ans {B : Nat} {W : World} {a : Option Addr} {c n : Nat} {ts : List TA} (h : TRw 3 B W a c ts) (hn : ts.length ≤ n) {P : PV} (hP : ansV (-1) (ts.map TA.ti) = some P) : QS P.v (n * 3) ∧ 0 ≤ P.deep ∧ P.deep ≤ 2 * n := by
  obtain ⟨m, hm, hz⟩ := ans_pz (by simp) (by decide) (trw_qs h (by decide)) hP
  have := hz.hi
  exact ⟨hz.v.mono (Nat.mul_le_mul_right 3 (by omega)), hz.lo, by omega⟩
theorem evE_lo {J : PV} (h : ¬ J.deep > 64) : evE (some J) = if J.bad = true then 11 else 0 := if_neg h
theorem joinV_bad {k : Int} {P Q : PV} (h : (P.bad || Q.bad) = true) : (joinV k P Q).bad = true := by unfold joinV; rw [if_pos h]
theorem joinV_cl {k : Int} {P Q : PV} (h1 : P.bad = false) (h2 : Q.bad = false) (h3 : P.opn = false) (h4 : Q.opn = false) : joinV k P Q = ⟨k, dpJ k P Q, (bthV k P.v Q.v).1, (bthV k P.v Q.v).2, false, LV.z⟩ := by
  unfold joinV; rw [h1, h2, h3, h4]; rfl
theorem rdq_o (W : World) : RdQ 1 W false none 0 0 none 0 0 0 := (FA.o (fun _ => True) W).rdQ qs_zero
theorem dpJ_ge (k : Int) (P Q : PV) : P.deep ≤ dpJ k P Q ∧ Q.deep ≤ dpJ k P Q := by
  have a1 := dpB_bd (P.kind == 2 || P.kind == 3) P.deep
  have a2 := dpB_bd (!(Q.kind == 1 || Q.kind == 6)) Q.deep
  have a3 := dpB_bd (Q.kind == 2 || Q.kind == 3) Q.deep
  have m1 := mxI_bd (dpB (P.kind == 2 || P.kind == 3) P.deep) (dpB (!(Q.kind == 1 || Q.kind == 6)) Q.deep)
  have m2 := mxI_bd P.deep (dpB (Q.kind == 2 || Q.kind == 3) Q.deep)
  unfold dpJ
  split <;> omega

set_option maxRecDepth 100000 in
set_option maxHeartbeats 8000000 in
theorem exprJoined_walk {w : World} {sa sb : Option Addr} {c d : Nat} {ts us : List TA} (hx : TRow w sa ts.length ts) (hn : ts.length ≤ c) (hc : c ≤ maxLen) (hy : TRow w sb us.length us) (hm : us.length ≤ d) (hd : d ≤ maxLen) (kd : Int) (k1 : -128 ≤ kd) (k2 : kd ≤ 127) :
    Calls Try.prog 4 #[.slice sa ts.length c, .slice sb us.length d, .int .i8 kd] w (fun e w' => e = .returned (.bool true) ∧ Below w.heap.size w w') := by
  have hc' := hid hc
  have hd' := hid hd
  have hn' := hid hn
  have hm' := hid hm
  clear hc hd hn hm
  go_enter Try.func4, Try.ntmps4
  have hbel_0 : Below w.heap.size w w := Below.refl _ _
  have hsz_0 : w.heap.size ≤ w.heap.size := Nat.le_refl _
  have hx_0 := hx
  have hy_0 := hy
  clear hx hy
  go_wp2_with fail
  refine (eawake).mono ?_
  rintro e w1 ⟨rfl, hB⟩
  have hB_1 : Below w.heap.size w w1 := (bl.next hB)
  have hx_1 := hx_0.below hB_1
  have hy_1 := hy_0.below hB_1
  have hbel_1 := hbel_0.next hB_1
  have hsz_1 := hB_1.size
  clear hx_0 hy_0 hbel_0 hB_1
  try clear hB
  go_wp2_with fail
  refine (tcut hx_1 hn'.out hc'.out).mono ?_
  rintro e w2 ⟨la, lc, rfl, hT, hB⟩
  have hB_2 : Below w1.heap.size w1 w2 := (bl.next hB)
  have hx_2 := hx_1.below hB_2
  have hy_2 := hy_1.below hB_2
  have hbel_2 := hbel_1.next hB_2
  have hsz_2 := hB_2.size
  clear hx_1 hy_1 hbel_1 hB_2
  have X_2 := hT
  clear hT
  try clear hB
  clear hx_2
  go_wp2_with fail
  refine (tcut hy_2 hm'.out hd'.out).mono ?_
  rintro e w3 ⟨lb, ld, rfl, hT, hB⟩
  have hB_3 : Below w2.heap.size w2 w3 := (bl.next hB)
  have hy_3 := hy_2.below hB_3
  have X_3 := X_2.below hB_3
  have hbel_3 := hbel_2.next hB_3
  have hsz_3 := hB_3.size
  clear hy_2 X_2 hbel_2 hB_3
  have Y_3 := hT
  clear hT
  try clear hB
  clear hy_3
  obtain ⟨xs, hxs⟩ : ∃ z, (ts.take 300).map cutT = z := ⟨_, rfl⟩
  obtain ⟨ys, hys⟩ : ∃ z, (us.take 300).map cutT = z := ⟨_, rfl⟩
  rw [hxs] at X_3
  rw [hys] at Y_3
  obtain ⟨n, hnn⟩ : ∃ z, min ts.length 300 = z := ⟨_, rfl⟩
  obtain ⟨m, hmm⟩ : ∃ z, min us.length 300 = z := ⟨_, rfl⟩
  have hxl : xs.length = n := by rw [← hxs, List.length_map, List.length_take]; omega
  have hyl : ys.length = m := by rw [← hys, List.length_map, List.length_take]; omega
  have hn3 : n ≤ 300 := by omega
  have hm3 : m ≤ 300 := by omega
  rw [hnn, hmm]
  clear hnn hmm hxs hys
  have RX_3 := X_3.rdTs
  have RY_3 := Y_3.rdTs
  rw [hxl] at RX_3
  rw [hyl] at RY_3
  have hxlh := hid hxl
  have hylh := hid hyl
  clear hxl hyl
  have HE1 := hid (fun (W : World) hT => evl_any (w := W) (sa := la) (n := n) (c := lc) (K := 3) (xs := xs.map TA.ti) hT (by omega) (by omega))
  have HD1 := hid (fun (W : World) hT => dep_any (w := W) (sa := la) (n := n) (c := lc) (K := 3) (xs := xs.map TA.ti) hT (by omega) (by omega))
  have HE2 := hid (fun (W : World) hT => evl_any (w := W) (sa := lb) (n := m) (c := ld) (K := 3) (xs := ys.map TA.ti) hT (by omega) (by omega))
  have HD2 := hid (fun (W : World) hT => dep_any (w := W) (sa := lb) (n := m) (c := ld) (K := 3) (xs := ys.map TA.ti) hT (by omega) (by omega))
  have hAz := hid (fun P (h : ansV (-1) (xs.map TA.ti) = some P) => trw_ans X_3 (n := 300) (by rw [hxlh.out]; exact hn3) h)
  have hBz := hid (fun P (h : ansV (-1) (ys.map TA.ti) = some P) => trw_ans Y_3 (n := 300) (by rw [hylh.out]; exact hm3) h)
  cases hA : ansV (-1) (xs.map TA.ti) with
  | none =>
    rw [hA] at HE1 HD1
    clear hAz hBz
    obtain ⟨qb, hqb⟩ : ∃ z, evQ (ansV (-1) (ys.map TA.ti)) = z := ⟨_, rfl⟩
    obtain ⟨eb, heb⟩ : ∃ z, evE (ansV (-1) (ys.map TA.ti)) = z := ⟨_, rfl⟩
    obtain ⟨db, hdb⟩ : ∃ z, dpI (ansV (-1) (ys.map TA.ti)) = z := ⟨_, rfl⟩
    obtain ⟨gb, hgb⟩ : ∃ z, dpE (ansV (-1) (ys.map TA.ti)) = z := ⟨_, rfl⟩
    rw [hqb, heb] at HE2
    rw [hdb, hgb] at HD2
    clear hqb heb hdb hgb hA
    go_wp2_with fail
    refine ((show Calls _ _ _ _ (RetQE _ 0 30) from HE1.out _ RX_3)).mono ?_
    rintro e w4 ⟨pa, pn, pc, pb, pm, pd, rfl, hO, hO', hD, hB⟩
    have hB_4 : Below w3.heap.size w3 w4 := (bl.next hB)
    have X_4 := X_3.below hB_4
    have Y_4 := Y_3.below hB_4
    have RX_4 := RX_3.below hB_4
    have RY_4 := RY_3.below hB_4
    have hbel_4 := hbel_3.next hB_4
    have hsz_4 := hB_4.size
    clear X_3 Y_3 RX_3 RY_3 hbel_3 hB_4
    have Op_4 := (show Own w3.heap.size _ _ _ _ (qnl 0 30) from hO)
    have Pp_4 := (show Own w3.heap.size _ _ _ _ (qdl 0 30) from hO')
    clear hO hO' hD
    try clear hB
    go_upto_region 5 with fail
    have hbx := blk_new w4 #[Value.bool (qsg 0 30), Value.slice pa pn pc, Value.slice pb pm pd] 28
    have hbB := (Below.refl w4.heap.size w4).alloc (Nat.le_refl _) (.cells #[Value.bool (qsg 0 30), Value.slice pa pn pc, Value.slice pb pm pd] 28)
    have hltV := hbx.lt
    have hB_5 : Below w4.heap.size w4 (w4.alloc (.cells #[Value.bool (qsg 0 30), Value.slice pa pn pc, Value.slice pb pm pd] 28)) := hbB
    have X_5 := X_4.below hB_5
    have Y_5 := Y_4.below hB_5
    have RX_5 := RX_4.below hB_5
    have RY_5 := RY_4.below hB_5
    have Op_5 := Op_4.below hB_5
    have Pp_5 := Pp_4.below hB_5
    have hbel_5 := hbel_4.next hB_5
    have hsz_5 := hB_5.size
    clear X_4 Y_4 RX_4 RY_4 Op_4 Pp_4 hbel_4 hB_5
    have V_5 := hbx
    clear hbx hbB
    generalize (w4.alloc (.cells #[Value.bool (qsg 0 30), Value.slice pa pn pc, Value.slice pb pm pd] 28)) = va5 at *
    go_wp2_with fail
    refine ((show Calls _ _ _ _ (RetQE _ qb eb) from HE2.out _ RY_5)).mono ?_
    rintro e w6 ⟨za, zn, zc, zb, zm, zd, rfl, hO, hO', hD, hB⟩
    have hB_6 : Below va5.heap.size va5 w6 := (bl.next hB)
    have V_6 := V_5.next hB_6
    have X_6 := X_5.below hB_6
    have Y_6 := Y_5.below hB_6
    have RX_6 := RX_5.below hB_6
    have RY_6 := RY_5.below hB_6
    have Op_6 := Op_5.below hB_6
    have Pp_6 := Pp_5.below hB_6
    have hbel_6 := hbel_5.next hB_6
    have hsz_6 := hB_6.size
    clear V_5 X_5 Y_5 RX_5 RY_5 Op_5 Pp_5 hbel_5 hB_6
    have Oz_6 := (show Own va5.heap.size _ _ _ _ (qnl qb eb) from hO)
    have Pz_6 := (show Own va5.heap.size _ _ _ _ (qdl qb eb) from hO')
    clear hO hO' hD
    try clear hB
    go_upto_region 6 with fail
    have hbx := blk_new w6 #[Value.bool (qsg qb eb), Value.slice za zn zc, Value.slice zb zm zd] 28
    have hbB := (Below.refl w6.heap.size w6).alloc (Nat.le_refl _) (.cells #[Value.bool (qsg qb eb), Value.slice za zn zc, Value.slice zb zm zd] 28)
    have hltU := hbx.lt
    have hB_7 : Below w6.heap.size w6 (w6.alloc (.cells #[Value.bool (qsg qb eb), Value.slice za zn zc, Value.slice zb zm zd] 28)) := hbB
    have V_7 := V_6.next hB_7
    have X_7 := X_6.below hB_7
    have Y_7 := Y_6.below hB_7
    have RX_7 := RX_6.below hB_7
    have RY_7 := RY_6.below hB_7
    have Op_7 := Op_6.below hB_7
    have Pp_7 := Pp_6.below hB_7
    have Oz_7 := Oz_6.below hB_7
    have Pz_7 := Pz_6.below hB_7
    have hbel_7 := hbel_6.next hB_7
    have hsz_7 := hB_7.size
    clear V_6 X_6 Y_6 RX_6 RY_6 Op_6 Pp_6 Oz_6 Pz_6 hbel_6 hB_7
    have U_7 := hbx
    clear hbx hbB
    generalize (w6.alloc (.cells #[Value.bool (qsg qb eb), Value.slice za zn zc, Value.slice zb zm zd] 28)) = va7 at *
    go_wp2_with fail
    refine ((show Calls _ _ _ _ (RetIE _ 0 30) from HD1.out _ RX_7)).mono ?_
    rintro e w8 ⟨rfl, hB⟩
    have hB_8 : Below va7.heap.size va7 w8 := (bl.next hB)
    have V_8 := V_7.next hB_8
    have U_8 := U_7.next hB_8
    have X_8 := X_7.below hB_8
    have Y_8 := Y_7.below hB_8
    have RX_8 := RX_7.below hB_8
    have RY_8 := RY_7.below hB_8
    have Op_8 := Op_7.below hB_8
    have Pp_8 := Pp_7.below hB_8
    have Oz_8 := Oz_7.below hB_8
    have Pz_8 := Pz_7.below hB_8
    have hbel_8 := hbel_7.next hB_8
    have hsz_8 := hB_8.size
    clear V_7 U_7 X_7 Y_7 RX_7 RY_7 Op_7 Pp_7 Oz_7 Pz_7 hbel_7 hB_8
    try clear hB
    go_wp2_with fail
    refine ((show Calls _ _ _ _ (RetIE _ db gb) from HD2.out _ RY_8)).mono ?_
    rintro e w9 ⟨rfl, hB⟩
    have hB_9 : Below w8.heap.size w8 w9 := (bl.next hB)
    have V_9 := V_8.next hB_9
    have U_9 := U_8.next hB_9
    have X_9 := X_8.below hB_9
    have Y_9 := Y_8.below hB_9
    have RX_9 := RX_8.below hB_9
    have RY_9 := RY_8.below hB_9
    have Op_9 := Op_8.below hB_9
    have Pp_9 := Pp_8.below hB_9
    have Oz_9 := Oz_8.below hB_9
    have Pz_9 := Pz_8.below hB_9
    have hbel_9 := hbel_8.next hB_9
    have hsz_9 := hB_9.size
    clear V_8 U_8 X_8 Y_8 RX_8 RY_8 Op_8 Pp_8 Oz_8 Pz_8 hbel_8 hB_9
    try clear hB
    go_wp2
    go_ret
    exact ⟨rfl, hbel_9⟩
  | some P =>
    rw [hA] at HE1 HD1
    have hPz := hid (hAz.out P hA)
    have hAh := hid hA
    clear hAz hA
    cases hA : ansV (-1) (ys.map TA.ti) with
    | none =>
      rw [hA] at HE2 HD2
      clear hBz hPz hAh hA
      obtain ⟨ea, hea⟩ : ∃ z, evE (some P) = z := ⟨_, rfl⟩
      have hea0 : (ea == (30 : Int)) = false := by rw [← hea]; unfold evE; dsimp only; split; rfl; split <;> rfl
      obtain ⟨da, hda⟩ : ∃ z, dpI (some P) = z := ⟨_, rfl⟩
      rw [hea] at HE1
      rw [hda] at HD1
      clear hea hda
      have hga := hid (show dpE (some P) = 0 from rfl)
      go_wp2_with fail
      refine ((show Calls _ _ _ _ (RetQE _ P.v ea) from HE1.out _ RX_3)).mono ?_
      rintro e w4 ⟨pa, pn, pc, pb, pm, pd, rfl, hO, hO', hD, hB⟩
      have hB_4 : Below w3.heap.size w3 w4 := (bl.next hB)
      have X_4 := X_3.below hB_4
      have Y_4 := Y_3.below hB_4
      have RX_4 := RX_3.below hB_4
      have RY_4 := RY_3.below hB_4
      have hbel_4 := hbel_3.next hB_4
      have hsz_4 := hB_4.size
      clear X_3 Y_3 RX_3 RY_3 hbel_3 hB_4
      have Op_4 := (show Own w3.heap.size _ _ _ _ (qnl P.v ea) from hO)
      have Pp_4 := (show Own w3.heap.size _ _ _ _ (qdl P.v ea) from hO')
      clear hO hO' hD
      try clear hB
      go_upto_region 5 with fail
      have hbx := blk_new w4 #[Value.bool (qsg P.v ea), Value.slice pa pn pc, Value.slice pb pm pd] 28
      have hbB := (Below.refl w4.heap.size w4).alloc (Nat.le_refl _) (.cells #[Value.bool (qsg P.v ea), Value.slice pa pn pc, Value.slice pb pm pd] 28)
      have hltV := hbx.lt
      have hB_5 : Below w4.heap.size w4 (w4.alloc (.cells #[Value.bool (qsg P.v ea), Value.slice pa pn pc, Value.slice pb pm pd] 28)) := hbB
      have X_5 := X_4.below hB_5
      have Y_5 := Y_4.below hB_5
      have RX_5 := RX_4.below hB_5
      have RY_5 := RY_4.below hB_5
      have Op_5 := Op_4.below hB_5
      have Pp_5 := Pp_4.below hB_5
      have hbel_5 := hbel_4.next hB_5
      have hsz_5 := hB_5.size
      clear X_4 Y_4 RX_4 RY_4 Op_4 Pp_4 hbel_4 hB_5
      have V_5 := hbx
      clear hbx hbB
      generalize (w4.alloc (.cells #[Value.bool (qsg P.v ea), Value.slice pa pn pc, Value.slice pb pm pd] 28)) = va5 at *
      go_wp2_with fail
      refine ((show Calls _ _ _ _ (RetQE _ 0 30) from HE2.out _ RY_5)).mono ?_
      rintro e w6 ⟨za, zn, zc, zb, zm, zd, rfl, hO, hO', hD, hB⟩
      have hB_6 : Below va5.heap.size va5 w6 := (bl.next hB)
      have V_6 := V_5.next hB_6
      have X_6 := X_5.below hB_6
      have Y_6 := Y_5.below hB_6
      have RX_6 := RX_5.below hB_6
      have RY_6 := RY_5.below hB_6
      have Op_6 := Op_5.below hB_6
      have Pp_6 := Pp_5.below hB_6
      have hbel_6 := hbel_5.next hB_6
      have hsz_6 := hB_6.size
      clear V_5 X_5 Y_5 RX_5 RY_5 Op_5 Pp_5 hbel_5 hB_6
      have Oz_6 := (show Own va5.heap.size _ _ _ _ (qnl 0 30) from hO)
      have Pz_6 := (show Own va5.heap.size _ _ _ _ (qdl 0 30) from hO')
      clear hO hO' hD
      try clear hB
      go_upto_region 6 with fail
      have hbx := blk_new w6 #[Value.bool (qsg 0 30), Value.slice za zn zc, Value.slice zb zm zd] 28
      have hbB := (Below.refl w6.heap.size w6).alloc (Nat.le_refl _) (.cells #[Value.bool (qsg 0 30), Value.slice za zn zc, Value.slice zb zm zd] 28)
      have hltU := hbx.lt
      have hB_7 : Below w6.heap.size w6 (w6.alloc (.cells #[Value.bool (qsg 0 30), Value.slice za zn zc, Value.slice zb zm zd] 28)) := hbB
      have V_7 := V_6.next hB_7
      have X_7 := X_6.below hB_7
      have Y_7 := Y_6.below hB_7
      have RX_7 := RX_6.below hB_7
      have RY_7 := RY_6.below hB_7
      have Op_7 := Op_6.below hB_7
      have Pp_7 := Pp_6.below hB_7
      have Oz_7 := Oz_6.below hB_7
      have Pz_7 := Pz_6.below hB_7
      have hbel_7 := hbel_6.next hB_7
      have hsz_7 := hB_7.size
      clear V_6 X_6 Y_6 RX_6 RY_6 Op_6 Pp_6 Oz_6 Pz_6 hbel_6 hB_7
      have U_7 := hbx
      clear hbx hbB
      generalize (w6.alloc (.cells #[Value.bool (qsg 0 30), Value.slice za zn zc, Value.slice zb zm zd] 28)) = va7 at *
      go_wp2_with fail
      refine ((show Calls _ _ _ _ (RetIE _ da 0) from HD1.out _ RX_7)).mono ?_
      rintro e w8 ⟨rfl, hB⟩
      have hB_8 : Below va7.heap.size va7 w8 := (bl.next hB)
      have V_8 := V_7.next hB_8
      have U_8 := U_7.next hB_8
      have X_8 := X_7.below hB_8
      have Y_8 := Y_7.below hB_8
      have RX_8 := RX_7.below hB_8
      have RY_8 := RY_7.below hB_8
      have Op_8 := Op_7.below hB_8
      have Pp_8 := Pp_7.below hB_8
      have Oz_8 := Oz_7.below hB_8
      have Pz_8 := Pz_7.below hB_8
      have hbel_8 := hbel_7.next hB_8
      have hsz_8 := hB_8.size
      clear V_7 U_7 X_7 Y_7 RX_7 RY_7 Op_7 Pp_7 Oz_7 Pz_7 hbel_7 hB_8
      try clear hB
      go_wp2_with fail
      refine ((show Calls _ _ _ _ (RetIE _ 0 30) from HD2.out _ RY_8)).mono ?_
      rintro e w9 ⟨rfl, hB⟩
      have hB_9 : Below w8.heap.size w8 w9 := (bl.next hB)
      have V_9 := V_8.next hB_9
      have U_9 := U_8.next hB_9
      have X_9 := X_8.below hB_9
      have Y_9 := Y_8.below hB_9
      have RX_9 := RX_8.below hB_9
      have RY_9 := RY_8.below hB_9
      have Op_9 := Op_8.below hB_9
      have Pp_9 := Pp_8.below hB_9
      have Oz_9 := Oz_8.below hB_9
      have Pz_9 := Pz_8.below hB_9
      have hbel_9 := hbel_8.next hB_9
      have hsz_9 := hB_9.size
      clear V_8 U_8 X_8 Y_8 RX_8 RY_8 Op_8 Pp_8 Oz_8 Pz_8 hbel_8 hB_9
      try clear hB
      go_wp2
      go_ret
      exact ⟨rfl, hbel_9⟩
    | some Q =>
      rw [hA] at HE2 HD2
      have hQz := hid (hBz.out Q hA)
      have hBh := hid hA
      clear hBz hA
      obtain ⟨qa, hqa⟩ : ∃ z, P.v = z := ⟨_, rfl⟩
      obtain ⟨qb, hqb⟩ : ∃ z, Q.v = z := ⟨_, rfl⟩
      obtain ⟨ea, hea⟩ : ∃ z, evE (some P) = z := ⟨_, rfl⟩
      obtain ⟨eb, heb⟩ : ∃ z, evE (some Q) = z := ⟨_, rfl⟩
      obtain ⟨da, hda⟩ : ∃ z, P.deep = z := ⟨_, rfl⟩
      obtain ⟨db, hdb⟩ : ∃ z, Q.deep = z := ⟨_, rfl⟩
      have HE1 := hid (fun (W : World) hT => (show Calls _ _ _ _ (RetQE W qa ea) from by have h := HE1.out W hT; rw [show evQ (some P) = qa from hqa, hea] at h; exact h))
      have HE2 := hid (fun (W : World) hT => (show Calls _ _ _ _ (RetQE W qb eb) from by have h := HE2.out W hT; rw [show evQ (some Q) = qb from hqb, heb] at h; exact h))
      have HD1 := hid (fun (W : World) hT => (show Calls _ _ _ _ (RetIE W da 0) from by have h := HD1.out W hT; rw [show dpI (some P) = da from hda] at h; exact h))
      have HD2 := hid (fun (W : World) hT => (show Calls _ _ _ _ (RetIE W db 0) from by have h := HD2.out W hT; rw [show dpI (some Q) = db from hdb] at h; exact h))
      have sqa := hid (hqa ▸ hPz.out.1)
      have sqb := hid (hqb ▸ hQz.out.1)
      have hda0 : 0 ≤ da := hda ▸ hPz.out.2.1
      have hda1 : da ≤ 600 := hda ▸ hPz.out.2.2
      have hdb0 : 0 ≤ db := hdb ▸ hQz.out.2.1
      have hdb1 : db ≤ 600 := hdb ▸ hQz.out.2.2
      have hqah := hid hqa
      have hqbh := hid hqb
      have heah := hid hea
      have hebh := hid heb
      have hdah := hid hda
      have hdbh := hid hdb
      clear hqa hqb hea heb hda hdb hPz hQz
      obtain ⟨k, hkk⟩ : ∃ z : Int, 2 + kd.tmod 4 % 4 = z := ⟨_, rfl⟩
      have hkb1 := Int.lt_tmod_of_pos kd (show (0 : Int) < 4 by omega)
      have hkb2 := Int.tmod_lt_of_pos kd (show (0 : Int) < 4 by omega)
      have hkl : 2 ≤ k := by omega
      have hkh : k ≤ 5 := by omega
      go_wp2_with fail
      refine (HE1.out _ RX_3).mono ?_
      rintro e w4 ⟨pa, pn, pc, pb, pm, pd, rfl, hO, hO', hD, hB⟩
      have hB_4 : Below w3.heap.size w3 w4 := (bl.next hB)
      have X_4 := X_3.below hB_4
      have Y_4 := Y_3.below hB_4
      have RX_4 := RX_3.below hB_4
      have RY_4 := RY_3.below hB_4
      have hbel_4 := hbel_3.next hB_4
      have hsz_4 := hB_4.size
      clear X_3 Y_3 RX_3 RY_3 hbel_3 hB_4
      have Op_4 := (show Own w3.heap.size _ _ _ _ (qnl qa ea) from hO)
      have Pp_4 := (show Own w3.heap.size _ _ _ _ (qdl qa ea) from hO')
      clear hO hO' hD
      try clear hB
      go_upto_region 5 with fail
      have hbx := blk_new w4 #[Value.bool (qsg qa ea), Value.slice pa pn pc, Value.slice pb pm pd] 28
      have hbB := (Below.refl w4.heap.size w4).alloc (Nat.le_refl _) (.cells #[Value.bool (qsg qa ea), Value.slice pa pn pc, Value.slice pb pm pd] 28)
      have hltV := hbx.lt
      have hB_5 : Below w4.heap.size w4 (w4.alloc (.cells #[Value.bool (qsg qa ea), Value.slice pa pn pc, Value.slice pb pm pd] 28)) := hbB
      have X_5 := X_4.below hB_5
      have Y_5 := Y_4.below hB_5
      have RX_5 := RX_4.below hB_5
      have RY_5 := RY_4.below hB_5
      have Op_5 := Op_4.below hB_5
      have Pp_5 := Pp_4.below hB_5
      have hbel_5 := hbel_4.next hB_5
      have hsz_5 := hB_5.size
      clear X_4 Y_4 RX_4 RY_4 Op_4 Pp_4 hbel_4 hB_5
      have V_5 := hbx
      clear hbx hbB
      generalize (w4.alloc (.cells #[Value.bool (qsg qa ea), Value.slice pa pn pc, Value.slice pb pm pd] 28)) = va5 at *
      go_wp2_with fail
      refine (HE2.out _ RY_5).mono ?_
      rintro e w6 ⟨za, zn, zc, zb, zm, zd, rfl, hO, hO', hD, hB⟩
      have hB_6 : Below va5.heap.size va5 w6 := (bl.next hB)
      have V_6 := V_5.next hB_6
      have X_6 := X_5.below hB_6
      have Y_6 := Y_5.below hB_6
      have RX_6 := RX_5.below hB_6
      have RY_6 := RY_5.below hB_6
      have Op_6 := Op_5.below hB_6
      have Pp_6 := Pp_5.below hB_6
      have hbel_6 := hbel_5.next hB_6
      have hsz_6 := hB_6.size
      clear V_5 X_5 Y_5 RX_5 RY_5 Op_5 Pp_5 hbel_5 hB_6
      have Oz_6 := (show Own va5.heap.size _ _ _ _ (qnl qb eb) from hO)
      have Pz_6 := (show Own va5.heap.size _ _ _ _ (qdl qb eb) from hO')
      clear hO hO' hD
      try clear hB
      go_upto_region 6 with fail
      have hbx := blk_new w6 #[Value.bool (qsg qb eb), Value.slice za zn zc, Value.slice zb zm zd] 28
      have hbB := (Below.refl w6.heap.size w6).alloc (Nat.le_refl _) (.cells #[Value.bool (qsg qb eb), Value.slice za zn zc, Value.slice zb zm zd] 28)
      have hltU := hbx.lt
      have hB_7 : Below w6.heap.size w6 (w6.alloc (.cells #[Value.bool (qsg qb eb), Value.slice za zn zc, Value.slice zb zm zd] 28)) := hbB
      have V_7 := V_6.next hB_7
      have X_7 := X_6.below hB_7
      have Y_7 := Y_6.below hB_7
      have RX_7 := RX_6.below hB_7
      have RY_7 := RY_6.below hB_7
      have Op_7 := Op_6.below hB_7
      have Pp_7 := Pp_6.below hB_7
      have Oz_7 := Oz_6.below hB_7
      have Pz_7 := Pz_6.below hB_7
      have hbel_7 := hbel_6.next hB_7
      have hsz_7 := hB_7.size
      clear V_6 X_6 Y_6 RX_6 RY_6 Op_6 Pp_6 Oz_6 Pz_6 hbel_6 hB_7
      have U_7 := hbx
      clear hbx hbB
      generalize (w6.alloc (.cells #[Value.bool (qsg qb eb), Value.slice za zn zc, Value.slice zb zm zd] 28)) = va7 at *
      go_wp2_with fail
      refine (HD1.out _ RX_7).mono ?_
      rintro e w8 ⟨rfl, hB⟩
      have hB_8 : Below va7.heap.size va7 w8 := (bl.next hB)
      have V_8 := V_7.next hB_8
      have U_8 := U_7.next hB_8
      have X_8 := X_7.below hB_8
      have Y_8 := Y_7.below hB_8
      have RX_8 := RX_7.below hB_8
      have RY_8 := RY_7.below hB_8
      have Op_8 := Op_7.below hB_8
      have Pp_8 := Pp_7.below hB_8
      have Oz_8 := Oz_7.below hB_8
      have Pz_8 := Pz_7.below hB_8
      have hbel_8 := hbel_7.next hB_8
      have hsz_8 := hB_8.size
      clear V_7 U_7 X_7 Y_7 RX_7 RY_7 Op_7 Pp_7 Oz_7 Pz_7 hbel_7 hB_8
      try clear hB
      go_wp2_with fail
      refine (HD2.out _ RY_8).mono ?_
      rintro e w9 ⟨rfl, hB⟩
      have hB_9 : Below w8.heap.size w8 w9 := (bl.next hB)
      have V_9 := V_8.next hB_9
      have U_9 := U_8.next hB_9
      have X_9 := X_8.below hB_9
      have Y_9 := Y_8.below hB_9
      have RX_9 := RX_8.below hB_9
      have RY_9 := RY_8.below hB_9
      have Op_9 := Op_8.below hB_9
      have Pp_9 := Pp_8.below hB_9
      have Oz_9 := Oz_8.below hB_9
      have Pz_9 := Pz_8.below hB_9
      have hbel_9 := hbel_8.next hB_9
      have hsz_9 := hB_9.size
      clear V_8 U_8 X_8 Y_8 RX_8 RY_8 Op_8 Pp_8 Oz_8 Pz_8 hbel_8 hB_9
      try clear hB
      clear HE1 HE2 HD1 HD2
      clear RX_9
      clear RY_9
      obtain ⟨wN, hwN⟩ : ∃ y : World, y = w9 := ⟨_, rfl⟩
      subst hwN
      have mNV := hid V_9
      have mNU := hid U_9
      have mNX := hid X_9
      have mNY := hid Y_9
      have mNOp := hid Op_9
      have mNPp := hid Pp_9
      have mNOz := hid Oz_9
      have mNPz := hid Pz_9
      have hbN_9 : Below wN.heap.size wN wN := Below.refl _ _
      have hzN : w.heap.size ≤ wN.heap.size := hbel_9.size
      clear V_9 U_9 X_9 Y_9 Op_9 Pp_9 Oz_9 Pz_9
      have hx0 : 0 < xs.length := by rcases xs with _ | ⟨t, r⟩; exact absurd hAh.out (by rw [List.map_nil, ans_nil]; intro h; cases h); exact Nat.succ_pos _
      have hy0 : 0 < ys.length := by rcases ys with _ | ⟨t, r⟩; exact absurd hBh.out (by rw [List.map_nil, ans_nil]; intro h; cases h); exact Nat.succ_pos _
      go_upto_region 12 with fail
      go_upto_region 13 with (at_builtin; go_loud (refine wpList_plain rfl fun Kq hKq => wp_appRow (us := xs) _ _ rfl (trw_nil 3 wN.heap.size wN) rfl rfl (mNX.out.below hbN_9) hx0 hxlh.out rfl (fun t ht => ((mNX.out.below hbN_9).ok t ht).none_) hbN_9.size (by simp [hxlh.out, hylh.out]; omega) (fun aA cA wA HTn hk2 hf2 => hKq _ _ ?_)))
      have hbN_10 := hbN_9.kp hk2 hbN_9.size (fun j hj e => by cases e)
      have hbel_10 := hbel_9.kp hk2 hbel_9.size (fun j hj e => by cases e)
      have hsz_10 := hk2.size
      have TA_10 := HTn
      clear HTn hf2 hk2 hbN_9 hbel_9
      go_upto_region 14 with (at_builtin; go_loud (refine wpList_plain rfl fun Kq hKq => wp_appRow (us := ys) _ _ rfl TA_10 (by simp [hxlh.out]) rfl (mNY.out.below hbN_10) hy0 hylh.out rfl (fun t ht => (mNY.out.ok t ht).far hbN_10 TA_10.blkB) hbN_10.size (by simp [hxlh.out, hylh.out]; omega) (fun aB cB wB HTn hk2 hf2 => hKq _ _ ?_)))
      have hbN_11 := hbN_10.kp hk2 hbN_10.size (fun j hj e => by have := TA_10.blkB j e; omega)
      have hbel_11 := hbel_10.kp hk2 hbel_10.size (fun j hj e => by have := TA_10.blkB j e; omega)
      have hsz_11 := hk2.size
      have TB_11 := HTn
      clear HTn hf2 hk2 hbN_10 hbel_10
      clear TA_10
      go_wp2_with fail
      refine (top_any k).mono ?_
      rintro e w12 ⟨rfl, hB⟩
      have hB_12 : Below wB.heap.size wB w12 := (bl.next hB)
      have hbN_12 := hbN_11.next hB_12
      have TB_12 := TB_11.below hB_12
      have hbel_12 := hbel_11.next hB_12
      have hsz_12 := hB_12.size
      clear hbN_11 TB_11 hbel_11 hB_12
      try clear hB
      have hbA := (Below.refl w12.heap.size w12).alloc (Nat.le_refl _) (.cells #[Value.int .i8 k, Value.bool false, Value.slice none 0 0, Value.slice none 0 0] 38)
      have TAA := TB_12.below hbA
      have hLA := blk_new w12 #[Value.int .i8 k, Value.bool false, Value.slice none 0 0, Value.slice none 0 0] 38
      have hbAs := hbA.size
      have hbs := hbN_12.size
      go_upto_region 15 with (at_builtin; go_loud (refine wpList_plain rfl fun Kq hKq => wp_appLit (us := [oTA k]) (m := 1) _ _ rfl TAA (by simp [hxlh.out, hylh.out]) rfl w12.heap.size 1 rfl rfl hLA rfl (fun t ht => by rw [List.mem_singleton.1 ht]; exact tok_op _ _ _) (by omega) (by simp [hxlh.out, hylh.out]; omega) (fun aC cC wC HTn hk2 hf2 => hKq _ _ ?_)))
      have hbN_13 := hbN_12.next hbA
      have hbel_13 := hbel_12.next hbA
      clear hbN_12 hbel_12 TB_12 hLA
      have hbN_14 := hbN_13.kp hk2 hbN_13.size (fun j hj e => by have := TAA.blkB j e; omega)
      have hbel_14 := hbel_13.kp hk2 hbel_13.size (fun j hj e => by have := TAA.blkB j e; omega)
      have hsz_14 := hk2.size
      have TC_14 := HTn
      clear HTn hf2 hk2 hbN_13 hbel_13
      clear TAA hbA hbAs hbs
      have HTC := TC_14
      have hjl := hid (show ansV (-1) (([] ++ xs ++ ys ++ [oTA k]).map TA.ti) = some (joinV k P Q) by simp only [List.nil_append, List.map_append]; exact ans_join hAh.out hBh.out hkl hkh (oTA k).ti.x)
      have hjz := hid (trw_ans HTC (n := 601) (by simp [hxlh.out, hylh.out]; omega) hjl.out)
      obtain ⟨J, hJ⟩ : ∃ z, joinV k P Q = z := ⟨_, rfl⟩
      rw [hJ] at hjl hjz
      obtain ⟨qu, hqu⟩ : ∃ z, J.v = z := ⟨_, rfl⟩
      obtain ⟨eu, heu⟩ : ∃ z, evE (some J) = z := ⟨_, rfl⟩
      obtain ⟨du, hdu⟩ : ∃ z, J.deep = z := ⟨_, rfl⟩
      have RL := HTC.rdTs
      rw [show ([] ++ xs ++ ys ++ [oTA k] : List TA).length = n + m + 1 by simp [hxlh.out, hylh.out]; omega] at RL
      have HE3 := hid (fun (W : World) hT => (show Calls _ _ _ _ (RetQE W qu eu) from by have h := evl_any (w := W) (sa := aC) (n := n + m + 1) (c := cC) (K := 3) (xs := ([] ++ xs ++ ys ++ [oTA k]).map TA.ti) hT (by omega) (by omega); rw [hjl.out, show evQ (some J) = qu from hqu, heu] at h; exact h))
      have HD3 := hid (fun (W : World) hT => (show Calls _ _ _ _ (RetIE W du 0) from by have h := dep_any (w := W) (sa := aC) (n := n + m + 1) (c := cC) (K := 3) (xs := ([] ++ xs ++ ys ++ [oTA k]).map TA.ti) hT (by omega) (by omega); rw [hjl.out, show dpI (some J) = du from hdu] at h; exact h))
      have squ := hid (hqu ▸ hjz.out.1)
      have hJh := hid hJ
      have hquh := hid hqu
      have heuh := hid heu
      have hduh := hid hdu
      clear hJ hqu heu hdu hjz HTC
      have RL_14 := RL
      clear RL
      go_wp2_with fail
      refine (HE3.out _ RL_14).mono ?_
      rintro e w15 ⟨ra, rn, rc, rb, rm, rd, rfl, hO, hO', hD, hB⟩
      have hB_15 : Below wC.heap.size wC w15 := (bl.next hB)
      have hbN_15 := hbN_14.next hB_15
      have TC_15 := TC_14.below hB_15
      have RL_15 := RL_14.below hB_15
      have hbel_15 := hbel_14.next hB_15
      have hsz_15 := hB_15.size
      clear hbN_14 TC_14 RL_14 hbel_14 hB_15
      have Or_15 := (show Own wC.heap.size _ _ _ _ (qnl qu eu) from hO)
      have Pr_15 := (show Own wC.heap.size _ _ _ _ (qdl qu eu) from hO')
      clear hO hO' hD
      try clear hB
      go_upto_region 16 with fail
      have hbx := blk_new w15 #[Value.bool (qsg qu eu), Value.slice ra rn rc, Value.slice rb rm rd] 28
      have hbB := (Below.refl w15.heap.size w15).alloc (Nat.le_refl _) (.cells #[Value.bool (qsg qu eu), Value.slice ra rn rc, Value.slice rb rm rd] 28)
      have hltR := hbx.lt
      have hB_16 : Below w15.heap.size w15 (w15.alloc (.cells #[Value.bool (qsg qu eu), Value.slice ra rn rc, Value.slice rb rm rd] 28)) := hbB
      have hbN_16 := hbN_15.next hB_16
      have TC_16 := TC_15.below hB_16
      have RL_16 := RL_15.below hB_16
      have Or_16 := Or_15.below hB_16
      have Pr_16 := Pr_15.below hB_16
      have hbel_16 := hbel_15.next hB_16
      have hsz_16 := hB_16.size
      clear hbN_15 TC_15 RL_15 Or_15 Pr_15 hbel_15 hB_16
      have R_16 := hbx
      clear hbx hbB
      generalize (w15.alloc (.cells #[Value.bool (qsg qu eu), Value.slice ra rn rc, Value.slice rb rm rd] 28)) = va16 at *
      go_wp2_with fail
      refine (HD3.out _ RL_16).mono ?_
      rintro e w17 ⟨rfl, hB⟩
      have hB_17 : Below va16.heap.size va16 w17 := (bl.next hB)
      have R_17 := R_16.next hB_17
      have hbN_17 := hbN_16.next hB_17
      have TC_17 := TC_16.below hB_17
      have RL_17 := RL_16.below hB_17
      have Or_17 := Or_16.below hB_17
      have Pr_17 := Pr_16.below hB_17
      have hbel_17 := hbel_16.next hB_17
      have hsz_17 := hB_17.size
      clear R_16 hbN_16 TC_16 RL_16 Or_16 Pr_16 hbel_16 hB_17
      try clear hB
      clear RL_17
      clear TC_17
      clear HE3 HD3
      obtain ⟨wM, hwM⟩ : ∃ y : World, y = w17 := ⟨_, rfl⟩
      subst hwM
      have mMR := hid R_17
      have mMhbN := hid hbN_17
      have mMOr := hid Or_17
      have mMPr := hid Pr_17
      have hbM_17 : Below wM.heap.size wM wM := Below.refl _ _
      have hzM : w.heap.size ≤ wM.heap.size := hbel_17.size
      clear R_17 hbN_17 Or_17 Pr_17
      go_upto_region 18 with fail
      go_upto_region 19 with (at_builtin; go_loud (refine wpList_plain rfl fun Kq hKq => wp_appRow (us := xs) _ _ rfl (trw_nil 3 wM.heap.size wM) rfl rfl ((mNX.out.below mMhbN.out).below hbM_17) hx0 hxlh.out rfl (fun t ht => (((mNX.out.below mMhbN.out).below hbM_17).ok t ht).none_) hbM_17.size (by simp [hxlh.out, hylh.out]; omega) (fun aD cD wD HTn hk2 hf2 => hKq _ _ ?_)))
      have hbM_18 := hbM_17.kp hk2 hbM_17.size (fun j hj e => by cases e)
      have hbel_18 := hbel_17.kp hk2 hbel_17.size (fun j hj e => by cases e)
      have hsz_18 := hk2.size
      have TD_18 := HTn
      clear HTn hf2 hk2 hbM_17 hbel_17
      go_wp2_with fail
      refine (top_any 6).mono ?_
      rintro e w19 ⟨rfl, hB⟩
      have hB_19 : Below wD.heap.size wD w19 := (bl.next hB)
      have hbM_19 := hbM_18.next hB_19
      have TD_19 := TD_18.below hB_19
      have hbel_19 := hbel_18.next hB_19
      have hsz_19 := hB_19.size
      clear hbM_18 TD_18 hbel_18 hB_19
      try clear hB
      have hbA := (Below.refl w19.heap.size w19).alloc (Nat.le_refl _) (.cells #[Value.int .i8 6, Value.bool false, Value.slice none 0 0, Value.slice none 0 0] 38)
      have TAA := TD_19.below hbA
      have hLA := blk_new w19 #[Value.int .i8 6, Value.bool false, Value.slice none 0 0, Value.slice none 0 0] 38
      have hbAs := hbA.size
      have hbs := hbM_19.size
      go_upto_region 20 with (at_builtin; go_loud (refine wpList_plain rfl fun Kq hKq => wp_appLit (us := [oTA 6]) (m := 1) _ _ rfl TAA (by simp [hxlh.out]) rfl w19.heap.size 1 rfl rfl hLA rfl (fun t ht => by rw [List.mem_singleton.1 ht]; exact tok_op _ _ _) (by omega) (by simp [hxlh.out, hylh.out]; omega) (fun aE cE wE HTn hk2 hf2 => hKq _ _ ?_)))
      have hbM_20 := hbM_19.next hbA
      have hbel_20 := hbel_19.next hbA
      clear hbM_19 hbel_19 TD_19 hLA
      have hbM_21 := hbM_20.kp hk2 hbM_20.size (fun j hj e => by have := TAA.blkB j e; omega)
      have hbel_21 := hbel_20.kp hk2 hbel_20.size (fun j hj e => by have := TAA.blkB j e; omega)
      have hsz_21 := hk2.size
      have TE_21 := HTn
      clear HTn hf2 hk2 hbM_20 hbel_20
      clear TAA hbA hbAs hbs
      have HTE := TE_21
      have hol := hid (show ansV (-1) (([] ++ xs ++ [oTA 6]).map TA.ti) = some (oppV P) by simp only [List.nil_append, List.map_append]; exact ans_neg hAh.out (oTA 6).ti.x)
      obtain ⟨et, het⟩ : ∃ z, evE (some (oppV P)) = z := ⟨_, rfl⟩
      obtain ⟨dt, hdt⟩ : ∃ z, (oppV P).deep = z := ⟨_, rfl⟩
      have hdtb := dpB_bd (!(P.kind == 1 || P.kind == 6)) P.deep
      have hdt1 : da + 1 ≤ dt ∧ dt ≤ da + 2 := by rw [← hdt, ← hdah.out]; show P.deep + 1 ≤ dpB _ _ + 1 ∧ dpB _ _ + 1 ≤ P.deep + 2; omega
      clear hdtb
      obtain ⟨qt, hqt⟩ : ∃ z, -qa = z := ⟨_, rfl⟩
      have RM := HTE.rdTs
      rw [show ([] ++ xs ++ [oTA 6] : List TA).length = n + 1 by simp [hxlh.out]] at RM
      have HE4 := hid (fun (W : World) hT => (show Calls _ _ _ _ (RetQE W qt et) from by have h := evl_any (w := W) (sa := aE) (n := n + 1) (c := cE) (K := 3) (xs := ([] ++ xs ++ [oTA 6]).map TA.ti) hT (by omega) (by omega); rw [hol.out, show evQ (some (oppV P)) = qt by rw [← hqt, ← hqah.out]; rfl, het] at h; exact h))
      have HD4 := hid (fun (W : World) hT => (show Calls _ _ _ _ (RetIE W dt 0) from by have h := dep_any (w := W) (sa := aE) (n := n + 1) (c := cE) (K := 3) (xs := ([] ++ xs ++ [oTA 6]).map TA.ti) hT (by omega) (by omega); rw [hol.out, show dpI (some (oppV P)) = dt from hdt] at h; exact h))
      have sqt : Hid (QS qt (300 * 3)) := hid (hqt ▸ sqa.out.neg)
      have hqth := hid hqt
      have heth := hid het
      have hdth := hid hdt
      clear hqt het hdt HTE
      have RM_21 := RM
      clear RM
      go_wp2_with fail
      refine (HE4.out _ RM_21).mono ?_
      rintro e w22 ⟨ya, yn, yc, yb, ym, yd, rfl, hO, hO', hD, hB⟩
      have hB_22 : Below wE.heap.size wE w22 := (bl.next hB)
      have hbM_22 := hbM_21.next hB_22
      have TE_22 := TE_21.below hB_22
      have RM_22 := RM_21.below hB_22
      have hbel_22 := hbel_21.next hB_22
      have hsz_22 := hB_22.size
      clear hbM_21 TE_21 RM_21 hbel_21 hB_22
      have Oy_22 := (show Own wE.heap.size _ _ _ _ (qnl qt et) from hO)
      have Py_22 := (show Own wE.heap.size _ _ _ _ (qdl qt et) from hO')
      clear hO hO' hD
      try clear hB
      go_upto_region 21 with fail
      have hbx := blk_new w22 #[Value.bool (qsg qt et), Value.slice ya yn yc, Value.slice yb ym yd] 28
      have hbB := (Below.refl w22.heap.size w22).alloc (Nat.le_refl _) (.cells #[Value.bool (qsg qt et), Value.slice ya yn yc, Value.slice yb ym yd] 28)
      have hltT := hbx.lt
      have hB_23 : Below w22.heap.size w22 (w22.alloc (.cells #[Value.bool (qsg qt et), Value.slice ya yn yc, Value.slice yb ym yd] 28)) := hbB
      have hbM_23 := hbM_22.next hB_23
      have TE_23 := TE_22.below hB_23
      have RM_23 := RM_22.below hB_23
      have Oy_23 := Oy_22.below hB_23
      have Py_23 := Py_22.below hB_23
      have hbel_23 := hbel_22.next hB_23
      have hsz_23 := hB_23.size
      clear hbM_22 TE_22 RM_22 Oy_22 Py_22 hbel_22 hB_23
      have T_23 := hbx
      clear hbx hbB
      generalize (w22.alloc (.cells #[Value.bool (qsg qt et), Value.slice ya yn yc, Value.slice yb ym yd] 28)) = va23 at *
      go_wp2_with fail
      refine (HD4.out _ RM_23).mono ?_
      rintro e w24 ⟨rfl, hB⟩
      have hB_24 : Below va23.heap.size va23 w24 := (bl.next hB)
      have T_24 := T_23.next hB_24
      have hbM_24 := hbM_23.next hB_24
      have TE_24 := TE_23.below hB_24
      have RM_24 := RM_23.below hB_24
      have Oy_24 := Oy_23.below hB_24
      have Py_24 := Py_23.below hB_24
      have hbel_24 := hbel_23.next hB_24
      have hsz_24 := hB_24.size
      clear T_23 hbM_23 TE_23 RM_23 Oy_23 Py_23 hbel_23 hB_24
      try clear hB
      clear RM_24
      clear TE_24
      clear HE4 HD4
      have R_24 := mMR.out.next hbM_24
      have hbN_24 := mMhbN.out.next hbM_24
      have Or_24 := mMOr.out.below hbM_24
      have Pr_24 := mMPr.out.below hbM_24
      clear mMR mMhbN mMOr mMPr
      have V_24 := mNV.out.next hbN_24
      have U_24 := mNU.out.next hbN_24
      have X_24 := mNX.out.below hbN_24
      have Y_24 := mNY.out.below hbN_24
      have Op_24 := mNOp.out.below hbN_24
      have Pp_24 := mNPp.out.below hbN_24
      have Oz_24 := mNOz.out.below hbN_24
      have Pz_24 := mNPz.out.below hbN_24
      have hdd := dpJ_ge k P Q
      have hdj := dpJ_bd k P Q (by rw [hdah.out]; exact hda0) (by rw [hdbh.out]; exact hdb0)
      have hdJ : dpJ k P Q = du := by rw [← hduh.out, ← hJh.out, joinV_deep]
      rw [hdJ, hdah.out, hdbh.out] at hdd hdj
      have hu1 := hdd.1
      have hu2 := hdd.2
      have hu3 := hdj.2
      clear hdd hdj hdJ
      have ht1 := hdt1.1
      have ht2 := hdt1.2
      clear hdt1
      go_upto_region 22 with fail
      go_cut [151] (fun s151 wx => s151 = .bool false ∧ wx = w24)
      case first =>
        clear T_24 R_24 V_24 U_24 hbM_24 Oy_24 Py_24 hbN_24 Or_24 Pr_24 X_24 Y_24 Op_24 Pp_24 Oz_24 Pz_24
        have g1 : decide (du < da) = false := by simp; omega
        have g2 : decide (du < db) = false := by simp; omega
        have g4 : decide (dt ≤ da) = false := by simp; omega
        have g5 : decide (dt > da + 2) = false := by simp; omega
        by_cases hab : da < db
        ·
          have g3 : decide (du > db + 1) = false := by simp; omega
          have g6 : max da db = db := by omega
          have hu4 : du ≤ db + 1 := by omega
          clear hu3
          go_wp2_with fail
          go_meet
          exact ⟨rfl, rfl⟩
        ·
          have g3 : decide (du > da + 1) = false := by simp; omega
          have g6 : max da db = da := by omega
          have hu4 : du ≤ da + 1 := by omega
          clear hu3
          go_wp2_with fail
          go_meet
          exact ⟨rfl, rfl⟩
      case rest =>
        obtain ⟨rfl, hwx⟩ := hcut
        subst hwx
        obtain ⟨wv, hwv⟩ : ∃ y : World, y = wc := ⟨_, rfl⟩
        subst hwv
        by_cases hK : du > 64
        ·
          have he : eu = 31 := by rw [← heuh.out]; exact if_pos (by rw [hduh.out]; exact hK)
          subst he
          have g1 : decide (du ≤ 64) = false := by simp; omega
          have g2 : decide (du > 64) = true := by simp; omega
          go_wp2
          go_ret
          exact ⟨rfl, hbel_24⟩
        ·
          by_cases hS : dt > 64
          ·
            have g1 : decide (du ≤ 64) = true := by simp; omega
            have g2 : decide (du > 64) = false := by simp; omega
            have g3 : decide (dt > 64) = true := by simp; omega
            go_wp2
            go_ret
            exact ⟨rfl, hbel_24⟩
          ·
            have g2 : decide (du > 64) = false := by simp; omega
            have g3 : decide (dt > 64) = false := by simp; omega
            have e1 := hid (heah.out.symm.trans (evE_lo (by rw [hdah.out]; omega)))
            have e2 := hid (hebh.out.symm.trans (evE_lo (by rw [hdbh.out]; omega)))
            have e3 := hid (heuh.out.symm.trans (evE_lo (by rw [hduh.out]; omega)))
            have e4 := hid (heth.out.symm.trans (evE_lo (by rw [hdth.out]; omega)))
            have oP := hid (ans_closed hAh.out)
            have oQ := hid (ans_closed hBh.out)
            cases hPb : P.bad
            ·
              cases hQb : Q.bad
              ·
                have f1 : ea = 0 := by rw [e1.out, hPb]; rfl
                have f2 : eb = 0 := by rw [e2.out, hQb]; rfl
                have f4 : et = 0 := by rw [e4.out, show (oppV P).bad = false from hPb]; rfl
                have hjc := hid (joinV_cl (k := k) hPb hQb oP.out oQ.out)
                subst f1 f2 f4
                clear hPb hQb e1 e2 e4
                have cT_24_0 : _ = some (Value.bool (qsg qt 0)) := T_24.cell 0
                have fT_24_0 := T_24.free 0
                have cT_24_1 : _ = some (Value.slice ya yn yc) := T_24.cell 1
                have fT_24_1 := T_24.free 1
                have cT_24_2 : _ = some (Value.slice yb ym yd) := T_24.cell 2
                have fT_24_2 := T_24.free 2
                have cV_24_0 : _ = some (Value.bool (qsg qa 0)) := V_24.cell 0
                have fV_24_0 := V_24.free 0
                have cV_24_1 : _ = some (Value.slice pa pn pc) := V_24.cell 1
                have fV_24_1 := V_24.free 1
                have cV_24_2 : _ = some (Value.slice pb pm pd) := V_24.cell 2
                have fV_24_2 := V_24.free 2
                go_wp2_with fail
                refine (qadd ((show Own 0 _ _ _ _ (lm qt.num.natAbs) from Oy_24.mono (Nat.zero_le _)).rdQ (show Own 0 _ _ _ _ (lm qt.den) from Py_24.mono (Nat.zero_le _)) sqt.out) (by omega) ((show Own 0 _ _ _ _ (lm qa.num.natAbs) from Op_24.mono (Nat.zero_le _)).rdQ (show Own 0 _ _ _ _ (lm qa.den) from Pp_24.mono (Nat.zero_le _)) sqa.out) (by omega)).mono ?_
                rintro e w25 ⟨ga, gn, gc, gb, gm, gd, rfl, hO, hO', hD, hB⟩
                have hB_25 : Below wv.heap.size wv w25 := (bl.next hB)
                have T_25 := T_24.next hB_25
                have R_25 := R_24.next hB_25
                have V_25 := V_24.next hB_25
                have U_25 := U_24.next hB_25
                have hbM_25 := hbM_24.next hB_25
                have Oy_25 := Oy_24.below hB_25
                have Py_25 := Py_24.below hB_25
                have hbN_25 := hbN_24.next hB_25
                have Or_25 := Or_24.below hB_25
                have Pr_25 := Pr_24.below hB_25
                have X_25 := X_24.below hB_25
                have Y_25 := Y_24.below hB_25
                have Op_25 := Op_24.below hB_25
                have Pp_25 := Pp_24.below hB_25
                have Oz_25 := Oz_24.below hB_25
                have Pz_25 := Pz_24.below hB_25
                have hbel_25 := hbel_24.next hB_25
                have hsz_25 := hB_25.size
                clear T_24 R_24 V_24 U_24 hbM_24 Oy_24 Py_24 hbN_24 Or_24 Pr_24 X_24 Y_24 Op_24 Pp_24 Oz_24 Pz_24 hbel_24 hB_25
                clear cT_24_0 fT_24_0 cT_24_1 fT_24_1 cT_24_2 fT_24_2 cV_24_0 fV_24_0 cV_24_1 fV_24_1 cV_24_2 fV_24_2
                have Og_25 := hO
                have Pg_25 := hO'
                clear hO hO' hD
                try clear hB
                have hz := cmpQ_eq (show qt + qa = 0 by rw [← hqth.out]; grind)
                have szz := hid ((sqt.out.add sqa.out).mono (show 300 * 3 + 300 * 3 + 1 ≤ 2000 by omega))
                go_wp2_with fail
                refine (hz ▸ qcmp (Og_25.rdQ Pg_25 szz.out) (by omega) (rdq_o _) (by omega)).mono ?_
                rintro e w26 ⟨rfl, hB⟩
                have hB_26 : Below w25.heap.size w25 w26 := (bl.next hB)
                have T_26 := T_25.next hB_26
                have R_26 := R_25.next hB_26
                have V_26 := V_25.next hB_26
                have U_26 := U_25.next hB_26
                have hbM_26 := hbM_25.next hB_26
                have Oy_26 := Oy_25.below hB_26
                have Py_26 := Py_25.below hB_26
                have hbN_26 := hbN_25.next hB_26
                have Or_26 := Or_25.below hB_26
                have Pr_26 := Pr_25.below hB_26
                have X_26 := X_25.below hB_26
                have Y_26 := Y_25.below hB_26
                have Op_26 := Op_25.below hB_26
                have Pp_26 := Pp_25.below hB_26
                have Oz_26 := Oz_25.below hB_26
                have Pz_26 := Pz_25.below hB_26
                have Og_26 := Og_25.below hB_26
                have Pg_26 := Pg_25.below hB_26
                have hbel_26 := hbel_25.next hB_26
                have hsz_26 := hB_26.size
                clear T_25 R_25 V_25 U_25 hbM_25 Oy_25 Py_25 hbN_25 Or_25 Pr_25 X_25 Y_25 Op_25 Pp_25 Oz_25 Pz_25 Og_25 Pg_25 hbel_25 hB_26
                try clear hB
                clear Og_26
                clear Pg_26
                have hk4 : k = 2 ∨ k = 3 ∨ k = 4 ∨ k = 5 := by omega
                rcases hk4 with h | h | h | h
                ·
                  subst h
                  have hb1 : bthV 2 P.v Q.v = (P.v + Q.v, false) := by unfold bthV; rw [if_pos rfl]
                  have f3 : eu = 0 := by rw [e3.out, ← hJh.out, hjc.out, hb1]; rfl
                  have hqe := hid (show qu = qa + qb by rw [← hquh.out, ← hJh.out, hjc.out, hb1, ← hqah.out, ← hqbh.out])
                  subst f3
                  clear hb1 e3
                  go_wp2_with fail
                  have hB : Below w26.heap.size w26 w26.drew := (Below.refl _ _).drew
                  have hB_27 : Below w26.heap.size w26 w26.drew := hB
                  have T_27 := T_26.next hB_27
                  have R_27 := R_26.next hB_27
                  have V_27 := V_26.next hB_27
                  have U_27 := U_26.next hB_27
                  have hbM_27 := hbM_26.next hB_27
                  have Oy_27 := Oy_26.below hB_27
                  have Py_27 := Py_26.below hB_27
                  have hbN_27 := hbN_26.next hB_27
                  have Or_27 := Or_26.below hB_27
                  have Pr_27 := Pr_26.below hB_27
                  have X_27 := X_26.below hB_27
                  have Y_27 := Y_26.below hB_27
                  have Op_27 := Op_26.below hB_27
                  have Pp_27 := Pp_26.below hB_27
                  have Oz_27 := Oz_26.below hB_27
                  have Pz_27 := Pz_26.below hB_27
                  have hbel_27 := hbel_26.next hB_27
                  have hsz_27 := hB_27.size
                  clear T_26 R_26 V_26 U_26 hbM_26 Oy_26 Py_26 hbN_26 Or_26 Pr_26 X_26 Y_26 Op_26 Pp_26 Oz_26 Pz_26 hbel_26 hB_27
                  clear hB
                  refine wp_region_noPanic ?_
                  refine D_region (S := (fun w' => Blk w' (w15.heap.size) #[Value.bool (qsg qu 0), Value.slice ra rn rc, Value.slice rb rm rd] ∧ Blk w' (w4.heap.size) #[Value.bool (qsg qa 0), Value.slice pa pn pc, Value.slice pb pm pd] ∧ Blk w' (w6.heap.size) #[Value.bool (qsg qb 0), Value.slice za zn zc, Value.slice zb zm zd])) (T := [10]) (by kernel_rfl) ⟨R_27, V_27, U_27⟩ (fun hHeld => ?_)
                  clear hHeld
                  generalize w26.drew = vd27 at *
                  refine D_pure (i := 0) (d := some 193) (v := (.int .i64 0)) rfl rfl (by kernel_rfl) (by kernel_rfl) (by kernel_rfl) (fun _ _ _ h => h) (by rfl) (fun _ => by go_simp) ?_
                  (try simp only [Act.put, List.setIfInBounds_toArray, List.set_cons_zero, List.set_cons_succ])
                  refine D_pure (i := 1) (d := some 194) (v := (.bool true)) rfl rfl (by kernel_rfl) (by kernel_rfl) (by kernel_rfl) (fun _ _ _ h => h) (by rfl) (fun _ => by go_simp) ?_
                  (try simp only [Act.put, List.setIfInBounds_toArray, List.set_cons_zero, List.set_cons_succ])
                  refine D_pure (i := 2) (d := some 195) (v := (.bool true)) rfl rfl (by kernel_rfl) (by kernel_rfl) (by kernel_rfl) (fun _ _ _ h => h) (by rfl) (fun _ => by go_simp) ?_
                  (try simp only [Act.put, List.setIfInBounds_toArray, List.set_cons_zero, List.set_cons_succ])
                  refine D_load (i := 3) (d := some 196) (v := (.agg #[Value.bool (qsg qu 0), Value.slice ra rn rc, Value.slice rb rm rd])) [3, 4, 5] rfl rfl (by kernel_rfl) (by kernel_rfl) (by kernel_rfl) (by kernel_rfl) (by kernel_rfl) (by kernel_rfl) (fun _ _ _ h => h) (by rfl) (fun w hSw => by (obtain ⟨b0, b1, b2⟩ := hSw); have l0 : _ = some (Value.bool (qsg qu 0)) := b0.cell (0); have l1 : _ = some (Value.slice ra rn rc) := b0.cell (1); have l2 : _ = some (Value.slice rb rm rd) := b0.cell (2); (clear b0 b1 b2); go_simp) ⟨R_27, V_27, U_27⟩ ?_
                  (try simp only [Act.put, List.setIfInBounds_toArray, List.set_cons_zero, List.set_cons_succ])
                  refine D_load (i := 4) (d := some 197) (v := (.agg #[Value.bool (qsg qa 0), Value.slice pa pn pc, Value.slice pb pm pd])) [3, 4, 5] rfl rfl (by kernel_rfl) (by kernel_rfl) (by kernel_rfl) (by kernel_rfl) (by kernel_rfl) (by kernel_rfl) (fun _ _ _ h => h) (by rfl) (fun w hSw => by (obtain ⟨b0, b1, b2⟩ := hSw); have l0 : _ = some (Value.bool (qsg qa 0)) := b1.cell (0); have l1 : _ = some (Value.slice pa pn pc) := b1.cell (1); have l2 : _ = some (Value.slice pb pm pd) := b1.cell (2); (clear b0 b1 b2); go_simp) ⟨R_27, V_27, U_27⟩ ?_
                  (try simp only [Act.put, List.setIfInBounds_toArray, List.set_cons_zero, List.set_cons_succ])
                  refine D_load (i := 5) (d := some 198) (v := (.agg #[Value.bool (qsg qb 0), Value.slice za zn zc, Value.slice zb zm zd])) [3, 4, 5] rfl rfl (by kernel_rfl) (by kernel_rfl) (by kernel_rfl) (by kernel_rfl) (by kernel_rfl) (by kernel_rfl) (fun _ _ _ h => h) (by rfl) (fun w hSw => by (obtain ⟨b0, b1, b2⟩ := hSw); have l0 : _ = some (Value.bool (qsg qb 0)) := b2.cell (0); have l1 : _ = some (Value.slice za zn zc) := b2.cell (1); have l2 : _ = some (Value.slice zb zm zd) := b2.cell (2); (clear b0 b1 b2); go_simp) ⟨R_27, V_27, U_27⟩ ?_
                  (try simp only [Act.put, List.setIfInBounds_toArray, List.set_cons_zero, List.set_cons_succ])
                  refine D_one (i := 6) (by kernel_rfl) rfl (fun Kq hKq => ?_)
                  go_simp
                  refine (qadd ((show Own 0 _ _ _ _ (lm qa.num.natAbs) from Op_27.mono (Nat.zero_le _)).rdQ (show Own 0 _ _ _ _ (lm qa.den) from Pp_27.mono (Nat.zero_le _)) sqa.out) (by omega) ((show Own 0 _ _ _ _ (lm qb.num.natAbs) from Oz_27.mono (Nat.zero_le _)).rdQ (show Own 0 _ _ _ _ (lm qb.den) from Pz_27.mono (Nat.zero_le _)) sqb.out) (by omega)).mono ?_
                  rintro e w28 ⟨ga, gn, gc, gb, gm, gd, rfl, hO, hO', hD, hB⟩
                  have hB_28 : Below vd27.heap.size vd27 w28 := (bl.next hB)
                  have T_28 := T_27.next hB_28
                  have R_28 := R_27.next hB_28
                  have V_28 := V_27.next hB_28
                  have U_28 := U_27.next hB_28
                  have hbM_28 := hbM_27.next hB_28
                  have Oy_28 := Oy_27.below hB_28
                  have Py_28 := Py_27.below hB_28
                  have hbN_28 := hbN_27.next hB_28
                  have Or_28 := Or_27.below hB_28
                  have Pr_28 := Pr_27.below hB_28
                  have X_28 := X_27.below hB_28
                  have Y_28 := Y_27.below hB_28
                  have Op_28 := Op_27.below hB_28
                  have Pp_28 := Pp_27.below hB_28
                  have Oz_28 := Oz_27.below hB_28
                  have Pz_28 := Pz_27.below hB_28
                  have hbel_28 := hbel_27.next hB_28
                  have hsz_28 := hB_28.size
                  clear T_27 R_27 V_27 U_27 hbM_27 Oy_27 Py_27 hbN_27 Or_27 Pr_27 X_27 Y_27 Op_27 Pp_27 Oz_27 Pz_27 hbel_27 hB_28
                  have Og_28 := hO
                  have Pg_28 := hO'
                  clear hO hO' hD
                  try clear hB
                  (try go_wp2_with fail)
                  refine hKq.out _ _ ⟨R_28, V_28, U_28⟩ (fun hHeld => ?_)
                  clear hHeld hKq Kq
                  (try simp only [Act.put, List.setIfInBounds_toArray, List.set_cons_zero, List.set_cons_succ])
                  have hz := cmpQ_eq hqe.out
                  have szz : Hid (QS (qa + qb) 2000) := hid ((sqa.out.add sqb.out).mono (by omega))
                  refine D_one (i := 7) (by kernel_rfl) rfl (fun Kq hKq => ?_)
                  go_simp
                  refine (hz ▸ qcmp ((show Own 0 _ _ _ _ (lm qu.num.natAbs) from Or_28.mono (Nat.zero_le _)).rdQ (show Own 0 _ _ _ _ (lm qu.den) from Pr_28.mono (Nat.zero_le _)) squ.out) (by omega) (Og_28.rdQ Pg_28 szz.out) (by omega)).mono ?_
                  rintro e w29 ⟨rfl, hB⟩
                  have hB_29 : Below w28.heap.size w28 w29 := (bl.next hB)
                  have T_29 := T_28.next hB_29
                  have R_29 := R_28.next hB_29
                  have V_29 := V_28.next hB_29
                  have U_29 := U_28.next hB_29
                  have hbM_29 := hbM_28.next hB_29
                  have Oy_29 := Oy_28.below hB_29
                  have Py_29 := Py_28.below hB_29
                  have hbN_29 := hbN_28.next hB_29
                  have Or_29 := Or_28.below hB_29
                  have Pr_29 := Pr_28.below hB_29
                  have X_29 := X_28.below hB_29
                  have Y_29 := Y_28.below hB_29
                  have Op_29 := Op_28.below hB_29
                  have Pp_29 := Pp_28.below hB_29
                  have Oz_29 := Oz_28.below hB_29
                  have Pz_29 := Pz_28.below hB_29
                  have Og_29 := Og_28.below hB_29
                  have Pg_29 := Pg_28.below hB_29
                  have hbel_29 := hbel_28.next hB_29
                  have hsz_29 := hB_29.size
                  clear T_28 R_28 V_28 U_28 hbM_28 Oy_28 Py_28 hbN_28 Or_28 Pr_28 X_28 Y_28 Op_28 Pp_28 Oz_28 Pz_28 Og_28 Pg_28 hbel_28 hB_29
                  try clear hB
                  (try go_wp2_with fail)
                  refine hKq.out _ _ ⟨R_29, V_29, U_29⟩ (fun hHeld => ?_)
                  clear hHeld hKq Kq
                  (try simp only [Act.put, List.setIfInBounds_toArray, List.set_cons_zero, List.set_cons_succ])
                  refine D_pure (i := 8) (d := some 201) (v := (.bool true)) rfl rfl (by kernel_rfl) (by kernel_rfl) (by kernel_rfl) (fun _ _ _ h => h) (by rfl) (fun _ => by go_simp) ?_
                  (try simp only [Act.put, List.setIfInBounds_toArray, List.set_cons_zero, List.set_cons_succ])
                  refine D_pure (i := 9) (d := some 202) (v := (.bool true)) rfl rfl (by kernel_rfl) (by kernel_rfl) (by kernel_rfl) (fun _ _ _ h => h) (by rfl) (fun _ => by go_simp) ?_
                  (try simp only [Act.put, List.setIfInBounds_toArray, List.set_cons_zero, List.set_cons_succ])
                  refine D_late (i := 10) (by kernel_rfl) rfl (by kernel_rfl) (fun Kq hKq => ?_)
                  go_simp
                  refine hKq.out _ _ ?_
                  clear hKq Kq
                  (try simp only [Act.put, List.setIfInBounds_toArray, List.set_cons_zero, List.set_cons_succ])
                  refine D_done (by kernel_rfl) ?_ _
                  refine NoPanic.normal ?_
                  go_wp2
                  go_ret
                  exact ⟨rfl, hbel_29⟩
                ·
                  subst h
                  have hb1 : bthV 3 P.v Q.v = (P.v - Q.v, false) := by unfold bthV; rw [if_neg (by decide), if_pos rfl]
                  have f3 : eu = 0 := by rw [e3.out, ← hJh.out, hjc.out, hb1]; rfl
                  have hqe := hid (show qu = qa - qb by rw [← hquh.out, ← hJh.out, hjc.out, hb1, ← hqah.out, ← hqbh.out])
                  subst f3
                  clear hb1 e3
                  go_wp2_with fail
                  have hB : Below w26.heap.size w26 w26.drew := (Below.refl _ _).drew
                  have hB_27 : Below w26.heap.size w26 w26.drew := hB
                  have T_27 := T_26.next hB_27
                  have R_27 := R_26.next hB_27
                  have V_27 := V_26.next hB_27
                  have U_27 := U_26.next hB_27
                  have hbM_27 := hbM_26.next hB_27
                  have Oy_27 := Oy_26.below hB_27
                  have Py_27 := Py_26.below hB_27
                  have hbN_27 := hbN_26.next hB_27
                  have Or_27 := Or_26.below hB_27
                  have Pr_27 := Pr_26.below hB_27
                  have X_27 := X_26.below hB_27
                  have Y_27 := Y_26.below hB_27
                  have Op_27 := Op_26.below hB_27
                  have Pp_27 := Pp_26.below hB_27
                  have Oz_27 := Oz_26.below hB_27
                  have Pz_27 := Pz_26.below hB_27
                  have hbel_27 := hbel_26.next hB_27
                  have hsz_27 := hB_27.size
                  clear T_26 R_26 V_26 U_26 hbM_26 Oy_26 Py_26 hbN_26 Or_26 Pr_26 X_26 Y_26 Op_26 Pp_26 Oz_26 Pz_26 hbel_26 hB_27
                  clear hB
                  refine wp_region_noPanic ?_
                  refine D_region (S := (fun w' => Blk w' (w15.heap.size) #[Value.bool (qsg qu 0), Value.slice ra rn rc, Value.slice rb rm rd] ∧ Blk w' (w4.heap.size) #[Value.bool (qsg qa 0), Value.slice pa pn pc, Value.slice pb pm pd] ∧ Blk w' (w6.heap.size) #[Value.bool (qsg qb 0), Value.slice za zn zc, Value.slice zb zm zd])) (T := [10]) (by kernel_rfl) ⟨R_27, V_27, U_27⟩ (fun hHeld => ?_)
                  clear hHeld
                  generalize w26.drew = vd27 at *
                  refine D_pure (i := 0) (d := some 205) (v := (.int .i64 0)) rfl rfl (by kernel_rfl) (by kernel_rfl) (by kernel_rfl) (fun _ _ _ h => h) (by rfl) (fun _ => by go_simp) ?_
                  (try simp only [Act.put, List.setIfInBounds_toArray, List.set_cons_zero, List.set_cons_succ])
                  refine D_pure (i := 1) (d := some 206) (v := (.bool true)) rfl rfl (by kernel_rfl) (by kernel_rfl) (by kernel_rfl) (fun _ _ _ h => h) (by rfl) (fun _ => by go_simp) ?_
                  (try simp only [Act.put, List.setIfInBounds_toArray, List.set_cons_zero, List.set_cons_succ])
                  refine D_pure (i := 2) (d := some 207) (v := (.bool true)) rfl rfl (by kernel_rfl) (by kernel_rfl) (by kernel_rfl) (fun _ _ _ h => h) (by rfl) (fun _ => by go_simp) ?_
                  (try simp only [Act.put, List.setIfInBounds_toArray, List.set_cons_zero, List.set_cons_succ])
                  refine D_load (i := 3) (d := some 208) (v := (.agg #[Value.bool (qsg qu 0), Value.slice ra rn rc, Value.slice rb rm rd])) [3, 4, 5] rfl rfl (by kernel_rfl) (by kernel_rfl) (by kernel_rfl) (by kernel_rfl) (by kernel_rfl) (by kernel_rfl) (fun _ _ _ h => h) (by rfl) (fun w hSw => by (obtain ⟨b0, b1, b2⟩ := hSw); have l0 : _ = some (Value.bool (qsg qu 0)) := b0.cell (0); have l1 : _ = some (Value.slice ra rn rc) := b0.cell (1); have l2 : _ = some (Value.slice rb rm rd) := b0.cell (2); (clear b0 b1 b2); go_simp) ⟨R_27, V_27, U_27⟩ ?_
                  (try simp only [Act.put, List.setIfInBounds_toArray, List.set_cons_zero, List.set_cons_succ])
                  refine D_load (i := 4) (d := some 209) (v := (.agg #[Value.bool (qsg qa 0), Value.slice pa pn pc, Value.slice pb pm pd])) [3, 4, 5] rfl rfl (by kernel_rfl) (by kernel_rfl) (by kernel_rfl) (by kernel_rfl) (by kernel_rfl) (by kernel_rfl) (fun _ _ _ h => h) (by rfl) (fun w hSw => by (obtain ⟨b0, b1, b2⟩ := hSw); have l0 : _ = some (Value.bool (qsg qa 0)) := b1.cell (0); have l1 : _ = some (Value.slice pa pn pc) := b1.cell (1); have l2 : _ = some (Value.slice pb pm pd) := b1.cell (2); (clear b0 b1 b2); go_simp) ⟨R_27, V_27, U_27⟩ ?_
                  (try simp only [Act.put, List.setIfInBounds_toArray, List.set_cons_zero, List.set_cons_succ])
                  refine D_load (i := 5) (d := some 210) (v := (.agg #[Value.bool (qsg qb 0), Value.slice za zn zc, Value.slice zb zm zd])) [3, 4, 5] rfl rfl (by kernel_rfl) (by kernel_rfl) (by kernel_rfl) (by kernel_rfl) (by kernel_rfl) (by kernel_rfl) (fun _ _ _ h => h) (by rfl) (fun w hSw => by (obtain ⟨b0, b1, b2⟩ := hSw); have l0 : _ = some (Value.bool (qsg qb 0)) := b2.cell (0); have l1 : _ = some (Value.slice za zn zc) := b2.cell (1); have l2 : _ = some (Value.slice zb zm zd) := b2.cell (2); (clear b0 b1 b2); go_simp) ⟨R_27, V_27, U_27⟩ ?_
                  (try simp only [Act.put, List.setIfInBounds_toArray, List.set_cons_zero, List.set_cons_succ])
                  refine D_one (i := 6) (by kernel_rfl) rfl (fun Kq hKq => ?_)
                  go_simp
                  refine (qsub ((show Own 0 _ _ _ _ (lm qa.num.natAbs) from Op_27.mono (Nat.zero_le _)).rdQ (show Own 0 _ _ _ _ (lm qa.den) from Pp_27.mono (Nat.zero_le _)) sqa.out) (by omega) ((show Own 0 _ _ _ _ (lm qb.num.natAbs) from Oz_27.mono (Nat.zero_le _)).rdQ (show Own 0 _ _ _ _ (lm qb.den) from Pz_27.mono (Nat.zero_le _)) sqb.out) (by omega)).mono ?_
                  rintro e w28 ⟨ga, gn, gc, gb, gm, gd, rfl, hO, hO', hD, hB⟩
                  have hB_28 : Below vd27.heap.size vd27 w28 := (bl.next hB)
                  have T_28 := T_27.next hB_28
                  have R_28 := R_27.next hB_28
                  have V_28 := V_27.next hB_28
                  have U_28 := U_27.next hB_28
                  have hbM_28 := hbM_27.next hB_28
                  have Oy_28 := Oy_27.below hB_28
                  have Py_28 := Py_27.below hB_28
                  have hbN_28 := hbN_27.next hB_28
                  have Or_28 := Or_27.below hB_28
                  have Pr_28 := Pr_27.below hB_28
                  have X_28 := X_27.below hB_28
                  have Y_28 := Y_27.below hB_28
                  have Op_28 := Op_27.below hB_28
                  have Pp_28 := Pp_27.below hB_28
                  have Oz_28 := Oz_27.below hB_28
                  have Pz_28 := Pz_27.below hB_28
                  have hbel_28 := hbel_27.next hB_28
                  have hsz_28 := hB_28.size
                  clear T_27 R_27 V_27 U_27 hbM_27 Oy_27 Py_27 hbN_27 Or_27 Pr_27 X_27 Y_27 Op_27 Pp_27 Oz_27 Pz_27 hbel_27 hB_28
                  have Og_28 := hO
                  have Pg_28 := hO'
                  clear hO hO' hD
                  try clear hB
                  (try go_wp2_with fail)
                  refine hKq.out _ _ ⟨R_28, V_28, U_28⟩ (fun hHeld => ?_)
                  clear hHeld hKq Kq
                  (try simp only [Act.put, List.setIfInBounds_toArray, List.set_cons_zero, List.set_cons_succ])
                  have hz := cmpQ_eq hqe.out
                  have szz : Hid (QS (qa - qb) 2000) := hid ((sqa.out.sub sqb.out).mono (by omega))
                  refine D_one (i := 7) (by kernel_rfl) rfl (fun Kq hKq => ?_)
                  go_simp
                  refine (hz ▸ qcmp ((show Own 0 _ _ _ _ (lm qu.num.natAbs) from Or_28.mono (Nat.zero_le _)).rdQ (show Own 0 _ _ _ _ (lm qu.den) from Pr_28.mono (Nat.zero_le _)) squ.out) (by omega) (Og_28.rdQ Pg_28 szz.out) (by omega)).mono ?_
                  rintro e w29 ⟨rfl, hB⟩
                  have hB_29 : Below w28.heap.size w28 w29 := (bl.next hB)
                  have T_29 := T_28.next hB_29
                  have R_29 := R_28.next hB_29
                  have V_29 := V_28.next hB_29
                  have U_29 := U_28.next hB_29
                  have hbM_29 := hbM_28.next hB_29
                  have Oy_29 := Oy_28.below hB_29
                  have Py_29 := Py_28.below hB_29
                  have hbN_29 := hbN_28.next hB_29
                  have Or_29 := Or_28.below hB_29
                  have Pr_29 := Pr_28.below hB_29
                  have X_29 := X_28.below hB_29
                  have Y_29 := Y_28.below hB_29
                  have Op_29 := Op_28.below hB_29
                  have Pp_29 := Pp_28.below hB_29
                  have Oz_29 := Oz_28.below hB_29
                  have Pz_29 := Pz_28.below hB_29
                  have Og_29 := Og_28.below hB_29
                  have Pg_29 := Pg_28.below hB_29
                  have hbel_29 := hbel_28.next hB_29
                  have hsz_29 := hB_29.size
                  clear T_28 R_28 V_28 U_28 hbM_28 Oy_28 Py_28 hbN_28 Or_28 Pr_28 X_28 Y_28 Op_28 Pp_28 Oz_28 Pz_28 Og_28 Pg_28 hbel_28 hB_29
                  try clear hB
                  (try go_wp2_with fail)
                  refine hKq.out _ _ ⟨R_29, V_29, U_29⟩ (fun hHeld => ?_)
                  clear hHeld hKq Kq
                  (try simp only [Act.put, List.setIfInBounds_toArray, List.set_cons_zero, List.set_cons_succ])
                  refine D_pure (i := 8) (d := some 213) (v := (.bool true)) rfl rfl (by kernel_rfl) (by kernel_rfl) (by kernel_rfl) (fun _ _ _ h => h) (by rfl) (fun _ => by go_simp) ?_
                  (try simp only [Act.put, List.setIfInBounds_toArray, List.set_cons_zero, List.set_cons_succ])
                  refine D_pure (i := 9) (d := some 214) (v := (.bool true)) rfl rfl (by kernel_rfl) (by kernel_rfl) (by kernel_rfl) (fun _ _ _ h => h) (by rfl) (fun _ => by go_simp) ?_
                  (try simp only [Act.put, List.setIfInBounds_toArray, List.set_cons_zero, List.set_cons_succ])
                  refine D_late (i := 10) (by kernel_rfl) rfl (by kernel_rfl) (fun Kq hKq => ?_)
                  go_simp
                  refine hKq.out _ _ ?_
                  clear hKq Kq
                  (try simp only [Act.put, List.setIfInBounds_toArray, List.set_cons_zero, List.set_cons_succ])
                  refine D_done (by kernel_rfl) ?_ _
                  refine NoPanic.normal ?_
                  go_wp2
                  go_ret
                  exact ⟨rfl, hbel_29⟩
                ·
                  subst h
                  have hb1 : bthV 4 P.v Q.v = (P.v * Q.v, false) := by unfold bthV; rw [if_neg (by decide), if_neg (by decide), if_pos rfl]
                  have f3 : eu = 0 := by rw [e3.out, ← hJh.out, hjc.out, hb1]; rfl
                  have hqe := hid (show qu = qa * qb by rw [← hquh.out, ← hJh.out, hjc.out, hb1, ← hqah.out, ← hqbh.out])
                  subst f3
                  clear hb1 e3
                  go_wp2_with fail
                  have hB : Below w26.heap.size w26 w26.drew := (Below.refl _ _).drew
                  have hB_27 : Below w26.heap.size w26 w26.drew := hB
                  have T_27 := T_26.next hB_27
                  have R_27 := R_26.next hB_27
                  have V_27 := V_26.next hB_27
                  have U_27 := U_26.next hB_27
                  have hbM_27 := hbM_26.next hB_27
                  have Oy_27 := Oy_26.below hB_27
                  have Py_27 := Py_26.below hB_27
                  have hbN_27 := hbN_26.next hB_27
                  have Or_27 := Or_26.below hB_27
                  have Pr_27 := Pr_26.below hB_27
                  have X_27 := X_26.below hB_27
                  have Y_27 := Y_26.below hB_27
                  have Op_27 := Op_26.below hB_27
                  have Pp_27 := Pp_26.below hB_27
                  have Oz_27 := Oz_26.below hB_27
                  have Pz_27 := Pz_26.below hB_27
                  have hbel_27 := hbel_26.next hB_27
                  have hsz_27 := hB_27.size
                  clear T_26 R_26 V_26 U_26 hbM_26 Oy_26 Py_26 hbN_26 Or_26 Pr_26 X_26 Y_26 Op_26 Pp_26 Oz_26 Pz_26 hbel_26 hB_27
                  clear hB
                  refine wp_region_noPanic ?_
                  refine D_region (S := (fun w' => Blk w' (w15.heap.size) #[Value.bool (qsg qu 0), Value.slice ra rn rc, Value.slice rb rm rd] ∧ Blk w' (w4.heap.size) #[Value.bool (qsg qa 0), Value.slice pa pn pc, Value.slice pb pm pd] ∧ Blk w' (w6.heap.size) #[Value.bool (qsg qb 0), Value.slice za zn zc, Value.slice zb zm zd])) (T := [10]) (by kernel_rfl) ⟨R_27, V_27, U_27⟩ (fun hHeld => ?_)
                  clear hHeld
                  generalize w26.drew = vd27 at *
                  refine D_pure (i := 0) (d := some 217) (v := (.int .i64 0)) rfl rfl (by kernel_rfl) (by kernel_rfl) (by kernel_rfl) (fun _ _ _ h => h) (by rfl) (fun _ => by go_simp) ?_
                  (try simp only [Act.put, List.setIfInBounds_toArray, List.set_cons_zero, List.set_cons_succ])
                  refine D_pure (i := 1) (d := some 218) (v := (.bool true)) rfl rfl (by kernel_rfl) (by kernel_rfl) (by kernel_rfl) (fun _ _ _ h => h) (by rfl) (fun _ => by go_simp) ?_
                  (try simp only [Act.put, List.setIfInBounds_toArray, List.set_cons_zero, List.set_cons_succ])
                  refine D_pure (i := 2) (d := some 219) (v := (.bool true)) rfl rfl (by kernel_rfl) (by kernel_rfl) (by kernel_rfl) (fun _ _ _ h => h) (by rfl) (fun _ => by go_simp) ?_
                  (try simp only [Act.put, List.setIfInBounds_toArray, List.set_cons_zero, List.set_cons_succ])
                  refine D_load (i := 3) (d := some 220) (v := (.agg #[Value.bool (qsg qu 0), Value.slice ra rn rc, Value.slice rb rm rd])) [3, 4, 5] rfl rfl (by kernel_rfl) (by kernel_rfl) (by kernel_rfl) (by kernel_rfl) (by kernel_rfl) (by kernel_rfl) (fun _ _ _ h => h) (by rfl) (fun w hSw => by (obtain ⟨b0, b1, b2⟩ := hSw); have l0 : _ = some (Value.bool (qsg qu 0)) := b0.cell (0); have l1 : _ = some (Value.slice ra rn rc) := b0.cell (1); have l2 : _ = some (Value.slice rb rm rd) := b0.cell (2); (clear b0 b1 b2); go_simp) ⟨R_27, V_27, U_27⟩ ?_
                  (try simp only [Act.put, List.setIfInBounds_toArray, List.set_cons_zero, List.set_cons_succ])
                  refine D_load (i := 4) (d := some 221) (v := (.agg #[Value.bool (qsg qa 0), Value.slice pa pn pc, Value.slice pb pm pd])) [3, 4, 5] rfl rfl (by kernel_rfl) (by kernel_rfl) (by kernel_rfl) (by kernel_rfl) (by kernel_rfl) (by kernel_rfl) (fun _ _ _ h => h) (by rfl) (fun w hSw => by (obtain ⟨b0, b1, b2⟩ := hSw); have l0 : _ = some (Value.bool (qsg qa 0)) := b1.cell (0); have l1 : _ = some (Value.slice pa pn pc) := b1.cell (1); have l2 : _ = some (Value.slice pb pm pd) := b1.cell (2); (clear b0 b1 b2); go_simp) ⟨R_27, V_27, U_27⟩ ?_
                  (try simp only [Act.put, List.setIfInBounds_toArray, List.set_cons_zero, List.set_cons_succ])
                  refine D_load (i := 5) (d := some 222) (v := (.agg #[Value.bool (qsg qb 0), Value.slice za zn zc, Value.slice zb zm zd])) [3, 4, 5] rfl rfl (by kernel_rfl) (by kernel_rfl) (by kernel_rfl) (by kernel_rfl) (by kernel_rfl) (by kernel_rfl) (fun _ _ _ h => h) (by rfl) (fun w hSw => by (obtain ⟨b0, b1, b2⟩ := hSw); have l0 : _ = some (Value.bool (qsg qb 0)) := b2.cell (0); have l1 : _ = some (Value.slice za zn zc) := b2.cell (1); have l2 : _ = some (Value.slice zb zm zd) := b2.cell (2); (clear b0 b1 b2); go_simp) ⟨R_27, V_27, U_27⟩ ?_
                  (try simp only [Act.put, List.setIfInBounds_toArray, List.set_cons_zero, List.set_cons_succ])
                  refine D_one (i := 6) (by kernel_rfl) rfl (fun Kq hKq => ?_)
                  go_simp
                  refine (qmul ((show Own 0 _ _ _ _ (lm qa.num.natAbs) from Op_27.mono (Nat.zero_le _)).rdQ (show Own 0 _ _ _ _ (lm qa.den) from Pp_27.mono (Nat.zero_le _)) sqa.out) (by omega) ((show Own 0 _ _ _ _ (lm qb.num.natAbs) from Oz_27.mono (Nat.zero_le _)).rdQ (show Own 0 _ _ _ _ (lm qb.den) from Pz_27.mono (Nat.zero_le _)) sqb.out) (by omega)).mono ?_
                  rintro e w28 ⟨ga, gn, gc, gb, gm, gd, rfl, hO, hO', hD, hB⟩
                  have hB_28 : Below vd27.heap.size vd27 w28 := (bl.next hB)
                  have T_28 := T_27.next hB_28
                  have R_28 := R_27.next hB_28
                  have V_28 := V_27.next hB_28
                  have U_28 := U_27.next hB_28
                  have hbM_28 := hbM_27.next hB_28
                  have Oy_28 := Oy_27.below hB_28
                  have Py_28 := Py_27.below hB_28
                  have hbN_28 := hbN_27.next hB_28
                  have Or_28 := Or_27.below hB_28
                  have Pr_28 := Pr_27.below hB_28
                  have X_28 := X_27.below hB_28
                  have Y_28 := Y_27.below hB_28
                  have Op_28 := Op_27.below hB_28
                  have Pp_28 := Pp_27.below hB_28
                  have Oz_28 := Oz_27.below hB_28
                  have Pz_28 := Pz_27.below hB_28
                  have hbel_28 := hbel_27.next hB_28
                  have hsz_28 := hB_28.size
                  clear T_27 R_27 V_27 U_27 hbM_27 Oy_27 Py_27 hbN_27 Or_27 Pr_27 X_27 Y_27 Op_27 Pp_27 Oz_27 Pz_27 hbel_27 hB_28
                  have Og_28 := hO
                  have Pg_28 := hO'
                  clear hO hO' hD
                  try clear hB
                  (try go_wp2_with fail)
                  refine hKq.out _ _ ⟨R_28, V_28, U_28⟩ (fun hHeld => ?_)
                  clear hHeld hKq Kq
                  (try simp only [Act.put, List.setIfInBounds_toArray, List.set_cons_zero, List.set_cons_succ])
                  have hz := cmpQ_eq hqe.out
                  have szz : Hid (QS (qa * qb) 2000) := hid ((sqa.out.mul sqb.out).mono (by omega))
                  refine D_one (i := 7) (by kernel_rfl) rfl (fun Kq hKq => ?_)
                  go_simp
                  refine (hz ▸ qcmp ((show Own 0 _ _ _ _ (lm qu.num.natAbs) from Or_28.mono (Nat.zero_le _)).rdQ (show Own 0 _ _ _ _ (lm qu.den) from Pr_28.mono (Nat.zero_le _)) squ.out) (by omega) (Og_28.rdQ Pg_28 szz.out) (by omega)).mono ?_
                  rintro e w29 ⟨rfl, hB⟩
                  have hB_29 : Below w28.heap.size w28 w29 := (bl.next hB)
                  have T_29 := T_28.next hB_29
                  have R_29 := R_28.next hB_29
                  have V_29 := V_28.next hB_29
                  have U_29 := U_28.next hB_29
                  have hbM_29 := hbM_28.next hB_29
                  have Oy_29 := Oy_28.below hB_29
                  have Py_29 := Py_28.below hB_29
                  have hbN_29 := hbN_28.next hB_29
                  have Or_29 := Or_28.below hB_29
                  have Pr_29 := Pr_28.below hB_29
                  have X_29 := X_28.below hB_29
                  have Y_29 := Y_28.below hB_29
                  have Op_29 := Op_28.below hB_29
                  have Pp_29 := Pp_28.below hB_29
                  have Oz_29 := Oz_28.below hB_29
                  have Pz_29 := Pz_28.below hB_29
                  have Og_29 := Og_28.below hB_29
                  have Pg_29 := Pg_28.below hB_29
                  have hbel_29 := hbel_28.next hB_29
                  have hsz_29 := hB_29.size
                  clear T_28 R_28 V_28 U_28 hbM_28 Oy_28 Py_28 hbN_28 Or_28 Pr_28 X_28 Y_28 Op_28 Pp_28 Oz_28 Pz_28 Og_28 Pg_28 hbel_28 hB_29
                  try clear hB
                  (try go_wp2_with fail)
                  refine hKq.out _ _ ⟨R_29, V_29, U_29⟩ (fun hHeld => ?_)
                  clear hHeld hKq Kq
                  (try simp only [Act.put, List.setIfInBounds_toArray, List.set_cons_zero, List.set_cons_succ])
                  refine D_pure (i := 8) (d := some 225) (v := (.bool true)) rfl rfl (by kernel_rfl) (by kernel_rfl) (by kernel_rfl) (fun _ _ _ h => h) (by rfl) (fun _ => by go_simp) ?_
                  (try simp only [Act.put, List.setIfInBounds_toArray, List.set_cons_zero, List.set_cons_succ])
                  refine D_pure (i := 9) (d := some 226) (v := (.bool true)) rfl rfl (by kernel_rfl) (by kernel_rfl) (by kernel_rfl) (fun _ _ _ h => h) (by rfl) (fun _ => by go_simp) ?_
                  (try simp only [Act.put, List.setIfInBounds_toArray, List.set_cons_zero, List.set_cons_succ])
                  refine D_late (i := 10) (by kernel_rfl) rfl (by kernel_rfl) (fun Kq hKq => ?_)
                  go_simp
                  refine hKq.out _ _ ?_
                  clear hKq Kq
                  (try simp only [Act.put, List.setIfInBounds_toArray, List.set_cons_zero, List.set_cons_succ])
                  refine D_done (by kernel_rfl) ?_ _
                  refine NoPanic.normal ?_
                  go_wp2
                  go_ret
                  exact ⟨rfl, hbel_29⟩
                ·
                  subst h
                  by_cases hq0 : qb = 0
                  ·
                    have hb1 : bthV 5 P.v Q.v = (0, true) := by unfold bthV; rw [if_neg (by decide), if_neg (by decide), if_neg (by decide), if_pos (hqbh.out.trans hq0)]
                    have f3 : eu = 11 := by rw [e3.out, ← hJh.out, hjc.out, hb1]; rfl
                    subst f3
                    clear hb1 e3
                    have hqh := hid hq0
                    clear hq0
                    have cV_26_0 : _ = some (Value.bool (qsg qa 0)) := V_26.cell 0
                    have fV_26_0 := V_26.free 0
                    have cV_26_1 : _ = some (Value.slice pa pn pc) := V_26.cell 1
                    have fV_26_1 := V_26.free 1
                    have cV_26_2 : _ = some (Value.slice pb pm pd) := V_26.cell 2
                    have fV_26_2 := V_26.free 2
                    have cU_26_0 : _ = some (Value.bool (qsg qb 0)) := U_26.cell 0
                    have fU_26_0 := U_26.free 0
                    have cU_26_1 : _ = some (Value.slice za zn zc) := U_26.cell 1
                    have fU_26_1 := U_26.free 1
                    have cU_26_2 : _ = some (Value.slice zb zm zd) := U_26.cell 2
                    have fU_26_2 := U_26.free 2
                    go_wp2_with fail
                    refine (qdiv_z ((show Own 0 _ _ _ _ (lm qa.num.natAbs) from Op_26.mono (Nat.zero_le _)).rdQ (show Own 0 _ _ _ _ (lm qa.den) from Pp_26.mono (Nat.zero_le _)) sqa.out) (by omega) ((show Own 0 _ _ _ _ (lm qb.num.natAbs) from Oz_26.mono (Nat.zero_le _)).rdQ (show Own 0 _ _ _ _ (lm qb.den) from Pz_26.mono (Nat.zero_le _)) sqb.out) (by omega) hqh.out).mono ?_
                    rintro e w27 ⟨ga, gn, gc, gb, gm, gd, rfl, hO, hO', hD, hB⟩
                    have hB_27 : Below w26.heap.size w26 w27 := (bl.next hB)
                    have T_27 := T_26.next hB_27
                    have R_27 := R_26.next hB_27
                    have V_27 := V_26.next hB_27
                    have U_27 := U_26.next hB_27
                    have hbM_27 := hbM_26.next hB_27
                    have Oy_27 := Oy_26.below hB_27
                    have Py_27 := Py_26.below hB_27
                    have hbN_27 := hbN_26.next hB_27
                    have Or_27 := Or_26.below hB_27
                    have Pr_27 := Pr_26.below hB_27
                    have X_27 := X_26.below hB_27
                    have Y_27 := Y_26.below hB_27
                    have Op_27 := Op_26.below hB_27
                    have Pp_27 := Pp_26.below hB_27
                    have Oz_27 := Oz_26.below hB_27
                    have Pz_27 := Pz_26.below hB_27
                    have hbel_27 := hbel_26.next hB_27
                    have hsz_27 := hB_27.size
                    clear T_26 R_26 V_26 U_26 hbM_26 Oy_26 Py_26 hbN_26 Or_26 Pr_26 X_26 Y_26 Op_26 Pp_26 Oz_26 Pz_26 hbel_26 hB_27
                    clear cV_26_0 fV_26_0 cV_26_1 fV_26_1 cV_26_2 fV_26_2 cU_26_0 fU_26_0 cU_26_1 fU_26_1 cU_26_2 fU_26_2
                    clear hO hO' hD
                    try clear hB
                    go_wp2
                    go_ret
                    exact ⟨rfl, hbel_27.alloc hbel_27.size _⟩
                  ·
                    have hb1 : bthV 5 P.v Q.v = (P.v / Q.v, false) := by unfold bthV; rw [if_neg (by decide), if_neg (by decide), if_neg (by decide), if_neg (fun e => hq0 (hqbh.out.symm.trans e))]
                    have f3 : eu = 0 := by rw [e3.out, ← hJh.out, hjc.out, hb1]; rfl
                    have hqe := hid (show qu = qa / qb by rw [← hquh.out, ← hJh.out, hjc.out, hb1, ← hqah.out, ← hqbh.out])
                    subst f3
                    clear hb1 e3
                    have hqh := hid hq0
                    clear hq0
                    have cV_26_0 : _ = some (Value.bool (qsg qa 0)) := V_26.cell 0
                    have fV_26_0 := V_26.free 0
                    have cV_26_1 : _ = some (Value.slice pa pn pc) := V_26.cell 1
                    have fV_26_1 := V_26.free 1
                    have cV_26_2 : _ = some (Value.slice pb pm pd) := V_26.cell 2
                    have fV_26_2 := V_26.free 2
                    have cU_26_0 : _ = some (Value.bool (qsg qb 0)) := U_26.cell 0
                    have fU_26_0 := U_26.free 0
                    have cU_26_1 : _ = some (Value.slice za zn zc) := U_26.cell 1
                    have fU_26_1 := U_26.free 1
                    have cU_26_2 : _ = some (Value.slice zb zm zd) := U_26.cell 2
                    have fU_26_2 := U_26.free 2
                    go_wp2_with fail
                    refine (qdiv_nz ((show Own 0 _ _ _ _ (lm qa.num.natAbs) from Op_26.mono (Nat.zero_le _)).rdQ (show Own 0 _ _ _ _ (lm qa.den) from Pp_26.mono (Nat.zero_le _)) sqa.out) (by omega) ((show Own 0 _ _ _ _ (lm qb.num.natAbs) from Oz_26.mono (Nat.zero_le _)).rdQ (show Own 0 _ _ _ _ (lm qb.den) from Pz_26.mono (Nat.zero_le _)) sqb.out) (by omega) hqh.out).mono ?_
                    rintro e w27 ⟨ga, gn, gc, gb, gm, gd, rfl, hO, hO', hD, hB⟩
                    have hB_27 : Below w26.heap.size w26 w27 := (bl.next hB)
                    have T_27 := T_26.next hB_27
                    have R_27 := R_26.next hB_27
                    have V_27 := V_26.next hB_27
                    have U_27 := U_26.next hB_27
                    have hbM_27 := hbM_26.next hB_27
                    have Oy_27 := Oy_26.below hB_27
                    have Py_27 := Py_26.below hB_27
                    have hbN_27 := hbN_26.next hB_27
                    have Or_27 := Or_26.below hB_27
                    have Pr_27 := Pr_26.below hB_27
                    have X_27 := X_26.below hB_27
                    have Y_27 := Y_26.below hB_27
                    have Op_27 := Op_26.below hB_27
                    have Pp_27 := Pp_26.below hB_27
                    have Oz_27 := Oz_26.below hB_27
                    have Pz_27 := Pz_26.below hB_27
                    have hbel_27 := hbel_26.next hB_27
                    have hsz_27 := hB_27.size
                    clear T_26 R_26 V_26 U_26 hbM_26 Oy_26 Py_26 hbN_26 Or_26 Pr_26 X_26 Y_26 Op_26 Pp_26 Oz_26 Pz_26 hbel_26 hB_27
                    clear cV_26_0 fV_26_0 cV_26_1 fV_26_1 cV_26_2 fV_26_2 cU_26_0 fU_26_0 cU_26_1 fU_26_1 cU_26_2 fU_26_2
                    have Og_27 := hO
                    have Pg_27 := hO'
                    clear hO hO' hD
                    try clear hB
                    have hz := cmpQ_eq hqe.out
                    have szz : Hid (QS (qa / qb) 2000) := hid ((sqa.out.div sqb.out (by omega)).mono (by omega))
                    go_upto_region 38 with fail
                    have hbx := blk_new w27 #[Value.bool (decide ((qa / qb).num < 0)), Value.slice ga gn gc, Value.slice gb gm gd] 28
                    have hbB := (Below.refl w27.heap.size w27).alloc (Nat.le_refl _) (.cells #[Value.bool (decide ((qa / qb).num < 0)), Value.slice ga gn gc, Value.slice gb gm gd] 28)
                    have hltZ := hbx.lt
                    have hB_28 : Below w27.heap.size w27 (w27.alloc (.cells #[Value.bool (decide ((qa / qb).num < 0)), Value.slice ga gn gc, Value.slice gb gm gd] 28)) := hbB
                    have T_28 := T_27.next hB_28
                    have R_28 := R_27.next hB_28
                    have V_28 := V_27.next hB_28
                    have U_28 := U_27.next hB_28
                    have hbM_28 := hbM_27.next hB_28
                    have Oy_28 := Oy_27.below hB_28
                    have Py_28 := Py_27.below hB_28
                    have hbN_28 := hbN_27.next hB_28
                    have Or_28 := Or_27.below hB_28
                    have Pr_28 := Pr_27.below hB_28
                    have X_28 := X_27.below hB_28
                    have Y_28 := Y_27.below hB_28
                    have Op_28 := Op_27.below hB_28
                    have Pp_28 := Pp_27.below hB_28
                    have Oz_28 := Oz_27.below hB_28
                    have Pz_28 := Pz_27.below hB_28
                    have Og_28 := Og_27.below hB_28
                    have Pg_28 := Pg_27.below hB_28
                    have hbel_28 := hbel_27.next hB_28
                    have hsz_28 := hB_28.size
                    clear T_27 R_27 V_27 U_27 hbM_27 Oy_27 Py_27 hbN_27 Or_27 Pr_27 X_27 Y_27 Op_27 Pp_27 Oz_27 Pz_27 Og_27 Pg_27 hbel_27 hB_28
                    have Z_28 := hbx
                    clear hbx hbB
                    generalize (w27.alloc (.cells #[Value.bool (decide ((qa / qb).num < 0)), Value.slice ga gn gc, Value.slice gb gm gd] 28)) = va28 at *
                    have cR_28_0 : _ = some (Value.bool (qsg qu 0)) := R_28.cell 0
                    have fR_28_0 := R_28.free 0
                    have cR_28_1 : _ = some (Value.slice ra rn rc) := R_28.cell 1
                    have fR_28_1 := R_28.free 1
                    have cR_28_2 : _ = some (Value.slice rb rm rd) := R_28.cell 2
                    have fR_28_2 := R_28.free 2
                    have cZ_28_0 : _ = some (Value.bool (decide ((qa / qb).num < 0))) := Z_28.cell 0
                    have fZ_28_0 := Z_28.free 0
                    have cZ_28_1 : _ = some (Value.slice ga gn gc) := Z_28.cell 1
                    have fZ_28_1 := Z_28.free 1
                    have cZ_28_2 : _ = some (Value.slice gb gm gd) := Z_28.cell 2
                    have fZ_28_2 := Z_28.free 2
                    go_wp2_with fail
                    refine (hz ▸ qcmp ((show Own 0 _ _ _ _ (lm qu.num.natAbs) from Or_28.mono (Nat.zero_le _)).rdQ (show Own 0 _ _ _ _ (lm qu.den) from Pr_28.mono (Nat.zero_le _)) squ.out) (by omega) (Og_28.rdQ Pg_28 szz.out) (by omega)).mono ?_
                    rintro e w29 ⟨rfl, hB⟩
                    have hB_29 : Below va28.heap.size va28 w29 := (bl.next hB)
                    have T_29 := T_28.next hB_29
                    have R_29 := R_28.next hB_29
                    have V_29 := V_28.next hB_29
                    have U_29 := U_28.next hB_29
                    have Z_29 := Z_28.next hB_29
                    have hbM_29 := hbM_28.next hB_29
                    have Oy_29 := Oy_28.below hB_29
                    have Py_29 := Py_28.below hB_29
                    have hbN_29 := hbN_28.next hB_29
                    have Or_29 := Or_28.below hB_29
                    have Pr_29 := Pr_28.below hB_29
                    have X_29 := X_28.below hB_29
                    have Y_29 := Y_28.below hB_29
                    have Op_29 := Op_28.below hB_29
                    have Pp_29 := Pp_28.below hB_29
                    have Oz_29 := Oz_28.below hB_29
                    have Pz_29 := Pz_28.below hB_29
                    have Og_29 := Og_28.below hB_29
                    have Pg_29 := Pg_28.below hB_29
                    have hbel_29 := hbel_28.next hB_29
                    have hsz_29 := hB_29.size
                    clear T_28 R_28 V_28 U_28 Z_28 hbM_28 Oy_28 Py_28 hbN_28 Or_28 Pr_28 X_28 Y_28 Op_28 Pp_28 Oz_28 Pz_28 Og_28 Pg_28 hbel_28 hB_29
                    clear cR_28_0 fR_28_0 cR_28_1 fR_28_1 cR_28_2 fR_28_2 cZ_28_0 fZ_28_0 cZ_28_1 fZ_28_1 cZ_28_2 fZ_28_2
                    try clear hB
                    go_wp2
                    go_ret
                    exact ⟨rfl, hbel_29⟩
              ·
                have f1 : ea = 0 := by rw [e1.out, hPb]; rfl
                have f2 : eb = 11 := by rw [e2.out, hQb]; rfl
                have f3 : eu = 11 := by rw [e3.out, show J.bad = true from hJh.out ▸ joinV_bad (by rw [hPb, hQb]; rfl)]; rfl
                subst f1 f2 f3
                clear hPb hQb
                go_wp2
                go_ret
                exact ⟨rfl, hbel_24⟩
            ·
              have f1 : ea = 11 := by rw [e1.out, hPb]; rfl
              have f3 : eu = 11 := by rw [e3.out, show J.bad = true from hJh.out ▸ joinV_bad (by rw [hPb]; rfl)]; rfl
              have f4 : et = 11 := by rw [e4.out, show (oppV P).bad = true from hPb]; rfl
              subst f1 f3 f4
              clear hPb
              go_wp2
              go_ret
              exact ⟨rfl, hbel_24⟩

end Go.Proofs.Ytennilapmcgnbaa
