/- WALKS OF DECIMALS, 12: the outright statements' own helpers: alive, fraction, same, over, number. -/
import Derived.Test.YtnpkmlpmeeidbaaEd
import Derived.Test.YtnpkmlpmeeidbaaEi
import Derived.Test.YtnpkmlpmeeidbaaEp
import Derived.Test.YtnpkmlpmeeidbaaDs
import Derived.Test.YtnpkmlpmeeidbaaQt
namespace Go.Proofs.Ytnpkmlpmeeidbaa
set_option linter.unusedVariables false
set_option linter.unusedSimpArgs false
open Go.ChangeShapes Go.WideShapes Go.ChangeAt Go.RowKit Go.NatP

theorem rdN_blk {W : World} {g x : Nat} {X : Int} (hX : X = (x : Int)) (hx : x < 4294967296) (h : Blk W g #[.int .u32 X]) : RdN 1 W (some ⟨g, 0, none⟩) 1 1 x := by
  subst hX
  refine ⟨[x], ⟨rfl, lim_cons hx lim_nil, Nat.le_refl _, by unfold maxLen; omega, fun i hi => ?_⟩, by simp [val], Nat.le_refl _⟩
  obtain rfl : i = 0 := by omega
  exact ⟨g, 0, rfl, h.cell 0⟩
/-- append, from a slice that can be read, in a region that draws -/
theorem wp_appRo {w : World} {o : Oper} {A : Act} {Q : Exit → Act → World → Prop} {K : Act → World → Prop} {B : Nat} {sa b : Option Addr} {n c k d : Nat} {l m : List Nat} (s x : Operand)
    (ho : o.op = .call { callee := .builtin .append, args := #[s, x], argTypes := #[25, 25] })
    (hs : A.eval s = .slice sa n c) (hO : Own B w sa n c l) (hx : A.eval x = .slice b k d) (hR : Rd w b k d m) (hB : B ≤ w.heap.size) (hn : n + k ≤ 1073741824)
    (h : ∀ a' c' w', Own B w' a' (n + k) c' (l ++ m) → Kp (fun k => sa = some ⟨k, 0, none⟩) w w' → (a' = sa ∨ (∀ g, a' = some ⟨g, 0, none⟩ → w.heap.size ≤ g) ∧ Kp (fun _ => False) w w') → K (A.put o.dst (.slice a' (n + k) c')) w') :
    o.wp Try.prog A w K Q := by
  cases b with
  | none =>
    obtain rfl : k = 0 := by
      rcases Nat.eq_zero_or_pos k with h | h
      · exact h
      · obtain ⟨b, o, e⟩ := hR.head h; cases e
    obtain rfl : m = [] := List.eq_nil_of_length_eq_zero hR.len
    obtain ⟨i0, hi, hz, hz1, hz2⟩ := info_parts infoU32
    have hnc := hO.bnd.1
    have hr : (Builtin.append_ #[25, 25] o.type #[.slice sa n c, .slice none 0 d]).run Try.prog w = .ok (.slice sa n c) w := by
      cases sa <;> simp [Builtin.append_, run_underlying Try.underlying25, sizeOf, typeInfo, hi, Builtin.lenOf, Builtin.firstCells, hnc, storeCells]
    unfold Oper.wp execOp
    simp only [ho, resolve, invoke, builtin, Sem.run_bind, Sem.run_pure, Result.andThen_ok, List.map_toArray, List.map_cons, List.map_nil, hs, hx, hr]
    exact h sa c w (by simpa using hO) (Kp.refl _ _) (.inl rfl)
  | some ad =>
    obtain ⟨a', c', w', hr, hown, hk, hf⟩ := own_append_run o.type hO ad k d hR.len hR.lim (fun i hi => by
      obtain ⟨b', o', e, hc⟩ := hR.get hi
      cases e
      rw [Addr.add_lit]; exact hc) hB hn
    unfold Oper.wp execOp
    simp only [ho, resolve, invoke, builtin, Sem.run_bind, Sem.run_pure, Result.andThen_ok, List.map_toArray, List.map_cons, List.map_nil, hs, hx, hr]
    exact h a' c' w' hown hk hf
theorem half_vals : dcQ (by' ⟨#[48, 46, 53, 48]⟩) = mkRat 1 2 ∧ dcE (by' ⟨#[48, 46, 53, 48]⟩) = 0 := by decide +kernel
theorem half_limbs : qsg (mkRat 1 2) 0 = false ∧ qnl (mkRat 1 2) 0 = [1] ∧ qdl (mkRat 1 2) 0 = [2] := by decide +kernel
theorem half_ex : ExIs (mkRat 1 2).den (some 1) := ⟨by decide, by decide +kernel, fun k hk => by
  obtain rfl : k = 0 := by omega
  decide +kernel⟩
theorem half_exT : exT2 (mkRat 1 2) (some 1) = ⟨#[48, 46, 53]⟩ := by decide +kernel
theorem half_roT : roT (mkRat 1 2) 0 = ⟨#[49]⟩ := by decide +kernel
theorem sev_per : PerIs (mkRat 1 7).num.natAbs (mkRat 1 7).den 6 (some (0, 6)) := by
  rw [show (mkRat 1 7).num.natAbs = 1 by decide +kernel, show (mkRat 1 7).den = 7 by decide +kernel]
  refine ⟨by decide, ?_, .inl ⟨by decide, by decide +kernel, by decide +kernel⟩⟩
  unfold Fresh
  decide +kernel
theorem sev_A : peA (mkRat 1 7).num.natAbs (mkRat 1 7).den (some (0, 6)) = ⟨#[]⟩ := by decide +kernel
theorem sev_B : peB (mkRat 1 7).num.natAbs (mkRat 1 7).den (some (0, 6)) = ⟨#[49, 52, 50, 56, 53, 55]⟩ := by decide +kernel
theorem sev_q : qv false 1 7 = mkRat 1 7 := rfl
theorem qdl_half {B : Nat} {W : World} {a : Option Addr} {n c : Nat} (h : Own B W a n c [2]) : n = 1 := h.len.symm

theorem ten_sz9 (k : Nat) : Sz (10 ^ k) (k / 9 + 1) := by
  obtain ⟨j, hj⟩ : ∃ j, j = k / 9 + 1 := ⟨_, rfl⟩
  rw [← hj]
  show 10 ^ k < 4294967296 ^ j
  have h1 : (10 : Nat) ^ k ≤ 10 ^ (9 * j) := Nat.pow_le_pow_right (by decide) (by omega)
  rw [Nat.pow_mul] at h1
  exact Nat.lt_of_le_of_lt h1 (Nat.pow_lt_pow_left (by decide) (by omega))
theorem pow_dvd_lt {p t d e : Nat} (hp : 2 ≤ p) (hd : d ≠ 0) (h : p ^ t ∣ d) (hs : d < 2 ^ e) : t < e := by
  have h1 := Nat.le_of_dvd (Nat.pos_of_ne_zero hd) h
  have h2 : 2 ^ t ≤ p ^ t := Nat.pow_le_pow_left hp t
  exact (Nat.pow_lt_pow_iff_right (by decide : 1 < 2)).1 (Nat.lt_of_le_of_lt (Nat.le_trans h2 h1) hs)
theorem ex_small {d N : Nat} (hd : d ≠ 0) (hs : Sz d 20) (h : ExIs d (some N)) : N ≤ 640 := by
  obtain ⟨h1, _, _⟩ := ex_some h
  obtain ⟨E, hE⟩ : ∃ E : Nat, E = 20 := ⟨_, rfl⟩
  have h2 : d < 2 ^ (32 * E) := by
    rw [Nat.pow_mul]
    rw [← hE] at hs
    exact hs
  have t2 := pow_dvd_lt (by decide) hd (outN_dvd 2 4097 d) h2
  have t5 := pow_dvd_lt (by decide) hd (Nat.dvd_trans (outN_dvd 5 4097 (outN 2 4097 d).1) ⟨_, (outN_spec 2 4097 d).1.trans (Nat.mul_comm _ _)⟩) h2
  omega
theorem ptd_by (v k : Nat) : by' (txt (ptd v k)) = ptd v k := by
  by_cases hk : k = 0
  · subst hk; rw [ptd_zero]; exact bt_tx v
  · refine bt_txt fun c hc => ?_
    obtain ⟨A, B, h1, _, _, _, h5, h6⟩ := ptd_split (v := v) hk
    rw [h1, List.mem_append, List.mem_cons] at hc
    rcases hc with hc | hc | hc
    · have := okD_get h5 hc; omega
    · omega
    · have := okD_get h6 hc; omega
theorem sgn1_by (b : Bool) (v k : Nat) : by' (if b = true then ⟨#[45]⟩ ++ txt (ptd v k) else txt (ptd v k)) = sgn1 b (ptd v k) := by
  unfold sgn1
  cases b
  · exact ptd_by v k
  · show by' (⟨#[45]⟩ ++ txt (ptd v k)) = 45 :: ptd v k
    rw [be_append, ptd_by]
    rfl
theorem exT_by {q : Rat} {N : Nat} : by' (exT2 q (some N)) = sgn1 (decide (q.num < 0)) (ptd (q.num.natAbs * 10 ^ N / q.den) N) := by
  unfold exT2
  rw [exV2_some]
  exact sgn1_by _ _ _
theorem sgn1_len (b : Bool) (l : List Nat) : (sgn1 b l).length ≤ l.length + 1 := by unfold sgn1; split <;> simp
theorem back_size {q : Rat} {N : Nat} (hq : QS q 20) (h : ExIs q.den (some N)) : (exT2 q (some N)).size ≤ 4096 := by
  have h1 := ex_small q.den_nz hq.2 h
  have hv : Sz (q.num.natAbs * 10 ^ N / q.den) (20 + 73) := (hq.1.mul (ten_sz9 N)).mono (Nat.div_le_self _ _) (by omega)
  have h2 := ptd_size (k := N) (tx_len hv)
  rw [← by_len, exT_by]
  have h3 := sgn1_len (decide (q.num < 0)) (ptd (q.num.natAbs * 10 ^ N / q.den) N)
  rw [← by_len, ptd_by] at h2
  omega
theorem sgnQ_neg {q : Rat} {b : Bool} (h : decide (q.num < 0) = b) : decide (sgnQ q < 0) = b := by
  rw [← h]
  unfold sgnQ
  rcases sgn_cases q.num with ⟨h1, h2⟩ | ⟨h1, h2⟩ | ⟨h1, h2⟩ <;> rw [h2]
  · simp [h1]
  · rw [h1]
  · rw [decide_eq_false (show ¬ (1 : Int) < 0 by decide), decide_eq_false (by omega)]

set_option maxRecDepth 100000 in
set_option maxHeartbeats 8000000 in
theorem lalive {w : World}  :
    Calls Try.prog 58 #[] w (fun e w' => e = .returned (.bool true) ∧ Below w.heap.size w w') := by
  have HP : Hid (∀ w, Calls Try.prog 24 #[.string ⟨#[48, 46, 53, 48]⟩] w (RetQE w (mkRat 1 2) 0)) := fun w => by
    have h := dparse (w := w) ⟨#[48, 46, 53, 48]⟩ (by decide)
    rwa [half_vals.1, half_vals.2] at h
  go_enter Try.func58, Try.ntmps58
  have hbel_0 : Below w.heap.size w w := Below.refl _ _
  go_wp2_with fail
  refine (HP.out _).mono ?_
  rintro e w1 ⟨xa, xn, xc, xb, xm, xd, rfl, hO, hO', hDx, hB⟩
  have hB_1 : Below w.heap.size w w1 := (bl.next hB)
  have hbel_1 := hbel_0.next hB_1
  have hsz_1 := hB_1.size
  clear hbel_0 hB_1
  have Ox_1 := hO
  have ltOx := hO.ltB
  have Px_1 := hO'
  have ltPx := hO'.ltB
  clear hO hO' HP
  rw [half_limbs.2.1] at Ox_1
  rw [half_limbs.2.2] at Px_1
  have hxm := Px_1.len
  have hxn := Ox_1.len
  obtain rfl : xm = 1 := hxm.symm
  obtain rfl : xn = 1 := hxn.symm
  clear hxm hxn
  rw [half_limbs.1]
  obtain ⟨gb, rfl⟩ : ∃ g, xb = some ⟨g, 0, none⟩ := by
    rcases Px_1.cases with ⟨_, h, _⟩ | ⟨g, h, _⟩
    · cases h
    · exact ⟨g, h⟩
  try clear hB
  have hbx := blk_new w1 #[Value.bool false, Value.slice xa 1 xc, Value.slice (some ⟨gb, 0, none⟩) 1 xd] 29
  have hbB := (Below.refl w1.heap.size w1).alloc (Nat.le_refl _) (.cells #[Value.bool false, Value.slice xa 1 xc, Value.slice (some ⟨gb, 0, none⟩) 1 xd] 29)
  have hltA := hbx.lt
  have hB_2 : Below w1.heap.size w1 (w1.alloc (.cells #[Value.bool false, Value.slice xa 1 xc, Value.slice (some ⟨gb, 0, none⟩) 1 xd] 29)) := hbB
  have Ox_2 := Ox_1.below hB_2
  have Px_2 := Px_1.below hB_2
  have hbel_2 := hbel_1.next hB_2
  have hsz_2 := hB_2.size
  clear hB_2
  have A_2 := hbx
  clear hbx hbB
  have cA_2_0 : _ = some (Value.bool false) := A_2.cell 0
  have cA_2_1 : _ = some (Value.slice xa 1 xc) := A_2.cell 1
  have cA_2_2 : _ = some (Value.slice (some ⟨gb, 0, none⟩) 1 xd) := A_2.cell 2
  go_wp2_with fail
  clear Ox_1 Px_1 hbel_1
  generalize (w1.alloc (.cells #[Value.bool false, Value.slice xa 1 xc, Value.slice (some ⟨gb, 0, none⟩) 1 xd] 29)) = v2 at *
  have Q_2 : RdQ 1 v2 false xa 1 xc (some ⟨gb, 0, none⟩) 1 xd (mkRat 1 2) := ⟨1, 2, ⟨_, Ox_2.rd, rfl, Nat.le_refl _⟩, ⟨_, Px_2.rd, rfl, Nat.le_refl _⟩, rfl⟩
  go_wp2_with fail
  refine (dexact Q_2 (by omega) half_ex).mono ?_
  rintro e w3 ⟨rfl, hB⟩
  have hB_3 : Below v2.heap.size v2 w3 := (bl.next hB)
  have A_3 := A_2.next hB_3
  have cA_3_0 : _ = some (Value.bool false) := A_3.cell 0
  have cA_3_1 : _ = some (Value.slice xa 1 xc) := A_3.cell 1
  have cA_3_2 : _ = some (Value.slice (some ⟨gb, 0, none⟩) 1 xd) := A_3.cell 2
  have Ox_3 := Ox_2.below hB_3
  have Px_3 := Px_2.below hB_3
  have Q_3 := Q_2.below hB_3
  have hbel_3 := hbel_2.next hB_3
  have hsz_3 := hB_3.size
  clear A_2 cA_2_0 cA_2_1 cA_2_2 Ox_2 Px_2 Q_2 hbel_2 hB_3
  try clear hB
  rw [half_exT]
  go_wp2_with fail
  refine (dround Q_3 (by omega) 0 (by omega)).mono ?_
  rintro e w4 ⟨rfl, hB⟩
  have hB_4 : Below w3.heap.size w3 w4 := (bl.next hB)
  have A_4 := A_3.next hB_4
  have cA_4_0 : _ = some (Value.bool false) := A_4.cell 0
  have cA_4_1 : _ = some (Value.slice xa 1 xc) := A_4.cell 1
  have cA_4_2 : _ = some (Value.slice (some ⟨gb, 0, none⟩) 1 xd) := A_4.cell 2
  have Ox_4 := Ox_3.below hB_4
  have Px_4 := Px_3.below hB_4
  have Q_4 := Q_3.below hB_4
  have hbel_4 := hbel_3.next hB_4
  have hsz_4 := hB_4.size
  clear A_3 cA_3_0 cA_3_1 cA_3_2 Ox_3 Px_3 Q_3 hbel_3 hB_4
  try clear hB
  rw [half_roT]
  have hbx0 : Blk ((w4.alloc (.cells #[Value.int .u32 1] 39)).alloc (.cells #[Value.int .u32 7] 39)) (w4.heap.size) #[Value.int .u32 1] := ((blk_new' w4 #[Value.int .u32 1] 39 (g := w4.heap.size) (by simp)).alloc _)
  have hbx1 : Blk ((w4.alloc (.cells #[Value.int .u32 1] 39)).alloc (.cells #[Value.int .u32 7] 39)) (w4.heap.size + 1) #[Value.int .u32 7] := (blk_new' (w4.alloc (.cells #[Value.int .u32 1] 39)) #[Value.int .u32 7] 39 (g := w4.heap.size + 1) (by simp))
  have hbB : Below w4.heap.size w4 ((w4.alloc (.cells #[Value.int .u32 1] 39)).alloc (.cells #[Value.int .u32 7] 39)) := bl
  have hltL1 := hbx0.lt
  have hltL2 := hbx1.lt
  have hB_5 : Below w4.heap.size w4 ((w4.alloc (.cells #[Value.int .u32 1] 39)).alloc (.cells #[Value.int .u32 7] 39)) := hbB
  have A_5 := A_4.next hB_5
  have cA_5_0 : _ = some (Value.bool false) := A_5.cell 0
  have cA_5_1 : _ = some (Value.slice xa 1 xc) := A_5.cell 1
  have cA_5_2 : _ = some (Value.slice (some ⟨gb, 0, none⟩) 1 xd) := A_5.cell 2
  have Ox_5 := Ox_4.below hB_5
  have Px_5 := Px_4.below hB_5
  have Q_5 := Q_4.below hB_5
  have hbel_5 := hbel_4.next hB_5
  have hsz_5 := hB_5.size
  clear hB_5
  have L1_5 := hbx0
  clear hbx0
  have cL1_5_0 : _ = some (Value.int .u32 1) := L1_5.cell 0
  have L2_5 := hbx1
  clear hbx1
  have cL2_5_0 : _ = some (Value.int .u32 7) := L2_5.cell 0
  clear hbB
  go_wp2_with fail
  clear A_4 cA_4_0 cA_4_1 cA_4_2 Ox_4 Px_4 Q_4 hbel_4
  generalize ((w4.alloc (.cells #[Value.int .u32 1] 39)).alloc (.cells #[Value.int .u32 7] 39)) = v5 at *
  have S_5 : RdQ 1 v5 false (some ⟨w4.heap.size, 0, none⟩) 1 1 (some ⟨w4.heap.size + 1, 0, none⟩) 1 1 (mkRat 1 7) := ⟨1, 7, rdN_blk rfl (by decide) L1_5, rdN_blk rfl (by decide) L2_5, sev_q⟩
  go_wp2_with fail
  refine (dper S_5 (by omega) 6 (by omega) sev_per).mono ?_
  rintro e w6 ⟨rfl, hB⟩
  have hB_6 : Below v5.heap.size v5 w6 := (bl.next hB)
  have A_6 := A_5.next hB_6
  have cA_6_0 : _ = some (Value.bool false) := A_6.cell 0
  have cA_6_1 : _ = some (Value.slice xa 1 xc) := A_6.cell 1
  have cA_6_2 : _ = some (Value.slice (some ⟨gb, 0, none⟩) 1 xd) := A_6.cell 2
  have L1_6 := L1_5.next hB_6
  have cL1_6_0 : _ = some (Value.int .u32 1) := L1_6.cell 0
  have L2_6 := L2_5.next hB_6
  have cL2_6_0 : _ = some (Value.int .u32 7) := L2_6.cell 0
  have Ox_6 := Ox_5.below hB_6
  have Px_6 := Px_5.below hB_6
  have Q_6 := Q_5.below hB_6
  have S_6 := S_5.below hB_6
  have hbel_6 := hbel_5.next hB_6
  have hsz_6 := hB_6.size
  clear A_5 cA_5_0 cA_5_1 cA_5_2 L1_5 cL1_5_0 L2_5 cL2_5_0 Ox_5 Px_5 Q_5 S_5 hbel_5 hB_6
  try clear hB
  rw [sev_A, sev_B]
  have hcc := Px_6.cell (i := 0) (by omega)
  go_wp2
  go_ret
  exact ⟨rfl, hbel_6⟩

set_option maxRecDepth 100000 in
set_option maxHeartbeats 4000000 in
theorem lsame4 {w : World} {a1 b1 : Option Addr} {n1 c1 m1 d1 : Nat} {s : Bool} {x : Rat} {a2 b2 : Option Addr} {n2 c2 m2 d2 : Nat} {t : Bool} {y : Rat} {J K : Nat} (hx : RdQ J w s a1 n1 c1 b1 m1 d1 x) (hJ : J ≤ 1000000) (hy : RdQ K w t a2 n2 c2 b2 m2 d2 y) (hK : K ≤ 1000000) (hxy : x = y) :
    Calls Try.prog 62 #[.agg #[.bool s, .slice a1 n1 c1, .slice b1 m1 d1], .agg #[.bool t, .slice a2 n2 c2, .slice b2 m2 d2]] w (fun e w' => e = .returned (.bool true) ∧ Below w.heap.size w w') := by
  have hq := cmpQ_eq hxy
  have hent := ent2 w #[Value.bool s, Value.slice a1 n1 c1, Value.slice b1 m1 d1] #[Value.bool t, Value.slice a2 n2 c2, Value.slice b2 m2 d2] 29 29
  go_enter Try.func62, Try.ntmps62
  go_wp2_with fail
  generalize ((w.alloc (.cells #[Value.bool s, Value.slice a1 n1 c1, Value.slice b1 m1 d1] 29)).alloc (.cells #[Value.bool t, Value.slice a2 n2 c2, Value.slice b2 m2 d2] 29)) = W0 at hent ⊢
  obtain ⟨X_0, Y_0, hbel_0, hsz_0⟩ := hent
  have cX_0_0 : _ = some (Value.bool s) := X_0.cell 0
  have cX_0_1 : _ = some (Value.slice a1 n1 c1) := X_0.cell 1
  have cX_0_2 : _ = some (Value.slice b1 m1 d1) := X_0.cell 2
  have cY_0_0 : _ = some (Value.bool t) := Y_0.cell 0
  have cY_0_1 : _ = some (Value.slice a2 n2 c2) := Y_0.cell 1
  have cY_0_2 : _ = some (Value.slice b2 m2 d2) := Y_0.cell 2
  have hx_0 := hx.below hbel_0
  clear hx
  have hy_0 := hy.below hbel_0
  clear hy
  go_wp2_with fail
  refine (qcmp hx_0 hJ hy_0 hK).mono ?_
  rintro e w1 ⟨rfl, hB⟩
  have hB_1 : Below W0.heap.size W0 w1 := (bl.next hB)
  have X_1 := X_0.next hB_1
  have cX_1_0 : _ = some (Value.bool s) := X_1.cell 0
  have cX_1_1 : _ = some (Value.slice a1 n1 c1) := X_1.cell 1
  have cX_1_2 : _ = some (Value.slice b1 m1 d1) := X_1.cell 2
  have Y_1 := Y_0.next hB_1
  have cY_1_0 : _ = some (Value.bool t) := Y_1.cell 0
  have cY_1_1 : _ = some (Value.slice a2 n2 c2) := Y_1.cell 1
  have cY_1_2 : _ = some (Value.slice b2 m2 d2) := Y_1.cell 2
  have hx_1 := hx_0.below hB_1
  have hy_1 := hy_0.below hB_1
  have hbel_1 := hbel_0.next hB_1
  have hsz_1 := hB_1.size
  clear X_0 cX_0_0 cX_0_1 cX_0_2 Y_0 cY_0_0 cY_0_1 cY_0_2 hx_0 hy_0 hbel_0 hB_1
  try clear hB
  rw [hq]
  go_wp2
  go_ret
  exact ⟨rfl, hbel_1⟩

set_option maxRecDepth 100000 in
set_option maxHeartbeats 4000000 in
theorem lnumber {w : World} (s : ByteArray) (hs : s.size ≤ 4096) (ho : okD (by' s) = true) :
    Calls Try.prog 67 #[.string s] w (Ret1 w (lm (numD (by' s)))) := by
  by_cases h0 : s.size = 0
  · obtain rfl := be_nil h0
    go_enter Try.func67, Try.ntmps67
    go_wp2
    go_ret
    exact ⟨none, 0, 0, rfl, own_nil _ _, Below.refl _ _⟩
  · have hne := be_ne h0
    have hpa := paN_ok (l := by' s) (fun h => h0 (by rw [← by_len, h]; rfl)) ho
    have HV := hid (fun w => parse_any (w := w) s (by omega))
    rw [hpa.1, hpa.2] at HV
    go_enter Try.func67, Try.ntmps67
    go_wp2_with fail
    refine (HV.out _).mono ?_
    rintro e w1 ⟨a, n, c, rfl, hO, hB⟩
    go_wp2
    go_ret
    exact ⟨a, n, c, rfl, hO, hB⟩

/-- one over a power of ten -/
def RetOv (w : World) (N : Nat) (e : Ending) (w' : World) : Prop := ∃ a c b m d, e = .returned (.agg #[.bool false, .slice a 1 c, .slice b m d]) ∧ RdN 1 w' a 1 c 1 ∧ LtB a w'.heap.size ∧ Own w.heap.size w' b m d (lm (10 ^ N)) ∧ Below w.heap.size w w'
theorem dpowN {W : World} {a : Option Addr} {n c : Nat} (h : RdN 1 W a n c 10) (j : Nat) (hj : j ≤ 1024) :
    Calls Try.prog 60 #[.slice a n c, .int .i64 j] W (RetE W (lm (10 ^ j)) 0) := by
  obtain ⟨l, hR, hv, hn⟩ := h
  have hb := nbTen j
  have e1 : pwN 10 (j : Int) = 10 ^ j := by
    unfold pwN
    rw [Int.toNat_natCast, if_pos ⟨by omega, by omega, by omega⟩]
  have e2 : pwE 10 (j : Int) = 0 := by
    unfold pwE
    rw [Int.toNat_natCast, if_pos ⟨by omega, by omega⟩, if_pos (by omega)]
  have := pow_any hR (by omega) (j : Int)
  rwa [hv, e1, e2] at this
theorem rdN_set3 {k : Nat} {W : World} {a : Option Addr} {n c v g : Nat} (h : RdN k W a n c v) (hn : ∀ b o, a = some ⟨b, o, none⟩ → b ≠ g) (v0 v1 v2 : Value) : RdN k (((W.setCell ⟨g, 0, none⟩ v0).setCell ⟨g, 1, none⟩ v1).setCell ⟨g, 2, none⟩ v2) a n c v := by
  have hk := (((Kp.refl (fun j => j = g) W).setCell (ad := ⟨g, 0, none⟩) rfl v0).setCell (ad := ⟨g, 1, none⟩) rfl v1).setCell (ad := ⟨g, 2, none⟩) rfl v2
  obtain ⟨l, hR, r⟩ := h
  exact ⟨l, hR.kp hk hn, r⟩

set_option maxRecDepth 100000 in
set_option maxHeartbeats 4000000 in
theorem lover {w : World} (N : Nat) (hN : N ≤ 1024) :
    Calls Try.prog 65 #[.int .i64 N] w (RetOv w N) := by
  have HP := hid (fun (W : World) (a : Option Addr) (n c : Nat) (h : RdN 1 W a n c 10) => dpowN h N hN)
  unfold RetOv
  obtain ⟨P, hP⟩ : ∃ P, 10 ^ N = P := ⟨_, rfl⟩
  rw [hP] at HP ⊢
  clear hP
  have hent := ent2 w #[Value.bool false, Value.slice none 0 0, Value.slice none 0 0] #[Value.int .u32 10] 29 39
  go_enter Try.func65, Try.ntmps65
  go_wp2_with fail
  generalize ((w.alloc (.cells #[Value.bool false, Value.slice none 0 0, Value.slice none 0 0] 29)).alloc (.cells #[Value.int .u32 10] 39)) = W0 at hent ⊢
  obtain ⟨R_0, TEN_0, hbel_0, hsz_0⟩ := hent
  have cR_0_0 : _ = some (Value.bool false) := R_0.cell 0
  have fR_0_0 := R_0.free 0
  have cR_0_1 : _ = some (Value.slice none 0 0) := R_0.cell 1
  have fR_0_1 := R_0.free 1
  have cR_0_2 : _ = some (Value.slice none 0 0) := R_0.cell 2
  have fR_0_2 := R_0.free 2
  have cTEN_0_0 : _ = some (Value.int .u32 10) := TEN_0.cell 0
  go_wp2_with fail
  refine (HP.out _ _ _ _ (rdN_blk rfl (by decide) TEN_0)).mono ?_
  rintro e w1 ⟨pa, pn, pc, rfl, hO, hB⟩
  have hB_1 : Below W0.heap.size W0 w1 := (bl.next hB)
  have R_1 := R_0.next hB_1
  have cR_1_0 : _ = some (Value.bool false) := R_1.cell 0
  have fR_1_0 := R_1.free 0
  have cR_1_1 : _ = some (Value.slice none 0 0) := R_1.cell 1
  have fR_1_1 := R_1.free 1
  have cR_1_2 : _ = some (Value.slice none 0 0) := R_1.cell 2
  have fR_1_2 := R_1.free 2
  have TEN_1 := TEN_0.next hB_1
  have cTEN_1_0 : _ = some (Value.int .u32 10) := TEN_1.cell 0
  have hbel_1 := hbel_0.next hB_1
  have hsz_1 := hB_1.size
  clear R_0 cR_0_0 fR_0_0 cR_0_1 fR_0_1 cR_0_2 fR_0_2 TEN_0 cTEN_0_0 hbel_0 hB_1
  have P_1 := hO
  have ltP := hO.ltB
  clear hO
  try clear hB
  have hbx := blk_new w1 #[Value.int .u32 1] 39
  have hbB := (Below.refl w1.heap.size w1).alloc (Nat.le_refl _) (.cells #[Value.int .u32 1] 39)
  have hltONE := hbx.lt
  have hB_2 : Below w1.heap.size w1 (w1.alloc (.cells #[Value.int .u32 1] 39)) := hbB
  have R_2 := R_1.next hB_2
  have cR_2_0 : _ = some (Value.bool false) := R_2.cell 0
  have fR_2_0 := R_2.free 0
  have cR_2_1 : _ = some (Value.slice none 0 0) := R_2.cell 1
  have fR_2_1 := R_2.free 1
  have cR_2_2 : _ = some (Value.slice none 0 0) := R_2.cell 2
  have fR_2_2 := R_2.free 2
  have TEN_2 := TEN_1.next hB_2
  have cTEN_2_0 : _ = some (Value.int .u32 10) := TEN_2.cell 0
  have P_2 := P_1.below hB_2
  have hbel_2 := hbel_1.next hB_2
  have hsz_2 := hB_2.size
  clear hB_2
  have ONE_2 := hbx
  clear hbx hbB
  have cONE_2_0 : _ = some (Value.int .u32 1) := ONE_2.cell 0
  go_wp2_with fail
  clear R_1 cR_1_0 fR_1_0 cR_1_1 fR_1_1 cR_1_2 fR_1_2 TEN_1 cTEN_1_0 P_1 hbel_1
  generalize (w1.alloc (.cells #[Value.int .u32 1] 39)) = v2 at *
  have O1_2 := (rdN_blk rfl (by decide) ONE_2 : RdN 1 v2 _ 1 1 1)
  have hbel9 := Below.set3 hbel_2 (show w.heap.size ≤ w.heap.size from Nat.le_refl _) (Value.bool false) (Value.slice (some ⟨w1.heap.size, 0, none⟩) 1 1) (Value.slice pa pn pc)
  have hP9 := (P_2.mono (show W0.heap.size ≤ _ from Nat.le_refl _)).set3 (show w.heap.size < W0.heap.size by omega) (Value.bool false) (Value.slice (some ⟨w1.heap.size, 0, none⟩) 1 1) (Value.slice pa pn pc)
  have hO9 := rdN_set3 O1_2 (g := w.heap.size) (fun b o e => by cases e; omega) (Value.bool false) (Value.slice (some ⟨w1.heap.size, 0, none⟩) 1 1) (Value.slice pa pn pc)
  have hR9 := (show Blk _ _ #[_, _, _] from ((R_2.setCell (i := 0) (v := (Value.bool false)) (by simp)).setCell (i := 1) (v := (Value.slice (some ⟨w1.heap.size, 0, none⟩) 1 1)) (by simp)).setCell (i := 2) (v := (Value.slice pa pn pc)) (by simp))
  have cR9_0 := hR9.cell 0
  have cR9_1 := hR9.cell 1
  have cR9_2 := hR9.cell 2
  have hs9 : v2.heap.size ≤ ((((v2.setCell ⟨w.heap.size, 0, none⟩ (Value.bool false)).setCell ⟨w.heap.size, 1, none⟩ (Value.slice (some ⟨w1.heap.size, 0, none⟩) 1 1)).setCell ⟨w.heap.size, 2, none⟩ (Value.slice pa pn pc))).heap.size := by simp [World.setCell]
  go_wp2_with fail
  generalize (((v2.setCell ⟨w.heap.size, 0, none⟩ (Value.bool false)).setCell ⟨w.heap.size, 1, none⟩ (Value.slice (some ⟨w1.heap.size, 0, none⟩) 1 1)).setCell ⟨w.heap.size, 2, none⟩ (Value.slice pa pn pc)) = v9 at *
  go_wp2
  refine bodyPost_ret (v := .agg #[.bool false, .slice (some ⟨w1.heap.size, 0, none⟩) 1 1, .slice pa pn pc]) (by simp [results, Try.results65, go_sem, cR9_0, cR9_1, cR9_2]) rfl ?_
  exact ⟨_, _, _, _, _, rfl, hO9, (fun g e => by cases e; omega), hP9.mono (by omega), hbel9⟩

end Go.Proofs.Ytnpkmlpmeeidbaa
