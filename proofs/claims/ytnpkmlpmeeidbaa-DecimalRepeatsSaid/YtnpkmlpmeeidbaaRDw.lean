/- WALKS OF DECIMALS, 12: the outright statements' own helpers: alive, fraction, same, over, number. -/
import Derived.Test.YtnpkmlpmeeidbaaREd
import Derived.Test.YtnpkmlpmeeidbaaREi
import Derived.Test.YtnpkmlpmeeidbaaREp
import Derived.Test.YtnpkmlpmeeidbaaRDq2
import Derived.Test.YtnpkmlpmeeidbaaRQt
namespace Go.Proofs.Ytnpkmlpmeeidbaa
set_option linter.unusedVariables false
set_option linter.unusedSimpArgs false
open Go.ChangeShapes Go.WideShapes Go.ChangeAt Go.RowKit Go.NatP

theorem rdN_blk {W : World} {g x : Nat} {X : Int} (hX : X = (x : Int)) (hx : x < 4294967296) (h : Blk W g #[.int .u32 X]) : RdN 1 W (some ⟨g, 0, none⟩) 1 1 x := by
  subst hX
  refine ⟨[x], ⟨rfl, lim_cons hx lim_nil, Nat.le_refl _, by unfold maxLen; omega, fun i hi => ?_⟩, by simp [val], Nat.le_refl _⟩
  obtain rfl : i = 0 := by omega
  exact ⟨g, 0, rfl, h.cell 0⟩
/-- append, from a slice that can be read, in a region that draws -/
theorem wp_appRo {w : World} {o : Oper} {A : Act} {Q : Exit → Act → World → Prop} {K : Act → World → Prop} {B : Nat} {sa b : Option Addr} {n c k d : Nat} {l m : List Nat} (s x : Operand)
    (ho : o.op = .call { callee := .builtin .append, args := #[s, x], argTypes := #[25, 25] })
    (hs : A.eval s = .slice sa n c) (hO : Own B w sa n c l) (hx : A.eval x = .slice b k d) (hR : Rd w b k d m) (hB : B ≤ w.heap.size) (hn : n + k ≤ 1073741824)
    (h : ∀ a' c' w', Own B w' a' (n + k) c' (l ++ m) → Kp (fun k => sa = some ⟨k, 0, none⟩) w w' → (a' = sa ∨ (∀ g, a' = some ⟨g, 0, none⟩ → w.heap.size ≤ g) ∧ Kp (fun _ => False) w w') → K (A.put o.dst (.slice a' (n + k) c')) w') :
    o.wp Try.prog A w K Q := by
  cases b with
  | none =>
    obtain rfl : k = 0 := by
      rcases Nat.eq_zero_or_pos k with h | h
      · exact h
      · obtain ⟨b, o, e⟩ := hR.head h; cases e
    obtain rfl : m = [] := List.eq_nil_of_length_eq_zero hR.len
    obtain ⟨i0, hi, hz, hz1, hz2⟩ := info_parts infoU32
    have hnc := hO.bnd.1
    have hr : (Builtin.append_ #[25, 25] o.type #[.slice sa n c, .slice none 0 d]).run Try.prog w = .ok (.slice sa n c) w := by
      cases sa <;> simp [Builtin.append_, run_underlying Try.underlying25, sizeOf, typeInfo, hi, Builtin.lenOf, Builtin.firstCells, hnc, storeCells]
    unfold Oper.wp execOp
    simp only [ho, resolve, invoke, builtin, Sem.run_bind, Sem.run_pure, Result.andThen_ok, List.map_toArray, List.map_cons, List.map_nil, hs, hx, hr]
    exact h sa c w (by simpa using hO) (Kp.refl _ _) (.inl rfl)
  | some ad =>
    obtain ⟨a', c', w', hr, hown, hk, hf⟩ := own_append_run o.type hO ad k d hR.len hR.lim (fun i hi => by
      obtain ⟨b', o', e, hc⟩ := hR.get hi
      cases e
      rw [Addr.add_lit]; exact hc) hB hn
    unfold Oper.wp execOp
    simp only [ho, resolve, invoke, builtin, Sem.run_bind, Sem.run_pure, Result.andThen_ok, List.map_toArray, List.map_cons, List.map_nil, hs, hx, hr]
    exact h a' c' w' hown hk hf
theorem half_vals : dcQ (by' ⟨#[48, 46, 53, 48]⟩) = mkRat 1 2 ∧ dcE (by' ⟨#[48, 46, 53, 48]⟩) = 0 := by decide +kernel
theorem half_limbs : qsg (mkRat 1 2) 0 = false ∧ qnl (mkRat 1 2) 0 = [1] ∧ qdl (mkRat 1 2) 0 = [2] := by decide +kernel
theorem half_ex : ExIs (mkRat 1 2).den (some 1) := ⟨by decide, by decide +kernel, fun k hk => by
  obtain rfl : k = 0 := by omega
  decide +kernel⟩
theorem half_exT : exT2 (mkRat 1 2) (some 1) = ⟨#[48, 46, 53]⟩ := by decide +kernel
theorem half_roT : roT (mkRat 1 2) 0 = ⟨#[49]⟩ := by decide +kernel
theorem sev_per : PerIs (mkRat 1 7).num.natAbs (mkRat 1 7).den 6 (some (0, 6)) := by
  rw [show (mkRat 1 7).num.natAbs = 1 by decide +kernel, show (mkRat 1 7).den = 7 by decide +kernel]
  refine ⟨by decide, ?_, .inl ⟨by decide, by decide +kernel, by decide +kernel⟩⟩
  unfold Fresh
  decide +kernel
theorem sev_A : peA (mkRat 1 7).num.natAbs (mkRat 1 7).den (some (0, 6)) = ⟨#[]⟩ := by decide +kernel
theorem sev_B : peB (mkRat 1 7).num.natAbs (mkRat 1 7).den (some (0, 6)) = ⟨#[49, 52, 50, 56, 53, 55]⟩ := by decide +kernel
theorem sev_q : qv false 1 7 = mkRat 1 7 := rfl
theorem ten_sz9 (k : Nat) : Sz (10 ^ k) (k / 9 + 1) := by
  obtain ⟨j, hj⟩ : ∃ j, j = k / 9 + 1 := ⟨_, rfl⟩
  rw [← hj]
  show 10 ^ k < 4294967296 ^ j
  have h1 : (10 : Nat) ^ k ≤ 10 ^ (9 * j) := Nat.pow_le_pow_right (by decide) (by omega)
  rw [Nat.pow_mul] at h1
  exact Nat.lt_of_le_of_lt h1 (Nat.pow_lt_pow_left (by decide) (by omega))
set_option maxRecDepth 100000 in
set_option maxHeartbeats 8000000 in
theorem lalive {w : World}  :
    Calls Try.prog 58 #[] w (fun e w' => e = .returned (.bool true) ∧ Below w.heap.size w w') := by
  have HP : Hid (∀ w, Calls Try.prog 24 #[.string ⟨#[48, 46, 53, 48]⟩] w (RetQE w (mkRat 1 2) 0)) := fun w => by
    have h := dparse (w := w) ⟨#[48, 46, 53, 48]⟩ (by decide)
    rwa [half_vals.1, half_vals.2] at h
  go_enter Try.func58, Try.ntmps58
  have hbel_0 : Below w.heap.size w w := Below.refl _ _
  go_wp2_with fail
  refine (HP.out _).mono ?_
  rintro e w1 ⟨xa, xn, xc, xb, xm, xd, rfl, hO, hO', hDx, hB⟩
  have hB_1 : Below w.heap.size w w1 := (bl.next hB)
  have hbel_1 := hbel_0.next hB_1
  have hsz_1 := hB_1.size
  clear hbel_0 hB_1
  have Ox_1 := hO
  have ltOx := hO.ltB
  have Px_1 := hO'
  have ltPx := hO'.ltB
  clear hO hO' HP
  rw [half_limbs.2.1] at Ox_1
  rw [half_limbs.2.2] at Px_1
  have hxm := Px_1.len
  have hxn := Ox_1.len
  obtain rfl : xm = 1 := hxm.symm
  obtain rfl : xn = 1 := hxn.symm
  clear hxm hxn
  rw [half_limbs.1]
  obtain ⟨gb, rfl⟩ : ∃ g, xb = some ⟨g, 0, none⟩ := by
    rcases Px_1.cases with ⟨_, h, _⟩ | ⟨g, h, _⟩
    · cases h
    · exact ⟨g, h⟩
  try clear hB
  have hbx := blk_new w1 #[Value.bool false, Value.slice xa 1 xc, Value.slice (some ⟨gb, 0, none⟩) 1 xd] 29
  have hbB := (Below.refl w1.heap.size w1).alloc (Nat.le_refl _) (.cells #[Value.bool false, Value.slice xa 1 xc, Value.slice (some ⟨gb, 0, none⟩) 1 xd] 29)
  have hltA := hbx.lt
  have hB_2 : Below w1.heap.size w1 (w1.alloc (.cells #[Value.bool false, Value.slice xa 1 xc, Value.slice (some ⟨gb, 0, none⟩) 1 xd] 29)) := hbB
  have Ox_2 := Ox_1.below hB_2
  have Px_2 := Px_1.below hB_2
  have hbel_2 := hbel_1.next hB_2
  have hsz_2 := hB_2.size
  clear hB_2
  have A_2 := hbx
  clear hbx hbB
  have cA_2_0 : _ = some (Value.bool false) := A_2.cell 0
  have cA_2_1 : _ = some (Value.slice xa 1 xc) := A_2.cell 1
  have cA_2_2 : _ = some (Value.slice (some ⟨gb, 0, none⟩) 1 xd) := A_2.cell 2
  go_wp2_with fail
  clear Ox_1 Px_1 hbel_1
  generalize (w1.alloc (.cells #[Value.bool false, Value.slice xa 1 xc, Value.slice (some ⟨gb, 0, none⟩) 1 xd] 29)) = v2 at *
  have Q_2 : RdQ 1 v2 false xa 1 xc (some ⟨gb, 0, none⟩) 1 xd (mkRat 1 2) := ⟨1, 2, ⟨_, Ox_2.rd, rfl, Nat.le_refl _⟩, ⟨_, Px_2.rd, rfl, Nat.le_refl _⟩, rfl⟩
  go_wp2_with fail
  refine (dexact Q_2 (by omega) half_ex).mono ?_
  rintro e w3 ⟨rfl, hB⟩
  have hB_3 : Below v2.heap.size v2 w3 := (bl.next hB)
  have A_3 := A_2.next hB_3
  have cA_3_0 : _ = some (Value.bool false) := A_3.cell 0
  have cA_3_1 : _ = some (Value.slice xa 1 xc) := A_3.cell 1
  have cA_3_2 : _ = some (Value.slice (some ⟨gb, 0, none⟩) 1 xd) := A_3.cell 2
  have Ox_3 := Ox_2.below hB_3
  have Px_3 := Px_2.below hB_3
  have Q_3 := Q_2.below hB_3
  have hbel_3 := hbel_2.next hB_3
  have hsz_3 := hB_3.size
  clear A_2 cA_2_0 cA_2_1 cA_2_2 Ox_2 Px_2 Q_2 hbel_2 hB_3
  try clear hB
  rw [half_exT]
  go_wp2_with fail
  refine (dround Q_3 (by omega) 0 (by omega)).mono ?_
  rintro e w4 ⟨rfl, hB⟩
  have hB_4 : Below w3.heap.size w3 w4 := (bl.next hB)
  have A_4 := A_3.next hB_4
  have cA_4_0 : _ = some (Value.bool false) := A_4.cell 0
  have cA_4_1 : _ = some (Value.slice xa 1 xc) := A_4.cell 1
  have cA_4_2 : _ = some (Value.slice (some ⟨gb, 0, none⟩) 1 xd) := A_4.cell 2
  have Ox_4 := Ox_3.below hB_4
  have Px_4 := Px_3.below hB_4
  have Q_4 := Q_3.below hB_4
  have hbel_4 := hbel_3.next hB_4
  have hsz_4 := hB_4.size
  clear A_3 cA_3_0 cA_3_1 cA_3_2 Ox_3 Px_3 Q_3 hbel_3 hB_4
  try clear hB
  rw [half_roT]
  have hbx0 : Blk ((w4.alloc (.cells #[Value.int .u32 1] 39)).alloc (.cells #[Value.int .u32 7] 39)) (w4.heap.size) #[Value.int .u32 1] := ((blk_new' w4 #[Value.int .u32 1] 39 (g := w4.heap.size) (by simp)).alloc _)
  have hbx1 : Blk ((w4.alloc (.cells #[Value.int .u32 1] 39)).alloc (.cells #[Value.int .u32 7] 39)) (w4.heap.size + 1) #[Value.int .u32 7] := (blk_new' (w4.alloc (.cells #[Value.int .u32 1] 39)) #[Value.int .u32 7] 39 (g := w4.heap.size + 1) (by simp))
  have hbB : Below w4.heap.size w4 ((w4.alloc (.cells #[Value.int .u32 1] 39)).alloc (.cells #[Value.int .u32 7] 39)) := bl
  have hltL1 := hbx0.lt
  have hltL2 := hbx1.lt
  have hB_5 : Below w4.heap.size w4 ((w4.alloc (.cells #[Value.int .u32 1] 39)).alloc (.cells #[Value.int .u32 7] 39)) := hbB
  have A_5 := A_4.next hB_5
  have cA_5_0 : _ = some (Value.bool false) := A_5.cell 0
  have cA_5_1 : _ = some (Value.slice xa 1 xc) := A_5.cell 1
  have cA_5_2 : _ = some (Value.slice (some ⟨gb, 0, none⟩) 1 xd) := A_5.cell 2
  have Ox_5 := Ox_4.below hB_5
  have Px_5 := Px_4.below hB_5
  have Q_5 := Q_4.below hB_5
  have hbel_5 := hbel_4.next hB_5
  have hsz_5 := hB_5.size
  clear hB_5
  have L1_5 := hbx0
  clear hbx0
  have cL1_5_0 : _ = some (Value.int .u32 1) := L1_5.cell 0
  have L2_5 := hbx1
  clear hbx1
  have cL2_5_0 : _ = some (Value.int .u32 7) := L2_5.cell 0
  clear hbB
  go_wp2_with fail
  clear A_4 cA_4_0 cA_4_1 cA_4_2 Ox_4 Px_4 Q_4 hbel_4
  generalize ((w4.alloc (.cells #[Value.int .u32 1] 39)).alloc (.cells #[Value.int .u32 7] 39)) = v5 at *
  have S_5 : RdQ 1 v5 false (some ⟨w4.heap.size, 0, none⟩) 1 1 (some ⟨w4.heap.size + 1, 0, none⟩) 1 1 (mkRat 1 7) := ⟨1, 7, rdN_blk rfl (by decide) L1_5, rdN_blk rfl (by decide) L2_5, sev_q⟩
  go_wp2_with fail
  refine (dper S_5 (by omega) 6 (by omega) sev_per).mono ?_
  rintro e w6 ⟨rfl, hB⟩
  have hB_6 : Below v5.heap.size v5 w6 := (bl.next hB)
  have A_6 := A_5.next hB_6
  have cA_6_0 : _ = some (Value.bool false) := A_6.cell 0
  have cA_6_1 : _ = some (Value.slice xa 1 xc) := A_6.cell 1
  have cA_6_2 : _ = some (Value.slice (some ⟨gb, 0, none⟩) 1 xd) := A_6.cell 2
  have L1_6 := L1_5.next hB_6
  have cL1_6_0 : _ = some (Value.int .u32 1) := L1_6.cell 0
  have L2_6 := L2_5.next hB_6
  have cL2_6_0 : _ = some (Value.int .u32 7) := L2_6.cell 0
  have Ox_6 := Ox_5.below hB_6
  have Px_6 := Px_5.below hB_6
  have Q_6 := Q_5.below hB_6
  have S_6 := S_5.below hB_6
  have hbel_6 := hbel_5.next hB_6
  have hsz_6 := hB_6.size
  clear A_5 cA_5_0 cA_5_1 cA_5_2 L1_5 cL1_5_0 L2_5 cL2_5_0 Ox_5 Px_5 Q_5 S_5 hbel_5 hB_6
  try clear hB
  rw [sev_A, sev_B]
  have hcc := Px_6.cell (i := 0) (by omega)
  go_wp2
  go_ret
  exact ⟨rfl, hbel_6⟩

set_option maxRecDepth 100000 in
set_option maxHeartbeats 4000000 in
theorem lsame4 {w : World} {a1 b1 : Option Addr} {n1 c1 m1 d1 : Nat} {s : Bool} {x : Rat} {a2 b2 : Option Addr} {n2 c2 m2 d2 : Nat} {t : Bool} {y : Rat} {J K : Nat} (hx : RdQ J w s a1 n1 c1 b1 m1 d1 x) (hJ : J ≤ 1000000) (hy : RdQ K w t a2 n2 c2 b2 m2 d2 y) (hK : K ≤ 1000000) (hxy : x = y) :
    Calls Try.prog 62 #[.agg #[.bool s, .slice a1 n1 c1, .slice b1 m1 d1], .agg #[.bool t, .slice a2 n2 c2, .slice b2 m2 d2]] w (fun e w' => e = .returned (.bool true) ∧ Below w.heap.size w w') := by
  have hq := cmpQ_eq hxy
  have hent := ent2 w #[Value.bool s, Value.slice a1 n1 c1, Value.slice b1 m1 d1] #[Value.bool t, Value.slice a2 n2 c2, Value.slice b2 m2 d2] 29 29
  go_enter Try.func62, Try.ntmps62
  go_wp2_with fail
  generalize ((w.alloc (.cells #[Value.bool s, Value.slice a1 n1 c1, Value.slice b1 m1 d1] 29)).alloc (.cells #[Value.bool t, Value.slice a2 n2 c2, Value.slice b2 m2 d2] 29)) = W0 at hent ⊢
  obtain ⟨X_0, Y_0, hbel_0, hsz_0⟩ := hent
  have cX_0_0 : _ = some (Value.bool s) := X_0.cell 0
  have cX_0_1 : _ = some (Value.slice a1 n1 c1) := X_0.cell 1
  have cX_0_2 : _ = some (Value.slice b1 m1 d1) := X_0.cell 2
  have cY_0_0 : _ = some (Value.bool t) := Y_0.cell 0
  have cY_0_1 : _ = some (Value.slice a2 n2 c2) := Y_0.cell 1
  have cY_0_2 : _ = some (Value.slice b2 m2 d2) := Y_0.cell 2
  have hx_0 := hx.below hbel_0
  clear hx
  have hy_0 := hy.below hbel_0
  clear hy
  go_wp2_with fail
  refine (qcmp hx_0 hJ hy_0 hK).mono ?_
  rintro e w1 ⟨rfl, hB⟩
  have hB_1 : Below W0.heap.size W0 w1 := (bl.next hB)
  have X_1 := X_0.next hB_1
  have cX_1_0 : _ = some (Value.bool s) := X_1.cell 0
  have cX_1_1 : _ = some (Value.slice a1 n1 c1) := X_1.cell 1
  have cX_1_2 : _ = some (Value.slice b1 m1 d1) := X_1.cell 2
  have Y_1 := Y_0.next hB_1
  have cY_1_0 : _ = some (Value.bool t) := Y_1.cell 0
  have cY_1_1 : _ = some (Value.slice a2 n2 c2) := Y_1.cell 1
  have cY_1_2 : _ = some (Value.slice b2 m2 d2) := Y_1.cell 2
  have hx_1 := hx_0.below hB_1
  have hy_1 := hy_0.below hB_1
  have hbel_1 := hbel_0.next hB_1
  have hsz_1 := hB_1.size
  clear X_0 cX_0_0 cX_0_1 cX_0_2 Y_0 cY_0_0 cY_0_1 cY_0_2 hx_0 hy_0 hbel_0 hB_1
  try clear hB
  rw [hq]
  go_wp2
  go_ret
  exact ⟨rfl, hbel_1⟩

set_option maxRecDepth 100000 in
set_option maxHeartbeats 4000000 in
theorem lnumber {w : World} (s : ByteArray) (hs : s.size ≤ 4096) (ho : okD (by' s) = true) :
    Calls Try.prog 67 #[.string s] w (Ret1 w (lm (numD (by' s)))) := by
  by_cases h0 : s.size = 0
  · obtain rfl := be_nil h0
    go_enter Try.func67, Try.ntmps67
    go_wp2
    go_ret
    exact ⟨none, 0, 0, rfl, own_nil _ _, Below.refl _ _⟩
  · have hne := be_ne h0
    have hpa := paN_ok (l := by' s) (fun h => h0 (by rw [← by_len, h]; rfl)) ho
    have HV := hid (fun w => parse_any (w := w) s (by omega))
    rw [hpa.1, hpa.2] at HV
    go_enter Try.func67, Try.ntmps67
    go_wp2_with fail
    refine (HV.out _).mono ?_
    rintro e w1 ⟨a, n, c, rfl, hO, hB⟩
    go_wp2
    go_ret
    exact ⟨a, n, c, rfl, hO, hB⟩

/-- one over a power of ten -/
def RetOv (w : World) (N : Nat) (e : Ending) (w' : World) : Prop := ∃ a c b m d, e = .returned (.agg #[.bool false, .slice a 1 c, .slice b m d]) ∧ RdN 1 w' a 1 c 1 ∧ LtB a w'.heap.size ∧ Own w.heap.size w' b m d (lm (10 ^ N)) ∧ Below w.heap.size w w'
theorem dpowN {W : World} {a : Option Addr} {n c : Nat} (h : RdN 1 W a n c 10) (j : Nat) (hj : j ≤ 1024) :
    Calls Try.prog 60 #[.slice a n c, .int .i64 j] W (RetE W (lm (10 ^ j)) 0) := by
  obtain ⟨l, hR, hv, hn⟩ := h
  have hb := nbTen j
  have e1 : pwN 10 (j : Int) = 10 ^ j := by
    unfold pwN
    rw [Int.toNat_natCast, if_pos ⟨by omega, by omega, by omega⟩]
  have e2 : pwE 10 (j : Int) = 0 := by
    unfold pwE
    rw [Int.toNat_natCast, if_pos ⟨by omega, by omega⟩, if_pos (by omega)]
  have := pow_any hR (by omega) (j : Int)
  rwa [hv, e1, e2] at this
theorem rdN_set3 {k : Nat} {W : World} {a : Option Addr} {n c v g : Nat} (h : RdN k W a n c v) (hn : ∀ b o, a = some ⟨b, o, none⟩ → b ≠ g) (v0 v1 v2 : Value) : RdN k (((W.setCell ⟨g, 0, none⟩ v0).setCell ⟨g, 1, none⟩ v1).setCell ⟨g, 2, none⟩ v2) a n c v := by
  have hk := (((Kp.refl (fun j => j = g) W).setCell (ad := ⟨g, 0, none⟩) rfl v0).setCell (ad := ⟨g, 1, none⟩) rfl v1).setCell (ad := ⟨g, 2, none⟩) rfl v2
  obtain ⟨l, hR, r⟩ := h
  exact ⟨l, hR.kp hk hn, r⟩

set_option maxRecDepth 100000 in
set_option maxHeartbeats 4000000 in
theorem lover {w : World} (N : Nat) (hN : N ≤ 1024) :
    Calls Try.prog 65 #[.int .i64 N] w (RetOv w N) := by
  have HP := hid (fun (W : World) (a : Option Addr) (n c : Nat) (h : RdN 1 W a n c 10) => dpowN h N hN)
  unfold RetOv
  obtain ⟨P, hP⟩ : ∃ P, 10 ^ N = P := ⟨_, rfl⟩
  rw [hP] at HP ⊢
  clear hP
  have hent := ent2 w #[Value.bool false, Value.slice none 0 0, Value.slice none 0 0] #[Value.int .u32 10] 29 39
  go_enter Try.func65, Try.ntmps65
  go_wp2_with fail
  generalize ((w.alloc (.cells #[Value.bool false, Value.slice none 0 0, Value.slice none 0 0] 29)).alloc (.cells #[Value.int .u32 10] 39)) = W0 at hent ⊢
  obtain ⟨R_0, TEN_0, hbel_0, hsz_0⟩ := hent
  have cR_0_0 : _ = some (Value.bool false) := R_0.cell 0
  have fR_0_0 := R_0.free 0
  have cR_0_1 : _ = some (Value.slice none 0 0) := R_0.cell 1
  have fR_0_1 := R_0.free 1
  have cR_0_2 : _ = some (Value.slice none 0 0) := R_0.cell 2
  have fR_0_2 := R_0.free 2
  have cTEN_0_0 : _ = some (Value.int .u32 10) := TEN_0.cell 0
  go_wp2_with fail
  refine (HP.out _ _ _ _ (rdN_blk rfl (by decide) TEN_0)).mono ?_
  rintro e w1 ⟨pa, pn, pc, rfl, hO, hB⟩
  have hB_1 : Below W0.heap.size W0 w1 := (bl.next hB)
  have R_1 := R_0.next hB_1
  have cR_1_0 : _ = some (Value.bool false) := R_1.cell 0
  have fR_1_0 := R_1.free 0
  have cR_1_1 : _ = some (Value.slice none 0 0) := R_1.cell 1
  have fR_1_1 := R_1.free 1
  have cR_1_2 : _ = some (Value.slice none 0 0) := R_1.cell 2
  have fR_1_2 := R_1.free 2
  have TEN_1 := TEN_0.next hB_1
  have cTEN_1_0 : _ = some (Value.int .u32 10) := TEN_1.cell 0
  have hbel_1 := hbel_0.next hB_1
  have hsz_1 := hB_1.size
  clear R_0 cR_0_0 fR_0_0 cR_0_1 fR_0_1 cR_0_2 fR_0_2 TEN_0 cTEN_0_0 hbel_0 hB_1
  have P_1 := hO
  have ltP := hO.ltB
  clear hO
  try clear hB
  have hbx := blk_new w1 #[Value.int .u32 1] 39
  have hbB := (Below.refl w1.heap.size w1).alloc (Nat.le_refl _) (.cells #[Value.int .u32 1] 39)
  have hltONE := hbx.lt
  have hB_2 : Below w1.heap.size w1 (w1.alloc (.cells #[Value.int .u32 1] 39)) := hbB
  have R_2 := R_1.next hB_2
  have cR_2_0 : _ = some (Value.bool false) := R_2.cell 0
  have fR_2_0 := R_2.free 0
  have cR_2_1 : _ = some (Value.slice none 0 0) := R_2.cell 1
  have fR_2_1 := R_2.free 1
  have cR_2_2 : _ = some (Value.slice none 0 0) := R_2.cell 2
  have fR_2_2 := R_2.free 2
  have TEN_2 := TEN_1.next hB_2
  have cTEN_2_0 : _ = some (Value.int .u32 10) := TEN_2.cell 0
  have P_2 := P_1.below hB_2
  have hbel_2 := hbel_1.next hB_2
  have hsz_2 := hB_2.size
  clear hB_2
  have ONE_2 := hbx
  clear hbx hbB
  have cONE_2_0 : _ = some (Value.int .u32 1) := ONE_2.cell 0
  go_wp2_with fail
  clear R_1 cR_1_0 fR_1_0 cR_1_1 fR_1_1 cR_1_2 fR_1_2 TEN_1 cTEN_1_0 P_1 hbel_1
  generalize (w1.alloc (.cells #[Value.int .u32 1] 39)) = v2 at *
  have O1_2 := (rdN_blk rfl (by decide) ONE_2 : RdN 1 v2 _ 1 1 1)
  have hbel9 := Below.set3 hbel_2 (show w.heap.size ≤ w.heap.size from Nat.le_refl _) (Value.bool false) (Value.slice (some ⟨w1.heap.size, 0, none⟩) 1 1) (Value.slice pa pn pc)
  have hP9 := (P_2.mono (show W0.heap.size ≤ _ from Nat.le_refl _)).set3 (show w.heap.size < W0.heap.size by omega) (Value.bool false) (Value.slice (some ⟨w1.heap.size, 0, none⟩) 1 1) (Value.slice pa pn pc)
  have hO9 := rdN_set3 O1_2 (g := w.heap.size) (fun b o e => by cases e; omega) (Value.bool false) (Value.slice (some ⟨w1.heap.size, 0, none⟩) 1 1) (Value.slice pa pn pc)
  have hR9 := (show Blk _ _ #[_, _, _] from ((R_2.setCell (i := 0) (v := (Value.bool false)) (by simp)).setCell (i := 1) (v := (Value.slice (some ⟨w1.heap.size, 0, none⟩) 1 1)) (by simp)).setCell (i := 2) (v := (Value.slice pa pn pc)) (by simp))
  have cR9_0 := hR9.cell 0
  have cR9_1 := hR9.cell 1
  have cR9_2 := hR9.cell 2
  have hs9 : v2.heap.size ≤ ((((v2.setCell ⟨w.heap.size, 0, none⟩ (Value.bool false)).setCell ⟨w.heap.size, 1, none⟩ (Value.slice (some ⟨w1.heap.size, 0, none⟩) 1 1)).setCell ⟨w.heap.size, 2, none⟩ (Value.slice pa pn pc))).heap.size := by simp [World.setCell]
  go_wp2_with fail
  generalize (((v2.setCell ⟨w.heap.size, 0, none⟩ (Value.bool false)).setCell ⟨w.heap.size, 1, none⟩ (Value.slice (some ⟨w1.heap.size, 0, none⟩) 1 1)).setCell ⟨w.heap.size, 2, none⟩ (Value.slice pa pn pc)) = v9 at *
  go_wp2
  refine bodyPost_ret (v := .agg #[.bool false, .slice (some ⟨w1.heap.size, 0, none⟩) 1 1, .slice pa pn pc]) (by simp [results, Try.results65, go_sem, cR9_0, cR9_1, cR9_2]) rfl ?_
  exact ⟨_, _, _, _, _, rfl, hO9, (fun g e => by cases e; omega), hP9.mono (by omega), hbel9⟩

end Go.Proofs.Ytnpkmlpmeeidbaa
/- WALKS OF DECIMALS, 13: the outright statements' fraction. -/
namespace Go.Proofs.Ytnpkmlpmeeidbaa
set_option linter.unusedVariables false
set_option linter.unusedSimpArgs false
open Go.ChangeShapes Go.WideShapes Go.ChangeAt Go.RowKit Go.NatP

set_option maxRecDepth 100000 in
set_option maxHeartbeats 8000000 in
theorem lfrac0 {w : World} {a b : Option Addr} {n c m d n1 m1 : Nat} {l k : List Nat} (s : Bool) (ha : Rd w a n c l) (hb : Rd w b m d k) (hn1 : n1 = min n 20) (hm1 : m1 = min m 20) (hv : val (k.take m1) ≠ 0) :
    Calls Try.prog 59 #[.agg #[.bool s, .slice a n c, .slice b m d]] w (RetQ w (qv s (val (l.take n1)) (val (k.take m1)))) := by
  have hmn : min (n : Int) 20 = (n1 : Int) := by omega
  have hmm : min (m : Int) 20 = (m1 : Int) := by omega
  have hnn : n1 ≤ n := by omega
  have hm1' : m1 ≤ m := by omega
  have hn2 : n1 ≤ 20 := by omega
  have hm2 : m1 ≤ 20 := by omega
  have hbn := ha.bnd
  have hbm := hb.bnd
  have hnc : n1 ≤ c := by omega
  have hmd : m1 ≤ d := by omega
  have HA := hid (fun (W : World) (h : Below w.heap.size w W) => (ha.below h).pre (k := n1) hnn)
  have HB := hid (fun (W : World) (h : Below w.heap.size w W) => (hb.below h).pre (k := m1) hm1')
  generalize l.take n1 = L at *
  generalize k.take m1 = M at *
  clear hn1 hm1 ha hb
  have hq : Rat.divInt (zv s (val L)) ((val M : Nat) : Int) = qv s (val L) (val M) := by unfold qv; rw [Rat.divInt_ofNat]; unfold und; rw [if_neg hv]
  generalize qv s (val L) (val M) = q at *
  have hqh := hid hq
  clear hq
  have hvh := hid hv
  clear hv
  have hent := ent3 w #[Value.bool s, Value.slice a n c, Value.slice b m d] #[Value.bool false, Value.slice none 0 0, Value.slice none 0 0] #[Value.bool s, Value.slice none 0 0, Value.slice none 0 0] 29 29 29
  go_enter Try.func59, Try.ntmps59
  go_wp2_with fail
  generalize (((w.alloc (.cells #[Value.bool s, Value.slice a n c, Value.slice b m d] 29)).alloc (.cells #[Value.bool false, Value.slice none 0 0, Value.slice none 0 0] 29)).alloc (.cells #[Value.bool s, Value.slice none 0 0, Value.slice none 0 0] 29)) = W0 at hent ⊢
  obtain ⟨X_0, R_0, B_0, hbel_0, hsz_0⟩ := hent
  have cX_0_0 : _ = some (Value.bool s) := X_0.cell 0
  have cX_0_1 : _ = some (Value.slice a n c) := X_0.cell 1
  have cX_0_2 : _ = some (Value.slice b m d) := X_0.cell 2
  have cR_0_0 : _ = some (Value.bool false) := R_0.cell 0
  have fR_0_0 := R_0.free 0
  have cR_0_1 : _ = some (Value.slice none 0 0) := R_0.cell 1
  have fR_0_1 := R_0.free 1
  have cR_0_2 : _ = some (Value.slice none 0 0) := R_0.cell 2
  have fR_0_2 := R_0.free 2
  have cB_0_0 : _ = some (Value.bool s) := B_0.cell 0
  have fB_0_0 := B_0.free 0
  have cB_0_1 : _ = some (Value.slice none 0 0) := B_0.cell 1
  have fB_0_1 := B_0.free 1
  have cB_0_2 : _ = some (Value.slice none 0 0) := B_0.cell 2
  have fB_0_2 := B_0.free 2
  go_wp2_with fail
  go_cut [] (fun wx => ∃ (La : Option Addr) (Lc : Nat), Blk wx (w.heap.size) #[Value.bool s, Value.slice a n c, Value.slice b m d] ∧ Blk wx (w.heap.size + 1) #[Value.bool false, Value.slice none 0 0, Value.slice none 0 0] ∧ Blk wx (w.heap.size + 1 + 1) #[Value.bool s, Value.slice La n1 Lc, Value.slice none 0 0] ∧ Own W0.heap.size wx La n1 Lc L ∧ Below w.heap.size w wx ∧ W0.heap.size ≤ wx.heap.size)
  case first =>
    go_region_law (refine wp_appRo _ _ rfl rfl (own_nil W0.heap.size _) rfl (HA.out _ (Below.next (show Below w.heap.size w W0 from hbel_0) bl)) (by first | exact Nat.le_refl _ | simp) (by omega) ?_; (intro La Lc w1 hO2 hK2 hf2; have hB : Below W0.heap.size W0 w1 := (show Below W0.heap.size W0 _ from bl).kp hK2 (Nat.le_refl _) (by simp); have hB_1 : Below W0.heap.size W0 w1 := hB; have X_1 := X_0.next hB_1; have cX_1_0 : _ = some (Value.bool s) := X_1.cell 0; have cX_1_1 : _ = some (Value.slice a n c) := X_1.cell 1; have cX_1_2 : _ = some (Value.slice b m d) := X_1.cell 2; have R_1 := R_0.next hB_1; have cR_1_0 : _ = some (Value.bool false) := R_1.cell 0; have fR_1_0 := R_1.free 0; have cR_1_1 : _ = some (Value.slice none 0 0) := R_1.cell 1; have fR_1_1 := R_1.free 1; have cR_1_2 : _ = some (Value.slice none 0 0) := R_1.cell 2; have fR_1_2 := R_1.free 2; have B_1 := B_0.next hB_1; have cB_1_0 : _ = some (Value.bool s) := B_1.cell 0; have fB_1_0 := B_1.free 0; have cB_1_1 : _ = some (Value.slice none 0 0) := B_1.cell 1; have fB_1_1 := B_1.free 1; have cB_1_2 : _ = some (Value.slice none 0 0) := B_1.cell 2; have fB_1_2 := B_1.free 2; have hbel_1 := hbel_0.next hB_1; have hsz_1 := hB_1.size; clear X_0 cX_0_0 cX_0_1 cX_0_2 R_0 cR_0_0 fR_0_0 cR_0_1 fR_0_1 cR_0_2 fR_0_2 B_0 cB_0_0 fB_0_0 cB_0_1 fB_0_1 cB_0_2 fB_0_2 hbel_0 hB_1; rw [Nat.zero_add, List.nil_append] at hO2; have L_1 := hO2; have ltL := hO2.ltB; clear hB hO2 hK2 hf2))
    all_goals (have hkp := ((Kp.refl (fun j => j = w.heap.size + 1 + 1) w1).setCell (ad := ⟨w.heap.size + 1 + 1, 1, none⟩) rfl (Value.slice La n1 Lc)); go_wp2_with fail; go_meet; exact ⟨_, _, X_1.kp hkp (by show ¬ (_ = _); omega), R_1.kp hkp (by show ¬ (_ = _); omega), (show Blk _ _ #[Value.bool s, Value.slice La n1 Lc, Value.slice none 0 0] from B_1.setCell (i := 1) (v := Value.slice La n1 Lc) (by simp)), (L_1.mono (by omega)).kp hkp (fun g e => by have := (L_1.lt' _ e).1; show ¬ (g = _); omega), hbel_1.kp hkp hbel_1.size (fun j hj => by show ¬ (j = _); omega), by have := hkp.size; omega⟩)
  case rest =>
    obtain ⟨La, Lc, hX9, hR9, hB9, h9L, hbel9, hsz9⟩ := hcut
    clear X_0 R_0 B_0 hbel_0 cX_0_0 cX_0_1 cX_0_2 cR_0_0 fR_0_0 cR_0_1 fR_0_1 cR_0_2 fR_0_2 cB_0_0 fB_0_0 cB_0_1 fB_0_1 cB_0_2 fB_0_2
    obtain ⟨wy1, hwy⟩ : ∃ y : World, y = wc := ⟨_, rfl⟩
    subst hwy
    have X_1 := hX9
    have R_1 := hR9
    have B_1 := hB9
    have hbel_1 := hbel9
    have hsz_1 := hsz9
    have cX_1_0 : _ = some (Value.bool s) := X_1.cell 0
    have cX_1_1 : _ = some (Value.slice a n c) := X_1.cell 1
    have cX_1_2 : _ = some (Value.slice b m d) := X_1.cell 2
    have cR_1_0 : _ = some (Value.bool false) := R_1.cell 0
    have fR_1_0 := R_1.free 0
    have cR_1_1 : _ = some (Value.slice none 0 0) := R_1.cell 1
    have fR_1_1 := R_1.free 1
    have cR_1_2 : _ = some (Value.slice none 0 0) := R_1.cell 2
    have fR_1_2 := R_1.free 2
    have cB_1_0 : _ = some (Value.bool s) := B_1.cell 0
    have fB_1_0 := B_1.free 0
    have cB_1_1 : _ = some (Value.slice La n1 Lc) := B_1.cell 1
    have fB_1_1 := B_1.free 1
    have cB_1_2 : _ = some (Value.slice none 0 0) := B_1.cell 2
    have fB_1_2 := B_1.free 2
    have L_1 := h9L
    have ltL := h9L.ltB
    clear hX9 hR9 hB9 hbel9 hsz9 h9L
    go_wp2_with fail
    go_cut [] (fun wx => ∃ (Ma : Option Addr) (Mc : Nat), Blk wx (w.heap.size) #[Value.bool s, Value.slice a n c, Value.slice b m d] ∧ Blk wx (w.heap.size + 1) #[Value.bool false, Value.slice none 0 0, Value.slice none 0 0] ∧ Blk wx (w.heap.size + 1 + 1) #[Value.bool s, Value.slice La n1 Lc, Value.slice Ma m1 Mc] ∧ Own W0.heap.size wx La n1 Lc L ∧ Own W0.heap.size wx Ma m1 Mc M ∧ Below w.heap.size w wx ∧ W0.heap.size ≤ wx.heap.size)
    case first =>
      go_region_law (refine wp_appRo _ _ rfl rfl (own_nil wy1.heap.size _) rfl (HB.out _ (Below.next (show Below w.heap.size w wy1 from hbel_1) bl)) (by first | exact Nat.le_refl _ | simp) (by omega) ?_; (intro Ma Mc w2 hO2 hK2 hf2; have hB : Below wy1.heap.size wy1 w2 := (show Below wy1.heap.size wy1 _ from bl).kp hK2 (Nat.le_refl _) (by simp); have hB_2 : Below wy1.heap.size wy1 w2 := hB; have X_2 := X_1.next hB_2; have cX_2_0 : _ = some (Value.bool s) := X_2.cell 0; have cX_2_1 : _ = some (Value.slice a n c) := X_2.cell 1; have cX_2_2 : _ = some (Value.slice b m d) := X_2.cell 2; have R_2 := R_1.next hB_2; have cR_2_0 : _ = some (Value.bool false) := R_2.cell 0; have fR_2_0 := R_2.free 0; have cR_2_1 : _ = some (Value.slice none 0 0) := R_2.cell 1; have fR_2_1 := R_2.free 1; have cR_2_2 : _ = some (Value.slice none 0 0) := R_2.cell 2; have fR_2_2 := R_2.free 2; have B_2 := B_1.next hB_2; have cB_2_0 : _ = some (Value.bool s) := B_2.cell 0; have fB_2_0 := B_2.free 0; have cB_2_1 : _ = some (Value.slice La n1 Lc) := B_2.cell 1; have fB_2_1 := B_2.free 1; have cB_2_2 : _ = some (Value.slice none 0 0) := B_2.cell 2; have fB_2_2 := B_2.free 2; have L_2 := L_1.below hB_2; have hbel_2 := hbel_1.next hB_2; have hsz_2 := hB_2.size; clear X_1 cX_1_0 cX_1_1 cX_1_2 R_1 cR_1_0 fR_1_0 cR_1_1 fR_1_1 cR_1_2 fR_1_2 B_1 cB_1_0 fB_1_0 cB_1_1 fB_1_1 cB_1_2 fB_1_2 L_1 hbel_1 hB_2; rw [Nat.zero_add, List.nil_append] at hO2; have M_2 := hO2; have ltM := hO2.ltB; clear hB hO2 hK2 hf2))
      all_goals (have hkp := ((Kp.refl (fun j => j = w.heap.size + 1 + 1) w2).setCell (ad := ⟨w.heap.size + 1 + 1, 2, none⟩) rfl (Value.slice Ma m1 Mc)); go_wp2_with fail; go_meet; exact ⟨_, _, X_2.kp hkp (by show ¬ (_ = _); omega), R_2.kp hkp (by show ¬ (_ = _); omega), (show Blk _ _ #[Value.bool s, Value.slice La n1 Lc, Value.slice Ma m1 Mc] from B_2.setCell (i := 2) (v := Value.slice Ma m1 Mc) (by simp)), (L_2.mono (by omega)).kp hkp (fun g e => by have := (L_2.lt' _ e).1; show ¬ (g = _); omega), (M_2.mono (by omega)).kp hkp (fun g e => by have := (M_2.lt' _ e).1; show ¬ (g = _); omega), hbel_2.kp hkp hbel_2.size (fun j hj => by show ¬ (j = _); omega), by have := hkp.size; omega⟩)
    case rest =>
      obtain ⟨Ma, Mc, hX9, hR9, hB9, h9L, h9M, hbel9, hsz9⟩ := hcut
      clear X_1 R_1 B_1 hbel_1 cX_1_0 cX_1_1 cX_1_2 cR_1_0 fR_1_0 cR_1_1 fR_1_1 cR_1_2 fR_1_2 cB_1_0 fB_1_0 cB_1_1 fB_1_1 cB_1_2 fB_1_2 L_1
      obtain ⟨wy2, hwy⟩ : ∃ y : World, y = wc := ⟨_, rfl⟩
      subst hwy
      have X_2 := hX9
      have R_2 := hR9
      have B_2 := hB9
      have hbel_2 := hbel9
      have hsz_2 := hsz9
      have cX_2_0 : _ = some (Value.bool s) := X_2.cell 0
      have cX_2_1 : _ = some (Value.slice a n c) := X_2.cell 1
      have cX_2_2 : _ = some (Value.slice b m d) := X_2.cell 2
      have cR_2_0 : _ = some (Value.bool false) := R_2.cell 0
      have fR_2_0 := R_2.free 0
      have cR_2_1 : _ = some (Value.slice none 0 0) := R_2.cell 1
      have fR_2_1 := R_2.free 1
      have cR_2_2 : _ = some (Value.slice none 0 0) := R_2.cell 2
      have fR_2_2 := R_2.free 2
      have cB_2_0 : _ = some (Value.bool s) := B_2.cell 0
      have fB_2_0 := B_2.free 0
      have cB_2_1 : _ = some (Value.slice La n1 Lc) := B_2.cell 1
      have fB_2_1 := B_2.free 1
      have cB_2_2 : _ = some (Value.slice Ma m1 Mc) := B_2.cell 2
      have fB_2_2 := B_2.free 2
      have L_2 := h9L
      have ltL := h9L.ltB
      have M_2 := h9M
      have ltM := h9M.ltB
      clear hX9 hR9 hB9 hbel9 hsz9 h9L h9M
      go_wp2_with fail
      refine (nnormR (M_2.rd.rdN (k := 20) (by omega)) (by omega)).mono ?_
      rintro e w3 ⟨oa, on, oc, rfl, hO, hB⟩
      have hB_3 : Below wy2.heap.size wy2 w3 := (bl.next hB)
      have X_3 := X_2.next hB_3
      have cX_3_0 : _ = some (Value.bool s) := X_3.cell 0
      have cX_3_1 : _ = some (Value.slice a n c) := X_3.cell 1
      have cX_3_2 : _ = some (Value.slice b m d) := X_3.cell 2
      have R_3 := R_2.next hB_3
      have cR_3_0 : _ = some (Value.bool false) := R_3.cell 0
      have fR_3_0 := R_3.free 0
      have cR_3_1 : _ = some (Value.slice none 0 0) := R_3.cell 1
      have fR_3_1 := R_3.free 1
      have cR_3_2 : _ = some (Value.slice none 0 0) := R_3.cell 2
      have fR_3_2 := R_3.free 2
      have B_3 := B_2.next hB_3
      have cB_3_0 : _ = some (Value.bool s) := B_3.cell 0
      have fB_3_0 := B_3.free 0
      have cB_3_1 : _ = some (Value.slice La n1 Lc) := B_3.cell 1
      have fB_3_1 := B_3.free 1
      have cB_3_2 : _ = some (Value.slice Ma m1 Mc) := B_3.cell 2
      have fB_3_2 := B_3.free 2
      have L_3 := L_2.below hB_3
      have M_3 := M_2.below hB_3
      have hbel_3 := hbel_2.next hB_3
      have hsz_3 := hB_3.size
      clear X_2 cX_2_0 cX_2_1 cX_2_2 R_2 cR_2_0 fR_2_0 cR_2_1 fR_2_1 cR_2_2 fR_2_2 B_2 cB_2_0 fB_2_0 cB_2_1 fB_2_1 cB_2_2 fB_2_2 L_2 M_2 hbel_2 hB_3
      have hon := hO.len
      clear hO
      try clear hB
      have hon0 : on ≠ 0 := fun h => hvh.out (lm_eq_nil.1 (List.eq_nil_of_length_eq_zero (hon.trans h)))
      clear hon
      have D_3 := M_3.rd.rdN (k := 4194304) (by omega)
      have N_3 := (L_3.rd.rdN (k := 4194304) (by omega)).toZ (s := s)
      go_wp2_with fail
      refine (qnorm N_3 D_3).mono ?_
      rw [zE_pos (show (((val M : Nat) : Int) : Int) ≠ 0 by have := hvh.out; omega), hqh.out]
      rintro e w4 ⟨qa, qn, qc, da, dn, dc, rfl, hO, hO', hDq, hB⟩
      have hB_4 : Below w3.heap.size w3 w4 := (bl.next hB)
      have X_4 := X_3.next hB_4
      have cX_4_0 : _ = some (Value.bool s) := X_4.cell 0
      have cX_4_1 : _ = some (Value.slice a n c) := X_4.cell 1
      have cX_4_2 : _ = some (Value.slice b m d) := X_4.cell 2
      have R_4 := R_3.next hB_4
      have cR_4_0 : _ = some (Value.bool false) := R_4.cell 0
      have fR_4_0 := R_4.free 0
      have cR_4_1 : _ = some (Value.slice none 0 0) := R_4.cell 1
      have fR_4_1 := R_4.free 1
      have cR_4_2 : _ = some (Value.slice none 0 0) := R_4.cell 2
      have fR_4_2 := R_4.free 2
      have B_4 := B_3.next hB_4
      have cB_4_0 : _ = some (Value.bool s) := B_4.cell 0
      have fB_4_0 := B_4.free 0
      have cB_4_1 : _ = some (Value.slice La n1 Lc) := B_4.cell 1
      have fB_4_1 := B_4.free 1
      have cB_4_2 : _ = some (Value.slice Ma m1 Mc) := B_4.cell 2
      have fB_4_2 := B_4.free 2
      have L_4 := L_3.below hB_4
      have M_4 := M_3.below hB_4
      have D_4 := D_3.below hB_4
      have N_4 := N_3.below hB_4
      have hbel_4 := hbel_3.next hB_4
      have hsz_4 := hB_4.size
      clear X_3 cX_3_0 cX_3_1 cX_3_2 R_3 cR_3_0 fR_3_0 cR_3_1 fR_3_1 cR_3_2 fR_3_2 B_3 cB_3_0 fB_3_0 cB_3_1 fB_3_1 cB_3_2 fB_3_2 L_3 M_3 D_3 N_3 hbel_3 hB_4
      have OQ_4 := hO
      have ltOQ := hO.ltB
      have OD_4 := hO'
      have ltOD := hO'.ltB
      clear hO hO'
      try clear hB
      have hbx := blk_new w4 #[Value.bool (qsg q 0), Value.slice qa qn qc, Value.slice da dn dc] 29
      have hbB := (Below.refl w4.heap.size w4).alloc (Nat.le_refl _) (.cells #[Value.bool (qsg q 0), Value.slice qa qn qc, Value.slice da dn dc] 29)
      have hltC := hbx.lt
      have hB_5 : Below w4.heap.size w4 (w4.alloc (.cells #[Value.bool (qsg q 0), Value.slice qa qn qc, Value.slice da dn dc] 29)) := hbB
      have X_5 := X_4.next hB_5
      have cX_5_0 : _ = some (Value.bool s) := X_5.cell 0
      have cX_5_1 : _ = some (Value.slice a n c) := X_5.cell 1
      have cX_5_2 : _ = some (Value.slice b m d) := X_5.cell 2
      have R_5 := R_4.next hB_5
      have cR_5_0 : _ = some (Value.bool false) := R_5.cell 0
      have fR_5_0 := R_5.free 0
      have cR_5_1 : _ = some (Value.slice none 0 0) := R_5.cell 1
      have fR_5_1 := R_5.free 1
      have cR_5_2 : _ = some (Value.slice none 0 0) := R_5.cell 2
      have fR_5_2 := R_5.free 2
      have B_5 := B_4.next hB_5
      have cB_5_0 : _ = some (Value.bool s) := B_5.cell 0
      have fB_5_0 := B_5.free 0
      have cB_5_1 : _ = some (Value.slice La n1 Lc) := B_5.cell 1
      have fB_5_1 := B_5.free 1
      have cB_5_2 : _ = some (Value.slice Ma m1 Mc) := B_5.cell 2
      have fB_5_2 := B_5.free 2
      have L_5 := L_4.below hB_5
      have M_5 := M_4.below hB_5
      have D_5 := D_4.below hB_5
      have N_5 := N_4.below hB_5
      have OQ_5 := OQ_4.below hB_5
      have OD_5 := OD_4.below hB_5
      have hbel_5 := hbel_4.next hB_5
      have hsz_5 := hB_5.size
      clear hB_5
      have C_5 := hbx
      clear hbx hbB
      have cC_5_0 : _ = some (Value.bool (qsg q 0)) := C_5.cell 0
      have cC_5_1 : _ = some (Value.slice qa qn qc) := C_5.cell 1
      have cC_5_2 : _ = some (Value.slice da dn dc) := C_5.cell 2
      go_wp2_with fail
      clear X_4 cX_4_0 cX_4_1 cX_4_2 R_4 cR_4_0 fR_4_0 cR_4_1 fR_4_1 cR_4_2 fR_4_2 B_4 cB_4_0 fB_4_0 cB_4_1 fB_4_1 cB_4_2 fB_4_2 L_4 M_4 D_4 N_4 OQ_4 OD_4 hbel_4
      generalize (w4.alloc (.cells #[Value.bool (qsg q 0), Value.slice qa qn qc, Value.slice da dn dc] 29)) = v5 at *
      have R_6 := (show Blk _ _ #[Value.bool (qsg q 0), Value.slice qa qn qc, Value.slice da dn dc] from ((R_5.setCell (i := 0) (v := Value.bool (qsg q 0)) (by simp)).setCell (i := 1) (v := Value.slice qa qn qc) (by simp)).setCell (i := 2) (v := Value.slice da dn dc) (by simp))
      have X_6 := X_5.set3 (show w.heap.size ≠ w.heap.size + 1 by omega) (Value.bool (qsg q 0)) (Value.slice qa qn qc) (Value.slice da dn dc)
      have B_6 := B_5.set3 (show w.heap.size + 1 + 1 ≠ w.heap.size + 1 by omega) (Value.bool (qsg q 0)) (Value.slice qa qn qc) (Value.slice da dn dc)
      have C_6 := C_5.set3 (show w4.heap.size ≠ w.heap.size + 1 by omega) (Value.bool (qsg q 0)) (Value.slice qa qn qc) (Value.slice da dn dc)
      have OQ_6 := OQ_5.set3 (show w.heap.size + 1 < _ by omega) (Value.bool (qsg q 0)) (Value.slice qa qn qc) (Value.slice da dn dc)
      have OD_6 := OD_5.set3 (show w.heap.size + 1 < _ by omega) (Value.bool (qsg q 0)) (Value.slice qa qn qc) (Value.slice da dn dc)
      have hbel_6 := Below.set3 hbel_5 (show w.heap.size ≤ w.heap.size + 1 by omega) (Value.bool (qsg q 0)) (Value.slice qa qn qc) (Value.slice da dn dc)
      have hsz_6 : v5.heap.size ≤ (((v5.setCell ⟨w.heap.size + 1, 0, none⟩ (Value.bool (qsg q 0))).setCell ⟨w.heap.size + 1, 1, none⟩ (Value.slice qa qn qc)).setCell ⟨w.heap.size + 1, 2, none⟩ (Value.slice da dn dc)).heap.size := by simp [World.setCell]
      have cX_6_0 : _ = some (Value.bool s) := X_6.cell 0
      have cX_6_1 : _ = some (Value.slice a n c) := X_6.cell 1
      have cX_6_2 : _ = some (Value.slice b m d) := X_6.cell 2
      have cR_6_0 : _ = some (Value.bool (qsg q 0)) := R_6.cell 0
      have fR_6_0 := R_6.free 0
      have cR_6_1 : _ = some (Value.slice qa qn qc) := R_6.cell 1
      have fR_6_1 := R_6.free 1
      have cR_6_2 : _ = some (Value.slice da dn dc) := R_6.cell 2
      have fR_6_2 := R_6.free 2
      have cB_6_0 : _ = some (Value.bool s) := B_6.cell 0
      have fB_6_0 := B_6.free 0
      have cB_6_1 : _ = some (Value.slice La n1 Lc) := B_6.cell 1
      have fB_6_1 := B_6.free 1
      have cB_6_2 : _ = some (Value.slice Ma m1 Mc) := B_6.cell 2
      have fB_6_2 := B_6.free 2
      have cC_6_0 : _ = some (Value.bool (qsg q 0)) := C_6.cell 0
      have cC_6_1 : _ = some (Value.slice qa qn qc) := C_6.cell 1
      have cC_6_2 : _ = some (Value.slice da dn dc) := C_6.cell 2
      go_wp2_with fail
      clear X_5 R_5 B_5 C_5 cX_5_0 cX_5_1 cX_5_2 cR_5_0 fR_5_0 cR_5_1 fR_5_1 cR_5_2 fR_5_2 cB_5_0 fB_5_0 cB_5_1 fB_5_1 cB_5_2 fB_5_2 cC_5_0 cC_5_1 cC_5_2 L_5 M_5 D_5 N_5 OQ_5 OD_5 hbel_5
      generalize (((v5.setCell ⟨w.heap.size + 1, 0, none⟩ (Value.bool (qsg q 0))).setCell ⟨w.heap.size + 1, 1, none⟩ (Value.slice qa qn qc)).setCell ⟨w.heap.size + 1, 2, none⟩ (Value.slice da dn dc)) = v6 at *
      go_wp2
      refine bodyPost_ret (v := .agg #[.bool (qsg q 0), .slice qa qn qc, .slice da dn dc]) (by simp [results, Try.results59, go_sem, cR_6_0, cR_6_1, cR_6_2, cB_6_0, cB_6_1, cB_6_2]) rfl ?_
      exact ⟨_, _, _, _, _, _, rfl, OQ_6.mono (by omega), OD_6.mono (by omega), hDq, hbel_6⟩

set_option maxRecDepth 100000 in
set_option maxHeartbeats 8000000 in
theorem lfrac1 {w : World} {a b : Option Addr} {n c m d n1 m1 : Nat} {l k : List Nat} (s : Bool) (ha : Rd w a n c l) (hb : Rd w b m d k) (hn1 : n1 = min n 20) (hm1 : m1 = min m 20) (hv : val (k.take m1) = 0) :
    Calls Try.prog 59 #[.agg #[.bool s, .slice a n c, .slice b m d]] w (RetQ w (qv s (val (l.take n1)) (val (k.take m1)))) := by
  have hmn : min (n : Int) 20 = (n1 : Int) := by omega
  have hmm : min (m : Int) 20 = (m1 : Int) := by omega
  have hnn : n1 ≤ n := by omega
  have hm1' : m1 ≤ m := by omega
  have hn2 : n1 ≤ 20 := by omega
  have hm2 : m1 ≤ 20 := by omega
  have hbn := ha.bnd
  have hbm := hb.bnd
  have hnc : n1 ≤ c := by omega
  have hmd : m1 ≤ d := by omega
  have HA := hid (fun (W : World) (h : Below w.heap.size w W) => (ha.below h).pre (k := n1) hnn)
  have HB := hid (fun (W : World) (h : Below w.heap.size w W) => (hb.below h).pre (k := m1) hm1')
  generalize l.take n1 = L at *
  generalize k.take m1 = M at *
  clear hn1 hm1 ha hb
  have hq : Rat.divInt (zv s (val L)) ((1 : Nat) : Int) = qv s (val L) (val M) := by unfold qv; rw [Rat.divInt_ofNat]; unfold und; rw [if_pos hv]
  generalize qv s (val L) (val M) = q at *
  have hqh := hid hq
  clear hq
  have hvh := hid hv
  clear hv
  have hent := ent3 w #[Value.bool s, Value.slice a n c, Value.slice b m d] #[Value.bool false, Value.slice none 0 0, Value.slice none 0 0] #[Value.bool s, Value.slice none 0 0, Value.slice none 0 0] 29 29 29
  go_enter Try.func59, Try.ntmps59
  go_wp2_with fail
  generalize (((w.alloc (.cells #[Value.bool s, Value.slice a n c, Value.slice b m d] 29)).alloc (.cells #[Value.bool false, Value.slice none 0 0, Value.slice none 0 0] 29)).alloc (.cells #[Value.bool s, Value.slice none 0 0, Value.slice none 0 0] 29)) = W0 at hent ⊢
  obtain ⟨X_0, R_0, B_0, hbel_0, hsz_0⟩ := hent
  have cX_0_0 : _ = some (Value.bool s) := X_0.cell 0
  have cX_0_1 : _ = some (Value.slice a n c) := X_0.cell 1
  have cX_0_2 : _ = some (Value.slice b m d) := X_0.cell 2
  have cR_0_0 : _ = some (Value.bool false) := R_0.cell 0
  have fR_0_0 := R_0.free 0
  have cR_0_1 : _ = some (Value.slice none 0 0) := R_0.cell 1
  have fR_0_1 := R_0.free 1
  have cR_0_2 : _ = some (Value.slice none 0 0) := R_0.cell 2
  have fR_0_2 := R_0.free 2
  have cB_0_0 : _ = some (Value.bool s) := B_0.cell 0
  have fB_0_0 := B_0.free 0
  have cB_0_1 : _ = some (Value.slice none 0 0) := B_0.cell 1
  have fB_0_1 := B_0.free 1
  have cB_0_2 : _ = some (Value.slice none 0 0) := B_0.cell 2
  have fB_0_2 := B_0.free 2
  go_wp2_with fail
  go_cut [] (fun wx => ∃ (La : Option Addr) (Lc : Nat), Blk wx (w.heap.size) #[Value.bool s, Value.slice a n c, Value.slice b m d] ∧ Blk wx (w.heap.size + 1) #[Value.bool false, Value.slice none 0 0, Value.slice none 0 0] ∧ Blk wx (w.heap.size + 1 + 1) #[Value.bool s, Value.slice La n1 Lc, Value.slice none 0 0] ∧ Own W0.heap.size wx La n1 Lc L ∧ Below w.heap.size w wx ∧ W0.heap.size ≤ wx.heap.size)
  case first =>
    go_region_law (refine wp_appRo _ _ rfl rfl (own_nil W0.heap.size _) rfl (HA.out _ (Below.next (show Below w.heap.size w W0 from hbel_0) bl)) (by first | exact Nat.le_refl _ | simp) (by omega) ?_; (intro La Lc w1 hO2 hK2 hf2; have hB : Below W0.heap.size W0 w1 := (show Below W0.heap.size W0 _ from bl).kp hK2 (Nat.le_refl _) (by simp); have hB_1 : Below W0.heap.size W0 w1 := hB; have X_1 := X_0.next hB_1; have cX_1_0 : _ = some (Value.bool s) := X_1.cell 0; have cX_1_1 : _ = some (Value.slice a n c) := X_1.cell 1; have cX_1_2 : _ = some (Value.slice b m d) := X_1.cell 2; have R_1 := R_0.next hB_1; have cR_1_0 : _ = some (Value.bool false) := R_1.cell 0; have fR_1_0 := R_1.free 0; have cR_1_1 : _ = some (Value.slice none 0 0) := R_1.cell 1; have fR_1_1 := R_1.free 1; have cR_1_2 : _ = some (Value.slice none 0 0) := R_1.cell 2; have fR_1_2 := R_1.free 2; have B_1 := B_0.next hB_1; have cB_1_0 : _ = some (Value.bool s) := B_1.cell 0; have fB_1_0 := B_1.free 0; have cB_1_1 : _ = some (Value.slice none 0 0) := B_1.cell 1; have fB_1_1 := B_1.free 1; have cB_1_2 : _ = some (Value.slice none 0 0) := B_1.cell 2; have fB_1_2 := B_1.free 2; have hbel_1 := hbel_0.next hB_1; have hsz_1 := hB_1.size; clear X_0 cX_0_0 cX_0_1 cX_0_2 R_0 cR_0_0 fR_0_0 cR_0_1 fR_0_1 cR_0_2 fR_0_2 B_0 cB_0_0 fB_0_0 cB_0_1 fB_0_1 cB_0_2 fB_0_2 hbel_0 hB_1; rw [Nat.zero_add, List.nil_append] at hO2; have L_1 := hO2; have ltL := hO2.ltB; clear hB hO2 hK2 hf2))
    all_goals (have hkp := ((Kp.refl (fun j => j = w.heap.size + 1 + 1) w1).setCell (ad := ⟨w.heap.size + 1 + 1, 1, none⟩) rfl (Value.slice La n1 Lc)); go_wp2_with fail; go_meet; exact ⟨_, _, X_1.kp hkp (by show ¬ (_ = _); omega), R_1.kp hkp (by show ¬ (_ = _); omega), (show Blk _ _ #[Value.bool s, Value.slice La n1 Lc, Value.slice none 0 0] from B_1.setCell (i := 1) (v := Value.slice La n1 Lc) (by simp)), (L_1.mono (by omega)).kp hkp (fun g e => by have := (L_1.lt' _ e).1; show ¬ (g = _); omega), hbel_1.kp hkp hbel_1.size (fun j hj => by show ¬ (j = _); omega), by have := hkp.size; omega⟩)
  case rest =>
    obtain ⟨La, Lc, hX9, hR9, hB9, h9L, hbel9, hsz9⟩ := hcut
    clear X_0 R_0 B_0 hbel_0 cX_0_0 cX_0_1 cX_0_2 cR_0_0 fR_0_0 cR_0_1 fR_0_1 cR_0_2 fR_0_2 cB_0_0 fB_0_0 cB_0_1 fB_0_1 cB_0_2 fB_0_2
    obtain ⟨wy1, hwy⟩ : ∃ y : World, y = wc := ⟨_, rfl⟩
    subst hwy
    have X_1 := hX9
    have R_1 := hR9
    have B_1 := hB9
    have hbel_1 := hbel9
    have hsz_1 := hsz9
    have cX_1_0 : _ = some (Value.bool s) := X_1.cell 0
    have cX_1_1 : _ = some (Value.slice a n c) := X_1.cell 1
    have cX_1_2 : _ = some (Value.slice b m d) := X_1.cell 2
    have cR_1_0 : _ = some (Value.bool false) := R_1.cell 0
    have fR_1_0 := R_1.free 0
    have cR_1_1 : _ = some (Value.slice none 0 0) := R_1.cell 1
    have fR_1_1 := R_1.free 1
    have cR_1_2 : _ = some (Value.slice none 0 0) := R_1.cell 2
    have fR_1_2 := R_1.free 2
    have cB_1_0 : _ = some (Value.bool s) := B_1.cell 0
    have fB_1_0 := B_1.free 0
    have cB_1_1 : _ = some (Value.slice La n1 Lc) := B_1.cell 1
    have fB_1_1 := B_1.free 1
    have cB_1_2 : _ = some (Value.slice none 0 0) := B_1.cell 2
    have fB_1_2 := B_1.free 2
    have L_1 := h9L
    have ltL := h9L.ltB
    clear hX9 hR9 hB9 hbel9 hsz9 h9L
    go_wp2_with fail
    go_cut [] (fun wx => ∃ (Ma : Option Addr) (Mc : Nat), Blk wx (w.heap.size) #[Value.bool s, Value.slice a n c, Value.slice b m d] ∧ Blk wx (w.heap.size + 1) #[Value.bool false, Value.slice none 0 0, Value.slice none 0 0] ∧ Blk wx (w.heap.size + 1 + 1) #[Value.bool s, Value.slice La n1 Lc, Value.slice Ma m1 Mc] ∧ Own W0.heap.size wx La n1 Lc L ∧ Own W0.heap.size wx Ma m1 Mc M ∧ Below w.heap.size w wx ∧ W0.heap.size ≤ wx.heap.size)
    case first =>
      go_region_law (refine wp_appRo _ _ rfl rfl (own_nil wy1.heap.size _) rfl (HB.out _ (Below.next (show Below w.heap.size w wy1 from hbel_1) bl)) (by first | exact Nat.le_refl _ | simp) (by omega) ?_; (intro Ma Mc w2 hO2 hK2 hf2; have hB : Below wy1.heap.size wy1 w2 := (show Below wy1.heap.size wy1 _ from bl).kp hK2 (Nat.le_refl _) (by simp); have hB_2 : Below wy1.heap.size wy1 w2 := hB; have X_2 := X_1.next hB_2; have cX_2_0 : _ = some (Value.bool s) := X_2.cell 0; have cX_2_1 : _ = some (Value.slice a n c) := X_2.cell 1; have cX_2_2 : _ = some (Value.slice b m d) := X_2.cell 2; have R_2 := R_1.next hB_2; have cR_2_0 : _ = some (Value.bool false) := R_2.cell 0; have fR_2_0 := R_2.free 0; have cR_2_1 : _ = some (Value.slice none 0 0) := R_2.cell 1; have fR_2_1 := R_2.free 1; have cR_2_2 : _ = some (Value.slice none 0 0) := R_2.cell 2; have fR_2_2 := R_2.free 2; have B_2 := B_1.next hB_2; have cB_2_0 : _ = some (Value.bool s) := B_2.cell 0; have fB_2_0 := B_2.free 0; have cB_2_1 : _ = some (Value.slice La n1 Lc) := B_2.cell 1; have fB_2_1 := B_2.free 1; have cB_2_2 : _ = some (Value.slice none 0 0) := B_2.cell 2; have fB_2_2 := B_2.free 2; have L_2 := L_1.below hB_2; have hbel_2 := hbel_1.next hB_2; have hsz_2 := hB_2.size; clear X_1 cX_1_0 cX_1_1 cX_1_2 R_1 cR_1_0 fR_1_0 cR_1_1 fR_1_1 cR_1_2 fR_1_2 B_1 cB_1_0 fB_1_0 cB_1_1 fB_1_1 cB_1_2 fB_1_2 L_1 hbel_1 hB_2; rw [Nat.zero_add, List.nil_append] at hO2; have M_2 := hO2; have ltM := hO2.ltB; clear hB hO2 hK2 hf2))
      all_goals (have hkp := ((Kp.refl (fun j => j = w.heap.size + 1 + 1) w2).setCell (ad := ⟨w.heap.size + 1 + 1, 2, none⟩) rfl (Value.slice Ma m1 Mc)); go_wp2_with fail; go_meet; exact ⟨_, _, X_2.kp hkp (by show ¬ (_ = _); omega), R_2.kp hkp (by show ¬ (_ = _); omega), (show Blk _ _ #[Value.bool s, Value.slice La n1 Lc, Value.slice Ma m1 Mc] from B_2.setCell (i := 2) (v := Value.slice Ma m1 Mc) (by simp)), (L_2.mono (by omega)).kp hkp (fun g e => by have := (L_2.lt' _ e).1; show ¬ (g = _); omega), (M_2.mono (by omega)).kp hkp (fun g e => by have := (M_2.lt' _ e).1; show ¬ (g = _); omega), hbel_2.kp hkp hbel_2.size (fun j hj => by show ¬ (j = _); omega), by have := hkp.size; omega⟩)
    case rest =>
      obtain ⟨Ma, Mc, hX9, hR9, hB9, h9L, h9M, hbel9, hsz9⟩ := hcut
      clear X_1 R_1 B_1 hbel_1 cX_1_0 cX_1_1 cX_1_2 cR_1_0 fR_1_0 cR_1_1 fR_1_1 cR_1_2 fR_1_2 cB_1_0 fB_1_0 cB_1_1 fB_1_1 cB_1_2 fB_1_2 L_1
      obtain ⟨wy2, hwy⟩ : ∃ y : World, y = wc := ⟨_, rfl⟩
      subst hwy
      have X_2 := hX9
      have R_2 := hR9
      have B_2 := hB9
      have hbel_2 := hbel9
      have hsz_2 := hsz9
      have cX_2_0 : _ = some (Value.bool s) := X_2.cell 0
      have cX_2_1 : _ = some (Value.slice a n c) := X_2.cell 1
      have cX_2_2 : _ = some (Value.slice b m d) := X_2.cell 2
      have cR_2_0 : _ = some (Value.bool false) := R_2.cell 0
      have fR_2_0 := R_2.free 0
      have cR_2_1 : _ = some (Value.slice none 0 0) := R_2.cell 1
      have fR_2_1 := R_2.free 1
      have cR_2_2 : _ = some (Value.slice none 0 0) := R_2.cell 2
      have fR_2_2 := R_2.free 2
      have cB_2_0 : _ = some (Value.bool s) := B_2.cell 0
      have fB_2_0 := B_2.free 0
      have cB_2_1 : _ = some (Value.slice La n1 Lc) := B_2.cell 1
      have fB_2_1 := B_2.free 1
      have cB_2_2 : _ = some (Value.slice Ma m1 Mc) := B_2.cell 2
      have fB_2_2 := B_2.free 2
      have L_2 := h9L
      have ltL := h9L.ltB
      have M_2 := h9M
      have ltM := h9M.ltB
      clear hX9 hR9 hB9 hbel9 hsz9 h9L h9M
      go_wp2_with fail
      refine (nnormR (M_2.rd.rdN (k := 20) (by omega)) (by omega)).mono ?_
      rintro e w3 ⟨oa, on, oc, rfl, hO, hB⟩
      have hB_3 : Below wy2.heap.size wy2 w3 := (bl.next hB)
      have X_3 := X_2.next hB_3
      have cX_3_0 : _ = some (Value.bool s) := X_3.cell 0
      have cX_3_1 : _ = some (Value.slice a n c) := X_3.cell 1
      have cX_3_2 : _ = some (Value.slice b m d) := X_3.cell 2
      have R_3 := R_2.next hB_3
      have cR_3_0 : _ = some (Value.bool false) := R_3.cell 0
      have fR_3_0 := R_3.free 0
      have cR_3_1 : _ = some (Value.slice none 0 0) := R_3.cell 1
      have fR_3_1 := R_3.free 1
      have cR_3_2 : _ = some (Value.slice none 0 0) := R_3.cell 2
      have fR_3_2 := R_3.free 2
      have B_3 := B_2.next hB_3
      have cB_3_0 : _ = some (Value.bool s) := B_3.cell 0
      have fB_3_0 := B_3.free 0
      have cB_3_1 : _ = some (Value.slice La n1 Lc) := B_3.cell 1
      have fB_3_1 := B_3.free 1
      have cB_3_2 : _ = some (Value.slice Ma m1 Mc) := B_3.cell 2
      have fB_3_2 := B_3.free 2
      have L_3 := L_2.below hB_3
      have M_3 := M_2.below hB_3
      have hbel_3 := hbel_2.next hB_3
      have hsz_3 := hB_3.size
      clear X_2 cX_2_0 cX_2_1 cX_2_2 R_2 cR_2_0 fR_2_0 cR_2_1 fR_2_1 cR_2_2 fR_2_2 B_2 cB_2_0 fB_2_0 cB_2_1 fB_2_1 cB_2_2 fB_2_2 L_2 M_2 hbel_2 hB_3
      have hon := hO.len
      clear hO
      try clear hB
      have hon0 : on = 0 := by rw [← hon, hvh.out]; rfl
      subst hon0
      clear hon
      have hbx := blk_new w3 #[Value.int .u32 1] 39
      have hbB := (Below.refl w3.heap.size w3).alloc (Nat.le_refl _) (.cells #[Value.int .u32 1] 39)
      have hltONE := hbx.lt
      have hB_4 : Below w3.heap.size w3 (w3.alloc (.cells #[Value.int .u32 1] 39)) := hbB
      have X_4 := X_3.next hB_4
      have cX_4_0 : _ = some (Value.bool s) := X_4.cell 0
      have cX_4_1 : _ = some (Value.slice a n c) := X_4.cell 1
      have cX_4_2 : _ = some (Value.slice b m d) := X_4.cell 2
      have R_4 := R_3.next hB_4
      have cR_4_0 : _ = some (Value.bool false) := R_4.cell 0
      have fR_4_0 := R_4.free 0
      have cR_4_1 : _ = some (Value.slice none 0 0) := R_4.cell 1
      have fR_4_1 := R_4.free 1
      have cR_4_2 : _ = some (Value.slice none 0 0) := R_4.cell 2
      have fR_4_2 := R_4.free 2
      have B_4 := B_3.next hB_4
      have cB_4_0 : _ = some (Value.bool s) := B_4.cell 0
      have fB_4_0 := B_4.free 0
      have cB_4_1 : _ = some (Value.slice La n1 Lc) := B_4.cell 1
      have fB_4_1 := B_4.free 1
      have cB_4_2 : _ = some (Value.slice Ma m1 Mc) := B_4.cell 2
      have fB_4_2 := B_4.free 2
      have L_4 := L_3.below hB_4
      have M_4 := M_3.below hB_4
      have hbel_4 := hbel_3.next hB_4
      have hsz_4 := hB_4.size
      clear hB_4
      have ONE_4 := hbx
      clear hbx hbB
      have cONE_4_0 : _ = some (Value.int .u32 1) := ONE_4.cell 0
      have O1_4 := (show Own w3.heap.size _ (some ⟨_, 0, none⟩) 1 1 [1] from own_one _ _ 1 (by omega) (Nat.le_refl _))
      go_wp2_with fail
      clear X_3 cX_3_0 cX_3_1 cX_3_2 R_3 cR_3_0 fR_3_0 cR_3_1 fR_3_1 cR_3_2 fR_3_2 B_3 cB_3_0 fB_3_0 cB_3_1 fB_3_1 cB_3_2 fB_3_2 L_3 M_3 hbel_3
      generalize (w3.alloc (.cells #[Value.int .u32 1] 39)) = v4 at *
      have hkp := ((Kp.refl (fun j => j = w.heap.size + 1 + 1) v4).setCell (ad := ⟨w.heap.size + 1 + 1, 2, none⟩) rfl (Value.slice (some ⟨w3.heap.size, 0, none⟩) 1 1))
      have B_5 := (show Blk _ _ #[Value.bool s, Value.slice La n1 Lc, Value.slice (some ⟨w3.heap.size, 0, none⟩) 1 1] from (B_4).setCell (i := 2) (v := Value.slice (some ⟨w3.heap.size, 0, none⟩) 1 1) (by simp))
      have X_5 := X_4.kp hkp (by show ¬ (w.heap.size = w.heap.size + 1 + 1); omega)
      have R_5 := R_4.kp hkp (by show ¬ (w.heap.size + 1 = w.heap.size + 1 + 1); omega)
      have ONE_5 := ONE_4.kp hkp (by show ¬ (w3.heap.size = w.heap.size + 1 + 1); omega)
      have L_5 := L_4.kp hkp (fun g e => by have := (L_4.lt' _ e).1; show ¬ (g = _); omega)
      have O1_5 := O1_4.kp hkp (fun g e => by have := (O1_4.lt' _ e).1; show ¬ (g = _); omega)
      have hbel_5 := hbel_4.kp hkp hbel_4.size (fun j hj => by show ¬ (j = w.heap.size + 1 + 1); omega)
      have hsz_5 := hkp.size
      have cX_5_0 : _ = some (Value.bool s) := X_5.cell 0
      have cX_5_1 : _ = some (Value.slice a n c) := X_5.cell 1
      have cX_5_2 : _ = some (Value.slice b m d) := X_5.cell 2
      have cR_5_0 : _ = some (Value.bool false) := R_5.cell 0
      have fR_5_0 := R_5.free 0
      have cR_5_1 : _ = some (Value.slice none 0 0) := R_5.cell 1
      have fR_5_1 := R_5.free 1
      have cR_5_2 : _ = some (Value.slice none 0 0) := R_5.cell 2
      have fR_5_2 := R_5.free 2
      have cB_5_0 : _ = some (Value.bool s) := B_5.cell 0
      have fB_5_0 := B_5.free 0
      have cB_5_1 : _ = some (Value.slice La n1 Lc) := B_5.cell 1
      have fB_5_1 := B_5.free 1
      have cB_5_2 : _ = some (Value.slice (some ⟨w3.heap.size, 0, none⟩) 1 1) := B_5.cell 2
      have fB_5_2 := B_5.free 2
      have cONE_5_0 : _ = some (Value.int .u32 1) := ONE_5.cell 0
      go_wp2_with fail
      clear X_4 R_4 B_4 ONE_4 cX_4_0 cX_4_1 cX_4_2 cR_4_0 fR_4_0 cR_4_1 fR_4_1 cR_4_2 fR_4_2 cB_4_0 fB_4_0 cB_4_1 fB_4_1 cB_4_2 fB_4_2 cONE_4_0 L_4 M_4 O1_4 hbel_4 hkp
      generalize (v4.setCell ⟨w.heap.size + 1 + 1, 2, none⟩ (Value.slice (some ⟨w3.heap.size, 0, none⟩) 1 1)) = v5 at *
      have D_5 : RdN 4194304 v5 (some ⟨w3.heap.size, 0, none⟩) 1 1 1 := ⟨[1], O1_5.rd, rfl, by omega⟩
      have N_5 := (L_5.rd.rdN (k := 4194304) (by omega)).toZ (s := s)
      go_wp2_with fail
      refine (qnorm N_5 D_5).mono ?_
      rw [zE_pos (show (((1 : Nat) : Int) : Int) ≠ 0 by decide), hqh.out]
      rintro e w6 ⟨qa, qn, qc, da, dn, dc, rfl, hO, hO', hDq, hB⟩
      have hB_6 : Below v5.heap.size v5 w6 := (bl.next hB)
      have X_6 := X_5.next hB_6
      have cX_6_0 : _ = some (Value.bool s) := X_6.cell 0
      have cX_6_1 : _ = some (Value.slice a n c) := X_6.cell 1
      have cX_6_2 : _ = some (Value.slice b m d) := X_6.cell 2
      have R_6 := R_5.next hB_6
      have cR_6_0 : _ = some (Value.bool false) := R_6.cell 0
      have fR_6_0 := R_6.free 0
      have cR_6_1 : _ = some (Value.slice none 0 0) := R_6.cell 1
      have fR_6_1 := R_6.free 1
      have cR_6_2 : _ = some (Value.slice none 0 0) := R_6.cell 2
      have fR_6_2 := R_6.free 2
      have B_6 := B_5.next hB_6
      have cB_6_0 : _ = some (Value.bool s) := B_6.cell 0
      have fB_6_0 := B_6.free 0
      have cB_6_1 : _ = some (Value.slice La n1 Lc) := B_6.cell 1
      have fB_6_1 := B_6.free 1
      have cB_6_2 : _ = some (Value.slice (some ⟨w3.heap.size, 0, none⟩) 1 1) := B_6.cell 2
      have fB_6_2 := B_6.free 2
      have ONE_6 := ONE_5.next hB_6
      have cONE_6_0 : _ = some (Value.int .u32 1) := ONE_6.cell 0
      have L_6 := L_5.below hB_6
      have O1_6 := O1_5.below hB_6
      have D_6 := D_5.below hB_6
      have N_6 := N_5.below hB_6
      have hbel_6 := hbel_5.next hB_6
      have hsz_6 := hB_6.size
      clear X_5 cX_5_0 cX_5_1 cX_5_2 R_5 cR_5_0 fR_5_0 cR_5_1 fR_5_1 cR_5_2 fR_5_2 B_5 cB_5_0 fB_5_0 cB_5_1 fB_5_1 cB_5_2 fB_5_2 ONE_5 cONE_5_0 L_5 O1_5 D_5 N_5 hbel_5 hB_6
      have OQ_6 := hO
      have ltOQ := hO.ltB
      have OD_6 := hO'
      have ltOD := hO'.ltB
      clear hO hO'
      try clear hB
      have hbx := blk_new w6 #[Value.bool (qsg q 0), Value.slice qa qn qc, Value.slice da dn dc] 29
      have hbB := (Below.refl w6.heap.size w6).alloc (Nat.le_refl _) (.cells #[Value.bool (qsg q 0), Value.slice qa qn qc, Value.slice da dn dc] 29)
      have hltC := hbx.lt
      have hB_7 : Below w6.heap.size w6 (w6.alloc (.cells #[Value.bool (qsg q 0), Value.slice qa qn qc, Value.slice da dn dc] 29)) := hbB
      have X_7 := X_6.next hB_7
      have cX_7_0 : _ = some (Value.bool s) := X_7.cell 0
      have cX_7_1 : _ = some (Value.slice a n c) := X_7.cell 1
      have cX_7_2 : _ = some (Value.slice b m d) := X_7.cell 2
      have R_7 := R_6.next hB_7
      have cR_7_0 : _ = some (Value.bool false) := R_7.cell 0
      have fR_7_0 := R_7.free 0
      have cR_7_1 : _ = some (Value.slice none 0 0) := R_7.cell 1
      have fR_7_1 := R_7.free 1
      have cR_7_2 : _ = some (Value.slice none 0 0) := R_7.cell 2
      have fR_7_2 := R_7.free 2
      have B_7 := B_6.next hB_7
      have cB_7_0 : _ = some (Value.bool s) := B_7.cell 0
      have fB_7_0 := B_7.free 0
      have cB_7_1 : _ = some (Value.slice La n1 Lc) := B_7.cell 1
      have fB_7_1 := B_7.free 1
      have cB_7_2 : _ = some (Value.slice (some ⟨w3.heap.size, 0, none⟩) 1 1) := B_7.cell 2
      have fB_7_2 := B_7.free 2
      have ONE_7 := ONE_6.next hB_7
      have cONE_7_0 : _ = some (Value.int .u32 1) := ONE_7.cell 0
      have L_7 := L_6.below hB_7
      have O1_7 := O1_6.below hB_7
      have D_7 := D_6.below hB_7
      have N_7 := N_6.below hB_7
      have OQ_7 := OQ_6.below hB_7
      have OD_7 := OD_6.below hB_7
      have hbel_7 := hbel_6.next hB_7
      have hsz_7 := hB_7.size
      clear hB_7
      have C_7 := hbx
      clear hbx hbB
      have cC_7_0 : _ = some (Value.bool (qsg q 0)) := C_7.cell 0
      have cC_7_1 : _ = some (Value.slice qa qn qc) := C_7.cell 1
      have cC_7_2 : _ = some (Value.slice da dn dc) := C_7.cell 2
      go_wp2_with fail
      clear X_6 cX_6_0 cX_6_1 cX_6_2 R_6 cR_6_0 fR_6_0 cR_6_1 fR_6_1 cR_6_2 fR_6_2 B_6 cB_6_0 fB_6_0 cB_6_1 fB_6_1 cB_6_2 fB_6_2 ONE_6 cONE_6_0 L_6 O1_6 D_6 N_6 OQ_6 OD_6 hbel_6
      generalize (w6.alloc (.cells #[Value.bool (qsg q 0), Value.slice qa qn qc, Value.slice da dn dc] 29)) = v7 at *
      have R_8 := (show Blk _ _ #[Value.bool (qsg q 0), Value.slice qa qn qc, Value.slice da dn dc] from ((R_7.setCell (i := 0) (v := Value.bool (qsg q 0)) (by simp)).setCell (i := 1) (v := Value.slice qa qn qc) (by simp)).setCell (i := 2) (v := Value.slice da dn dc) (by simp))
      have X_8 := X_7.set3 (show w.heap.size ≠ w.heap.size + 1 by omega) (Value.bool (qsg q 0)) (Value.slice qa qn qc) (Value.slice da dn dc)
      have B_8 := B_7.set3 (show w.heap.size + 1 + 1 ≠ w.heap.size + 1 by omega) (Value.bool (qsg q 0)) (Value.slice qa qn qc) (Value.slice da dn dc)
      have ONE_8 := ONE_7.set3 (show w3.heap.size ≠ w.heap.size + 1 by omega) (Value.bool (qsg q 0)) (Value.slice qa qn qc) (Value.slice da dn dc)
      have C_8 := C_7.set3 (show w6.heap.size ≠ w.heap.size + 1 by omega) (Value.bool (qsg q 0)) (Value.slice qa qn qc) (Value.slice da dn dc)
      have OQ_8 := OQ_7.set3 (show w.heap.size + 1 < _ by omega) (Value.bool (qsg q 0)) (Value.slice qa qn qc) (Value.slice da dn dc)
      have OD_8 := OD_7.set3 (show w.heap.size + 1 < _ by omega) (Value.bool (qsg q 0)) (Value.slice qa qn qc) (Value.slice da dn dc)
      have hbel_8 := Below.set3 hbel_7 (show w.heap.size ≤ w.heap.size + 1 by omega) (Value.bool (qsg q 0)) (Value.slice qa qn qc) (Value.slice da dn dc)
      have hsz_8 : v7.heap.size ≤ (((v7.setCell ⟨w.heap.size + 1, 0, none⟩ (Value.bool (qsg q 0))).setCell ⟨w.heap.size + 1, 1, none⟩ (Value.slice qa qn qc)).setCell ⟨w.heap.size + 1, 2, none⟩ (Value.slice da dn dc)).heap.size := by simp [World.setCell]
      have cX_8_0 : _ = some (Value.bool s) := X_8.cell 0
      have cX_8_1 : _ = some (Value.slice a n c) := X_8.cell 1
      have cX_8_2 : _ = some (Value.slice b m d) := X_8.cell 2
      have cR_8_0 : _ = some (Value.bool (qsg q 0)) := R_8.cell 0
      have fR_8_0 := R_8.free 0
      have cR_8_1 : _ = some (Value.slice qa qn qc) := R_8.cell 1
      have fR_8_1 := R_8.free 1
      have cR_8_2 : _ = some (Value.slice da dn dc) := R_8.cell 2
      have fR_8_2 := R_8.free 2
      have cB_8_0 : _ = some (Value.bool s) := B_8.cell 0
      have fB_8_0 := B_8.free 0
      have cB_8_1 : _ = some (Value.slice La n1 Lc) := B_8.cell 1
      have fB_8_1 := B_8.free 1
      have cB_8_2 : _ = some (Value.slice (some ⟨w3.heap.size, 0, none⟩) 1 1) := B_8.cell 2
      have fB_8_2 := B_8.free 2
      have cONE_8_0 : _ = some (Value.int .u32 1) := ONE_8.cell 0
      have cC_8_0 : _ = some (Value.bool (qsg q 0)) := C_8.cell 0
      have cC_8_1 : _ = some (Value.slice qa qn qc) := C_8.cell 1
      have cC_8_2 : _ = some (Value.slice da dn dc) := C_8.cell 2
      go_wp2_with fail
      clear X_7 R_7 B_7 ONE_7 C_7 cX_7_0 cX_7_1 cX_7_2 cR_7_0 fR_7_0 cR_7_1 fR_7_1 cR_7_2 fR_7_2 cB_7_0 fB_7_0 cB_7_1 fB_7_1 cB_7_2 fB_7_2 cONE_7_0 cC_7_0 cC_7_1 cC_7_2 L_7 O1_7 D_7 N_7 OQ_7 OD_7 hbel_7
      generalize (((v7.setCell ⟨w.heap.size + 1, 0, none⟩ (Value.bool (qsg q 0))).setCell ⟨w.heap.size + 1, 1, none⟩ (Value.slice qa qn qc)).setCell ⟨w.heap.size + 1, 2, none⟩ (Value.slice da dn dc)) = v8 at *
      go_wp2
      refine bodyPost_ret (v := .agg #[.bool (qsg q 0), .slice qa qn qc, .slice da dn dc]) (by simp [results, Try.results59, go_sem, cR_8_0, cR_8_1, cR_8_2, cB_8_0, cB_8_1, cB_8_2]) rfl ?_
      exact ⟨_, _, _, _, _, _, rfl, OQ_8.mono (by omega), OD_8.mono (by omega), hDq, hbel_8⟩

theorem lfrac {w : World} {a b : Option Addr} {n c m d : Nat} {l k : List Nat} (s : Bool) (ha : Rd w a n c l) (hb : Rd w b m d k) :
    ∃ q, QS q 20 ∧ Hid (∀ W, Below w.heap.size w W → Calls Try.prog 59 #[.agg #[.bool s, .slice a n c, .slice b m d]] W (fun e w' => RetQ W q e w')) := by
  obtain ⟨n1, hn1⟩ : ∃ y, y = min n 20 := ⟨_, rfl⟩
  obtain ⟨m1, hm1⟩ : ∃ y, y = min m 20 := ⟨_, rfl⟩
  refine ⟨qv s (val (l.take n1)) (val (k.take m1)), ?_, fun W hW => ?_⟩
  · exact QS.qv (by omega) ((ha.pre (k := n1) (by omega)).rdN (k := 20) (by omega)).sz ((hb.pre (k := m1) (by omega)).rdN (k := 20) (by omega)).sz
  · by_cases hv : val (k.take m1) = 0
    · exact lfrac1 s (ha.below hW) (hb.below hW) hn1 hm1 hv
    · exact lfrac0 s (ha.below hW) (hb.below hW) hn1 hm1 hv

end Go.Proofs.Ytnpkmlpmeeidbaa
