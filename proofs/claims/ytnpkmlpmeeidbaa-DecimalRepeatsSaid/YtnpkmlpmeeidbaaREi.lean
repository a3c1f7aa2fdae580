/- WALKS OF DECIMALS, 7: how many digits are needed; fractions written exactly, by the program and by the document. -/
import Derived.Test.YtnpkmlpmeeidbaaREc
namespace Go.Proofs.Ytnpkmlpmeeidbaa
set_option linter.unusedVariables false
set_option linter.unusedSimpArgs false
open Go.ChangeShapes Go.WideShapes Go.ChangeAt Go.RowKit Go.NatP

/-- a text, and whether there is one -/
def RetSB (w : World) (t : ByteArray) (b : Bool) (e : Ending) (w' : World) : Prop := e = .returned (.tuple #[.string t, .bool b]) ∧ Below w.heap.size w w'
/-- a fraction written exactly: as many digits as are needed -/
def exV2 (s : Bool) (v d : Nat) : Option Nat → ByteArray
  | some n => if s = true then ⟨#[45]⟩ ++ txt (ptd (v * 10 ^ n / d) n) else txt (ptd (v * 10 ^ n / d) n)
  | none => ⟨#[]⟩
theorem exV2_some (s : Bool) (v d n : Nat) : exV2 s v d (some n) = if s = true then ⟨#[45]⟩ ++ txt (ptd (v * 10 ^ n / d) n) else txt (ptd (v * 10 ^ n / d) n) := rfl
def exT2 (q : Rat) (R : Option Nat) : ByteArray := exV2 (decide (q.num < 0)) q.num.natAbs q.den R
theorem cmp_one {v : Nat} : cmpI v 1 = 0 ↔ v = 1 := by unfold cmpI; split <;> (try split) <;> omega

set_option maxRecDepth 100000 in
set_option maxHeartbeats 4000000 in
theorem dexact0 {w : World} {a1 b1 : Option Addr} {n1 c1 m1 d1 : Nat} {s : Bool} {x : Rat} {J : Nat} (hx : RdQ J w s a1 n1 c1 b1 m1 d1 x) (hJ : J ≤ 1000000) (N : Nat) (hR : ExIs x.den (some N)) (hn : decide (x.num < 0) = false) :
    Calls Try.prog 57 #[.agg #[.bool s, .slice a1 n1 c1, .slice b1 m1 d1]] w (RetSB w (exT2 x (some N)) true) := by
  obtain ⟨s0, hs0⟩ : ∃ s, decide (x.num < 0) = s := ⟨_, rfl⟩
  obtain ⟨v, hv0⟩ : ∃ v, x.num.natAbs = v := ⟨_, rfl⟩
  obtain ⟨d, hd0⟩ : ∃ d, x.den = d := ⟨_, rfl⟩
  have hdz : d ≠ 0 := by rw [← hd0]; exact x.den_nz
  have hqs := (hx.mono (Nat.le_succ J)).qs (by omega)
  obtain ⟨sv, sd⟩ := hqs
  rw [hv0] at sv
  rw [hd0] at sd hR
  obtain ⟨K, hK1, hK2⟩ : ∃ K, J + 8300 ≤ K ∧ K ≤ 1100000 := ⟨J + 8300, Nat.le_refl _, by omega⟩
  rw [hs0] at hn
  subst hn
  have HP := hid (fun W (h : Below w.heap.size w W) => dparts (hx.below h) hJ)
  rw [hs0, hv0, hd0] at HP
  have hdh := hid hdz
  obtain ⟨e1, e2, hN⟩ := ex_some hR
  have hsT0 := szTen N
  obtain ⟨T, hT0⟩ : ∃ T, 10 ^ N = T := ⟨_, rfl⟩
  rw [hT0] at hsT0
  have hsP := (sv.mul hsT0).mono (Nat.le_refl _) (show J.succ + (N + 1) ≤ K by omega)
  obtain ⟨Q, hQ0⟩ : ∃ y, v * T / d = y := ⟨_, rfl⟩
  have sQ : Sz Q K := hsP.mono (by rw [← hQ0]; exact Nat.div_le_self _ _) (Nat.le_refl _)
  have hsz := ptd_sz (k := N) sQ
  have hV : exT2 x (some N) = txt (ptd Q N) := by unfold exT2; rw [hs0, hv0, hd0, exV2_some, hT0, hQ0]; exact if_neg (by decide)
  rw [hV]
  have hsT := hid (hsT0.mono (Nat.le_refl _) (show N + 1 ≤ K by omega))
  have hsPh := hid hsP
  have hsQ := hid sQ
  have hQ := hid hQ0
  have HT := hid (fun w => dten (w := w) N (by omega))
  rw [hT0] at HT
  have s2 := hid (show Sz 2 1 from by show 2 < 4294967296 ^ 1; omega)
  have s5 := hid (show Sz 5 1 from by show 5 < 4294967296 ^ 1; omega)
  have hsv := hid (sv.mono (Nat.le_refl _) (show J.succ ≤ K by omega))
  have hsd := hid (sd.mono (Nat.le_refl _) (show J.succ ≤ K by omega))
  obtain ⟨o2, ho2⟩ : ∃ o, outN 2 4097 d = o := ⟨_, rfl⟩
  rw [ho2] at e1 e2
  obtain ⟨o5, ho5⟩ : ∃ o, outN 5 4097 o2.1 = o := ⟨_, rfl⟩
  rw [ho5] at e1 e2
  obtain ⟨r2, t2⟩ := o2
  obtain ⟨r5, t5⟩ := o5
  simp only [] at e1 e2 ho5
  subst e2
  have HO2 := hid (fun (W : World) {a b : Option Addr} {n c m d' : Nat} (h : RdN K W a n c d) (h' : RdN 1 W b m d' 2) => dout h (by omega) h' (by decide) (show 4096 ≤ 1000000 by omega))
  have HO5 := hid (fun (W : World) {a b : Option Addr} {n c m d' : Nat} (h : RdN K W a n c r2) (h' : RdN 1 W b m d' 5) => dout h (by omega) h' (by decide) (show 4096 ≤ 1000000 by omega))
  unfold RetOut at HO2 HO5
  rw [show 4096 + 1 = 4097 from rfl, ho2] at HO2
  rw [show 4096 + 1 = 4097 from rfl, ho5] at HO5
  simp only [] at HO2 HO5
  have ht2 : t2 ≤ N := by omega
  have ht5 : t5 ≤ N := by omega
  have hc1 : cmpI 1 1 = 0 := rfl
  have hch := hid hc1
  clear ho2 ho5 hR hT0 hQ0 hV hsT0 hsP sQ hc1 sv sd hv0 hd0 hs0 hdz hx
  have hmax : max (t2 : Int) (t5 : Int) = (N : Int) := by omega
  have hent := ent1 w #[Value.bool s, Value.slice a1 n1 c1, Value.slice b1 m1 d1] 29
  go_enter Try.func57, Try.ntmps57
  go_wp2_with fail
  generalize (w.alloc (.cells #[Value.bool s, Value.slice a1 n1 c1, Value.slice b1 m1 d1] 29)) = W0 at hent ⊢
  obtain ⟨X_0, hbel_0, hsz_0⟩ := hent
  have cX_0_0 : _ = some (Value.bool s) := X_0.cell 0
  have cX_0_1 : _ = some (Value.slice a1 n1 c1) := X_0.cell 1
  have cX_0_2 : _ = some (Value.slice b1 m1 d1) := X_0.cell 2
  go_wp2_with fail
  refine (HP.out _ hbel_0).mono ?_
  rintro e w1 ⟨na, nn, nc, da, dn, dc, rfl, hO, hO', hB⟩
  have hB_1 : Below W0.heap.size W0 w1 := (bl.next hB)
  have X_1 := X_0.next hB_1
  have cX_1_0 : _ = some (Value.bool s) := X_1.cell 0
  have cX_1_1 : _ = some (Value.slice a1 n1 c1) := X_1.cell 1
  have cX_1_2 : _ = some (Value.slice b1 m1 d1) := X_1.cell 2
  have hbel_1 := hbel_0.next hB_1
  have hsz_1 := hB_1.size
  clear X_0 cX_0_0 cX_0_1 cX_0_2 hbel_0 hB_1
  have V_1 := hO.rdN hsv.out
  have D_1 := hO'.rdN hsd.out
  clear hO hO'
  try clear hB
  go_wp2_with fail
  refine (of_any 2 (by omega) (by omega)).mono ?_
  rintro e w2 ⟨oa, on, oc, rfl, hO, hB⟩
  have hB_2 : Below w1.heap.size w1 w2 := (bl.next hB)
  have X_2 := X_1.next hB_2
  have cX_2_0 : _ = some (Value.bool s) := X_2.cell 0
  have cX_2_1 : _ = some (Value.slice a1 n1 c1) := X_2.cell 1
  have cX_2_2 : _ = some (Value.slice b1 m1 d1) := X_2.cell 2
  have V_2 := V_1.below hB_2
  have D_2 := D_1.below hB_2
  have hbel_2 := hbel_1.next hB_2
  have hsz_2 := hB_2.size
  clear X_1 cX_1_0 cX_1_1 cX_1_2 V_1 D_1 hbel_1 hB_2
  have T2_2 := hO.rdN (v := 2) s2.out
  clear hO
  try clear hB
  go_wp2_with fail
  refine (HO2.out _ D_2 T2_2).mono ?_
  rintro e w3 ⟨xa, xn, xc, rfl, hA, hB⟩
  have hB_3 : Below w2.heap.size w2 w3 := (bl.next hB)
  have X_3 := X_2.next hB_3
  have cX_3_0 : _ = some (Value.bool s) := X_3.cell 0
  have cX_3_1 : _ = some (Value.slice a1 n1 c1) := X_3.cell 1
  have cX_3_2 : _ = some (Value.slice b1 m1 d1) := X_3.cell 2
  have V_3 := V_2.below hB_3
  have D_3 := D_2.below hB_3
  have T2_3 := T2_2.below hB_3
  have hbel_3 := hbel_2.next hB_3
  have hsz_3 := hB_3.size
  clear X_2 cX_2_0 cX_2_1 cX_2_2 V_2 D_2 T2_2 hbel_2 hB_3
  have A_3 := hA
  clear hA
  try clear hB
  go_wp2_with fail
  refine (of_any 5 (by omega) (by omega)).mono ?_
  rintro e w4 ⟨pa, pn, pc, rfl, hO, hB⟩
  have hB_4 : Below w3.heap.size w3 w4 := (bl.next hB)
  have X_4 := X_3.next hB_4
  have cX_4_0 : _ = some (Value.bool s) := X_4.cell 0
  have cX_4_1 : _ = some (Value.slice a1 n1 c1) := X_4.cell 1
  have cX_4_2 : _ = some (Value.slice b1 m1 d1) := X_4.cell 2
  have V_4 := V_3.below hB_4
  have D_4 := D_3.below hB_4
  have T2_4 := T2_3.below hB_4
  have A_4 := A_3.below hB_4
  have hbel_4 := hbel_3.next hB_4
  have hsz_4 := hB_4.size
  clear X_3 cX_3_0 cX_3_1 cX_3_2 V_3 D_3 T2_3 A_3 hbel_3 hB_4
  have T5_4 := hO.rdN (v := 5) s5.out
  clear hO
  try clear hB
  go_wp2_with fail
  refine (HO5.out _ A_4 T5_4).mono ?_
  rintro e w5 ⟨ya, yn, yc, rfl, hA, hB⟩
  have hB_5 : Below w4.heap.size w4 w5 := (bl.next hB)
  have X_5 := X_4.next hB_5
  have cX_5_0 : _ = some (Value.bool s) := X_5.cell 0
  have cX_5_1 : _ = some (Value.slice a1 n1 c1) := X_5.cell 1
  have cX_5_2 : _ = some (Value.slice b1 m1 d1) := X_5.cell 2
  have V_5 := V_4.below hB_5
  have D_5 := D_4.below hB_5
  have T2_5 := T2_4.below hB_5
  have A_5 := A_4.below hB_5
  have T5_5 := T5_4.below hB_5
  have hbel_5 := hbel_4.next hB_5
  have hsz_5 := hB_5.size
  clear X_4 cX_4_0 cX_4_1 cX_4_2 V_4 D_4 T2_4 A_4 T5_4 hbel_4 hB_5
  have E_5 := hA
  clear hA
  try clear hB
  clear T2_5
  clear T5_5
  clear A_5
  go_wp2_with fail
  refine (of_any 1 (by omega) (by omega)).mono ?_
  rintro e w6 ⟨ua, un, uc, rfl, hO, hB⟩
  have hB_6 : Below w5.heap.size w5 w6 := (bl.next hB)
  have X_6 := X_5.next hB_6
  have cX_6_0 : _ = some (Value.bool s) := X_6.cell 0
  have cX_6_1 : _ = some (Value.slice a1 n1 c1) := X_6.cell 1
  have cX_6_2 : _ = some (Value.slice b1 m1 d1) := X_6.cell 2
  have V_6 := V_5.below hB_6
  have D_6 := D_5.below hB_6
  have E_6 := E_5.below hB_6
  have hbel_6 := hbel_5.next hB_6
  have hsz_6 := hB_6.size
  clear X_5 cX_5_0 cX_5_1 cX_5_2 V_5 D_5 E_5 hbel_5 hB_6
  have U_6 := hO.rdN (v := 1) (k := 1) (sz_one (Nat.le_refl _))
  clear hO
  try clear hB
  go_wp2_with fail
  refine (ncmpR E_6 U_6).mono ?_
  rw [hch.out]
  rintro e w7 ⟨rfl, hB⟩
  have hB_7 : Below w6.heap.size w6 w7 := (bl.next hB)
  have X_7 := X_6.next hB_7
  have cX_7_0 : _ = some (Value.bool s) := X_7.cell 0
  have cX_7_1 : _ = some (Value.slice a1 n1 c1) := X_7.cell 1
  have cX_7_2 : _ = some (Value.slice b1 m1 d1) := X_7.cell 2
  have V_7 := V_6.below hB_7
  have D_7 := D_6.below hB_7
  have E_7 := E_6.below hB_7
  have U_7 := U_6.below hB_7
  have hbel_7 := hbel_6.next hB_7
  have hsz_7 := hB_7.size
  clear X_6 cX_6_0 cX_6_1 cX_6_2 V_6 D_6 E_6 U_6 hbel_6 hB_7
  try clear hB
  clear E_7
  clear U_7
  go_wp2_with fail
  refine (HT.out _).mono ?_
  rintro e w8 ⟨ka, kn, kc, rfl, hO, hB⟩
  have hB_8 : Below w7.heap.size w7 w8 := (bl.next hB)
  have X_8 := X_7.next hB_8
  have cX_8_0 : _ = some (Value.bool s) := X_8.cell 0
  have cX_8_1 : _ = some (Value.slice a1 n1 c1) := X_8.cell 1
  have cX_8_2 : _ = some (Value.slice b1 m1 d1) := X_8.cell 2
  have V_8 := V_7.below hB_8
  have D_8 := D_7.below hB_8
  have hbel_8 := hbel_7.next hB_8
  have hsz_8 := hB_8.size
  clear X_7 cX_7_0 cX_7_1 cX_7_2 V_7 D_7 hbel_7 hB_8
  have TK_8 := hO.rdN hsT.out
  clear hO
  try clear hB
  go_wp2_with fail
  refine (nmulR V_8 TK_8 (by omega) (by omega)).mono ?_
  rintro e w9 ⟨ma, mn, mc, rfl, hO, hB⟩
  have hB_9 : Below w8.heap.size w8 w9 := (bl.next hB)
  have X_9 := X_8.next hB_9
  have cX_9_0 : _ = some (Value.bool s) := X_9.cell 0
  have cX_9_1 : _ = some (Value.slice a1 n1 c1) := X_9.cell 1
  have cX_9_2 : _ = some (Value.slice b1 m1 d1) := X_9.cell 2
  have V_9 := V_8.below hB_9
  have D_9 := D_8.below hB_9
  have TK_9 := TK_8.below hB_9
  have hbel_9 := hbel_8.next hB_9
  have hsz_9 := hB_9.size
  clear X_8 cX_8_0 cX_8_1 cX_8_2 V_8 D_8 TK_8 hbel_8 hB_9
  have M_9 := hO.rdN hsPh.out
  clear hO
  try clear hB
  clear V_9
  clear TK_9
  go_wp2_with fail
  refine (ndivR M_9 D_9 (by omega) (by omega) hdh.out).mono ?_
  rw [hQ.out]
  rintro e w10 ⟨qa, qn, qc, ra, rn, rc, rfl, hO, hO', hD, hB⟩
  have hB_10 : Below w9.heap.size w9 w10 := (bl.next hB)
  have X_10 := X_9.next hB_10
  have cX_10_0 : _ = some (Value.bool s) := X_10.cell 0
  have cX_10_1 : _ = some (Value.slice a1 n1 c1) := X_10.cell 1
  have cX_10_2 : _ = some (Value.slice b1 m1 d1) := X_10.cell 2
  have D_10 := D_9.below hB_10
  have M_10 := M_9.below hB_10
  have hbel_10 := hbel_9.next hB_10
  have hsz_10 := hB_10.size
  clear X_9 cX_9_0 cX_9_1 cX_9_2 D_9 M_9 hbel_9 hB_10
  have Q_10 := hO.rdN hsQ.out
  clear hO hO' hD
  try clear hB
  clear M_10
  clear D_10
  go_wp2_with fail
  refine (dpt Q_10 (by omega) N (by omega)).mono ?_
  rintro e w11 ⟨rfl, hB⟩
  have hB_11 : Below w10.heap.size w10 w11 := (bl.next hB)
  have X_11 := X_10.next hB_11
  have cX_11_0 : _ = some (Value.bool s) := X_11.cell 0
  have cX_11_1 : _ = some (Value.slice a1 n1 c1) := X_11.cell 1
  have cX_11_2 : _ = some (Value.slice b1 m1 d1) := X_11.cell 2
  have Q_11 := Q_10.below hB_11
  have hbel_11 := hbel_10.next hB_11
  have hsz_11 := hB_11.size
  clear X_10 cX_10_0 cX_10_1 cX_10_2 Q_10 hbel_10 hB_11
  try clear hB
  generalize txt (ptd Q N) = S at *
  go_wp2
  go_ret2
  exact ⟨rfl, hbel_11⟩

set_option maxRecDepth 100000 in
set_option maxHeartbeats 4000000 in
theorem dexact1 {w : World} {a1 b1 : Option Addr} {n1 c1 m1 d1 : Nat} {s : Bool} {x : Rat} {J : Nat} (hx : RdQ J w s a1 n1 c1 b1 m1 d1 x) (hJ : J ≤ 1000000) (N : Nat) (hR : ExIs x.den (some N)) (hn : decide (x.num < 0) = true) :
    Calls Try.prog 57 #[.agg #[.bool s, .slice a1 n1 c1, .slice b1 m1 d1]] w (RetSB w (exT2 x (some N)) true) := by
  obtain ⟨s0, hs0⟩ : ∃ s, decide (x.num < 0) = s := ⟨_, rfl⟩
  obtain ⟨v, hv0⟩ : ∃ v, x.num.natAbs = v := ⟨_, rfl⟩
  obtain ⟨d, hd0⟩ : ∃ d, x.den = d := ⟨_, rfl⟩
  have hdz : d ≠ 0 := by rw [← hd0]; exact x.den_nz
  have hqs := (hx.mono (Nat.le_succ J)).qs (by omega)
  obtain ⟨sv, sd⟩ := hqs
  rw [hv0] at sv
  rw [hd0] at sd hR
  obtain ⟨K, hK1, hK2⟩ : ∃ K, J + 8300 ≤ K ∧ K ≤ 1100000 := ⟨J + 8300, Nat.le_refl _, by omega⟩
  rw [hs0] at hn
  subst hn
  have HP := hid (fun W (h : Below w.heap.size w W) => dparts (hx.below h) hJ)
  rw [hs0, hv0, hd0] at HP
  have hdh := hid hdz
  obtain ⟨e1, e2, hN⟩ := ex_some hR
  have hsT0 := szTen N
  obtain ⟨T, hT0⟩ : ∃ T, 10 ^ N = T := ⟨_, rfl⟩
  rw [hT0] at hsT0
  have hsP := (sv.mul hsT0).mono (Nat.le_refl _) (show J.succ + (N + 1) ≤ K by omega)
  obtain ⟨Q, hQ0⟩ : ∃ y, v * T / d = y := ⟨_, rfl⟩
  have sQ : Sz Q K := hsP.mono (by rw [← hQ0]; exact Nat.div_le_self _ _) (Nat.le_refl _)
  have hsz := ptd_sz (k := N) sQ
  have hV : exT2 x (some N) = ⟨#[45]⟩ ++ txt (ptd Q N) := by unfold exT2; rw [hs0, hv0, hd0, exV2_some, hT0, hQ0]; exact if_pos rfl
  rw [hV]
  have hsT := hid (hsT0.mono (Nat.le_refl _) (show N + 1 ≤ K by omega))
  have hsPh := hid hsP
  have hsQ := hid sQ
  have hQ := hid hQ0
  have HT := hid (fun w => dten (w := w) N (by omega))
  rw [hT0] at HT
  have s2 := hid (show Sz 2 1 from by show 2 < 4294967296 ^ 1; omega)
  have s5 := hid (show Sz 5 1 from by show 5 < 4294967296 ^ 1; omega)
  have hsv := hid (sv.mono (Nat.le_refl _) (show J.succ ≤ K by omega))
  have hsd := hid (sd.mono (Nat.le_refl _) (show J.succ ≤ K by omega))
  obtain ⟨o2, ho2⟩ : ∃ o, outN 2 4097 d = o := ⟨_, rfl⟩
  rw [ho2] at e1 e2
  obtain ⟨o5, ho5⟩ : ∃ o, outN 5 4097 o2.1 = o := ⟨_, rfl⟩
  rw [ho5] at e1 e2
  obtain ⟨r2, t2⟩ := o2
  obtain ⟨r5, t5⟩ := o5
  simp only [] at e1 e2 ho5
  subst e2
  have HO2 := hid (fun (W : World) {a b : Option Addr} {n c m d' : Nat} (h : RdN K W a n c d) (h' : RdN 1 W b m d' 2) => dout h (by omega) h' (by decide) (show 4096 ≤ 1000000 by omega))
  have HO5 := hid (fun (W : World) {a b : Option Addr} {n c m d' : Nat} (h : RdN K W a n c r2) (h' : RdN 1 W b m d' 5) => dout h (by omega) h' (by decide) (show 4096 ≤ 1000000 by omega))
  unfold RetOut at HO2 HO5
  rw [show 4096 + 1 = 4097 from rfl, ho2] at HO2
  rw [show 4096 + 1 = 4097 from rfl, ho5] at HO5
  simp only [] at HO2 HO5
  have ht2 : t2 ≤ N := by omega
  have ht5 : t5 ≤ N := by omega
  have hc1 : cmpI 1 1 = 0 := rfl
  have hch := hid hc1
  clear ho2 ho5 hR hT0 hQ0 hV hsT0 hsP sQ hc1 sv sd hv0 hd0 hs0 hdz hx
  have hmax : max (t2 : Int) (t5 : Int) = (N : Int) := by omega
  have hent := ent1 w #[Value.bool s, Value.slice a1 n1 c1, Value.slice b1 m1 d1] 29
  go_enter Try.func57, Try.ntmps57
  go_wp2_with fail
  generalize (w.alloc (.cells #[Value.bool s, Value.slice a1 n1 c1, Value.slice b1 m1 d1] 29)) = W0 at hent ⊢
  obtain ⟨X_0, hbel_0, hsz_0⟩ := hent
  have cX_0_0 : _ = some (Value.bool s) := X_0.cell 0
  have cX_0_1 : _ = some (Value.slice a1 n1 c1) := X_0.cell 1
  have cX_0_2 : _ = some (Value.slice b1 m1 d1) := X_0.cell 2
  go_wp2_with fail
  refine (HP.out _ hbel_0).mono ?_
  rintro e w1 ⟨na, nn, nc, da, dn, dc, rfl, hO, hO', hB⟩
  have hB_1 : Below W0.heap.size W0 w1 := (bl.next hB)
  have X_1 := X_0.next hB_1
  have cX_1_0 : _ = some (Value.bool s) := X_1.cell 0
  have cX_1_1 : _ = some (Value.slice a1 n1 c1) := X_1.cell 1
  have cX_1_2 : _ = some (Value.slice b1 m1 d1) := X_1.cell 2
  have hbel_1 := hbel_0.next hB_1
  have hsz_1 := hB_1.size
  clear X_0 cX_0_0 cX_0_1 cX_0_2 hbel_0 hB_1
  have V_1 := hO.rdN hsv.out
  have D_1 := hO'.rdN hsd.out
  clear hO hO'
  try clear hB
  go_wp2_with fail
  refine (of_any 2 (by omega) (by omega)).mono ?_
  rintro e w2 ⟨oa, on, oc, rfl, hO, hB⟩
  have hB_2 : Below w1.heap.size w1 w2 := (bl.next hB)
  have X_2 := X_1.next hB_2
  have cX_2_0 : _ = some (Value.bool s) := X_2.cell 0
  have cX_2_1 : _ = some (Value.slice a1 n1 c1) := X_2.cell 1
  have cX_2_2 : _ = some (Value.slice b1 m1 d1) := X_2.cell 2
  have V_2 := V_1.below hB_2
  have D_2 := D_1.below hB_2
  have hbel_2 := hbel_1.next hB_2
  have hsz_2 := hB_2.size
  clear X_1 cX_1_0 cX_1_1 cX_1_2 V_1 D_1 hbel_1 hB_2
  have T2_2 := hO.rdN (v := 2) s2.out
  clear hO
  try clear hB
  go_wp2_with fail
  refine (HO2.out _ D_2 T2_2).mono ?_
  rintro e w3 ⟨xa, xn, xc, rfl, hA, hB⟩
  have hB_3 : Below w2.heap.size w2 w3 := (bl.next hB)
  have X_3 := X_2.next hB_3
  have cX_3_0 : _ = some (Value.bool s) := X_3.cell 0
  have cX_3_1 : _ = some (Value.slice a1 n1 c1) := X_3.cell 1
  have cX_3_2 : _ = some (Value.slice b1 m1 d1) := X_3.cell 2
  have V_3 := V_2.below hB_3
  have D_3 := D_2.below hB_3
  have T2_3 := T2_2.below hB_3
  have hbel_3 := hbel_2.next hB_3
  have hsz_3 := hB_3.size
  clear X_2 cX_2_0 cX_2_1 cX_2_2 V_2 D_2 T2_2 hbel_2 hB_3
  have A_3 := hA
  clear hA
  try clear hB
  go_wp2_with fail
  refine (of_any 5 (by omega) (by omega)).mono ?_
  rintro e w4 ⟨pa, pn, pc, rfl, hO, hB⟩
  have hB_4 : Below w3.heap.size w3 w4 := (bl.next hB)
  have X_4 := X_3.next hB_4
  have cX_4_0 : _ = some (Value.bool s) := X_4.cell 0
  have cX_4_1 : _ = some (Value.slice a1 n1 c1) := X_4.cell 1
  have cX_4_2 : _ = some (Value.slice b1 m1 d1) := X_4.cell 2
  have V_4 := V_3.below hB_4
  have D_4 := D_3.below hB_4
  have T2_4 := T2_3.below hB_4
  have A_4 := A_3.below hB_4
  have hbel_4 := hbel_3.next hB_4
  have hsz_4 := hB_4.size
  clear X_3 cX_3_0 cX_3_1 cX_3_2 V_3 D_3 T2_3 A_3 hbel_3 hB_4
  have T5_4 := hO.rdN (v := 5) s5.out
  clear hO
  try clear hB
  go_wp2_with fail
  refine (HO5.out _ A_4 T5_4).mono ?_
  rintro e w5 ⟨ya, yn, yc, rfl, hA, hB⟩
  have hB_5 : Below w4.heap.size w4 w5 := (bl.next hB)
  have X_5 := X_4.next hB_5
  have cX_5_0 : _ = some (Value.bool s) := X_5.cell 0
  have cX_5_1 : _ = some (Value.slice a1 n1 c1) := X_5.cell 1
  have cX_5_2 : _ = some (Value.slice b1 m1 d1) := X_5.cell 2
  have V_5 := V_4.below hB_5
  have D_5 := D_4.below hB_5
  have T2_5 := T2_4.below hB_5
  have A_5 := A_4.below hB_5
  have T5_5 := T5_4.below hB_5
  have hbel_5 := hbel_4.next hB_5
  have hsz_5 := hB_5.size
  clear X_4 cX_4_0 cX_4_1 cX_4_2 V_4 D_4 T2_4 A_4 T5_4 hbel_4 hB_5
  have E_5 := hA
  clear hA
  try clear hB
  clear T2_5
  clear T5_5
  clear A_5
  go_wp2_with fail
  refine (of_any 1 (by omega) (by omega)).mono ?_
  rintro e w6 ⟨ua, un, uc, rfl, hO, hB⟩
  have hB_6 : Below w5.heap.size w5 w6 := (bl.next hB)
  have X_6 := X_5.next hB_6
  have cX_6_0 : _ = some (Value.bool s) := X_6.cell 0
  have cX_6_1 : _ = some (Value.slice a1 n1 c1) := X_6.cell 1
  have cX_6_2 : _ = some (Value.slice b1 m1 d1) := X_6.cell 2
  have V_6 := V_5.below hB_6
  have D_6 := D_5.below hB_6
  have E_6 := E_5.below hB_6
  have hbel_6 := hbel_5.next hB_6
  have hsz_6 := hB_6.size
  clear X_5 cX_5_0 cX_5_1 cX_5_2 V_5 D_5 E_5 hbel_5 hB_6
  have U_6 := hO.rdN (v := 1) (k := 1) (sz_one (Nat.le_refl _))
  clear hO
  try clear hB
  go_wp2_with fail
  refine (ncmpR E_6 U_6).mono ?_
  rw [hch.out]
  rintro e w7 ⟨rfl, hB⟩
  have hB_7 : Below w6.heap.size w6 w7 := (bl.next hB)
  have X_7 := X_6.next hB_7
  have cX_7_0 : _ = some (Value.bool s) := X_7.cell 0
  have cX_7_1 : _ = some (Value.slice a1 n1 c1) := X_7.cell 1
  have cX_7_2 : _ = some (Value.slice b1 m1 d1) := X_7.cell 2
  have V_7 := V_6.below hB_7
  have D_7 := D_6.below hB_7
  have E_7 := E_6.below hB_7
  have U_7 := U_6.below hB_7
  have hbel_7 := hbel_6.next hB_7
  have hsz_7 := hB_7.size
  clear X_6 cX_6_0 cX_6_1 cX_6_2 V_6 D_6 E_6 U_6 hbel_6 hB_7
  try clear hB
  clear E_7
  clear U_7
  go_wp2_with fail
  refine (HT.out _).mono ?_
  rintro e w8 ⟨ka, kn, kc, rfl, hO, hB⟩
  have hB_8 : Below w7.heap.size w7 w8 := (bl.next hB)
  have X_8 := X_7.next hB_8
  have cX_8_0 : _ = some (Value.bool s) := X_8.cell 0
  have cX_8_1 : _ = some (Value.slice a1 n1 c1) := X_8.cell 1
  have cX_8_2 : _ = some (Value.slice b1 m1 d1) := X_8.cell 2
  have V_8 := V_7.below hB_8
  have D_8 := D_7.below hB_8
  have hbel_8 := hbel_7.next hB_8
  have hsz_8 := hB_8.size
  clear X_7 cX_7_0 cX_7_1 cX_7_2 V_7 D_7 hbel_7 hB_8
  have TK_8 := hO.rdN hsT.out
  clear hO
  try clear hB
  go_wp2_with fail
  refine (nmulR V_8 TK_8 (by omega) (by omega)).mono ?_
  rintro e w9 ⟨ma, mn, mc, rfl, hO, hB⟩
  have hB_9 : Below w8.heap.size w8 w9 := (bl.next hB)
  have X_9 := X_8.next hB_9
  have cX_9_0 : _ = some (Value.bool s) := X_9.cell 0
  have cX_9_1 : _ = some (Value.slice a1 n1 c1) := X_9.cell 1
  have cX_9_2 : _ = some (Value.slice b1 m1 d1) := X_9.cell 2
  have V_9 := V_8.below hB_9
  have D_9 := D_8.below hB_9
  have TK_9 := TK_8.below hB_9
  have hbel_9 := hbel_8.next hB_9
  have hsz_9 := hB_9.size
  clear X_8 cX_8_0 cX_8_1 cX_8_2 V_8 D_8 TK_8 hbel_8 hB_9
  have M_9 := hO.rdN hsPh.out
  clear hO
  try clear hB
  clear V_9
  clear TK_9
  go_wp2_with fail
  refine (ndivR M_9 D_9 (by omega) (by omega) hdh.out).mono ?_
  rw [hQ.out]
  rintro e w10 ⟨qa, qn, qc, ra, rn, rc, rfl, hO, hO', hD, hB⟩
  have hB_10 : Below w9.heap.size w9 w10 := (bl.next hB)
  have X_10 := X_9.next hB_10
  have cX_10_0 : _ = some (Value.bool s) := X_10.cell 0
  have cX_10_1 : _ = some (Value.slice a1 n1 c1) := X_10.cell 1
  have cX_10_2 : _ = some (Value.slice b1 m1 d1) := X_10.cell 2
  have D_10 := D_9.below hB_10
  have M_10 := M_9.below hB_10
  have hbel_10 := hbel_9.next hB_10
  have hsz_10 := hB_10.size
  clear X_9 cX_9_0 cX_9_1 cX_9_2 D_9 M_9 hbel_9 hB_10
  have Q_10 := hO.rdN hsQ.out
  clear hO hO' hD
  try clear hB
  clear M_10
  clear D_10
  go_wp2_with fail
  refine (dpt Q_10 (by omega) N (by omega)).mono ?_
  rintro e w11 ⟨rfl, hB⟩
  have hB_11 : Below w10.heap.size w10 w11 := (bl.next hB)
  have X_11 := X_10.next hB_11
  have cX_11_0 : _ = some (Value.bool s) := X_11.cell 0
  have cX_11_1 : _ = some (Value.slice a1 n1 c1) := X_11.cell 1
  have cX_11_2 : _ = some (Value.slice b1 m1 d1) := X_11.cell 2
  have Q_11 := Q_10.below hB_11
  have hbel_11 := hbel_10.next hB_11
  have hsz_11 := hB_11.size
  clear X_10 cX_10_0 cX_10_1 cX_10_2 Q_10 hbel_10 hB_11
  try clear hB
  generalize txt (ptd Q N) = S at *
  go_wp2
  go_ret2
  exact ⟨rfl, hbel_11⟩

set_option maxRecDepth 100000 in
set_option maxHeartbeats 4000000 in
theorem dexnone0 {w : World} {a1 b1 : Option Addr} {n1 c1 m1 d1 : Nat} {s : Bool} {x : Rat} {J : Nat} (hx : RdQ J w s a1 n1 c1 b1 m1 d1 x) (hJ : J ≤ 1000000) (hR : max (outN 2 4097 x.den).2 (outN 5 4097 (outN 2 4097 x.den).1).2 ≤ 4096 ∧ (outN 5 4097 (outN 2 4097 x.den).1).1 ≠ 1) :
    Calls Try.prog 57 #[.agg #[.bool s, .slice a1 n1 c1, .slice b1 m1 d1]] w (RetSB w ⟨#[]⟩ false) := by
  obtain ⟨s0, hs0⟩ : ∃ s, decide (x.num < 0) = s := ⟨_, rfl⟩
  obtain ⟨v, hv0⟩ : ∃ v, x.num.natAbs = v := ⟨_, rfl⟩
  obtain ⟨d, hd0⟩ : ∃ d, x.den = d := ⟨_, rfl⟩
  have hdz : d ≠ 0 := by rw [← hd0]; exact x.den_nz
  have hqs := (hx.mono (Nat.le_succ J)).qs (by omega)
  obtain ⟨sv, sd⟩ := hqs
  rw [hv0] at sv
  rw [hd0] at sd hR
  obtain ⟨K, hK1, hK2⟩ : ∃ K, J + 8300 ≤ K ∧ K ≤ 1100000 := ⟨J + 8300, Nat.le_refl _, by omega⟩
  have HP := hid (fun W (h : Below w.heap.size w W) => dparts (hx.below h) hJ)
  rw [hs0, hv0, hd0] at HP
  have s2 := hid (show Sz 2 1 from by show 2 < 4294967296 ^ 1; omega)
  have s5 := hid (show Sz 5 1 from by show 5 < 4294967296 ^ 1; omega)
  have hsv := hid (sv.mono (Nat.le_refl _) (show J.succ ≤ K by omega))
  have hsd := hid (sd.mono (Nat.le_refl _) (show J.succ ≤ K by omega))
  have b2 := (outN_spec 2 4097 d).2.1
  have b5 := (outN_spec 5 4097 (outN 2 4097 d).1).2.1
  obtain ⟨o2, ho2⟩ : ∃ o, outN 2 4097 d = o := ⟨_, rfl⟩
  rw [ho2] at hR b2 b5
  obtain ⟨o5, ho5⟩ : ∃ o, outN 5 4097 o2.1 = o := ⟨_, rfl⟩
  rw [ho5] at hR b5
  obtain ⟨r2, t2⟩ := o2
  obtain ⟨r5, t5⟩ := o5
  simp only [] at hR ho5 b2 b5
  have HO2 := hid (fun (W : World) {a b : Option Addr} {n c m d' : Nat} (h : RdN K W a n c d) (h' : RdN 1 W b m d' 2) => dout h (by omega) h' (by decide) (show 4096 ≤ 1000000 by omega))
  have HO5 := hid (fun (W : World) {a b : Option Addr} {n c m d' : Nat} (h : RdN K W a n c r2) (h' : RdN 1 W b m d' 5) => dout h (by omega) h' (by decide) (show 4096 ≤ 1000000 by omega))
  unfold RetOut at HO2 HO5
  rw [show 4096 + 1 = 4097 from rfl, ho2] at HO2
  rw [show 4096 + 1 = 4097 from rfl, ho5] at HO5
  simp only [] at HO2 HO5
  obtain ⟨mx, hmx⟩ : ∃ y : Nat, y = max t2 t5 := ⟨_, rfl⟩
  have hmax : max (t2 : Int) (t5 : Int) = (mx : Int) := by omega
  have hle : mx ≤ 4096 := by omega
  have hr5 := hR.2
  have hc0 : cmpI r5 1 ≠ 0 := fun e => hr5 (cmp_one.1 e)
  obtain ⟨ci, hci⟩ : ∃ y, cmpI r5 1 = y := ⟨_, rfl⟩
  rw [hci] at hc0
  have hcb : (ci != (0 : Int)) = true := by simpa using hc0
  have hch := hid hci
  clear hr5 hc0 hci
  clear ho2 ho5 hR hmx sv sd hv0 hd0 hs0 hdz hx
  have hent := ent1 w #[Value.bool s, Value.slice a1 n1 c1, Value.slice b1 m1 d1] 29
  go_enter Try.func57, Try.ntmps57
  go_wp2_with fail
  generalize (w.alloc (.cells #[Value.bool s, Value.slice a1 n1 c1, Value.slice b1 m1 d1] 29)) = W0 at hent ⊢
  obtain ⟨X_0, hbel_0, hsz_0⟩ := hent
  have cX_0_0 : _ = some (Value.bool s) := X_0.cell 0
  have cX_0_1 : _ = some (Value.slice a1 n1 c1) := X_0.cell 1
  have cX_0_2 : _ = some (Value.slice b1 m1 d1) := X_0.cell 2
  go_wp2_with fail
  refine (HP.out _ hbel_0).mono ?_
  rintro e w1 ⟨na, nn, nc, da, dn, dc, rfl, hO, hO', hB⟩
  have hB_1 : Below W0.heap.size W0 w1 := (bl.next hB)
  have X_1 := X_0.next hB_1
  have cX_1_0 : _ = some (Value.bool s) := X_1.cell 0
  have cX_1_1 : _ = some (Value.slice a1 n1 c1) := X_1.cell 1
  have cX_1_2 : _ = some (Value.slice b1 m1 d1) := X_1.cell 2
  have hbel_1 := hbel_0.next hB_1
  have hsz_1 := hB_1.size
  clear X_0 cX_0_0 cX_0_1 cX_0_2 hbel_0 hB_1
  have V_1 := hO.rdN hsv.out
  have D_1 := hO'.rdN hsd.out
  clear hO hO'
  try clear hB
  go_wp2_with fail
  refine (of_any 2 (by omega) (by omega)).mono ?_
  rintro e w2 ⟨oa, on, oc, rfl, hO, hB⟩
  have hB_2 : Below w1.heap.size w1 w2 := (bl.next hB)
  have X_2 := X_1.next hB_2
  have cX_2_0 : _ = some (Value.bool s) := X_2.cell 0
  have cX_2_1 : _ = some (Value.slice a1 n1 c1) := X_2.cell 1
  have cX_2_2 : _ = some (Value.slice b1 m1 d1) := X_2.cell 2
  have V_2 := V_1.below hB_2
  have D_2 := D_1.below hB_2
  have hbel_2 := hbel_1.next hB_2
  have hsz_2 := hB_2.size
  clear X_1 cX_1_0 cX_1_1 cX_1_2 V_1 D_1 hbel_1 hB_2
  have T2_2 := hO.rdN (v := 2) s2.out
  clear hO
  try clear hB
  go_wp2_with fail
  refine (HO2.out _ D_2 T2_2).mono ?_
  rintro e w3 ⟨xa, xn, xc, rfl, hA, hB⟩
  have hB_3 : Below w2.heap.size w2 w3 := (bl.next hB)
  have X_3 := X_2.next hB_3
  have cX_3_0 : _ = some (Value.bool s) := X_3.cell 0
  have cX_3_1 : _ = some (Value.slice a1 n1 c1) := X_3.cell 1
  have cX_3_2 : _ = some (Value.slice b1 m1 d1) := X_3.cell 2
  have V_3 := V_2.below hB_3
  have D_3 := D_2.below hB_3
  have T2_3 := T2_2.below hB_3
  have hbel_3 := hbel_2.next hB_3
  have hsz_3 := hB_3.size
  clear X_2 cX_2_0 cX_2_1 cX_2_2 V_2 D_2 T2_2 hbel_2 hB_3
  have A_3 := hA
  clear hA
  try clear hB
  go_wp2_with fail
  refine (of_any 5 (by omega) (by omega)).mono ?_
  rintro e w4 ⟨pa, pn, pc, rfl, hO, hB⟩
  have hB_4 : Below w3.heap.size w3 w4 := (bl.next hB)
  have X_4 := X_3.next hB_4
  have cX_4_0 : _ = some (Value.bool s) := X_4.cell 0
  have cX_4_1 : _ = some (Value.slice a1 n1 c1) := X_4.cell 1
  have cX_4_2 : _ = some (Value.slice b1 m1 d1) := X_4.cell 2
  have V_4 := V_3.below hB_4
  have D_4 := D_3.below hB_4
  have T2_4 := T2_3.below hB_4
  have A_4 := A_3.below hB_4
  have hbel_4 := hbel_3.next hB_4
  have hsz_4 := hB_4.size
  clear X_3 cX_3_0 cX_3_1 cX_3_2 V_3 D_3 T2_3 A_3 hbel_3 hB_4
  have T5_4 := hO.rdN (v := 5) s5.out
  clear hO
  try clear hB
  go_wp2_with fail
  refine (HO5.out _ A_4 T5_4).mono ?_
  rintro e w5 ⟨ya, yn, yc, rfl, hA, hB⟩
  have hB_5 : Below w4.heap.size w4 w5 := (bl.next hB)
  have X_5 := X_4.next hB_5
  have cX_5_0 : _ = some (Value.bool s) := X_5.cell 0
  have cX_5_1 : _ = some (Value.slice a1 n1 c1) := X_5.cell 1
  have cX_5_2 : _ = some (Value.slice b1 m1 d1) := X_5.cell 2
  have V_5 := V_4.below hB_5
  have D_5 := D_4.below hB_5
  have T2_5 := T2_4.below hB_5
  have A_5 := A_4.below hB_5
  have T5_5 := T5_4.below hB_5
  have hbel_5 := hbel_4.next hB_5
  have hsz_5 := hB_5.size
  clear X_4 cX_4_0 cX_4_1 cX_4_2 V_4 D_4 T2_4 A_4 T5_4 hbel_4 hB_5
  have E_5 := hA
  clear hA
  try clear hB
  clear T2_5
  clear T5_5
  clear A_5
  go_wp2_with fail
  refine (of_any 1 (by omega) (by omega)).mono ?_
  rintro e w6 ⟨ua, un, uc, rfl, hO, hB⟩
  have hB_6 : Below w5.heap.size w5 w6 := (bl.next hB)
  have X_6 := X_5.next hB_6
  have cX_6_0 : _ = some (Value.bool s) := X_6.cell 0
  have cX_6_1 : _ = some (Value.slice a1 n1 c1) := X_6.cell 1
  have cX_6_2 : _ = some (Value.slice b1 m1 d1) := X_6.cell 2
  have V_6 := V_5.below hB_6
  have D_6 := D_5.below hB_6
  have E_6 := E_5.below hB_6
  have hbel_6 := hbel_5.next hB_6
  have hsz_6 := hB_6.size
  clear X_5 cX_5_0 cX_5_1 cX_5_2 V_5 D_5 E_5 hbel_5 hB_6
  have U_6 := hO.rdN (v := 1) (k := 1) (sz_one (Nat.le_refl _))
  clear hO
  try clear hB
  go_wp2_with fail
  refine (ncmpR E_6 U_6).mono ?_
  rw [hch.out]
  rintro e w7 ⟨rfl, hB⟩
  have hB_7 : Below w6.heap.size w6 w7 := (bl.next hB)
  have X_7 := X_6.next hB_7
  have cX_7_0 : _ = some (Value.bool s) := X_7.cell 0
  have cX_7_1 : _ = some (Value.slice a1 n1 c1) := X_7.cell 1
  have cX_7_2 : _ = some (Value.slice b1 m1 d1) := X_7.cell 2
  have V_7 := V_6.below hB_7
  have D_7 := D_6.below hB_7
  have E_7 := E_6.below hB_7
  have U_7 := U_6.below hB_7
  have hbel_7 := hbel_6.next hB_7
  have hsz_7 := hB_7.size
  clear X_6 cX_6_0 cX_6_1 cX_6_2 V_6 D_6 E_6 U_6 hbel_6 hB_7
  try clear hB
  go_wp2
  go_ret2
  exact ⟨rfl, hbel_7⟩

set_option maxRecDepth 100000 in
set_option maxHeartbeats 4000000 in
theorem dexnone1 {w : World} {a1 b1 : Option Addr} {n1 c1 m1 d1 : Nat} {s : Bool} {x : Rat} {J : Nat} (hx : RdQ J w s a1 n1 c1 b1 m1 d1 x) (hJ : J ≤ 1000000) (hR : 4096 < max (outN 2 4097 x.den).2 (outN 5 4097 (outN 2 4097 x.den).1).2) :
    Calls Try.prog 57 #[.agg #[.bool s, .slice a1 n1 c1, .slice b1 m1 d1]] w (RetSB w ⟨#[]⟩ false) := by
  obtain ⟨s0, hs0⟩ : ∃ s, decide (x.num < 0) = s := ⟨_, rfl⟩
  obtain ⟨v, hv0⟩ : ∃ v, x.num.natAbs = v := ⟨_, rfl⟩
  obtain ⟨d, hd0⟩ : ∃ d, x.den = d := ⟨_, rfl⟩
  have hdz : d ≠ 0 := by rw [← hd0]; exact x.den_nz
  have hqs := (hx.mono (Nat.le_succ J)).qs (by omega)
  obtain ⟨sv, sd⟩ := hqs
  rw [hv0] at sv
  rw [hd0] at sd hR
  obtain ⟨K, hK1, hK2⟩ : ∃ K, J + 8300 ≤ K ∧ K ≤ 1100000 := ⟨J + 8300, Nat.le_refl _, by omega⟩
  have HP := hid (fun W (h : Below w.heap.size w W) => dparts (hx.below h) hJ)
  rw [hs0, hv0, hd0] at HP
  have s2 := hid (show Sz 2 1 from by show 2 < 4294967296 ^ 1; omega)
  have s5 := hid (show Sz 5 1 from by show 5 < 4294967296 ^ 1; omega)
  have hsv := hid (sv.mono (Nat.le_refl _) (show J.succ ≤ K by omega))
  have hsd := hid (sd.mono (Nat.le_refl _) (show J.succ ≤ K by omega))
  have b2 := (outN_spec 2 4097 d).2.1
  have b5 := (outN_spec 5 4097 (outN 2 4097 d).1).2.1
  obtain ⟨o2, ho2⟩ : ∃ o, outN 2 4097 d = o := ⟨_, rfl⟩
  rw [ho2] at hR b2 b5
  obtain ⟨o5, ho5⟩ : ∃ o, outN 5 4097 o2.1 = o := ⟨_, rfl⟩
  rw [ho5] at hR b5
  obtain ⟨r2, t2⟩ := o2
  obtain ⟨r5, t5⟩ := o5
  simp only [] at hR ho5 b2 b5
  have HO2 := hid (fun (W : World) {a b : Option Addr} {n c m d' : Nat} (h : RdN K W a n c d) (h' : RdN 1 W b m d' 2) => dout h (by omega) h' (by decide) (show 4096 ≤ 1000000 by omega))
  have HO5 := hid (fun (W : World) {a b : Option Addr} {n c m d' : Nat} (h : RdN K W a n c r2) (h' : RdN 1 W b m d' 5) => dout h (by omega) h' (by decide) (show 4096 ≤ 1000000 by omega))
  unfold RetOut at HO2 HO5
  rw [show 4096 + 1 = 4097 from rfl, ho2] at HO2
  rw [show 4096 + 1 = 4097 from rfl, ho5] at HO5
  simp only [] at HO2 HO5
  obtain ⟨mx, hmx⟩ : ∃ y : Nat, y = max t2 t5 := ⟨_, rfl⟩
  have hmax : max (t2 : Int) (t5 : Int) = (mx : Int) := by omega
  have hgt : 4096 < mx := by omega
  clear ho2 ho5 hR hmx sv sd hv0 hd0 hs0 hdz hx
  have hent := ent1 w #[Value.bool s, Value.slice a1 n1 c1, Value.slice b1 m1 d1] 29
  go_enter Try.func57, Try.ntmps57
  go_wp2_with fail
  generalize (w.alloc (.cells #[Value.bool s, Value.slice a1 n1 c1, Value.slice b1 m1 d1] 29)) = W0 at hent ⊢
  obtain ⟨X_0, hbel_0, hsz_0⟩ := hent
  have cX_0_0 : _ = some (Value.bool s) := X_0.cell 0
  have cX_0_1 : _ = some (Value.slice a1 n1 c1) := X_0.cell 1
  have cX_0_2 : _ = some (Value.slice b1 m1 d1) := X_0.cell 2
  go_wp2_with fail
  refine (HP.out _ hbel_0).mono ?_
  rintro e w1 ⟨na, nn, nc, da, dn, dc, rfl, hO, hO', hB⟩
  have hB_1 : Below W0.heap.size W0 w1 := (bl.next hB)
  have X_1 := X_0.next hB_1
  have cX_1_0 : _ = some (Value.bool s) := X_1.cell 0
  have cX_1_1 : _ = some (Value.slice a1 n1 c1) := X_1.cell 1
  have cX_1_2 : _ = some (Value.slice b1 m1 d1) := X_1.cell 2
  have hbel_1 := hbel_0.next hB_1
  have hsz_1 := hB_1.size
  clear X_0 cX_0_0 cX_0_1 cX_0_2 hbel_0 hB_1
  have V_1 := hO.rdN hsv.out
  have D_1 := hO'.rdN hsd.out
  clear hO hO'
  try clear hB
  go_wp2_with fail
  refine (of_any 2 (by omega) (by omega)).mono ?_
  rintro e w2 ⟨oa, on, oc, rfl, hO, hB⟩
  have hB_2 : Below w1.heap.size w1 w2 := (bl.next hB)
  have X_2 := X_1.next hB_2
  have cX_2_0 : _ = some (Value.bool s) := X_2.cell 0
  have cX_2_1 : _ = some (Value.slice a1 n1 c1) := X_2.cell 1
  have cX_2_2 : _ = some (Value.slice b1 m1 d1) := X_2.cell 2
  have V_2 := V_1.below hB_2
  have D_2 := D_1.below hB_2
  have hbel_2 := hbel_1.next hB_2
  have hsz_2 := hB_2.size
  clear X_1 cX_1_0 cX_1_1 cX_1_2 V_1 D_1 hbel_1 hB_2
  have T2_2 := hO.rdN (v := 2) s2.out
  clear hO
  try clear hB
  go_wp2_with fail
  refine (HO2.out _ D_2 T2_2).mono ?_
  rintro e w3 ⟨xa, xn, xc, rfl, hA, hB⟩
  have hB_3 : Below w2.heap.size w2 w3 := (bl.next hB)
  have X_3 := X_2.next hB_3
  have cX_3_0 : _ = some (Value.bool s) := X_3.cell 0
  have cX_3_1 : _ = some (Value.slice a1 n1 c1) := X_3.cell 1
  have cX_3_2 : _ = some (Value.slice b1 m1 d1) := X_3.cell 2
  have V_3 := V_2.below hB_3
  have D_3 := D_2.below hB_3
  have T2_3 := T2_2.below hB_3
  have hbel_3 := hbel_2.next hB_3
  have hsz_3 := hB_3.size
  clear X_2 cX_2_0 cX_2_1 cX_2_2 V_2 D_2 T2_2 hbel_2 hB_3
  have A_3 := hA
  clear hA
  try clear hB
  go_wp2_with fail
  refine (of_any 5 (by omega) (by omega)).mono ?_
  rintro e w4 ⟨pa, pn, pc, rfl, hO, hB⟩
  have hB_4 : Below w3.heap.size w3 w4 := (bl.next hB)
  have X_4 := X_3.next hB_4
  have cX_4_0 : _ = some (Value.bool s) := X_4.cell 0
  have cX_4_1 : _ = some (Value.slice a1 n1 c1) := X_4.cell 1
  have cX_4_2 : _ = some (Value.slice b1 m1 d1) := X_4.cell 2
  have V_4 := V_3.below hB_4
  have D_4 := D_3.below hB_4
  have T2_4 := T2_3.below hB_4
  have A_4 := A_3.below hB_4
  have hbel_4 := hbel_3.next hB_4
  have hsz_4 := hB_4.size
  clear X_3 cX_3_0 cX_3_1 cX_3_2 V_3 D_3 T2_3 A_3 hbel_3 hB_4
  have T5_4 := hO.rdN (v := 5) s5.out
  clear hO
  try clear hB
  go_wp2_with fail
  refine (HO5.out _ A_4 T5_4).mono ?_
  rintro e w5 ⟨ya, yn, yc, rfl, hA, hB⟩
  have hB_5 : Below w4.heap.size w4 w5 := (bl.next hB)
  have X_5 := X_4.next hB_5
  have cX_5_0 : _ = some (Value.bool s) := X_5.cell 0
  have cX_5_1 : _ = some (Value.slice a1 n1 c1) := X_5.cell 1
  have cX_5_2 : _ = some (Value.slice b1 m1 d1) := X_5.cell 2
  have V_5 := V_4.below hB_5
  have D_5 := D_4.below hB_5
  have T2_5 := T2_4.below hB_5
  have A_5 := A_4.below hB_5
  have T5_5 := T5_4.below hB_5
  have hbel_5 := hbel_4.next hB_5
  have hsz_5 := hB_5.size
  clear X_4 cX_4_0 cX_4_1 cX_4_2 V_4 D_4 T2_4 A_4 T5_4 hbel_4 hB_5
  have E_5 := hA
  clear hA
  try clear hB
  clear T2_5
  clear T5_5
  clear A_5
  go_wp2
  go_ret2
  exact ⟨rfl, hbel_5⟩

theorem dexact {w : World} {a1 b1 : Option Addr} {n1 c1 m1 d1 : Nat} {s : Bool} {x : Rat} {J : Nat} (hx : RdQ J w s a1 n1 c1 b1 m1 d1 x) (hJ : J ≤ 1000000) {R : Option Nat} (hR : ExIs x.den R) : Calls Try.prog 57 #[.agg #[.bool s, .slice a1 n1 c1, .slice b1 m1 d1]] w (RetSB w (exT2 x R) R.isSome) := by
  cases R with
  | some N =>
    cases hn : decide (x.num < 0)
    · exact dexact0 hx hJ N hR hn
    · exact dexact1 hx hJ N hR hn
  | none =>
    rcases ex_none hR with h | h
    · exact dexnone1 hx hJ h
    · by_cases h2 : 4096 < max (outN 2 4097 x.den).2 (outN 5 4097 (outN 2 4097 x.den).1).2
      · exact dexnone1 hx hJ h2
      · exact dexnone0 hx hJ ⟨by omega, h⟩

end Go.Proofs.Ytnpkmlpmeeidbaa
