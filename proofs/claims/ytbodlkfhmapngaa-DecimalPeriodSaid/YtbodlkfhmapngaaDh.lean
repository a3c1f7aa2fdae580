/- WALKS OF DECIMALS, 6: the document's texts with a point; rounded texts, by the program and by the document. -/
import Derived.Test.YtbodlkfhmapngaaDf
import Derived.Test.YtbodlkfhmapngaaDg
namespace Go.Proofs.Ytbodlkfhmapngaa
set_option linter.unusedVariables false
set_option linter.unusedSimpArgs false
open Go.ChangeShapes Go.WideShapes Go.ChangeAt Go.RowKit Go.NatP

def sizeOf' : Value → Nat | .string s => s.size | _ => 0
set_option maxRecDepth 100000 in
set_option maxHeartbeats 2000000 in
theorem rpt {w : World} {a : Option Addr} {n c v K : Nat} (hR : RdN K w a n c v) (hK : K ≤ 4000000) (k : Nat) (hk : k ≤ 1000000) :
    Calls Try.prog 134 #[.slice a n c, .int .i64 k] w (RetT w (txt (ptd v k))) := by
  have HT := hid (fun w (h : RdN K w a n c v) => rtextR (W := w) h (by omega))
  have hsz := txt_sz hR.sz
  have hpos : 0 < (txt (tx v)).size := by rw [← by_len, bt_tx]; exact tx_pos' v
  obtain ⟨S, hS⟩ : ∃ S, txt (tx v) = S := ⟨_, rfl⟩
  have hb := hid (show by' S = tx v by rw [← hS]; exact bt_tx v)
  have hS0 := hid hS
  rw [hS] at HT hsz hpos
  clear hS
  go_enter Try.func134, Try.ntmps134
  go_wp2_with fail
  refine (HT.out _ hR).mono ?_
  rintro e w1 ⟨rfl, hB1⟩
  go_wp2
  go_loopw [5] (fun sv wr => ∃ R : ByteArray, sv = .string R ∧ 0 < R.size ∧ R.size ≤ 60000000 ∧ Hid (pad (by' R) k = pad (tx v) k ∧ (R.size ≤ k + 1 ∨ R = S)) ∧ wr = w1) (fun sv _ => k + 1 - sizeOf' sv)
  case atStart => exact ⟨S, rfl, hpos, by omega, ⟨by rw [hb.out], .inr rfl⟩, rfl⟩
  case round =>
    obtain ⟨R, rfl, hR0, hR1, hV, rfl⟩ := hrel
    by_cases hlt : R.size ≤ k
    · obtain ⟨Z, hZ⟩ : ∃ Z : ByteArray, (⟨#[48]⟩ : ByteArray) ++ R = Z := ⟨_, rfl⟩
      have hZs : Z.size = 1 + R.size := by rw [← hZ, ByteArray.size_append]; rfl
      have HV : Hid (pad (by' Z) k = pad (tx v) k ∧ (Z.size ≤ k + 1 ∨ Z = S)) := ⟨by
        rw [← hV.out.1, ← hZ, be_append]
        exact pad_step (s := by' R) (by rw [by_len]; exact hlt), .inl (by omega)⟩
      have hd : decide (R.size ≤ k) = true := decide_eq_true hlt
      clear hV
      go_wp2
      go_roundw
      case rel => exact ⟨Z, rfl, by omega, by omega, HV, by first | rfl | trivial⟩
      case measure => simp [sizeOf']; omega
    · have hd : decide (R.size ≤ k) = false := decide_eq_false hlt
      have hp : Hid (by' R = pad (tx v) k) := by show _ = _; rw [← hV.out.1, pad_long (by rw [by_len]; omega)]
      by_cases h0 : k = 0
      · subst h0
        have hE : Hid (txt (ptd v 0) = R) := by
          refine (by_inj ?_ : _ = _)
          rw [bt_ptd, ptd_zero, hp.out]; exact (pad_long (tx_pos' v)).symm
        have hd2 : decide (R = ByteArray.empty) = false := decide_eq_false (fun e => by rw [e] at hR0; exact absurd hR0 (by decide))
        have hd3 : R ≠ ByteArray.empty := of_decide_eq_false hd2
        clear hV hp
        go_wp2
        go_ret
        exact ⟨by rw [hE.out]; rfl, hB1⟩
      · have hE := hid (ptd_of h0 hp.out)
        have h1 : 1 ≤ k := by omega
        have hlt2 : k < R.size := by omega
        clear h0 hV hp hlt
        go_wp2_with fail
        go_quiet (fail)
        go_wp2
        go_ret
        exact ⟨by rw [← hE.out]; rfl, hB1.drewN' _⟩

/-- a text and an error -/
def RetSE (w : World) (t : ByteArray) (er : Int) (e : Ending) (w' : World) : Prop := e = .returned (.tuple #[.string t, .int .i64 er]) ∧ Below w.heap.size w w'
/-- a rounded fraction's text: its sign and size -/
def roV (s : Bool) (v k : Nat) : ByteArray := if s = true ∧ v ≠ 0 then ⟨#[45]⟩ ++ txt (ptd v k) else txt (ptd v k)
def roT (q : Rat) (k : Nat) : ByteArray := roV (decide (q.num < 0)) (rdN q.num.natAbs q.den k) k
section
variable {W : World} {a b : Option Addr} {n c m d u v j k : Nat}
theorem naddR (ha : RdN j W a n c u) (hb : RdN k W b m d v) (hj : j ≤ 16777216) (hk : k ≤ 16777216) :
    Calls Try.prog 137 #[.slice a n c, .slice b m d] W (Ret1 W (lm (u + v))) := by
  obtain ⟨la, ha, rfl, hn⟩ := ha
  obtain ⟨lb, hb, rfl, hm⟩ := hb
  exact add_any ha hb (by omega) (by omega)
theorem raddR (ha : RdN j W a n c u) (hb : RdN k W b m d v) (hj : j ≤ 16777216) (hk : k ≤ 16777216) :
    Calls Try.prog 136 #[.slice a n c, .slice b m d] W (Ret1 W (lm (u + v))) := by
  obtain ⟨la, ha, rfl, hn⟩ := ha
  obtain ⟨lb, hb, rfl, hm⟩ := hb
  exact radd_any ha hb (by omega) (by omega)
end
theorem szLe {u v K : Nat} (h : Sz v K) (hu : u ≤ v) : Sz u K := Nat.lt_of_le_of_lt hu h
theorem szTwo {v K : Nat} (h : Sz v K) : Sz (2 * v) (K + 1) := by have := (show Sz 2 1 from by show 2 < 4294967296 ^ 1; omega).mul h; rwa [Nat.add_comm 1 K] at this
theorem ptd_sz {v K k : Nat} (h : Sz v K) : (txt (ptd v k)).size ≤ 10 * K + k + 4 := by have := ptd_size (k := k) (tx_len h); omega

set_option maxRecDepth 100000 in
set_option maxHeartbeats 4000000 in
theorem droundbad1 {w : World} {a1 b1 : Option Addr} {n1 c1 m1 d1 : Nat} {s : Bool} (z : Int) (h1 : -9223372036854775808 ≤ z) (h2 : z ≤ 9223372036854775807) (h : z < 0) :
    Calls Try.prog 50 #[.agg #[.bool s, .slice a1 n1 c1, .slice b1 m1 d1], .int .i64 z] w (RetSE w ⟨#[]⟩ 3) := by
  have hent := ent1 w #[Value.bool s, Value.slice a1 n1 c1, Value.slice b1 m1 d1] 29
  go_enter Try.func50, Try.ntmps50
  go_wp2_with fail
  generalize (w.alloc (.cells #[Value.bool s, Value.slice a1 n1 c1, Value.slice b1 m1 d1] 29)) = W0 at hent ⊢
  obtain ⟨X_0, hbel_0, hsz_0⟩ := hent
  have cX_0_0 : _ = some (Value.bool s) := X_0.cell 0
  have cX_0_1 : _ = some (Value.slice a1 n1 c1) := X_0.cell 1
  have cX_0_2 : _ = some (Value.slice b1 m1 d1) := X_0.cell 2
  go_wp2
  go_ret2
  exact ⟨rfl, hbel_0⟩

set_option maxRecDepth 100000 in
set_option maxHeartbeats 4000000 in
theorem droundbad0 {w : World} {a1 b1 : Option Addr} {n1 c1 m1 d1 : Nat} {s : Bool} (z : Int) (h1 : -9223372036854775808 ≤ z) (h2 : z ≤ 9223372036854775807) (h : 4096 < z) :
    Calls Try.prog 50 #[.agg #[.bool s, .slice a1 n1 c1, .slice b1 m1 d1], .int .i64 z] w (RetSE w ⟨#[]⟩ 3) := by
  have hent := ent1 w #[Value.bool s, Value.slice a1 n1 c1, Value.slice b1 m1 d1] 29
  go_enter Try.func50, Try.ntmps50
  go_wp2_with fail
  generalize (w.alloc (.cells #[Value.bool s, Value.slice a1 n1 c1, Value.slice b1 m1 d1] 29)) = W0 at hent ⊢
  obtain ⟨X_0, hbel_0, hsz_0⟩ := hent
  have cX_0_0 : _ = some (Value.bool s) := X_0.cell 0
  have cX_0_1 : _ = some (Value.slice a1 n1 c1) := X_0.cell 1
  have cX_0_2 : _ = some (Value.slice b1 m1 d1) := X_0.cell 2
  go_wp2
  go_ret2
  exact ⟨rfl, hbel_0⟩

set_option maxRecDepth 100000 in
set_option maxHeartbeats 4000000 in
theorem rroundbad1 {w : World} {a1 b1 : Option Addr} {n1 c1 m1 d1 : Nat} {s : Bool} (z : Int) (h1 : -9223372036854775808 ≤ z) (h2 : z ≤ 9223372036854775807) (h : z < 0) :
    Calls Try.prog 49 #[.agg #[.bool s, .slice a1 n1 c1, .slice b1 m1 d1], .int .i64 z] w (RetSE w ⟨#[]⟩ 3) := by
  have hent := ent1 w #[Value.bool s, Value.slice a1 n1 c1, Value.slice b1 m1 d1] 29
  go_enter Try.func49, Try.ntmps49
  go_wp2_with fail
  generalize (w.alloc (.cells #[Value.bool s, Value.slice a1 n1 c1, Value.slice b1 m1 d1] 29)) = W0 at hent ⊢
  obtain ⟨X_0, hbel_0, hsz_0⟩ := hent
  have cX_0_0 : _ = some (Value.bool s) := X_0.cell 0
  have cX_0_1 : _ = some (Value.slice a1 n1 c1) := X_0.cell 1
  have cX_0_2 : _ = some (Value.slice b1 m1 d1) := X_0.cell 2
  go_wp2
  go_ret2
  exact ⟨rfl, hbel_0⟩

set_option maxRecDepth 100000 in
set_option maxHeartbeats 4000000 in
theorem rroundbad0 {w : World} {a1 b1 : Option Addr} {n1 c1 m1 d1 : Nat} {s : Bool} (z : Int) (h1 : -9223372036854775808 ≤ z) (h2 : z ≤ 9223372036854775807) (h : 4096 < z) :
    Calls Try.prog 49 #[.agg #[.bool s, .slice a1 n1 c1, .slice b1 m1 d1], .int .i64 z] w (RetSE w ⟨#[]⟩ 3) := by
  have hent := ent1 w #[Value.bool s, Value.slice a1 n1 c1, Value.slice b1 m1 d1] 29
  go_enter Try.func49, Try.ntmps49
  go_wp2_with fail
  generalize (w.alloc (.cells #[Value.bool s, Value.slice a1 n1 c1, Value.slice b1 m1 d1] 29)) = W0 at hent ⊢
  obtain ⟨X_0, hbel_0, hsz_0⟩ := hent
  have cX_0_0 : _ = some (Value.bool s) := X_0.cell 0
  have cX_0_1 : _ = some (Value.slice a1 n1 c1) := X_0.cell 1
  have cX_0_2 : _ = some (Value.slice b1 m1 d1) := X_0.cell 2
  go_wp2
  go_ret2
  exact ⟨rfl, hbel_0⟩

set_option maxRecDepth 100000 in
set_option maxHeartbeats 4000000 in
theorem dround0 {w : World} {a1 b1 : Option Addr} {n1 c1 m1 d1 : Nat} {s : Bool} {x : Rat} {J : Nat} (hx : RdQ J w s a1 n1 c1 b1 m1 d1 x) (hJ : J ≤ 1000000) (k : Nat) (hk : k ≤ 4096) (hn : decide (x.num < 0) = false) :
    Calls Try.prog 50 #[.agg #[.bool s, .slice a1 n1 c1, .slice b1 m1 d1], .int .i64 k] w (RetSE w (roT x k) 0) := by
  obtain ⟨s0, hs0⟩ : ∃ s, decide (x.num < 0) = s := ⟨_, rfl⟩
  obtain ⟨v, hv0⟩ : ∃ v, x.num.natAbs = v := ⟨_, rfl⟩
  obtain ⟨d, hd0⟩ : ∃ d, x.den = d := ⟨_, rfl⟩
  have hdz : d ≠ 0 := by rw [← hd0]; exact x.den_nz
  have hqs := (hx.mono (Nat.le_succ J)).qs (by omega)
  obtain ⟨sv, sd⟩ := hqs
  rw [hv0] at sv
  rw [hd0] at sd
  obtain ⟨K, hK1, hK2⟩ : ∃ K, J + 8300 ≤ K ∧ K ≤ 1100000 := ⟨J + 8300, Nat.le_refl _, by omega⟩
  have hT : roT x k = roV s0 (rdN v d k) k := by unfold roT; rw [hs0, hv0, hd0]
  rw [hT]
  clear hT
  rw [hs0] at hn
  subst hn
  have HP := hid (fun W (h : Below w.heap.size w W) => dparts (hx.below h) hJ)
  rw [hs0, hv0, hd0] at HP
  have hdh := hid hdz
  obtain ⟨R, hR0⟩ : ∃ R, rdN v d k = R := ⟨_, rfl⟩
  have sR : Sz R K := by
    rw [← hR0]; unfold rdN
    exact (((szTwo sv).mul (szTen k)).add (sd.mono (Nat.le_refl _) (show J.succ ≤ J.succ + 1 + (k + 1) by omega))).mono (Nat.div_le_self _ _) (by omega)
  have hR := hid (show (2 * v * 10 ^ k + d) / (2 * d) = R from hR0)
  have hV := hid (show roV false R k = txt (ptd R k) by exact if_neg (fun h => by cases h.1))
  have hsz := ptd_sz (k := k) sR
  rw [hR0]
  generalize roV false R k = RT at *
  have hsR := hid sR
  have hsv := hid (sv.mono (Nat.le_refl _) (show J.succ ≤ K by omega))
  have hsd := hid (sd.mono (Nat.le_refl _) (show J.succ ≤ K by omega))
  have hs2d := hid ((szTwo sd).mono (Nat.le_refl _) (show J.succ + 1 ≤ K by omega))
  have hs2v := hid ((szTwo sv).mono (Nat.le_refl _) (show J.succ + 1 ≤ K by omega))
  have hsT0 := szTen k
  obtain ⟨T, hT0⟩ : ∃ T, 10 ^ k = T := ⟨_, rfl⟩
  have HT := hid (fun w => dten (w := w) k (by omega))
  rw [hT0] at HT hR hsT0
  have hsT := hid (hsT0.mono (Nat.le_refl _) (show k + 1 ≤ K by omega))
  have hsP0 := (szTwo sv).mul hsT0
  have hsP := hid (hsP0.mono (Nat.le_refl _) (show J.succ + 1 + (k + 1) ≤ K by omega))
  have hsA := hid ((hsP0.add (sd.mono (Nat.le_refl _) (show J.succ ≤ J.succ + 1 + (k + 1) by omega))).mono (Nat.le_refl _) (show J.succ + 1 + (k + 1) + 1 ≤ K by omega))
  clear hsP0 hsT0
  have s2 := hid (show Sz 2 1 from by show 2 < 4294967296 ^ 1; omega)
  clear sv sd hv0 hd0 hs0 hdz hR0 hT0 sR hx
  have hent := ent1 w #[Value.bool s, Value.slice a1 n1 c1, Value.slice b1 m1 d1] 29
  go_enter Try.func50, Try.ntmps50
  go_wp2_with fail
  generalize (w.alloc (.cells #[Value.bool s, Value.slice a1 n1 c1, Value.slice b1 m1 d1] 29)) = W0 at hent ⊢
  obtain ⟨X_0, hbel_0, hsz_0⟩ := hent
  have cX_0_0 : _ = some (Value.bool s) := X_0.cell 0
  have cX_0_1 : _ = some (Value.slice a1 n1 c1) := X_0.cell 1
  have cX_0_2 : _ = some (Value.slice b1 m1 d1) := X_0.cell 2
  go_wp2_with fail
  refine (HP.out _ hbel_0).mono ?_
  rintro e w1 ⟨na, nn, nc, da, dn, dc, rfl, hO, hO', hB⟩
  have hB_1 : Below W0.heap.size W0 w1 := (bl.next hB)
  have X_1 := X_0.next hB_1
  have cX_1_0 : _ = some (Value.bool s) := X_1.cell 0
  have cX_1_1 : _ = some (Value.slice a1 n1 c1) := X_1.cell 1
  have cX_1_2 : _ = some (Value.slice b1 m1 d1) := X_1.cell 2
  have hbel_1 := hbel_0.next hB_1
  have hsz_1 := hB_1.size
  clear X_0 cX_0_0 cX_0_1 cX_0_2 hbel_0 hB_1
  have V_1 := hO.rdN hsv.out
  have D_1 := hO'.rdN hsd.out
  clear hO hO'
  try clear hB
  go_wp2_with fail
  refine (of_any 2 (by omega) (by omega)).mono ?_
  rintro e w2 ⟨oa, on, oc, rfl, hO, hB⟩
  have hB_2 : Below w1.heap.size w1 w2 := (bl.next hB)
  have X_2 := X_1.next hB_2
  have cX_2_0 : _ = some (Value.bool s) := X_2.cell 0
  have cX_2_1 : _ = some (Value.slice a1 n1 c1) := X_2.cell 1
  have cX_2_2 : _ = some (Value.slice b1 m1 d1) := X_2.cell 2
  have V_2 := V_1.below hB_2
  have D_2 := D_1.below hB_2
  have hbel_2 := hbel_1.next hB_2
  have hsz_2 := hB_2.size
  clear X_1 cX_1_0 cX_1_1 cX_1_2 V_1 D_1 hbel_1 hB_2
  have T2_2 := hO.rdN (v := 2) s2.out
  clear hO
  try clear hB
  go_wp2_with fail
  refine (nmulR T2_2 D_2 (by omega) (by omega)).mono ?_
  rintro e w3 ⟨ta, tn, tc, rfl, hO, hB⟩
  have hB_3 : Below w2.heap.size w2 w3 := (bl.next hB)
  have X_3 := X_2.next hB_3
  have cX_3_0 : _ = some (Value.bool s) := X_3.cell 0
  have cX_3_1 : _ = some (Value.slice a1 n1 c1) := X_3.cell 1
  have cX_3_2 : _ = some (Value.slice b1 m1 d1) := X_3.cell 2
  have V_3 := V_2.below hB_3
  have D_3 := D_2.below hB_3
  have T2_3 := T2_2.below hB_3
  have hbel_3 := hbel_2.next hB_3
  have hsz_3 := hB_3.size
  clear X_2 cX_2_0 cX_2_1 cX_2_2 V_2 D_2 T2_2 hbel_2 hB_3
  have TD_3 := hO.rdN hs2d.out
  clear hO
  try clear hB
  clear T2_3
  go_wp2_with fail
  refine (of_any 2 (by omega) (by omega)).mono ?_
  rintro e w4 ⟨pa, pn, pc, rfl, hO, hB⟩
  have hB_4 : Below w3.heap.size w3 w4 := (bl.next hB)
  have X_4 := X_3.next hB_4
  have cX_4_0 : _ = some (Value.bool s) := X_4.cell 0
  have cX_4_1 : _ = some (Value.slice a1 n1 c1) := X_4.cell 1
  have cX_4_2 : _ = some (Value.slice b1 m1 d1) := X_4.cell 2
  have V_4 := V_3.below hB_4
  have D_4 := D_3.below hB_4
  have TD_4 := TD_3.below hB_4
  have hbel_4 := hbel_3.next hB_4
  have hsz_4 := hB_4.size
  clear X_3 cX_3_0 cX_3_1 cX_3_2 V_3 D_3 TD_3 hbel_3 hB_4
  have T2_4 := hO.rdN (v := 2) s2.out
  clear hO
  try clear hB
  go_wp2_with fail
  refine (nmulR T2_4 V_4 (by omega) (by omega)).mono ?_
  rintro e w5 ⟨ua, un, uc, rfl, hO, hB⟩
  have hB_5 : Below w4.heap.size w4 w5 := (bl.next hB)
  have X_5 := X_4.next hB_5
  have cX_5_0 : _ = some (Value.bool s) := X_5.cell 0
  have cX_5_1 : _ = some (Value.slice a1 n1 c1) := X_5.cell 1
  have cX_5_2 : _ = some (Value.slice b1 m1 d1) := X_5.cell 2
  have V_5 := V_4.below hB_5
  have D_5 := D_4.below hB_5
  have TD_5 := TD_4.below hB_5
  have T2_5 := T2_4.below hB_5
  have hbel_5 := hbel_4.next hB_5
  have hsz_5 := hB_5.size
  clear X_4 cX_4_0 cX_4_1 cX_4_2 V_4 D_4 TD_4 T2_4 hbel_4 hB_5
  have TV_5 := hO.rdN hs2v.out
  clear hO
  try clear hB
  clear T2_5
  clear V_5
  go_wp2_with fail
  refine (HT.out _).mono ?_
  rintro e w6 ⟨ka, kn, kc, rfl, hO, hB⟩
  have hB_6 : Below w5.heap.size w5 w6 := (bl.next hB)
  have X_6 := X_5.next hB_6
  have cX_6_0 : _ = some (Value.bool s) := X_6.cell 0
  have cX_6_1 : _ = some (Value.slice a1 n1 c1) := X_6.cell 1
  have cX_6_2 : _ = some (Value.slice b1 m1 d1) := X_6.cell 2
  have D_6 := D_5.below hB_6
  have TD_6 := TD_5.below hB_6
  have TV_6 := TV_5.below hB_6
  have hbel_6 := hbel_5.next hB_6
  have hsz_6 := hB_6.size
  clear X_5 cX_5_0 cX_5_1 cX_5_2 D_5 TD_5 TV_5 hbel_5 hB_6
  have TK_6 := hO.rdN hsT.out
  clear hO
  try clear hB
  go_wp2_with fail
  refine (nmulR TV_6 TK_6 (by omega) (by omega)).mono ?_
  rintro e w7 ⟨ma, mn, mc, rfl, hO, hB⟩
  have hB_7 : Below w6.heap.size w6 w7 := (bl.next hB)
  have X_7 := X_6.next hB_7
  have cX_7_0 : _ = some (Value.bool s) := X_7.cell 0
  have cX_7_1 : _ = some (Value.slice a1 n1 c1) := X_7.cell 1
  have cX_7_2 : _ = some (Value.slice b1 m1 d1) := X_7.cell 2
  have D_7 := D_6.below hB_7
  have TD_7 := TD_6.below hB_7
  have TV_7 := TV_6.below hB_7
  have TK_7 := TK_6.below hB_7
  have hbel_7 := hbel_6.next hB_7
  have hsz_7 := hB_7.size
  clear X_6 cX_6_0 cX_6_1 cX_6_2 D_6 TD_6 TV_6 TK_6 hbel_6 hB_7
  have M_7 := hO.rdN hsP.out
  clear hO
  try clear hB
  clear TV_7
  clear TK_7
  go_wp2_with fail
  refine (naddR M_7 D_7 (by omega) (by omega)).mono ?_
  rintro e w8 ⟨aa, an, ac, rfl, hO, hB⟩
  have hB_8 : Below w7.heap.size w7 w8 := (bl.next hB)
  have X_8 := X_7.next hB_8
  have cX_8_0 : _ = some (Value.bool s) := X_8.cell 0
  have cX_8_1 : _ = some (Value.slice a1 n1 c1) := X_8.cell 1
  have cX_8_2 : _ = some (Value.slice b1 m1 d1) := X_8.cell 2
  have D_8 := D_7.below hB_8
  have TD_8 := TD_7.below hB_8
  have M_8 := M_7.below hB_8
  have hbel_8 := hbel_7.next hB_8
  have hsz_8 := hB_8.size
  clear X_7 cX_7_0 cX_7_1 cX_7_2 D_7 TD_7 M_7 hbel_7 hB_8
  have A_8 := hO.rdN hsA.out
  clear hO
  try clear hB
  clear M_8
  clear D_8
  go_wp2_with fail
  refine (ndivR A_8 TD_8 (by omega) (by omega) (by have := hdh.out; omega)).mono ?_
  rw [hR.out]
  rintro e w9 ⟨qa, qn, qc, ra, rn, rc, rfl, hO, hO', hD, hB⟩
  have hB_9 : Below w8.heap.size w8 w9 := (bl.next hB)
  have X_9 := X_8.next hB_9
  have cX_9_0 : _ = some (Value.bool s) := X_9.cell 0
  have cX_9_1 : _ = some (Value.slice a1 n1 c1) := X_9.cell 1
  have cX_9_2 : _ = some (Value.slice b1 m1 d1) := X_9.cell 2
  have TD_9 := TD_8.below hB_9
  have A_9 := A_8.below hB_9
  have hbel_9 := hbel_8.next hB_9
  have hsz_9 := hB_9.size
  clear X_8 cX_8_0 cX_8_1 cX_8_2 TD_8 A_8 hbel_8 hB_9
  have hql := hid hO.len
  have Q_9 := hO.rdN hsR.out
  clear hO hO' hD
  try clear hB
  clear A_9
  clear TD_9
  go_wp2_with fail
  refine (dpt Q_9 (by omega) k (by omega)).mono ?_
  rintro e w10 ⟨rfl, hB⟩
  have hB_10 : Below w9.heap.size w9 w10 := (bl.next hB)
  have X_10 := X_9.next hB_10
  have cX_10_0 : _ = some (Value.bool s) := X_10.cell 0
  have cX_10_1 : _ = some (Value.slice a1 n1 c1) := X_10.cell 1
  have cX_10_2 : _ = some (Value.slice b1 m1 d1) := X_10.cell 2
  have Q_10 := Q_9.below hB_10
  have hbel_10 := hbel_9.next hB_10
  have hsz_10 := hB_10.size
  clear X_9 cX_9_0 cX_9_1 cX_9_2 Q_9 hbel_9 hB_10
  try clear hB
  generalize txt (ptd R k) = S at *
  go_wp2
  go_ret2
  exact ⟨by rw [hV.out]; rfl, hbel_10⟩

set_option maxRecDepth 100000 in
set_option maxHeartbeats 4000000 in
theorem dround11 {w : World} {a1 b1 : Option Addr} {n1 c1 m1 d1 : Nat} {s : Bool} {x : Rat} {J : Nat} (hx : RdQ J w s a1 n1 c1 b1 m1 d1 x) (hJ : J ≤ 1000000) (k : Nat) (hk : k ≤ 4096) (hn : decide (x.num < 0) = true) (hz : rdN x.num.natAbs x.den k = 0) :
    Calls Try.prog 50 #[.agg #[.bool s, .slice a1 n1 c1, .slice b1 m1 d1], .int .i64 k] w (RetSE w (roT x k) 0) := by
  obtain ⟨s0, hs0⟩ : ∃ s, decide (x.num < 0) = s := ⟨_, rfl⟩
  obtain ⟨v, hv0⟩ : ∃ v, x.num.natAbs = v := ⟨_, rfl⟩
  obtain ⟨d, hd0⟩ : ∃ d, x.den = d := ⟨_, rfl⟩
  have hdz : d ≠ 0 := by rw [← hd0]; exact x.den_nz
  have hqs := (hx.mono (Nat.le_succ J)).qs (by omega)
  obtain ⟨sv, sd⟩ := hqs
  rw [hv0] at sv
  rw [hd0] at sd
  obtain ⟨K, hK1, hK2⟩ : ∃ K, J + 8300 ≤ K ∧ K ≤ 1100000 := ⟨J + 8300, Nat.le_refl _, by omega⟩
  have hT : roT x k = roV s0 (rdN v d k) k := by unfold roT; rw [hs0, hv0, hd0]
  rw [hT]
  clear hT
  rw [hs0] at hn
  subst hn
  rw [hv0, hd0] at hz
  have HP := hid (fun W (h : Below w.heap.size w W) => dparts (hx.below h) hJ)
  rw [hs0, hv0, hd0] at HP
  have hdh := hid hdz
  obtain ⟨R, hR0⟩ : ∃ R, rdN v d k = R := ⟨_, rfl⟩
  have sR : Sz R K := by
    rw [← hR0]; unfold rdN
    exact (((szTwo sv).mul (szTen k)).add (sd.mono (Nat.le_refl _) (show J.succ ≤ J.succ + 1 + (k + 1) by omega))).mono (Nat.div_le_self _ _) (by omega)
  have hR := hid (show (2 * v * 10 ^ k + d) / (2 * d) = R from hR0)
  have hV := hid (show roV true R k = txt (ptd R k) by rw [hR0] at hz; exact if_neg (fun h => h.2 hz))
  have hsz := ptd_sz (k := k) sR
  rw [hR0] at hz
  have hzh := hid hz
  rw [hR0]
  generalize roV true R k = RT at *
  have hsR := hid sR
  have hsv := hid (sv.mono (Nat.le_refl _) (show J.succ ≤ K by omega))
  have hsd := hid (sd.mono (Nat.le_refl _) (show J.succ ≤ K by omega))
  have hs2d := hid ((szTwo sd).mono (Nat.le_refl _) (show J.succ + 1 ≤ K by omega))
  have hs2v := hid ((szTwo sv).mono (Nat.le_refl _) (show J.succ + 1 ≤ K by omega))
  have hsT0 := szTen k
  obtain ⟨T, hT0⟩ : ∃ T, 10 ^ k = T := ⟨_, rfl⟩
  have HT := hid (fun w => dten (w := w) k (by omega))
  rw [hT0] at HT hR hsT0
  have hsT := hid (hsT0.mono (Nat.le_refl _) (show k + 1 ≤ K by omega))
  have hsP0 := (szTwo sv).mul hsT0
  have hsP := hid (hsP0.mono (Nat.le_refl _) (show J.succ + 1 + (k + 1) ≤ K by omega))
  have hsA := hid ((hsP0.add (sd.mono (Nat.le_refl _) (show J.succ ≤ J.succ + 1 + (k + 1) by omega))).mono (Nat.le_refl _) (show J.succ + 1 + (k + 1) + 1 ≤ K by omega))
  clear hsP0 hsT0
  have s2 := hid (show Sz 2 1 from by show 2 < 4294967296 ^ 1; omega)
  clear sv sd hv0 hd0 hs0 hdz hR0 hT0 sR hx hz
  have hent := ent1 w #[Value.bool s, Value.slice a1 n1 c1, Value.slice b1 m1 d1] 29
  go_enter Try.func50, Try.ntmps50
  go_wp2_with fail
  generalize (w.alloc (.cells #[Value.bool s, Value.slice a1 n1 c1, Value.slice b1 m1 d1] 29)) = W0 at hent ⊢
  obtain ⟨X_0, hbel_0, hsz_0⟩ := hent
  have cX_0_0 : _ = some (Value.bool s) := X_0.cell 0
  have cX_0_1 : _ = some (Value.slice a1 n1 c1) := X_0.cell 1
  have cX_0_2 : _ = some (Value.slice b1 m1 d1) := X_0.cell 2
  go_wp2_with fail
  refine (HP.out _ hbel_0).mono ?_
  rintro e w1 ⟨na, nn, nc, da, dn, dc, rfl, hO, hO', hB⟩
  have hB_1 : Below W0.heap.size W0 w1 := (bl.next hB)
  have X_1 := X_0.next hB_1
  have cX_1_0 : _ = some (Value.bool s) := X_1.cell 0
  have cX_1_1 : _ = some (Value.slice a1 n1 c1) := X_1.cell 1
  have cX_1_2 : _ = some (Value.slice b1 m1 d1) := X_1.cell 2
  have hbel_1 := hbel_0.next hB_1
  have hsz_1 := hB_1.size
  clear X_0 cX_0_0 cX_0_1 cX_0_2 hbel_0 hB_1
  have V_1 := hO.rdN hsv.out
  have D_1 := hO'.rdN hsd.out
  clear hO hO'
  try clear hB
  go_wp2_with fail
  refine (of_any 2 (by omega) (by omega)).mono ?_
  rintro e w2 ⟨oa, on, oc, rfl, hO, hB⟩
  have hB_2 : Below w1.heap.size w1 w2 := (bl.next hB)
  have X_2 := X_1.next hB_2
  have cX_2_0 : _ = some (Value.bool s) := X_2.cell 0
  have cX_2_1 : _ = some (Value.slice a1 n1 c1) := X_2.cell 1
  have cX_2_2 : _ = some (Value.slice b1 m1 d1) := X_2.cell 2
  have V_2 := V_1.below hB_2
  have D_2 := D_1.below hB_2
  have hbel_2 := hbel_1.next hB_2
  have hsz_2 := hB_2.size
  clear X_1 cX_1_0 cX_1_1 cX_1_2 V_1 D_1 hbel_1 hB_2
  have T2_2 := hO.rdN (v := 2) s2.out
  clear hO
  try clear hB
  go_wp2_with fail
  refine (nmulR T2_2 D_2 (by omega) (by omega)).mono ?_
  rintro e w3 ⟨ta, tn, tc, rfl, hO, hB⟩
  have hB_3 : Below w2.heap.size w2 w3 := (bl.next hB)
  have X_3 := X_2.next hB_3
  have cX_3_0 : _ = some (Value.bool s) := X_3.cell 0
  have cX_3_1 : _ = some (Value.slice a1 n1 c1) := X_3.cell 1
  have cX_3_2 : _ = some (Value.slice b1 m1 d1) := X_3.cell 2
  have V_3 := V_2.below hB_3
  have D_3 := D_2.below hB_3
  have T2_3 := T2_2.below hB_3
  have hbel_3 := hbel_2.next hB_3
  have hsz_3 := hB_3.size
  clear X_2 cX_2_0 cX_2_1 cX_2_2 V_2 D_2 T2_2 hbel_2 hB_3
  have TD_3 := hO.rdN hs2d.out
  clear hO
  try clear hB
  clear T2_3
  go_wp2_with fail
  refine (of_any 2 (by omega) (by omega)).mono ?_
  rintro e w4 ⟨pa, pn, pc, rfl, hO, hB⟩
  have hB_4 : Below w3.heap.size w3 w4 := (bl.next hB)
  have X_4 := X_3.next hB_4
  have cX_4_0 : _ = some (Value.bool s) := X_4.cell 0
  have cX_4_1 : _ = some (Value.slice a1 n1 c1) := X_4.cell 1
  have cX_4_2 : _ = some (Value.slice b1 m1 d1) := X_4.cell 2
  have V_4 := V_3.below hB_4
  have D_4 := D_3.below hB_4
  have TD_4 := TD_3.below hB_4
  have hbel_4 := hbel_3.next hB_4
  have hsz_4 := hB_4.size
  clear X_3 cX_3_0 cX_3_1 cX_3_2 V_3 D_3 TD_3 hbel_3 hB_4
  have T2_4 := hO.rdN (v := 2) s2.out
  clear hO
  try clear hB
  go_wp2_with fail
  refine (nmulR T2_4 V_4 (by omega) (by omega)).mono ?_
  rintro e w5 ⟨ua, un, uc, rfl, hO, hB⟩
  have hB_5 : Below w4.heap.size w4 w5 := (bl.next hB)
  have X_5 := X_4.next hB_5
  have cX_5_0 : _ = some (Value.bool s) := X_5.cell 0
  have cX_5_1 : _ = some (Value.slice a1 n1 c1) := X_5.cell 1
  have cX_5_2 : _ = some (Value.slice b1 m1 d1) := X_5.cell 2
  have V_5 := V_4.below hB_5
  have D_5 := D_4.below hB_5
  have TD_5 := TD_4.below hB_5
  have T2_5 := T2_4.below hB_5
  have hbel_5 := hbel_4.next hB_5
  have hsz_5 := hB_5.size
  clear X_4 cX_4_0 cX_4_1 cX_4_2 V_4 D_4 TD_4 T2_4 hbel_4 hB_5
  have TV_5 := hO.rdN hs2v.out
  clear hO
  try clear hB
  clear T2_5
  clear V_5
  go_wp2_with fail
  refine (HT.out _).mono ?_
  rintro e w6 ⟨ka, kn, kc, rfl, hO, hB⟩
  have hB_6 : Below w5.heap.size w5 w6 := (bl.next hB)
  have X_6 := X_5.next hB_6
  have cX_6_0 : _ = some (Value.bool s) := X_6.cell 0
  have cX_6_1 : _ = some (Value.slice a1 n1 c1) := X_6.cell 1
  have cX_6_2 : _ = some (Value.slice b1 m1 d1) := X_6.cell 2
  have D_6 := D_5.below hB_6
  have TD_6 := TD_5.below hB_6
  have TV_6 := TV_5.below hB_6
  have hbel_6 := hbel_5.next hB_6
  have hsz_6 := hB_6.size
  clear X_5 cX_5_0 cX_5_1 cX_5_2 D_5 TD_5 TV_5 hbel_5 hB_6
  have TK_6 := hO.rdN hsT.out
  clear hO
  try clear hB
  go_wp2_with fail
  refine (nmulR TV_6 TK_6 (by omega) (by omega)).mono ?_
  rintro e w7 ⟨ma, mn, mc, rfl, hO, hB⟩
  have hB_7 : Below w6.heap.size w6 w7 := (bl.next hB)
  have X_7 := X_6.next hB_7
  have cX_7_0 : _ = some (Value.bool s) := X_7.cell 0
  have cX_7_1 : _ = some (Value.slice a1 n1 c1) := X_7.cell 1
  have cX_7_2 : _ = some (Value.slice b1 m1 d1) := X_7.cell 2
  have D_7 := D_6.below hB_7
  have TD_7 := TD_6.below hB_7
  have TV_7 := TV_6.below hB_7
  have TK_7 := TK_6.below hB_7
  have hbel_7 := hbel_6.next hB_7
  have hsz_7 := hB_7.size
  clear X_6 cX_6_0 cX_6_1 cX_6_2 D_6 TD_6 TV_6 TK_6 hbel_6 hB_7
  have M_7 := hO.rdN hsP.out
  clear hO
  try clear hB
  clear TV_7
  clear TK_7
  go_wp2_with fail
  refine (naddR M_7 D_7 (by omega) (by omega)).mono ?_
  rintro e w8 ⟨aa, an, ac, rfl, hO, hB⟩
  have hB_8 : Below w7.heap.size w7 w8 := (bl.next hB)
  have X_8 := X_7.next hB_8
  have cX_8_0 : _ = some (Value.bool s) := X_8.cell 0
  have cX_8_1 : _ = some (Value.slice a1 n1 c1) := X_8.cell 1
  have cX_8_2 : _ = some (Value.slice b1 m1 d1) := X_8.cell 2
  have D_8 := D_7.below hB_8
  have TD_8 := TD_7.below hB_8
  have M_8 := M_7.below hB_8
  have hbel_8 := hbel_7.next hB_8
  have hsz_8 := hB_8.size
  clear X_7 cX_7_0 cX_7_1 cX_7_2 D_7 TD_7 M_7 hbel_7 hB_8
  have A_8 := hO.rdN hsA.out
  clear hO
  try clear hB
  clear M_8
  clear D_8
  go_wp2_with fail
  refine (ndivR A_8 TD_8 (by omega) (by omega) (by have := hdh.out; omega)).mono ?_
  rw [hR.out]
  rintro e w9 ⟨qa, qn, qc, ra, rn, rc, rfl, hO, hO', hD, hB⟩
  have hB_9 : Below w8.heap.size w8 w9 := (bl.next hB)
  have X_9 := X_8.next hB_9
  have cX_9_0 : _ = some (Value.bool s) := X_9.cell 0
  have cX_9_1 : _ = some (Value.slice a1 n1 c1) := X_9.cell 1
  have cX_9_2 : _ = some (Value.slice b1 m1 d1) := X_9.cell 2
  have TD_9 := TD_8.below hB_9
  have A_9 := A_8.below hB_9
  have hbel_9 := hbel_8.next hB_9
  have hsz_9 := hB_9.size
  clear X_8 cX_8_0 cX_8_1 cX_8_2 TD_8 A_8 hbel_8 hB_9
  have hql := hid hO.len
  have Q_9 := hO.rdN hsR.out
  clear hO hO' hD
  try clear hB
  clear A_9
  clear TD_9
  have hq0 : qn = 0 := by rw [← hql.out, hzh.out]; rfl
  subst hq0
  go_wp2_with fail
  refine (dpt Q_9 (by omega) k (by omega)).mono ?_
  rintro e w10 ⟨rfl, hB⟩
  have hB_10 : Below w9.heap.size w9 w10 := (bl.next hB)
  have X_10 := X_9.next hB_10
  have cX_10_0 : _ = some (Value.bool s) := X_10.cell 0
  have cX_10_1 : _ = some (Value.slice a1 n1 c1) := X_10.cell 1
  have cX_10_2 : _ = some (Value.slice b1 m1 d1) := X_10.cell 2
  have Q_10 := Q_9.below hB_10
  have hbel_10 := hbel_9.next hB_10
  have hsz_10 := hB_10.size
  clear X_9 cX_9_0 cX_9_1 cX_9_2 Q_9 hbel_9 hB_10
  try clear hB
  generalize txt (ptd R k) = S at *
  go_wp2
  go_ret2
  exact ⟨by rw [hV.out]; rfl, hbel_10⟩

set_option maxRecDepth 100000 in
set_option maxHeartbeats 4000000 in
theorem dround10 {w : World} {a1 b1 : Option Addr} {n1 c1 m1 d1 : Nat} {s : Bool} {x : Rat} {J : Nat} (hx : RdQ J w s a1 n1 c1 b1 m1 d1 x) (hJ : J ≤ 1000000) (k : Nat) (hk : k ≤ 4096) (hn : decide (x.num < 0) = true) (hz : rdN x.num.natAbs x.den k ≠ 0) :
    Calls Try.prog 50 #[.agg #[.bool s, .slice a1 n1 c1, .slice b1 m1 d1], .int .i64 k] w (RetSE w (roT x k) 0) := by
  obtain ⟨s0, hs0⟩ : ∃ s, decide (x.num < 0) = s := ⟨_, rfl⟩
  obtain ⟨v, hv0⟩ : ∃ v, x.num.natAbs = v := ⟨_, rfl⟩
  obtain ⟨d, hd0⟩ : ∃ d, x.den = d := ⟨_, rfl⟩
  have hdz : d ≠ 0 := by rw [← hd0]; exact x.den_nz
  have hqs := (hx.mono (Nat.le_succ J)).qs (by omega)
  obtain ⟨sv, sd⟩ := hqs
  rw [hv0] at sv
  rw [hd0] at sd
  obtain ⟨K, hK1, hK2⟩ : ∃ K, J + 8300 ≤ K ∧ K ≤ 1100000 := ⟨J + 8300, Nat.le_refl _, by omega⟩
  have hT : roT x k = roV s0 (rdN v d k) k := by unfold roT; rw [hs0, hv0, hd0]
  rw [hT]
  clear hT
  rw [hs0] at hn
  subst hn
  rw [hv0, hd0] at hz
  have HP := hid (fun W (h : Below w.heap.size w W) => dparts (hx.below h) hJ)
  rw [hs0, hv0, hd0] at HP
  have hdh := hid hdz
  obtain ⟨R, hR0⟩ : ∃ R, rdN v d k = R := ⟨_, rfl⟩
  have sR : Sz R K := by
    rw [← hR0]; unfold rdN
    exact (((szTwo sv).mul (szTen k)).add (sd.mono (Nat.le_refl _) (show J.succ ≤ J.succ + 1 + (k + 1) by omega))).mono (Nat.div_le_self _ _) (by omega)
  have hR := hid (show (2 * v * 10 ^ k + d) / (2 * d) = R from hR0)
  have hV := hid (show roV true R k = ⟨#[45]⟩ ++ txt (ptd R k) by rw [hR0] at hz; exact if_pos ⟨rfl, hz⟩)
  have hsz := ptd_sz (k := k) sR
  rw [hR0] at hz
  have hzh := hid hz
  rw [hR0]
  generalize roV true R k = RT at *
  have hsR := hid sR
  have hsv := hid (sv.mono (Nat.le_refl _) (show J.succ ≤ K by omega))
  have hsd := hid (sd.mono (Nat.le_refl _) (show J.succ ≤ K by omega))
  have hs2d := hid ((szTwo sd).mono (Nat.le_refl _) (show J.succ + 1 ≤ K by omega))
  have hs2v := hid ((szTwo sv).mono (Nat.le_refl _) (show J.succ + 1 ≤ K by omega))
  have hsT0 := szTen k
  obtain ⟨T, hT0⟩ : ∃ T, 10 ^ k = T := ⟨_, rfl⟩
  have HT := hid (fun w => dten (w := w) k (by omega))
  rw [hT0] at HT hR hsT0
  have hsT := hid (hsT0.mono (Nat.le_refl _) (show k + 1 ≤ K by omega))
  have hsP0 := (szTwo sv).mul hsT0
  have hsP := hid (hsP0.mono (Nat.le_refl _) (show J.succ + 1 + (k + 1) ≤ K by omega))
  have hsA := hid ((hsP0.add (sd.mono (Nat.le_refl _) (show J.succ ≤ J.succ + 1 + (k + 1) by omega))).mono (Nat.le_refl _) (show J.succ + 1 + (k + 1) + 1 ≤ K by omega))
  clear hsP0 hsT0
  have s2 := hid (show Sz 2 1 from by show 2 < 4294967296 ^ 1; omega)
  clear sv sd hv0 hd0 hs0 hdz hR0 hT0 sR hx hz
  have hent := ent1 w #[Value.bool s, Value.slice a1 n1 c1, Value.slice b1 m1 d1] 29
  go_enter Try.func50, Try.ntmps50
  go_wp2_with fail
  generalize (w.alloc (.cells #[Value.bool s, Value.slice a1 n1 c1, Value.slice b1 m1 d1] 29)) = W0 at hent ⊢
  obtain ⟨X_0, hbel_0, hsz_0⟩ := hent
  have cX_0_0 : _ = some (Value.bool s) := X_0.cell 0
  have cX_0_1 : _ = some (Value.slice a1 n1 c1) := X_0.cell 1
  have cX_0_2 : _ = some (Value.slice b1 m1 d1) := X_0.cell 2
  go_wp2_with fail
  refine (HP.out _ hbel_0).mono ?_
  rintro e w1 ⟨na, nn, nc, da, dn, dc, rfl, hO, hO', hB⟩
  have hB_1 : Below W0.heap.size W0 w1 := (bl.next hB)
  have X_1 := X_0.next hB_1
  have cX_1_0 : _ = some (Value.bool s) := X_1.cell 0
  have cX_1_1 : _ = some (Value.slice a1 n1 c1) := X_1.cell 1
  have cX_1_2 : _ = some (Value.slice b1 m1 d1) := X_1.cell 2
  have hbel_1 := hbel_0.next hB_1
  have hsz_1 := hB_1.size
  clear X_0 cX_0_0 cX_0_1 cX_0_2 hbel_0 hB_1
  have V_1 := hO.rdN hsv.out
  have D_1 := hO'.rdN hsd.out
  clear hO hO'
  try clear hB
  go_wp2_with fail
  refine (of_any 2 (by omega) (by omega)).mono ?_
  rintro e w2 ⟨oa, on, oc, rfl, hO, hB⟩
  have hB_2 : Below w1.heap.size w1 w2 := (bl.next hB)
  have X_2 := X_1.next hB_2
  have cX_2_0 : _ = some (Value.bool s) := X_2.cell 0
  have cX_2_1 : _ = some (Value.slice a1 n1 c1) := X_2.cell 1
  have cX_2_2 : _ = some (Value.slice b1 m1 d1) := X_2.cell 2
  have V_2 := V_1.below hB_2
  have D_2 := D_1.below hB_2
  have hbel_2 := hbel_1.next hB_2
  have hsz_2 := hB_2.size
  clear X_1 cX_1_0 cX_1_1 cX_1_2 V_1 D_1 hbel_1 hB_2
  have T2_2 := hO.rdN (v := 2) s2.out
  clear hO
  try clear hB
  go_wp2_with fail
  refine (nmulR T2_2 D_2 (by omega) (by omega)).mono ?_
  rintro e w3 ⟨ta, tn, tc, rfl, hO, hB⟩
  have hB_3 : Below w2.heap.size w2 w3 := (bl.next hB)
  have X_3 := X_2.next hB_3
  have cX_3_0 : _ = some (Value.bool s) := X_3.cell 0
  have cX_3_1 : _ = some (Value.slice a1 n1 c1) := X_3.cell 1
  have cX_3_2 : _ = some (Value.slice b1 m1 d1) := X_3.cell 2
  have V_3 := V_2.below hB_3
  have D_3 := D_2.below hB_3
  have T2_3 := T2_2.below hB_3
  have hbel_3 := hbel_2.next hB_3
  have hsz_3 := hB_3.size
  clear X_2 cX_2_0 cX_2_1 cX_2_2 V_2 D_2 T2_2 hbel_2 hB_3
  have TD_3 := hO.rdN hs2d.out
  clear hO
  try clear hB
  clear T2_3
  go_wp2_with fail
  refine (of_any 2 (by omega) (by omega)).mono ?_
  rintro e w4 ⟨pa, pn, pc, rfl, hO, hB⟩
  have hB_4 : Below w3.heap.size w3 w4 := (bl.next hB)
  have X_4 := X_3.next hB_4
  have cX_4_0 : _ = some (Value.bool s) := X_4.cell 0
  have cX_4_1 : _ = some (Value.slice a1 n1 c1) := X_4.cell 1
  have cX_4_2 : _ = some (Value.slice b1 m1 d1) := X_4.cell 2
  have V_4 := V_3.below hB_4
  have D_4 := D_3.below hB_4
  have TD_4 := TD_3.below hB_4
  have hbel_4 := hbel_3.next hB_4
  have hsz_4 := hB_4.size
  clear X_3 cX_3_0 cX_3_1 cX_3_2 V_3 D_3 TD_3 hbel_3 hB_4
  have T2_4 := hO.rdN (v := 2) s2.out
  clear hO
  try clear hB
  go_wp2_with fail
  refine (nmulR T2_4 V_4 (by omega) (by omega)).mono ?_
  rintro e w5 ⟨ua, un, uc, rfl, hO, hB⟩
  have hB_5 : Below w4.heap.size w4 w5 := (bl.next hB)
  have X_5 := X_4.next hB_5
  have cX_5_0 : _ = some (Value.bool s) := X_5.cell 0
  have cX_5_1 : _ = some (Value.slice a1 n1 c1) := X_5.cell 1
  have cX_5_2 : _ = some (Value.slice b1 m1 d1) := X_5.cell 2
  have V_5 := V_4.below hB_5
  have D_5 := D_4.below hB_5
  have TD_5 := TD_4.below hB_5
  have T2_5 := T2_4.below hB_5
  have hbel_5 := hbel_4.next hB_5
  have hsz_5 := hB_5.size
  clear X_4 cX_4_0 cX_4_1 cX_4_2 V_4 D_4 TD_4 T2_4 hbel_4 hB_5
  have TV_5 := hO.rdN hs2v.out
  clear hO
  try clear hB
  clear T2_5
  clear V_5
  go_wp2_with fail
  refine (HT.out _).mono ?_
  rintro e w6 ⟨ka, kn, kc, rfl, hO, hB⟩
  have hB_6 : Below w5.heap.size w5 w6 := (bl.next hB)
  have X_6 := X_5.next hB_6
  have cX_6_0 : _ = some (Value.bool s) := X_6.cell 0
  have cX_6_1 : _ = some (Value.slice a1 n1 c1) := X_6.cell 1
  have cX_6_2 : _ = some (Value.slice b1 m1 d1) := X_6.cell 2
  have D_6 := D_5.below hB_6
  have TD_6 := TD_5.below hB_6
  have TV_6 := TV_5.below hB_6
  have hbel_6 := hbel_5.next hB_6
  have hsz_6 := hB_6.size
  clear X_5 cX_5_0 cX_5_1 cX_5_2 D_5 TD_5 TV_5 hbel_5 hB_6
  have TK_6 := hO.rdN hsT.out
  clear hO
  try clear hB
  go_wp2_with fail
  refine (nmulR TV_6 TK_6 (by omega) (by omega)).mono ?_
  rintro e w7 ⟨ma, mn, mc, rfl, hO, hB⟩
  have hB_7 : Below w6.heap.size w6 w7 := (bl.next hB)
  have X_7 := X_6.next hB_7
  have cX_7_0 : _ = some (Value.bool s) := X_7.cell 0
  have cX_7_1 : _ = some (Value.slice a1 n1 c1) := X_7.cell 1
  have cX_7_2 : _ = some (Value.slice b1 m1 d1) := X_7.cell 2
  have D_7 := D_6.below hB_7
  have TD_7 := TD_6.below hB_7
  have TV_7 := TV_6.below hB_7
  have TK_7 := TK_6.below hB_7
  have hbel_7 := hbel_6.next hB_7
  have hsz_7 := hB_7.size
  clear X_6 cX_6_0 cX_6_1 cX_6_2 D_6 TD_6 TV_6 TK_6 hbel_6 hB_7
  have M_7 := hO.rdN hsP.out
  clear hO
  try clear hB
  clear TV_7
  clear TK_7
  go_wp2_with fail
  refine (naddR M_7 D_7 (by omega) (by omega)).mono ?_
  rintro e w8 ⟨aa, an, ac, rfl, hO, hB⟩
  have hB_8 : Below w7.heap.size w7 w8 := (bl.next hB)
  have X_8 := X_7.next hB_8
  have cX_8_0 : _ = some (Value.bool s) := X_8.cell 0
  have cX_8_1 : _ = some (Value.slice a1 n1 c1) := X_8.cell 1
  have cX_8_2 : _ = some (Value.slice b1 m1 d1) := X_8.cell 2
  have D_8 := D_7.below hB_8
  have TD_8 := TD_7.below hB_8
  have M_8 := M_7.below hB_8
  have hbel_8 := hbel_7.next hB_8
  have hsz_8 := hB_8.size
  clear X_7 cX_7_0 cX_7_1 cX_7_2 D_7 TD_7 M_7 hbel_7 hB_8
  have A_8 := hO.rdN hsA.out
  clear hO
  try clear hB
  clear M_8
  clear D_8
  go_wp2_with fail
  refine (ndivR A_8 TD_8 (by omega) (by omega) (by have := hdh.out; omega)).mono ?_
  rw [hR.out]
  rintro e w9 ⟨qa, qn, qc, ra, rn, rc, rfl, hO, hO', hD, hB⟩
  have hB_9 : Below w8.heap.size w8 w9 := (bl.next hB)
  have X_9 := X_8.next hB_9
  have cX_9_0 : _ = some (Value.bool s) := X_9.cell 0
  have cX_9_1 : _ = some (Value.slice a1 n1 c1) := X_9.cell 1
  have cX_9_2 : _ = some (Value.slice b1 m1 d1) := X_9.cell 2
  have TD_9 := TD_8.below hB_9
  have A_9 := A_8.below hB_9
  have hbel_9 := hbel_8.next hB_9
  have hsz_9 := hB_9.size
  clear X_8 cX_8_0 cX_8_1 cX_8_2 TD_8 A_8 hbel_8 hB_9
  have hql := hid hO.len
  have Q_9 := hO.rdN hsR.out
  clear hO hO' hD
  try clear hB
  clear A_9
  clear TD_9
  have hq0 : 0 < qn := by rw [← hql.out]; exact lm_len_pos.2 (Nat.pos_of_ne_zero hzh.out)
  have hbn := Q_9.len
  go_wp2_with fail
  refine (dpt Q_9 (by omega) k (by omega)).mono ?_
  rintro e w10 ⟨rfl, hB⟩
  have hB_10 : Below w9.heap.size w9 w10 := (bl.next hB)
  have X_10 := X_9.next hB_10
  have cX_10_0 : _ = some (Value.bool s) := X_10.cell 0
  have cX_10_1 : _ = some (Value.slice a1 n1 c1) := X_10.cell 1
  have cX_10_2 : _ = some (Value.slice b1 m1 d1) := X_10.cell 2
  have Q_10 := Q_9.below hB_10
  have hbel_10 := hbel_9.next hB_10
  have hsz_10 := hB_10.size
  clear X_9 cX_9_0 cX_9_1 cX_9_2 Q_9 hbel_9 hB_10
  try clear hB
  generalize txt (ptd R k) = S at *
  go_wp2
  go_ret2
  exact ⟨by rw [hV.out]; rfl, hbel_10⟩

theorem dround {w : World} {a1 b1 : Option Addr} {n1 c1 m1 d1 : Nat} {s : Bool} {x : Rat} {J : Nat} (hx : RdQ J w s a1 n1 c1 b1 m1 d1 x) (hJ : J ≤ 1000000) (k : Nat) (hk : k ≤ 4096) : Calls Try.prog 50 #[.agg #[.bool s, .slice a1 n1 c1, .slice b1 m1 d1], .int .i64 k] w (RetSE w (roT x k) 0) := by
  cases hn : decide (x.num < 0)
  · exact dround0 hx hJ k hk hn
  · by_cases hz : rdN x.num.natAbs x.den k = 0
    · exact dround11 hx hJ k hk hn hz
    · exact dround10 hx hJ k hk hn hz

set_option maxRecDepth 100000 in
set_option maxHeartbeats 4000000 in
theorem rround00 {w : World} {a1 b1 : Option Addr} {n1 c1 m1 d1 : Nat} {s : Bool} {x : Rat} {J : Nat} (hx : RdQ J w s a1 n1 c1 b1 m1 d1 x) (hJ : J ≤ 1000000) (k : Nat) (hk : k ≤ 4096) (hn : decide (x.num < 0) = false) (hu : ¬ x.den ≤ x.num.natAbs * 10 ^ k % x.den + x.num.natAbs * 10 ^ k % x.den) :
    Calls Try.prog 49 #[.agg #[.bool s, .slice a1 n1 c1, .slice b1 m1 d1], .int .i64 k] w (RetSE w (roT x k) 0) := by
  obtain ⟨s0, hs0⟩ : ∃ s, decide (x.num < 0) = s := ⟨_, rfl⟩
  obtain ⟨v, hv0⟩ : ∃ v, x.num.natAbs = v := ⟨_, rfl⟩
  obtain ⟨d, hd0⟩ : ∃ d, x.den = d := ⟨_, rfl⟩
  have hdz : d ≠ 0 := by rw [← hd0]; exact x.den_nz
  have hqs := (hx.mono (Nat.le_succ J)).qs (by omega)
  obtain ⟨sv, sd⟩ := hqs
  rw [hv0] at sv
  rw [hd0] at sd
  obtain ⟨K, hK1, hK2⟩ : ∃ K, J + 8300 ≤ K ∧ K ≤ 1100000 := ⟨J + 8300, Nat.le_refl _, by omega⟩
  have hT : roT x k = roV s0 (rdN v d k) k := by unfold roT; rw [hs0, hv0, hd0]
  rw [hT]
  clear hT
  rw [hs0] at hn
  subst hn
  rw [hv0, hd0] at hu
  have HP := hid (fun W (h : Below w.heap.size w W) => rparts (hx.below h) hJ)
  rw [hs0, hv0, hd0] at HP
  have hdh := hid hdz
  obtain ⟨R, hR0⟩ : ∃ R, rdN v d k = R := ⟨_, rfl⟩
  have sR : Sz R K := by
    rw [← hR0]; unfold rdN
    exact (((szTwo sv).mul (szTen k)).add (sd.mono (Nat.le_refl _) (show J.succ ≤ J.succ + 1 + (k + 1) by omega))).mono (Nat.div_le_self _ _) (by omega)
  have hR1 := rdN_ref (n := v) (k := k) (Nat.pos_of_ne_zero hdz)
  rw [if_neg hu, hR0] at hR1
  have hV := hid (show roV false R k = txt (ptd R k) by exact if_neg (fun h => by cases h.1))
  have hsz := ptd_sz (k := k) sR
  rw [hR0]
  generalize roV false R k = RT at *
  have hsR := hid sR
  have hsv := hid (sv.mono (Nat.le_refl _) (show J.succ ≤ K by omega))
  have hsd := hid (sd.mono (Nat.le_refl _) (show J.succ ≤ K by omega))
  have hsT0 := szTen k
  obtain ⟨T, hT0⟩ : ∃ T, 10 ^ k = T := ⟨_, rfl⟩
  have HT := hid (fun w => rten (w := w) k (by omega))
  rw [hT0] at HT hR1 hsT0 hu
  have hsT := hid (hsT0.mono (Nat.le_refl _) (show k + 1 ≤ K by omega))
  have hsP := hid ((sv.mul hsT0).mono (Nat.le_refl _) (show J.succ + (k + 1) ≤ K by omega))
  clear hsT0
  obtain ⟨Q0, hQ0⟩ : ∃ y, v * T / d = y := ⟨_, rfl⟩
  obtain ⟨r0, hr0⟩ : ∃ y, v * T % d = y := ⟨_, rfl⟩
  rw [hQ0] at hR1
  rw [hr0] at hu
  have hsQ0 := hid (show Sz Q0 K from (hsP.out.mono (by rw [← hQ0]; exact Nat.div_le_self _ _) (Nat.le_refl _)))
  have hsr0 := hid (show Sz r0 K from hsd.out.mono (by rw [← hr0]; exact Nat.le_of_lt (Nat.mod_lt _ (Nat.pos_of_ne_zero hdz))) (Nat.le_refl _))
  have hsrr := hid ((((sd.mono (show r0 ≤ d by rw [← hr0]; exact Nat.le_of_lt (Nat.mod_lt _ (Nat.pos_of_ne_zero hdz))) (Nat.le_refl _)).add (sd.mono (show r0 ≤ d by rw [← hr0]; exact Nat.le_of_lt (Nat.mod_lt _ (Nat.pos_of_ne_zero hdz))) (Nat.le_refl _))).mono (Nat.le_refl _) (show J.succ + 1 ≤ K by omega)))
  obtain ⟨ci, hci⟩ : ∃ y, cmpI (r0 + r0) d = y := ⟨_, rfl⟩
  have hcd : decide (0 ≤ ci) = false := by rw [← hci]; unfold cmpI; rw [if_pos (by omega)]; rfl
  have hch := hid hci
  have hQ := hid hQ0
  have hr := hid hr0
  have hR := hid hR1
  clear sv sd hv0 hd0 hs0 hdz hR0 hT0 sR hx hR1 hci hQ0 hr0 hu
  have hent := ent1 w #[Value.bool s, Value.slice a1 n1 c1, Value.slice b1 m1 d1] 29
  go_enter Try.func49, Try.ntmps49
  go_wp2_with fail
  generalize (w.alloc (.cells #[Value.bool s, Value.slice a1 n1 c1, Value.slice b1 m1 d1] 29)) = W0 at hent ⊢
  obtain ⟨X_0, hbel_0, hsz_0⟩ := hent
  have cX_0_0 : _ = some (Value.bool s) := X_0.cell 0
  have cX_0_1 : _ = some (Value.slice a1 n1 c1) := X_0.cell 1
  have cX_0_2 : _ = some (Value.slice b1 m1 d1) := X_0.cell 2
  go_wp2_with fail
  refine (HP.out _ hbel_0).mono ?_
  rintro e w1 ⟨na, nn, nc, da, dn, dc, rfl, hO, hO', hB⟩
  have hB_1 : Below W0.heap.size W0 w1 := (bl.next hB)
  have X_1 := X_0.next hB_1
  have cX_1_0 : _ = some (Value.bool s) := X_1.cell 0
  have cX_1_1 : _ = some (Value.slice a1 n1 c1) := X_1.cell 1
  have cX_1_2 : _ = some (Value.slice b1 m1 d1) := X_1.cell 2
  have hbel_1 := hbel_0.next hB_1
  have hsz_1 := hB_1.size
  clear X_0 cX_0_0 cX_0_1 cX_0_2 hbel_0 hB_1
  have V_1 := hO.rdN hsv.out
  have D_1 := hO'.rdN hsd.out
  clear hO hO'
  try clear hB
  go_wp2_with fail
  refine (HT.out _).mono ?_
  rintro e w2 ⟨ka, kn, kc, rfl, hO, hB⟩
  have hB_2 : Below w1.heap.size w1 w2 := (bl.next hB)
  have X_2 := X_1.next hB_2
  have cX_2_0 : _ = some (Value.bool s) := X_2.cell 0
  have cX_2_1 : _ = some (Value.slice a1 n1 c1) := X_2.cell 1
  have cX_2_2 : _ = some (Value.slice b1 m1 d1) := X_2.cell 2
  have V_2 := V_1.below hB_2
  have D_2 := D_1.below hB_2
  have hbel_2 := hbel_1.next hB_2
  have hsz_2 := hB_2.size
  clear X_1 cX_1_0 cX_1_1 cX_1_2 V_1 D_1 hbel_1 hB_2
  have TK_2 := hO.rdN hsT.out
  clear hO
  try clear hB
  go_wp2_with fail
  refine (rmulR V_2 TK_2 (by omega) (by omega)).mono ?_
  rintro e w3 ⟨ma, mn, mc, rfl, hO, hB⟩
  have hB_3 : Below w2.heap.size w2 w3 := (bl.next hB)
  have X_3 := X_2.next hB_3
  have cX_3_0 : _ = some (Value.bool s) := X_3.cell 0
  have cX_3_1 : _ = some (Value.slice a1 n1 c1) := X_3.cell 1
  have cX_3_2 : _ = some (Value.slice b1 m1 d1) := X_3.cell 2
  have V_3 := V_2.below hB_3
  have D_3 := D_2.below hB_3
  have TK_3 := TK_2.below hB_3
  have hbel_3 := hbel_2.next hB_3
  have hsz_3 := hB_3.size
  clear X_2 cX_2_0 cX_2_1 cX_2_2 V_2 D_2 TK_2 hbel_2 hB_3
  have M_3 := hO.rdN hsP.out
  clear hO
  try clear hB
  clear V_3
  clear TK_3
  go_wp2_with fail
  refine (rdivR M_3 D_3 (by omega) (by omega) hdh.out).mono ?_
  rw [hQ.out, hr.out]
  rintro e w4 ⟨qa, qn, qc, ra, rn, rc, rfl, hO, hO', hD, hB⟩
  have hB_4 : Below w3.heap.size w3 w4 := (bl.next hB)
  have X_4 := X_3.next hB_4
  have cX_4_0 : _ = some (Value.bool s) := X_4.cell 0
  have cX_4_1 : _ = some (Value.slice a1 n1 c1) := X_4.cell 1
  have cX_4_2 : _ = some (Value.slice b1 m1 d1) := X_4.cell 2
  have D_4 := D_3.below hB_4
  have M_4 := M_3.below hB_4
  have hbel_4 := hbel_3.next hB_4
  have hsz_4 := hB_4.size
  clear X_3 cX_3_0 cX_3_1 cX_3_2 D_3 M_3 hbel_3 hB_4
  have hql := hid hO.len
  have Q_4 := hO.rdN hsQ0.out
  have R_4 := hO'.rdN hsr0.out
  clear hO hO' hD
  try clear hB
  clear M_4
  go_wp2_with fail
  refine (raddR R_4 R_4 (by omega) (by omega)).mono ?_
  rintro e w5 ⟨aa, an, ac, rfl, hO, hB⟩
  have hB_5 : Below w4.heap.size w4 w5 := (bl.next hB)
  have X_5 := X_4.next hB_5
  have cX_5_0 : _ = some (Value.bool s) := X_5.cell 0
  have cX_5_1 : _ = some (Value.slice a1 n1 c1) := X_5.cell 1
  have cX_5_2 : _ = some (Value.slice b1 m1 d1) := X_5.cell 2
  have D_5 := D_4.below hB_5
  have Q_5 := Q_4.below hB_5
  have R_5 := R_4.below hB_5
  have hbel_5 := hbel_4.next hB_5
  have hsz_5 := hB_5.size
  clear X_4 cX_4_0 cX_4_1 cX_4_2 D_4 Q_4 R_4 hbel_4 hB_5
  have A_5 := hO.rdN hsrr.out
  clear hO
  try clear hB
  go_wp2_with fail
  refine (rcmpR A_5 D_5).mono ?_
  rw [hch.out]
  rintro e w6 ⟨rfl, hB⟩
  have hB_6 : Below w5.heap.size w5 w6 := (bl.next hB)
  have X_6 := X_5.next hB_6
  have cX_6_0 : _ = some (Value.bool s) := X_6.cell 0
  have cX_6_1 : _ = some (Value.slice a1 n1 c1) := X_6.cell 1
  have cX_6_2 : _ = some (Value.slice b1 m1 d1) := X_6.cell 2
  have D_6 := D_5.below hB_6
  have Q_6 := Q_5.below hB_6
  have R_6 := R_5.below hB_6
  have A_6 := A_5.below hB_6
  have hbel_6 := hbel_5.next hB_6
  have hsz_6 := hB_6.size
  clear X_5 cX_5_0 cX_5_1 cX_5_2 D_5 Q_5 R_5 A_5 hbel_5 hB_6
  try clear hB
  clear A_6
  clear R_6
  clear D_6
  have hRQ : Q0 = R := hR.out.symm
  subst hRQ
  go_wp2_with fail
  refine (rpt Q_6 (by omega) k (by omega)).mono ?_
  rintro e w7 ⟨rfl, hB⟩
  have hB_7 : Below w6.heap.size w6 w7 := (bl.next hB)
  have X_7 := X_6.next hB_7
  have cX_7_0 : _ = some (Value.bool s) := X_7.cell 0
  have cX_7_1 : _ = some (Value.slice a1 n1 c1) := X_7.cell 1
  have cX_7_2 : _ = some (Value.slice b1 m1 d1) := X_7.cell 2
  have Q_7 := Q_6.below hB_7
  have hbel_7 := hbel_6.next hB_7
  have hsz_7 := hB_7.size
  clear X_6 cX_6_0 cX_6_1 cX_6_2 Q_6 hbel_6 hB_7
  try clear hB
  generalize txt (ptd Q0 k) = S at *
  go_wp2
  go_ret2
  exact ⟨by rw [hV.out]; rfl, hbel_7⟩

set_option maxRecDepth 100000 in
set_option maxHeartbeats 4000000 in
theorem rround011 {w : World} {a1 b1 : Option Addr} {n1 c1 m1 d1 : Nat} {s : Bool} {x : Rat} {J : Nat} (hx : RdQ J w s a1 n1 c1 b1 m1 d1 x) (hJ : J ≤ 1000000) (k : Nat) (hk : k ≤ 4096) (hn : decide (x.num < 0) = true) (hz : rdN x.num.natAbs x.den k = 0) (hu : ¬ x.den ≤ x.num.natAbs * 10 ^ k % x.den + x.num.natAbs * 10 ^ k % x.den) :
    Calls Try.prog 49 #[.agg #[.bool s, .slice a1 n1 c1, .slice b1 m1 d1], .int .i64 k] w (RetSE w (roT x k) 0) := by
  obtain ⟨s0, hs0⟩ : ∃ s, decide (x.num < 0) = s := ⟨_, rfl⟩
  obtain ⟨v, hv0⟩ : ∃ v, x.num.natAbs = v := ⟨_, rfl⟩
  obtain ⟨d, hd0⟩ : ∃ d, x.den = d := ⟨_, rfl⟩
  have hdz : d ≠ 0 := by rw [← hd0]; exact x.den_nz
  have hqs := (hx.mono (Nat.le_succ J)).qs (by omega)
  obtain ⟨sv, sd⟩ := hqs
  rw [hv0] at sv
  rw [hd0] at sd
  obtain ⟨K, hK1, hK2⟩ : ∃ K, J + 8300 ≤ K ∧ K ≤ 1100000 := ⟨J + 8300, Nat.le_refl _, by omega⟩
  have hT : roT x k = roV s0 (rdN v d k) k := by unfold roT; rw [hs0, hv0, hd0]
  rw [hT]
  clear hT
  rw [hs0] at hn
  subst hn
  rw [hv0, hd0] at hz
  rw [hv0, hd0] at hu
  have HP := hid (fun W (h : Below w.heap.size w W) => rparts (hx.below h) hJ)
  rw [hs0, hv0, hd0] at HP
  have hdh := hid hdz
  obtain ⟨R, hR0⟩ : ∃ R, rdN v d k = R := ⟨_, rfl⟩
  have sR : Sz R K := by
    rw [← hR0]; unfold rdN
    exact (((szTwo sv).mul (szTen k)).add (sd.mono (Nat.le_refl _) (show J.succ ≤ J.succ + 1 + (k + 1) by omega))).mono (Nat.div_le_self _ _) (by omega)
  have hR1 := rdN_ref (n := v) (k := k) (Nat.pos_of_ne_zero hdz)
  rw [if_neg hu, hR0] at hR1
  have hV := hid (show roV true R k = txt (ptd R k) by rw [hR0] at hz; exact if_neg (fun h => h.2 hz))
  have hsz := ptd_sz (k := k) sR
  rw [hR0] at hz
  have hzh := hid hz
  rw [hR0]
  generalize roV true R k = RT at *
  have hsR := hid sR
  have hsv := hid (sv.mono (Nat.le_refl _) (show J.succ ≤ K by omega))
  have hsd := hid (sd.mono (Nat.le_refl _) (show J.succ ≤ K by omega))
  have hsT0 := szTen k
  obtain ⟨T, hT0⟩ : ∃ T, 10 ^ k = T := ⟨_, rfl⟩
  have HT := hid (fun w => rten (w := w) k (by omega))
  rw [hT0] at HT hR1 hsT0 hu
  have hsT := hid (hsT0.mono (Nat.le_refl _) (show k + 1 ≤ K by omega))
  have hsP := hid ((sv.mul hsT0).mono (Nat.le_refl _) (show J.succ + (k + 1) ≤ K by omega))
  clear hsT0
  obtain ⟨Q0, hQ0⟩ : ∃ y, v * T / d = y := ⟨_, rfl⟩
  obtain ⟨r0, hr0⟩ : ∃ y, v * T % d = y := ⟨_, rfl⟩
  rw [hQ0] at hR1
  rw [hr0] at hu
  have hsQ0 := hid (show Sz Q0 K from (hsP.out.mono (by rw [← hQ0]; exact Nat.div_le_self _ _) (Nat.le_refl _)))
  have hsr0 := hid (show Sz r0 K from hsd.out.mono (by rw [← hr0]; exact Nat.le_of_lt (Nat.mod_lt _ (Nat.pos_of_ne_zero hdz))) (Nat.le_refl _))
  have hsrr := hid ((((sd.mono (show r0 ≤ d by rw [← hr0]; exact Nat.le_of_lt (Nat.mod_lt _ (Nat.pos_of_ne_zero hdz))) (Nat.le_refl _)).add (sd.mono (show r0 ≤ d by rw [← hr0]; exact Nat.le_of_lt (Nat.mod_lt _ (Nat.pos_of_ne_zero hdz))) (Nat.le_refl _))).mono (Nat.le_refl _) (show J.succ + 1 ≤ K by omega)))
  obtain ⟨ci, hci⟩ : ∃ y, cmpI (r0 + r0) d = y := ⟨_, rfl⟩
  have hcd : decide (0 ≤ ci) = false := by rw [← hci]; unfold cmpI; rw [if_pos (by omega)]; rfl
  have hch := hid hci
  have hQ := hid hQ0
  have hr := hid hr0
  have hR := hid hR1
  clear sv sd hv0 hd0 hs0 hdz hR0 hT0 sR hx hR1 hci hQ0 hr0 hu hz
  have hent := ent1 w #[Value.bool s, Value.slice a1 n1 c1, Value.slice b1 m1 d1] 29
  go_enter Try.func49, Try.ntmps49
  go_wp2_with fail
  generalize (w.alloc (.cells #[Value.bool s, Value.slice a1 n1 c1, Value.slice b1 m1 d1] 29)) = W0 at hent ⊢
  obtain ⟨X_0, hbel_0, hsz_0⟩ := hent
  have cX_0_0 : _ = some (Value.bool s) := X_0.cell 0
  have cX_0_1 : _ = some (Value.slice a1 n1 c1) := X_0.cell 1
  have cX_0_2 : _ = some (Value.slice b1 m1 d1) := X_0.cell 2
  go_wp2_with fail
  refine (HP.out _ hbel_0).mono ?_
  rintro e w1 ⟨na, nn, nc, da, dn, dc, rfl, hO, hO', hB⟩
  have hB_1 : Below W0.heap.size W0 w1 := (bl.next hB)
  have X_1 := X_0.next hB_1
  have cX_1_0 : _ = some (Value.bool s) := X_1.cell 0
  have cX_1_1 : _ = some (Value.slice a1 n1 c1) := X_1.cell 1
  have cX_1_2 : _ = some (Value.slice b1 m1 d1) := X_1.cell 2
  have hbel_1 := hbel_0.next hB_1
  have hsz_1 := hB_1.size
  clear X_0 cX_0_0 cX_0_1 cX_0_2 hbel_0 hB_1
  have V_1 := hO.rdN hsv.out
  have D_1 := hO'.rdN hsd.out
  clear hO hO'
  try clear hB
  go_wp2_with fail
  refine (HT.out _).mono ?_
  rintro e w2 ⟨ka, kn, kc, rfl, hO, hB⟩
  have hB_2 : Below w1.heap.size w1 w2 := (bl.next hB)
  have X_2 := X_1.next hB_2
  have cX_2_0 : _ = some (Value.bool s) := X_2.cell 0
  have cX_2_1 : _ = some (Value.slice a1 n1 c1) := X_2.cell 1
  have cX_2_2 : _ = some (Value.slice b1 m1 d1) := X_2.cell 2
  have V_2 := V_1.below hB_2
  have D_2 := D_1.below hB_2
  have hbel_2 := hbel_1.next hB_2
  have hsz_2 := hB_2.size
  clear X_1 cX_1_0 cX_1_1 cX_1_2 V_1 D_1 hbel_1 hB_2
  have TK_2 := hO.rdN hsT.out
  clear hO
  try clear hB
  go_wp2_with fail
  refine (rmulR V_2 TK_2 (by omega) (by omega)).mono ?_
  rintro e w3 ⟨ma, mn, mc, rfl, hO, hB⟩
  have hB_3 : Below w2.heap.size w2 w3 := (bl.next hB)
  have X_3 := X_2.next hB_3
  have cX_3_0 : _ = some (Value.bool s) := X_3.cell 0
  have cX_3_1 : _ = some (Value.slice a1 n1 c1) := X_3.cell 1
  have cX_3_2 : _ = some (Value.slice b1 m1 d1) := X_3.cell 2
  have V_3 := V_2.below hB_3
  have D_3 := D_2.below hB_3
  have TK_3 := TK_2.below hB_3
  have hbel_3 := hbel_2.next hB_3
  have hsz_3 := hB_3.size
  clear X_2 cX_2_0 cX_2_1 cX_2_2 V_2 D_2 TK_2 hbel_2 hB_3
  have M_3 := hO.rdN hsP.out
  clear hO
  try clear hB
  clear V_3
  clear TK_3
  go_wp2_with fail
  refine (rdivR M_3 D_3 (by omega) (by omega) hdh.out).mono ?_
  rw [hQ.out, hr.out]
  rintro e w4 ⟨qa, qn, qc, ra, rn, rc, rfl, hO, hO', hD, hB⟩
  have hB_4 : Below w3.heap.size w3 w4 := (bl.next hB)
  have X_4 := X_3.next hB_4
  have cX_4_0 : _ = some (Value.bool s) := X_4.cell 0
  have cX_4_1 : _ = some (Value.slice a1 n1 c1) := X_4.cell 1
  have cX_4_2 : _ = some (Value.slice b1 m1 d1) := X_4.cell 2
  have D_4 := D_3.below hB_4
  have M_4 := M_3.below hB_4
  have hbel_4 := hbel_3.next hB_4
  have hsz_4 := hB_4.size
  clear X_3 cX_3_0 cX_3_1 cX_3_2 D_3 M_3 hbel_3 hB_4
  have hql := hid hO.len
  have Q_4 := hO.rdN hsQ0.out
  have R_4 := hO'.rdN hsr0.out
  clear hO hO' hD
  try clear hB
  clear M_4
  go_wp2_with fail
  refine (raddR R_4 R_4 (by omega) (by omega)).mono ?_
  rintro e w5 ⟨aa, an, ac, rfl, hO, hB⟩
  have hB_5 : Below w4.heap.size w4 w5 := (bl.next hB)
  have X_5 := X_4.next hB_5
  have cX_5_0 : _ = some (Value.bool s) := X_5.cell 0
  have cX_5_1 : _ = some (Value.slice a1 n1 c1) := X_5.cell 1
  have cX_5_2 : _ = some (Value.slice b1 m1 d1) := X_5.cell 2
  have D_5 := D_4.below hB_5
  have Q_5 := Q_4.below hB_5
  have R_5 := R_4.below hB_5
  have hbel_5 := hbel_4.next hB_5
  have hsz_5 := hB_5.size
  clear X_4 cX_4_0 cX_4_1 cX_4_2 D_4 Q_4 R_4 hbel_4 hB_5
  have A_5 := hO.rdN hsrr.out
  clear hO
  try clear hB
  go_wp2_with fail
  refine (rcmpR A_5 D_5).mono ?_
  rw [hch.out]
  rintro e w6 ⟨rfl, hB⟩
  have hB_6 : Below w5.heap.size w5 w6 := (bl.next hB)
  have X_6 := X_5.next hB_6
  have cX_6_0 : _ = some (Value.bool s) := X_6.cell 0
  have cX_6_1 : _ = some (Value.slice a1 n1 c1) := X_6.cell 1
  have cX_6_2 : _ = some (Value.slice b1 m1 d1) := X_6.cell 2
  have D_6 := D_5.below hB_6
  have Q_6 := Q_5.below hB_6
  have R_6 := R_5.below hB_6
  have A_6 := A_5.below hB_6
  have hbel_6 := hbel_5.next hB_6
  have hsz_6 := hB_6.size
  clear X_5 cX_5_0 cX_5_1 cX_5_2 D_5 Q_5 R_5 A_5 hbel_5 hB_6
  try clear hB
  clear A_6
  clear R_6
  clear D_6
  have hRQ : Q0 = R := hR.out.symm
  subst hRQ
  have hq0 : qn = 0 := by rw [← hql.out, hzh.out]; rfl
  subst hq0
  go_wp2_with fail
  refine (rpt Q_6 (by omega) k (by omega)).mono ?_
  rintro e w7 ⟨rfl, hB⟩
  have hB_7 : Below w6.heap.size w6 w7 := (bl.next hB)
  have X_7 := X_6.next hB_7
  have cX_7_0 : _ = some (Value.bool s) := X_7.cell 0
  have cX_7_1 : _ = some (Value.slice a1 n1 c1) := X_7.cell 1
  have cX_7_2 : _ = some (Value.slice b1 m1 d1) := X_7.cell 2
  have Q_7 := Q_6.below hB_7
  have hbel_7 := hbel_6.next hB_7
  have hsz_7 := hB_7.size
  clear X_6 cX_6_0 cX_6_1 cX_6_2 Q_6 hbel_6 hB_7
  try clear hB
  generalize txt (ptd Q0 k) = S at *
  go_wp2
  go_ret2
  exact ⟨by rw [hV.out]; rfl, hbel_7⟩

set_option maxRecDepth 100000 in
set_option maxHeartbeats 4000000 in
theorem rround010 {w : World} {a1 b1 : Option Addr} {n1 c1 m1 d1 : Nat} {s : Bool} {x : Rat} {J : Nat} (hx : RdQ J w s a1 n1 c1 b1 m1 d1 x) (hJ : J ≤ 1000000) (k : Nat) (hk : k ≤ 4096) (hn : decide (x.num < 0) = true) (hz : rdN x.num.natAbs x.den k ≠ 0) (hu : ¬ x.den ≤ x.num.natAbs * 10 ^ k % x.den + x.num.natAbs * 10 ^ k % x.den) :
    Calls Try.prog 49 #[.agg #[.bool s, .slice a1 n1 c1, .slice b1 m1 d1], .int .i64 k] w (RetSE w (roT x k) 0) := by
  obtain ⟨s0, hs0⟩ : ∃ s, decide (x.num < 0) = s := ⟨_, rfl⟩
  obtain ⟨v, hv0⟩ : ∃ v, x.num.natAbs = v := ⟨_, rfl⟩
  obtain ⟨d, hd0⟩ : ∃ d, x.den = d := ⟨_, rfl⟩
  have hdz : d ≠ 0 := by rw [← hd0]; exact x.den_nz
  have hqs := (hx.mono (Nat.le_succ J)).qs (by omega)
  obtain ⟨sv, sd⟩ := hqs
  rw [hv0] at sv
  rw [hd0] at sd
  obtain ⟨K, hK1, hK2⟩ : ∃ K, J + 8300 ≤ K ∧ K ≤ 1100000 := ⟨J + 8300, Nat.le_refl _, by omega⟩
  have hT : roT x k = roV s0 (rdN v d k) k := by unfold roT; rw [hs0, hv0, hd0]
  rw [hT]
  clear hT
  rw [hs0] at hn
  subst hn
  rw [hv0, hd0] at hz
  rw [hv0, hd0] at hu
  have HP := hid (fun W (h : Below w.heap.size w W) => rparts (hx.below h) hJ)
  rw [hs0, hv0, hd0] at HP
  have hdh := hid hdz
  obtain ⟨R, hR0⟩ : ∃ R, rdN v d k = R := ⟨_, rfl⟩
  have sR : Sz R K := by
    rw [← hR0]; unfold rdN
    exact (((szTwo sv).mul (szTen k)).add (sd.mono (Nat.le_refl _) (show J.succ ≤ J.succ + 1 + (k + 1) by omega))).mono (Nat.div_le_self _ _) (by omega)
  have hR1 := rdN_ref (n := v) (k := k) (Nat.pos_of_ne_zero hdz)
  rw [if_neg hu, hR0] at hR1
  have hV := hid (show roV true R k = ⟨#[45]⟩ ++ txt (ptd R k) by rw [hR0] at hz; exact if_pos ⟨rfl, hz⟩)
  have hsz := ptd_sz (k := k) sR
  rw [hR0] at hz
  have hzh := hid hz
  rw [hR0]
  generalize roV true R k = RT at *
  have hsR := hid sR
  have hsv := hid (sv.mono (Nat.le_refl _) (show J.succ ≤ K by omega))
  have hsd := hid (sd.mono (Nat.le_refl _) (show J.succ ≤ K by omega))
  have hsT0 := szTen k
  obtain ⟨T, hT0⟩ : ∃ T, 10 ^ k = T := ⟨_, rfl⟩
  have HT := hid (fun w => rten (w := w) k (by omega))
  rw [hT0] at HT hR1 hsT0 hu
  have hsT := hid (hsT0.mono (Nat.le_refl _) (show k + 1 ≤ K by omega))
  have hsP := hid ((sv.mul hsT0).mono (Nat.le_refl _) (show J.succ + (k + 1) ≤ K by omega))
  clear hsT0
  obtain ⟨Q0, hQ0⟩ : ∃ y, v * T / d = y := ⟨_, rfl⟩
  obtain ⟨r0, hr0⟩ : ∃ y, v * T % d = y := ⟨_, rfl⟩
  rw [hQ0] at hR1
  rw [hr0] at hu
  have hsQ0 := hid (show Sz Q0 K from (hsP.out.mono (by rw [← hQ0]; exact Nat.div_le_self _ _) (Nat.le_refl _)))
  have hsr0 := hid (show Sz r0 K from hsd.out.mono (by rw [← hr0]; exact Nat.le_of_lt (Nat.mod_lt _ (Nat.pos_of_ne_zero hdz))) (Nat.le_refl _))
  have hsrr := hid ((((sd.mono (show r0 ≤ d by rw [← hr0]; exact Nat.le_of_lt (Nat.mod_lt _ (Nat.pos_of_ne_zero hdz))) (Nat.le_refl _)).add (sd.mono (show r0 ≤ d by rw [← hr0]; exact Nat.le_of_lt (Nat.mod_lt _ (Nat.pos_of_ne_zero hdz))) (Nat.le_refl _))).mono (Nat.le_refl _) (show J.succ + 1 ≤ K by omega)))
  obtain ⟨ci, hci⟩ : ∃ y, cmpI (r0 + r0) d = y := ⟨_, rfl⟩
  have hcd : decide (0 ≤ ci) = false := by rw [← hci]; unfold cmpI; rw [if_pos (by omega)]; rfl
  have hch := hid hci
  have hQ := hid hQ0
  have hr := hid hr0
  have hR := hid hR1
  clear sv sd hv0 hd0 hs0 hdz hR0 hT0 sR hx hR1 hci hQ0 hr0 hu hz
  have hent := ent1 w #[Value.bool s, Value.slice a1 n1 c1, Value.slice b1 m1 d1] 29
  go_enter Try.func49, Try.ntmps49
  go_wp2_with fail
  generalize (w.alloc (.cells #[Value.bool s, Value.slice a1 n1 c1, Value.slice b1 m1 d1] 29)) = W0 at hent ⊢
  obtain ⟨X_0, hbel_0, hsz_0⟩ := hent
  have cX_0_0 : _ = some (Value.bool s) := X_0.cell 0
  have cX_0_1 : _ = some (Value.slice a1 n1 c1) := X_0.cell 1
  have cX_0_2 : _ = some (Value.slice b1 m1 d1) := X_0.cell 2
  go_wp2_with fail
  refine (HP.out _ hbel_0).mono ?_
  rintro e w1 ⟨na, nn, nc, da, dn, dc, rfl, hO, hO', hB⟩
  have hB_1 : Below W0.heap.size W0 w1 := (bl.next hB)
  have X_1 := X_0.next hB_1
  have cX_1_0 : _ = some (Value.bool s) := X_1.cell 0
  have cX_1_1 : _ = some (Value.slice a1 n1 c1) := X_1.cell 1
  have cX_1_2 : _ = some (Value.slice b1 m1 d1) := X_1.cell 2
  have hbel_1 := hbel_0.next hB_1
  have hsz_1 := hB_1.size
  clear X_0 cX_0_0 cX_0_1 cX_0_2 hbel_0 hB_1
  have V_1 := hO.rdN hsv.out
  have D_1 := hO'.rdN hsd.out
  clear hO hO'
  try clear hB
  go_wp2_with fail
  refine (HT.out _).mono ?_
  rintro e w2 ⟨ka, kn, kc, rfl, hO, hB⟩
  have hB_2 : Below w1.heap.size w1 w2 := (bl.next hB)
  have X_2 := X_1.next hB_2
  have cX_2_0 : _ = some (Value.bool s) := X_2.cell 0
  have cX_2_1 : _ = some (Value.slice a1 n1 c1) := X_2.cell 1
  have cX_2_2 : _ = some (Value.slice b1 m1 d1) := X_2.cell 2
  have V_2 := V_1.below hB_2
  have D_2 := D_1.below hB_2
  have hbel_2 := hbel_1.next hB_2
  have hsz_2 := hB_2.size
  clear X_1 cX_1_0 cX_1_1 cX_1_2 V_1 D_1 hbel_1 hB_2
  have TK_2 := hO.rdN hsT.out
  clear hO
  try clear hB
  go_wp2_with fail
  refine (rmulR V_2 TK_2 (by omega) (by omega)).mono ?_
  rintro e w3 ⟨ma, mn, mc, rfl, hO, hB⟩
  have hB_3 : Below w2.heap.size w2 w3 := (bl.next hB)
  have X_3 := X_2.next hB_3
  have cX_3_0 : _ = some (Value.bool s) := X_3.cell 0
  have cX_3_1 : _ = some (Value.slice a1 n1 c1) := X_3.cell 1
  have cX_3_2 : _ = some (Value.slice b1 m1 d1) := X_3.cell 2
  have V_3 := V_2.below hB_3
  have D_3 := D_2.below hB_3
  have TK_3 := TK_2.below hB_3
  have hbel_3 := hbel_2.next hB_3
  have hsz_3 := hB_3.size
  clear X_2 cX_2_0 cX_2_1 cX_2_2 V_2 D_2 TK_2 hbel_2 hB_3
  have M_3 := hO.rdN hsP.out
  clear hO
  try clear hB
  clear V_3
  clear TK_3
  go_wp2_with fail
  refine (rdivR M_3 D_3 (by omega) (by omega) hdh.out).mono ?_
  rw [hQ.out, hr.out]
  rintro e w4 ⟨qa, qn, qc, ra, rn, rc, rfl, hO, hO', hD, hB⟩
  have hB_4 : Below w3.heap.size w3 w4 := (bl.next hB)
  have X_4 := X_3.next hB_4
  have cX_4_0 : _ = some (Value.bool s) := X_4.cell 0
  have cX_4_1 : _ = some (Value.slice a1 n1 c1) := X_4.cell 1
  have cX_4_2 : _ = some (Value.slice b1 m1 d1) := X_4.cell 2
  have D_4 := D_3.below hB_4
  have M_4 := M_3.below hB_4
  have hbel_4 := hbel_3.next hB_4
  have hsz_4 := hB_4.size
  clear X_3 cX_3_0 cX_3_1 cX_3_2 D_3 M_3 hbel_3 hB_4
  have hql := hid hO.len
  have Q_4 := hO.rdN hsQ0.out
  have R_4 := hO'.rdN hsr0.out
  clear hO hO' hD
  try clear hB
  clear M_4
  go_wp2_with fail
  refine (raddR R_4 R_4 (by omega) (by omega)).mono ?_
  rintro e w5 ⟨aa, an, ac, rfl, hO, hB⟩
  have hB_5 : Below w4.heap.size w4 w5 := (bl.next hB)
  have X_5 := X_4.next hB_5
  have cX_5_0 : _ = some (Value.bool s) := X_5.cell 0
  have cX_5_1 : _ = some (Value.slice a1 n1 c1) := X_5.cell 1
  have cX_5_2 : _ = some (Value.slice b1 m1 d1) := X_5.cell 2
  have D_5 := D_4.below hB_5
  have Q_5 := Q_4.below hB_5
  have R_5 := R_4.below hB_5
  have hbel_5 := hbel_4.next hB_5
  have hsz_5 := hB_5.size
  clear X_4 cX_4_0 cX_4_1 cX_4_2 D_4 Q_4 R_4 hbel_4 hB_5
  have A_5 := hO.rdN hsrr.out
  clear hO
  try clear hB
  go_wp2_with fail
  refine (rcmpR A_5 D_5).mono ?_
  rw [hch.out]
  rintro e w6 ⟨rfl, hB⟩
  have hB_6 : Below w5.heap.size w5 w6 := (bl.next hB)
  have X_6 := X_5.next hB_6
  have cX_6_0 : _ = some (Value.bool s) := X_6.cell 0
  have cX_6_1 : _ = some (Value.slice a1 n1 c1) := X_6.cell 1
  have cX_6_2 : _ = some (Value.slice b1 m1 d1) := X_6.cell 2
  have D_6 := D_5.below hB_6
  have Q_6 := Q_5.below hB_6
  have R_6 := R_5.below hB_6
  have A_6 := A_5.below hB_6
  have hbel_6 := hbel_5.next hB_6
  have hsz_6 := hB_6.size
  clear X_5 cX_5_0 cX_5_1 cX_5_2 D_5 Q_5 R_5 A_5 hbel_5 hB_6
  try clear hB
  clear A_6
  clear R_6
  clear D_6
  have hRQ : Q0 = R := hR.out.symm
  subst hRQ
  have hq0 : 0 < qn := by rw [← hql.out]; exact lm_len_pos.2 (Nat.pos_of_ne_zero hzh.out)
  have hbn := Q_6.len
  go_wp2_with fail
  refine (rpt Q_6 (by omega) k (by omega)).mono ?_
  rintro e w7 ⟨rfl, hB⟩
  have hB_7 : Below w6.heap.size w6 w7 := (bl.next hB)
  have X_7 := X_6.next hB_7
  have cX_7_0 : _ = some (Value.bool s) := X_7.cell 0
  have cX_7_1 : _ = some (Value.slice a1 n1 c1) := X_7.cell 1
  have cX_7_2 : _ = some (Value.slice b1 m1 d1) := X_7.cell 2
  have Q_7 := Q_6.below hB_7
  have hbel_7 := hbel_6.next hB_7
  have hsz_7 := hB_7.size
  clear X_6 cX_6_0 cX_6_1 cX_6_2 Q_6 hbel_6 hB_7
  try clear hB
  generalize txt (ptd Q0 k) = S at *
  go_wp2
  go_ret2
  exact ⟨by rw [hV.out]; rfl, hbel_7⟩

set_option maxRecDepth 100000 in
set_option maxHeartbeats 4000000 in
theorem rround10 {w : World} {a1 b1 : Option Addr} {n1 c1 m1 d1 : Nat} {s : Bool} {x : Rat} {J : Nat} (hx : RdQ J w s a1 n1 c1 b1 m1 d1 x) (hJ : J ≤ 1000000) (k : Nat) (hk : k ≤ 4096) (hn : decide (x.num < 0) = false) (hu : x.den ≤ x.num.natAbs * 10 ^ k % x.den + x.num.natAbs * 10 ^ k % x.den) :
    Calls Try.prog 49 #[.agg #[.bool s, .slice a1 n1 c1, .slice b1 m1 d1], .int .i64 k] w (RetSE w (roT x k) 0) := by
  obtain ⟨s0, hs0⟩ : ∃ s, decide (x.num < 0) = s := ⟨_, rfl⟩
  obtain ⟨v, hv0⟩ : ∃ v, x.num.natAbs = v := ⟨_, rfl⟩
  obtain ⟨d, hd0⟩ : ∃ d, x.den = d := ⟨_, rfl⟩
  have hdz : d ≠ 0 := by rw [← hd0]; exact x.den_nz
  have hqs := (hx.mono (Nat.le_succ J)).qs (by omega)
  obtain ⟨sv, sd⟩ := hqs
  rw [hv0] at sv
  rw [hd0] at sd
  obtain ⟨K, hK1, hK2⟩ : ∃ K, J + 8300 ≤ K ∧ K ≤ 1100000 := ⟨J + 8300, Nat.le_refl _, by omega⟩
  have hT : roT x k = roV s0 (rdN v d k) k := by unfold roT; rw [hs0, hv0, hd0]
  rw [hT]
  clear hT
  rw [hs0] at hn
  subst hn
  rw [hv0, hd0] at hu
  have HP := hid (fun W (h : Below w.heap.size w W) => rparts (hx.below h) hJ)
  rw [hs0, hv0, hd0] at HP
  have hdh := hid hdz
  obtain ⟨R, hR0⟩ : ∃ R, rdN v d k = R := ⟨_, rfl⟩
  have sR : Sz R K := by
    rw [← hR0]; unfold rdN
    exact (((szTwo sv).mul (szTen k)).add (sd.mono (Nat.le_refl _) (show J.succ ≤ J.succ + 1 + (k + 1) by omega))).mono (Nat.div_le_self _ _) (by omega)
  have hR1 := rdN_ref (n := v) (k := k) (Nat.pos_of_ne_zero hdz)
  rw [if_pos hu, hR0] at hR1
  have hV := hid (show roV false R k = txt (ptd R k) by exact if_neg (fun h => by cases h.1))
  have hsz := ptd_sz (k := k) sR
  rw [hR0]
  generalize roV false R k = RT at *
  have hsR := hid sR
  have hsv := hid (sv.mono (Nat.le_refl _) (show J.succ ≤ K by omega))
  have hsd := hid (sd.mono (Nat.le_refl _) (show J.succ ≤ K by omega))
  have hsT0 := szTen k
  obtain ⟨T, hT0⟩ : ∃ T, 10 ^ k = T := ⟨_, rfl⟩
  have HT := hid (fun w => rten (w := w) k (by omega))
  rw [hT0] at HT hR1 hsT0 hu
  have hsT := hid (hsT0.mono (Nat.le_refl _) (show k + 1 ≤ K by omega))
  have hsP := hid ((sv.mul hsT0).mono (Nat.le_refl _) (show J.succ + (k + 1) ≤ K by omega))
  clear hsT0
  obtain ⟨Q0, hQ0⟩ : ∃ y, v * T / d = y := ⟨_, rfl⟩
  obtain ⟨r0, hr0⟩ : ∃ y, v * T % d = y := ⟨_, rfl⟩
  rw [hQ0] at hR1
  rw [hr0] at hu
  have hsQ0 := hid (show Sz Q0 K from (hsP.out.mono (by rw [← hQ0]; exact Nat.div_le_self _ _) (Nat.le_refl _)))
  have hsr0 := hid (show Sz r0 K from hsd.out.mono (by rw [← hr0]; exact Nat.le_of_lt (Nat.mod_lt _ (Nat.pos_of_ne_zero hdz))) (Nat.le_refl _))
  have hsrr := hid ((((sd.mono (show r0 ≤ d by rw [← hr0]; exact Nat.le_of_lt (Nat.mod_lt _ (Nat.pos_of_ne_zero hdz))) (Nat.le_refl _)).add (sd.mono (show r0 ≤ d by rw [← hr0]; exact Nat.le_of_lt (Nat.mod_lt _ (Nat.pos_of_ne_zero hdz))) (Nat.le_refl _))).mono (Nat.le_refl _) (show J.succ + 1 ≤ K by omega)))
  obtain ⟨ci, hci⟩ : ∃ y, cmpI (r0 + r0) d = y := ⟨_, rfl⟩
  have hcd : decide (0 ≤ ci) = true := by rw [← hci]; unfold cmpI; rw [if_neg (by omega)]; split <;> rfl
  have hch := hid hci
  have hQ := hid hQ0
  have hr := hid hr0
  have hR := hid hR1
  clear sv sd hv0 hd0 hs0 hdz hR0 hT0 sR hx hR1 hci hQ0 hr0 hu
  have hent := ent1 w #[Value.bool s, Value.slice a1 n1 c1, Value.slice b1 m1 d1] 29
  go_enter Try.func49, Try.ntmps49
  go_wp2_with fail
  generalize (w.alloc (.cells #[Value.bool s, Value.slice a1 n1 c1, Value.slice b1 m1 d1] 29)) = W0 at hent ⊢
  obtain ⟨X_0, hbel_0, hsz_0⟩ := hent
  have cX_0_0 : _ = some (Value.bool s) := X_0.cell 0
  have cX_0_1 : _ = some (Value.slice a1 n1 c1) := X_0.cell 1
  have cX_0_2 : _ = some (Value.slice b1 m1 d1) := X_0.cell 2
  go_wp2_with fail
  refine (HP.out _ hbel_0).mono ?_
  rintro e w1 ⟨na, nn, nc, da, dn, dc, rfl, hO, hO', hB⟩
  have hB_1 : Below W0.heap.size W0 w1 := (bl.next hB)
  have X_1 := X_0.next hB_1
  have cX_1_0 : _ = some (Value.bool s) := X_1.cell 0
  have cX_1_1 : _ = some (Value.slice a1 n1 c1) := X_1.cell 1
  have cX_1_2 : _ = some (Value.slice b1 m1 d1) := X_1.cell 2
  have hbel_1 := hbel_0.next hB_1
  have hsz_1 := hB_1.size
  clear X_0 cX_0_0 cX_0_1 cX_0_2 hbel_0 hB_1
  have V_1 := hO.rdN hsv.out
  have D_1 := hO'.rdN hsd.out
  clear hO hO'
  try clear hB
  go_wp2_with fail
  refine (HT.out _).mono ?_
  rintro e w2 ⟨ka, kn, kc, rfl, hO, hB⟩
  have hB_2 : Below w1.heap.size w1 w2 := (bl.next hB)
  have X_2 := X_1.next hB_2
  have cX_2_0 : _ = some (Value.bool s) := X_2.cell 0
  have cX_2_1 : _ = some (Value.slice a1 n1 c1) := X_2.cell 1
  have cX_2_2 : _ = some (Value.slice b1 m1 d1) := X_2.cell 2
  have V_2 := V_1.below hB_2
  have D_2 := D_1.below hB_2
  have hbel_2 := hbel_1.next hB_2
  have hsz_2 := hB_2.size
  clear X_1 cX_1_0 cX_1_1 cX_1_2 V_1 D_1 hbel_1 hB_2
  have TK_2 := hO.rdN hsT.out
  clear hO
  try clear hB
  go_wp2_with fail
  refine (rmulR V_2 TK_2 (by omega) (by omega)).mono ?_
  rintro e w3 ⟨ma, mn, mc, rfl, hO, hB⟩
  have hB_3 : Below w2.heap.size w2 w3 := (bl.next hB)
  have X_3 := X_2.next hB_3
  have cX_3_0 : _ = some (Value.bool s) := X_3.cell 0
  have cX_3_1 : _ = some (Value.slice a1 n1 c1) := X_3.cell 1
  have cX_3_2 : _ = some (Value.slice b1 m1 d1) := X_3.cell 2
  have V_3 := V_2.below hB_3
  have D_3 := D_2.below hB_3
  have TK_3 := TK_2.below hB_3
  have hbel_3 := hbel_2.next hB_3
  have hsz_3 := hB_3.size
  clear X_2 cX_2_0 cX_2_1 cX_2_2 V_2 D_2 TK_2 hbel_2 hB_3
  have M_3 := hO.rdN hsP.out
  clear hO
  try clear hB
  clear V_3
  clear TK_3
  go_wp2_with fail
  refine (rdivR M_3 D_3 (by omega) (by omega) hdh.out).mono ?_
  rw [hQ.out, hr.out]
  rintro e w4 ⟨qa, qn, qc, ra, rn, rc, rfl, hO, hO', hD, hB⟩
  have hB_4 : Below w3.heap.size w3 w4 := (bl.next hB)
  have X_4 := X_3.next hB_4
  have cX_4_0 : _ = some (Value.bool s) := X_4.cell 0
  have cX_4_1 : _ = some (Value.slice a1 n1 c1) := X_4.cell 1
  have cX_4_2 : _ = some (Value.slice b1 m1 d1) := X_4.cell 2
  have D_4 := D_3.below hB_4
  have M_4 := M_3.below hB_4
  have hbel_4 := hbel_3.next hB_4
  have hsz_4 := hB_4.size
  clear X_3 cX_3_0 cX_3_1 cX_3_2 D_3 M_3 hbel_3 hB_4
  have hql := hid hO.len
  have Q_4 := hO.rdN hsQ0.out
  have R_4 := hO'.rdN hsr0.out
  clear hO hO' hD
  try clear hB
  clear M_4
  go_wp2_with fail
  refine (raddR R_4 R_4 (by omega) (by omega)).mono ?_
  rintro e w5 ⟨aa, an, ac, rfl, hO, hB⟩
  have hB_5 : Below w4.heap.size w4 w5 := (bl.next hB)
  have X_5 := X_4.next hB_5
  have cX_5_0 : _ = some (Value.bool s) := X_5.cell 0
  have cX_5_1 : _ = some (Value.slice a1 n1 c1) := X_5.cell 1
  have cX_5_2 : _ = some (Value.slice b1 m1 d1) := X_5.cell 2
  have D_5 := D_4.below hB_5
  have Q_5 := Q_4.below hB_5
  have R_5 := R_4.below hB_5
  have hbel_5 := hbel_4.next hB_5
  have hsz_5 := hB_5.size
  clear X_4 cX_4_0 cX_4_1 cX_4_2 D_4 Q_4 R_4 hbel_4 hB_5
  have A_5 := hO.rdN hsrr.out
  clear hO
  try clear hB
  go_wp2_with fail
  refine (rcmpR A_5 D_5).mono ?_
  rw [hch.out]
  rintro e w6 ⟨rfl, hB⟩
  have hB_6 : Below w5.heap.size w5 w6 := (bl.next hB)
  have X_6 := X_5.next hB_6
  have cX_6_0 : _ = some (Value.bool s) := X_6.cell 0
  have cX_6_1 : _ = some (Value.slice a1 n1 c1) := X_6.cell 1
  have cX_6_2 : _ = some (Value.slice b1 m1 d1) := X_6.cell 2
  have D_6 := D_5.below hB_6
  have Q_6 := Q_5.below hB_6
  have R_6 := R_5.below hB_6
  have A_6 := A_5.below hB_6
  have hbel_6 := hbel_5.next hB_6
  have hsz_6 := hB_6.size
  clear X_5 cX_5_0 cX_5_1 cX_5_2 D_5 Q_5 R_5 A_5 hbel_5 hB_6
  try clear hB
  clear A_6
  clear R_6
  clear D_6
  have hbx := blk_new w6 #[Value.int .u32 1] 39
  have hbB := (Below.refl w6.heap.size w6).alloc (Nat.le_refl _) (.cells #[Value.int .u32 1] 39)
  have hltONE := hbx.lt
  have hB_7 : Below w6.heap.size w6 (w6.alloc (.cells #[Value.int .u32 1] 39)) := hbB
  have X_7 := X_6.next hB_7
  have cX_7_0 : _ = some (Value.bool s) := X_7.cell 0
  have cX_7_1 : _ = some (Value.slice a1 n1 c1) := X_7.cell 1
  have cX_7_2 : _ = some (Value.slice b1 m1 d1) := X_7.cell 2
  have Q_7 := Q_6.below hB_7
  have hbel_7 := hbel_6.next hB_7
  have hsz_7 := hB_7.size
  clear hB_7
  have ONE_7 := hbx
  clear hbx hbB
  have cONE_7_0 : _ = some (Value.int .u32 1) := ONE_7.cell 0
  have O1_7 := (show Own w6.heap.size _ (some ⟨_, 0, none⟩) 1 1 [1] from own_one _ _ 1 (by omega) (Nat.le_refl _))
  go_wp2_with fail
  clear X_6 cX_6_0 cX_6_1 cX_6_2 Q_6 hbel_6
  generalize (w6.alloc (.cells #[Value.int .u32 1] 39)) = v7 at *
  have U_7 := (show RdN 1 _ _ _ _ 1 from (lm_one ▸ O1_7 : Own _ _ _ _ _ (lm 1)).rdN (v := 1) (k := 1) (sz_one (Nat.le_refl _)))
  clear O1_7
  go_wp2_with fail
  refine (raddR Q_7 U_7 (by omega) (by omega)).mono ?_
  rw [show Q0 + 1 = R from hR.out.symm]
  rintro e w8 ⟨qa2, qn2, qc2, rfl, hO, hB⟩
  have hB_8 : Below v7.heap.size v7 w8 := (bl.next hB)
  have X_8 := X_7.next hB_8
  have cX_8_0 : _ = some (Value.bool s) := X_8.cell 0
  have cX_8_1 : _ = some (Value.slice a1 n1 c1) := X_8.cell 1
  have cX_8_2 : _ = some (Value.slice b1 m1 d1) := X_8.cell 2
  have ONE_8 := ONE_7.next hB_8
  have cONE_8_0 : _ = some (Value.int .u32 1) := ONE_8.cell 0
  have Q_8 := Q_7.below hB_8
  have U_8 := U_7.below hB_8
  have hbel_8 := hbel_7.next hB_8
  have hsz_8 := hB_8.size
  clear X_7 cX_7_0 cX_7_1 cX_7_2 ONE_7 cONE_7_0 Q_7 U_7 hbel_7 hB_8
  have hql2 := hid hO.len
  have Q2_8 := hO.rdN hsR.out
  clear hO
  try clear hB
  clear Q_8
  clear U_8
  go_wp2_with fail
  refine (rpt Q2_8 (by omega) k (by omega)).mono ?_
  rintro e w9 ⟨rfl, hB⟩
  have hB_9 : Below w8.heap.size w8 w9 := (bl.next hB)
  have X_9 := X_8.next hB_9
  have cX_9_0 : _ = some (Value.bool s) := X_9.cell 0
  have cX_9_1 : _ = some (Value.slice a1 n1 c1) := X_9.cell 1
  have cX_9_2 : _ = some (Value.slice b1 m1 d1) := X_9.cell 2
  have ONE_9 := ONE_8.next hB_9
  have cONE_9_0 : _ = some (Value.int .u32 1) := ONE_9.cell 0
  have Q2_9 := Q2_8.below hB_9
  have hbel_9 := hbel_8.next hB_9
  have hsz_9 := hB_9.size
  clear X_8 cX_8_0 cX_8_1 cX_8_2 ONE_8 cONE_8_0 Q2_8 hbel_8 hB_9
  try clear hB
  generalize txt (ptd R k) = S at *
  go_wp2
  go_ret2
  exact ⟨by rw [hV.out]; rfl, hbel_9⟩

set_option maxRecDepth 100000 in
set_option maxHeartbeats 4000000 in
theorem rround110 {w : World} {a1 b1 : Option Addr} {n1 c1 m1 d1 : Nat} {s : Bool} {x : Rat} {J : Nat} (hx : RdQ J w s a1 n1 c1 b1 m1 d1 x) (hJ : J ≤ 1000000) (k : Nat) (hk : k ≤ 4096) (hn : decide (x.num < 0) = true) (hz : rdN x.num.natAbs x.den k ≠ 0) (hu : x.den ≤ x.num.natAbs * 10 ^ k % x.den + x.num.natAbs * 10 ^ k % x.den) :
    Calls Try.prog 49 #[.agg #[.bool s, .slice a1 n1 c1, .slice b1 m1 d1], .int .i64 k] w (RetSE w (roT x k) 0) := by
  obtain ⟨s0, hs0⟩ : ∃ s, decide (x.num < 0) = s := ⟨_, rfl⟩
  obtain ⟨v, hv0⟩ : ∃ v, x.num.natAbs = v := ⟨_, rfl⟩
  obtain ⟨d, hd0⟩ : ∃ d, x.den = d := ⟨_, rfl⟩
  have hdz : d ≠ 0 := by rw [← hd0]; exact x.den_nz
  have hqs := (hx.mono (Nat.le_succ J)).qs (by omega)
  obtain ⟨sv, sd⟩ := hqs
  rw [hv0] at sv
  rw [hd0] at sd
  obtain ⟨K, hK1, hK2⟩ : ∃ K, J + 8300 ≤ K ∧ K ≤ 1100000 := ⟨J + 8300, Nat.le_refl _, by omega⟩
  have hT : roT x k = roV s0 (rdN v d k) k := by unfold roT; rw [hs0, hv0, hd0]
  rw [hT]
  clear hT
  rw [hs0] at hn
  subst hn
  rw [hv0, hd0] at hz
  rw [hv0, hd0] at hu
  have HP := hid (fun W (h : Below w.heap.size w W) => rparts (hx.below h) hJ)
  rw [hs0, hv0, hd0] at HP
  have hdh := hid hdz
  obtain ⟨R, hR0⟩ : ∃ R, rdN v d k = R := ⟨_, rfl⟩
  have sR : Sz R K := by
    rw [← hR0]; unfold rdN
    exact (((szTwo sv).mul (szTen k)).add (sd.mono (Nat.le_refl _) (show J.succ ≤ J.succ + 1 + (k + 1) by omega))).mono (Nat.div_le_self _ _) (by omega)
  have hR1 := rdN_ref (n := v) (k := k) (Nat.pos_of_ne_zero hdz)
  rw [if_pos hu, hR0] at hR1
  have hV := hid (show roV true R k = ⟨#[45]⟩ ++ txt (ptd R k) by rw [hR0] at hz; exact if_pos ⟨rfl, hz⟩)
  have hsz := ptd_sz (k := k) sR
  rw [hR0] at hz
  have hzh := hid hz
  rw [hR0]
  generalize roV true R k = RT at *
  have hsR := hid sR
  have hsv := hid (sv.mono (Nat.le_refl _) (show J.succ ≤ K by omega))
  have hsd := hid (sd.mono (Nat.le_refl _) (show J.succ ≤ K by omega))
  have hsT0 := szTen k
  obtain ⟨T, hT0⟩ : ∃ T, 10 ^ k = T := ⟨_, rfl⟩
  have HT := hid (fun w => rten (w := w) k (by omega))
  rw [hT0] at HT hR1 hsT0 hu
  have hsT := hid (hsT0.mono (Nat.le_refl _) (show k + 1 ≤ K by omega))
  have hsP := hid ((sv.mul hsT0).mono (Nat.le_refl _) (show J.succ + (k + 1) ≤ K by omega))
  clear hsT0
  obtain ⟨Q0, hQ0⟩ : ∃ y, v * T / d = y := ⟨_, rfl⟩
  obtain ⟨r0, hr0⟩ : ∃ y, v * T % d = y := ⟨_, rfl⟩
  rw [hQ0] at hR1
  rw [hr0] at hu
  have hsQ0 := hid (show Sz Q0 K from (hsP.out.mono (by rw [← hQ0]; exact Nat.div_le_self _ _) (Nat.le_refl _)))
  have hsr0 := hid (show Sz r0 K from hsd.out.mono (by rw [← hr0]; exact Nat.le_of_lt (Nat.mod_lt _ (Nat.pos_of_ne_zero hdz))) (Nat.le_refl _))
  have hsrr := hid ((((sd.mono (show r0 ≤ d by rw [← hr0]; exact Nat.le_of_lt (Nat.mod_lt _ (Nat.pos_of_ne_zero hdz))) (Nat.le_refl _)).add (sd.mono (show r0 ≤ d by rw [← hr0]; exact Nat.le_of_lt (Nat.mod_lt _ (Nat.pos_of_ne_zero hdz))) (Nat.le_refl _))).mono (Nat.le_refl _) (show J.succ + 1 ≤ K by omega)))
  obtain ⟨ci, hci⟩ : ∃ y, cmpI (r0 + r0) d = y := ⟨_, rfl⟩
  have hcd : decide (0 ≤ ci) = true := by rw [← hci]; unfold cmpI; rw [if_neg (by omega)]; split <;> rfl
  have hch := hid hci
  have hQ := hid hQ0
  have hr := hid hr0
  have hR := hid hR1
  clear sv sd hv0 hd0 hs0 hdz hR0 hT0 sR hx hR1 hci hQ0 hr0 hu hz
  have hent := ent1 w #[Value.bool s, Value.slice a1 n1 c1, Value.slice b1 m1 d1] 29
  go_enter Try.func49, Try.ntmps49
  go_wp2_with fail
  generalize (w.alloc (.cells #[Value.bool s, Value.slice a1 n1 c1, Value.slice b1 m1 d1] 29)) = W0 at hent ⊢
  obtain ⟨X_0, hbel_0, hsz_0⟩ := hent
  have cX_0_0 : _ = some (Value.bool s) := X_0.cell 0
  have cX_0_1 : _ = some (Value.slice a1 n1 c1) := X_0.cell 1
  have cX_0_2 : _ = some (Value.slice b1 m1 d1) := X_0.cell 2
  go_wp2_with fail
  refine (HP.out _ hbel_0).mono ?_
  rintro e w1 ⟨na, nn, nc, da, dn, dc, rfl, hO, hO', hB⟩
  have hB_1 : Below W0.heap.size W0 w1 := (bl.next hB)
  have X_1 := X_0.next hB_1
  have cX_1_0 : _ = some (Value.bool s) := X_1.cell 0
  have cX_1_1 : _ = some (Value.slice a1 n1 c1) := X_1.cell 1
  have cX_1_2 : _ = some (Value.slice b1 m1 d1) := X_1.cell 2
  have hbel_1 := hbel_0.next hB_1
  have hsz_1 := hB_1.size
  clear X_0 cX_0_0 cX_0_1 cX_0_2 hbel_0 hB_1
  have V_1 := hO.rdN hsv.out
  have D_1 := hO'.rdN hsd.out
  clear hO hO'
  try clear hB
  go_wp2_with fail
  refine (HT.out _).mono ?_
  rintro e w2 ⟨ka, kn, kc, rfl, hO, hB⟩
  have hB_2 : Below w1.heap.size w1 w2 := (bl.next hB)
  have X_2 := X_1.next hB_2
  have cX_2_0 : _ = some (Value.bool s) := X_2.cell 0
  have cX_2_1 : _ = some (Value.slice a1 n1 c1) := X_2.cell 1
  have cX_2_2 : _ = some (Value.slice b1 m1 d1) := X_2.cell 2
  have V_2 := V_1.below hB_2
  have D_2 := D_1.below hB_2
  have hbel_2 := hbel_1.next hB_2
  have hsz_2 := hB_2.size
  clear X_1 cX_1_0 cX_1_1 cX_1_2 V_1 D_1 hbel_1 hB_2
  have TK_2 := hO.rdN hsT.out
  clear hO
  try clear hB
  go_wp2_with fail
  refine (rmulR V_2 TK_2 (by omega) (by omega)).mono ?_
  rintro e w3 ⟨ma, mn, mc, rfl, hO, hB⟩
  have hB_3 : Below w2.heap.size w2 w3 := (bl.next hB)
  have X_3 := X_2.next hB_3
  have cX_3_0 : _ = some (Value.bool s) := X_3.cell 0
  have cX_3_1 : _ = some (Value.slice a1 n1 c1) := X_3.cell 1
  have cX_3_2 : _ = some (Value.slice b1 m1 d1) := X_3.cell 2
  have V_3 := V_2.below hB_3
  have D_3 := D_2.below hB_3
  have TK_3 := TK_2.below hB_3
  have hbel_3 := hbel_2.next hB_3
  have hsz_3 := hB_3.size
  clear X_2 cX_2_0 cX_2_1 cX_2_2 V_2 D_2 TK_2 hbel_2 hB_3
  have M_3 := hO.rdN hsP.out
  clear hO
  try clear hB
  clear V_3
  clear TK_3
  go_wp2_with fail
  refine (rdivR M_3 D_3 (by omega) (by omega) hdh.out).mono ?_
  rw [hQ.out, hr.out]
  rintro e w4 ⟨qa, qn, qc, ra, rn, rc, rfl, hO, hO', hD, hB⟩
  have hB_4 : Below w3.heap.size w3 w4 := (bl.next hB)
  have X_4 := X_3.next hB_4
  have cX_4_0 : _ = some (Value.bool s) := X_4.cell 0
  have cX_4_1 : _ = some (Value.slice a1 n1 c1) := X_4.cell 1
  have cX_4_2 : _ = some (Value.slice b1 m1 d1) := X_4.cell 2
  have D_4 := D_3.below hB_4
  have M_4 := M_3.below hB_4
  have hbel_4 := hbel_3.next hB_4
  have hsz_4 := hB_4.size
  clear X_3 cX_3_0 cX_3_1 cX_3_2 D_3 M_3 hbel_3 hB_4
  have hql := hid hO.len
  have Q_4 := hO.rdN hsQ0.out
  have R_4 := hO'.rdN hsr0.out
  clear hO hO' hD
  try clear hB
  clear M_4
  go_wp2_with fail
  refine (raddR R_4 R_4 (by omega) (by omega)).mono ?_
  rintro e w5 ⟨aa, an, ac, rfl, hO, hB⟩
  have hB_5 : Below w4.heap.size w4 w5 := (bl.next hB)
  have X_5 := X_4.next hB_5
  have cX_5_0 : _ = some (Value.bool s) := X_5.cell 0
  have cX_5_1 : _ = some (Value.slice a1 n1 c1) := X_5.cell 1
  have cX_5_2 : _ = some (Value.slice b1 m1 d1) := X_5.cell 2
  have D_5 := D_4.below hB_5
  have Q_5 := Q_4.below hB_5
  have R_5 := R_4.below hB_5
  have hbel_5 := hbel_4.next hB_5
  have hsz_5 := hB_5.size
  clear X_4 cX_4_0 cX_4_1 cX_4_2 D_4 Q_4 R_4 hbel_4 hB_5
  have A_5 := hO.rdN hsrr.out
  clear hO
  try clear hB
  go_wp2_with fail
  refine (rcmpR A_5 D_5).mono ?_
  rw [hch.out]
  rintro e w6 ⟨rfl, hB⟩
  have hB_6 : Below w5.heap.size w5 w6 := (bl.next hB)
  have X_6 := X_5.next hB_6
  have cX_6_0 : _ = some (Value.bool s) := X_6.cell 0
  have cX_6_1 : _ = some (Value.slice a1 n1 c1) := X_6.cell 1
  have cX_6_2 : _ = some (Value.slice b1 m1 d1) := X_6.cell 2
  have D_6 := D_5.below hB_6
  have Q_6 := Q_5.below hB_6
  have R_6 := R_5.below hB_6
  have A_6 := A_5.below hB_6
  have hbel_6 := hbel_5.next hB_6
  have hsz_6 := hB_6.size
  clear X_5 cX_5_0 cX_5_1 cX_5_2 D_5 Q_5 R_5 A_5 hbel_5 hB_6
  try clear hB
  clear A_6
  clear R_6
  clear D_6
  have hbx := blk_new w6 #[Value.int .u32 1] 39
  have hbB := (Below.refl w6.heap.size w6).alloc (Nat.le_refl _) (.cells #[Value.int .u32 1] 39)
  have hltONE := hbx.lt
  have hB_7 : Below w6.heap.size w6 (w6.alloc (.cells #[Value.int .u32 1] 39)) := hbB
  have X_7 := X_6.next hB_7
  have cX_7_0 : _ = some (Value.bool s) := X_7.cell 0
  have cX_7_1 : _ = some (Value.slice a1 n1 c1) := X_7.cell 1
  have cX_7_2 : _ = some (Value.slice b1 m1 d1) := X_7.cell 2
  have Q_7 := Q_6.below hB_7
  have hbel_7 := hbel_6.next hB_7
  have hsz_7 := hB_7.size
  clear hB_7
  have ONE_7 := hbx
  clear hbx hbB
  have cONE_7_0 : _ = some (Value.int .u32 1) := ONE_7.cell 0
  have O1_7 := (show Own w6.heap.size _ (some ⟨_, 0, none⟩) 1 1 [1] from own_one _ _ 1 (by omega) (Nat.le_refl _))
  go_wp2_with fail
  clear X_6 cX_6_0 cX_6_1 cX_6_2 Q_6 hbel_6
  generalize (w6.alloc (.cells #[Value.int .u32 1] 39)) = v7 at *
  have U_7 := (show RdN 1 _ _ _ _ 1 from (lm_one ▸ O1_7 : Own _ _ _ _ _ (lm 1)).rdN (v := 1) (k := 1) (sz_one (Nat.le_refl _)))
  clear O1_7
  go_wp2_with fail
  refine (raddR Q_7 U_7 (by omega) (by omega)).mono ?_
  rw [show Q0 + 1 = R from hR.out.symm]
  rintro e w8 ⟨qa2, qn2, qc2, rfl, hO, hB⟩
  have hB_8 : Below v7.heap.size v7 w8 := (bl.next hB)
  have X_8 := X_7.next hB_8
  have cX_8_0 : _ = some (Value.bool s) := X_8.cell 0
  have cX_8_1 : _ = some (Value.slice a1 n1 c1) := X_8.cell 1
  have cX_8_2 : _ = some (Value.slice b1 m1 d1) := X_8.cell 2
  have ONE_8 := ONE_7.next hB_8
  have cONE_8_0 : _ = some (Value.int .u32 1) := ONE_8.cell 0
  have Q_8 := Q_7.below hB_8
  have U_8 := U_7.below hB_8
  have hbel_8 := hbel_7.next hB_8
  have hsz_8 := hB_8.size
  clear X_7 cX_7_0 cX_7_1 cX_7_2 ONE_7 cONE_7_0 Q_7 U_7 hbel_7 hB_8
  have hql2 := hid hO.len
  have Q2_8 := hO.rdN hsR.out
  clear hO
  try clear hB
  clear Q_8
  clear U_8
  have hq0 : 0 < qn2 := by rw [← hql2.out]; exact lm_len_pos.2 (Nat.pos_of_ne_zero hzh.out)
  have hbn := Q2_8.len
  go_wp2_with fail
  refine (rpt Q2_8 (by omega) k (by omega)).mono ?_
  rintro e w9 ⟨rfl, hB⟩
  have hB_9 : Below w8.heap.size w8 w9 := (bl.next hB)
  have X_9 := X_8.next hB_9
  have cX_9_0 : _ = some (Value.bool s) := X_9.cell 0
  have cX_9_1 : _ = some (Value.slice a1 n1 c1) := X_9.cell 1
  have cX_9_2 : _ = some (Value.slice b1 m1 d1) := X_9.cell 2
  have ONE_9 := ONE_8.next hB_9
  have cONE_9_0 : _ = some (Value.int .u32 1) := ONE_9.cell 0
  have Q2_9 := Q2_8.below hB_9
  have hbel_9 := hbel_8.next hB_9
  have hsz_9 := hB_9.size
  clear X_8 cX_8_0 cX_8_1 cX_8_2 ONE_8 cONE_8_0 Q2_8 hbel_8 hB_9
  try clear hB
  generalize txt (ptd R k) = S at *
  go_wp2
  go_ret2
  exact ⟨by rw [hV.out]; rfl, hbel_9⟩

theorem rround {w : World} {a1 b1 : Option Addr} {n1 c1 m1 d1 : Nat} {s : Bool} {x : Rat} {J : Nat} (hx : RdQ J w s a1 n1 c1 b1 m1 d1 x) (hJ : J ≤ 1000000) (k : Nat) (hk : k ≤ 4096) : Calls Try.prog 49 #[.agg #[.bool s, .slice a1 n1 c1, .slice b1 m1 d1], .int .i64 k] w (RetSE w (roT x k) 0) := by
  by_cases hu : x.den ≤ x.num.natAbs * 10 ^ k % x.den + x.num.natAbs * 10 ^ k % x.den
  · have hne : rdN x.num.natAbs x.den k ≠ 0 := by rw [rdN_ref (Nat.pos_of_ne_zero x.den_nz), if_pos hu]; exact Nat.succ_ne_zero _
    cases hn : decide (x.num < 0)
    · exact rround10 hx hJ k hk hn hu
    · exact rround110 hx hJ k hk hn hne hu
  · cases hn : decide (x.num < 0)
    · exact rround00 hx hJ k hk hn hu
    · by_cases hz : rdN x.num.natAbs x.den k = 0
      · exact rround011 hx hJ k hk hn hz hu
      · exact rround010 hx hJ k hk hn hz hu

end Go.Proofs.Ytbodlkfhmapngaa
