/- WALKS OF DECIMALS, 5: a whole number's text with a point in it, by the program and by the document. -/
import Derived.Test.YtnpkmlpmeeidbaaREb
import Derived.Test.YtnpkmlpmeeidbaaRQ2
import Derived.BigQuiet
import Derived.Test.YtnpkmlpmeeidbaaRQt
import Derived.Test.YtnpkmlpmeeidbaaRQn
namespace Go.Proofs.Ytnpkmlpmeeidbaa
set_option linter.unusedVariables false
set_option linter.unusedSimpArgs false
open Go.ChangeShapes Go.WideShapes Go.ChangeAt Go.RowKit Go.NatP

theorem bt_txt {l : List Nat} (h : ∀ x ∈ l, x < 256) : by' (txt l) = l := by
  have e : strOfNums (l.map fun n : Nat => (n : Int)) = txt l := rfl
  refine List.ext_getElem (by simp [by', txt, strOfNums]) fun i h1 h2 => ?_
  have h3 := h l[i] (List.getElem_mem h2)
  simp [by', txt, strOfNums]
  omega
theorem okD_tx' (n : Nat) : okD (tx n) = true := by
  unfold tx
  split
  · rfl
  · rw [okD_all, List.all_eq_true]
    intro c hc
    rw [List.mem_map] at hc
    obtain ⟨d, hd, rfl⟩ := hc
    have := dl_lt n d (List.mem_reverse.1 hd)
    simp [isD]
    omega
theorem tx_pos' (n : Nat) : 0 < (tx n).length := by
  unfold tx
  split
  · decide
  · rename_i h
    rw [List.length_map, List.length_reverse, dl_pos h]
    simp
theorem tx_lt (n : Nat) : ∀ c ∈ tx n, c < 256 := fun c hc => by have := okD_mem (okD_tx' n) hc; omega
theorem bt_tx (n : Nat) : by' (txt (tx n)) = tx n := bt_txt (tx_lt n)
theorem pad_lt (n k : Nat) : ∀ c ∈ pad (tx n) k, c < 256 := fun c hc => by
  unfold pad at hc
  rcases List.mem_append.1 hc with h | h
  · have := (List.mem_replicate.1 h).2; omega
  · exact tx_lt n c h
theorem ptd_lt (n k : Nat) : ∀ c ∈ ptd n k, c < 256 := fun c hc => by
  unfold ptd at hc
  split at hc
  · exact tx_lt n c hc
  · rcases List.mem_append.1 hc with h | h
    · exact pad_lt n k c (List.mem_of_mem_take h)
    · rcases List.mem_cons.1 h with h | h
      · omega
      · exact pad_lt n k c (List.mem_of_mem_drop h)
theorem bt_ptd (n k : Nat) : by' (txt (ptd n k)) = ptd n k := bt_txt (ptd_lt n k)
theorem ptd_zero (n : Nat) : ptd n 0 = tx n := if_pos rfl
theorem ptd_of {n k : Nat} {R : ByteArray} (hk : k ≠ 0) (hR : by' R = pad (tx n) k) : R.extract 0 (R.size - k) ++ ⟨#[46]⟩ ++ R.extract (R.size - k) R.size = txt (ptd n k) := by
  refine by_inj ?_
  rw [bt_ptd, be_append, be_append, be_take, be_drop, hR]
  unfold ptd
  have hl : R.size = (pad (tx n) k).length := by rw [← hR, by_len]
  rw [if_neg hk, hl, List.append_assoc]
  rfl
theorem rep_by (c : Nat) : by' ⟨(Lib.repeatL [48] c).toArray⟩ = List.replicate c 48 := by
  unfold by'
  induction c with
  | zero => rfl
  | succ c ih =>
    simp only [Lib.repeatL, List.replicate_succ]
    simp only at ih
    rw [← ih]
    rfl
theorem ptd_size {n k J : Nat} (h : (tx n).length ≤ J) : (txt (ptd n k)).size ≤ max J (k + 1) + 1 := by
  rw [← by_len, bt_ptd]
  unfold ptd
  split
  · omega
  · have := pad_len (tx n) k
    simp
    omega
theorem tx_len {n K : Nat} (h : Sz n K) : (tx n).length ≤ 10 * K + 2 := by
  have h1 := txt_sz h
  rwa [← by_len, bt_tx] at h1

set_option maxRecDepth 100000 in
set_option maxHeartbeats 2000000 in
theorem dpt {w : World} {a : Option Addr} {n c v K : Nat} (hR : RdN K w a n c v) (hK : K ≤ 4000000) (k : Nat) (hk : k ≤ 1000000) :
    Calls Try.prog 125 #[.slice a n c, .int .i64 k] w (RetT w (txt (ptd v k))) := by
  have HT := hid (fun w (h : RdN K w a n c v) => ntextR (W := w) h (by omega))
  have hsz := txt_sz hR.sz
  have hpos : 0 < (txt (tx v)).size := by rw [← by_len, bt_tx]; exact tx_pos' v
  obtain ⟨S, hS⟩ : ∃ S, txt (tx v) = S := ⟨_, rfl⟩
  have hb := hid (show by' S = tx v by rw [← hS]; exact bt_tx v)
  have hS0 := hid hS
  rw [hS] at HT hsz hpos
  clear hS
  by_cases h0 : k = 0
  · subst h0
    have hE : Hid (txt (ptd v 0) = S) := by show _ = _; rw [ptd_zero]; exact hS0.out
    have hd2 : decide (S = ByteArray.empty) = false := decide_eq_false (fun e => by rw [e] at hpos; exact absurd hpos (by decide))
    have hd3 : S ≠ ByteArray.empty := of_decide_eq_false hd2
    go_enter Try.func125, Try.ntmps125
    go_wp2_with fail
    refine (HT.out _ hR).mono ?_
    rintro e w1 ⟨rfl, hB1⟩
    go_wp2
    go_ret
    exact ⟨by rw [hE.out]; rfl, hB1⟩
  · have h1 : 1 ≤ k := by omega
    by_cases hlt : k < S.size
    · have hE : Hid (S.extract 0 (S.size - k) ++ ⟨#[46]⟩ ++ S.extract (S.size - k) S.size = txt (ptd v k)) := ptd_of h0 (by rw [hb.out, pad_long (by rw [← hb.out, by_len]; exact hlt)])
      clear h0
      go_enter Try.func125, Try.ntmps125
      go_wp2_with fail
      refine (HT.out _ hR).mono ?_
      rintro e w1 ⟨rfl, hB1⟩
      go_wp2_with fail
      go_quiet (fail)
      go_wp2
      go_ret
      exact ⟨by rw [← hE.out]; rfl, hB1.drewN' _⟩
    · obtain ⟨t, ht⟩ : ∃ t, t = k + 1 - S.size := ⟨_, rfl⟩
      have htI : (k : Int) + 1 - (S.size : Int) = (t : Int) := by omega
      have ht1 : t ≤ 1000001 := by omega
      obtain ⟨Z, hZ⟩ : ∃ Z : ByteArray, Z = ⟨(Lib.repeatL [48] t).toArray⟩ := ⟨_, rfl⟩
      have hZs : Z.size = t := by rw [← by_len, hZ, rep_by, List.length_replicate]
      have HR := hid (fun w => Try.strings_Repeat ⟨#[48]⟩ t w (by omega) (by show 1 * t ≤ _; omega))
      rw [show (⟨(Lib.repeatL (⟨#[48]⟩ : ByteArray).data.toList t).toArray⟩ : ByteArray) = Z from hZ.symm] at HR
      have hbR : Hid (by' (Z ++ S) = pad (tx v) k) := by
        show _ = _
        rw [be_append, hZ, rep_by, hb.out]; unfold pad; rw [← hb.out, by_len, ht]
      have hRs : (Z ++ S).size = k + 1 := by rw [ByteArray.size_append]; omega
      obtain ⟨R, hR0⟩ : ∃ R, Z ++ S = R := ⟨_, rfl⟩
      rw [hR0] at hbR hRs
      have hE : Hid (R.extract 0 1 ++ ⟨#[46]⟩ ++ R.extract 1 (k + 1) = txt (ptd v k)) := by
        have h := ptd_of h0 hbR.out
        rw [hRs] at h
        rwa [show k + 1 - k = 1 by omega] at h
      clear h0 hZ
      subst ht
      go_enter Try.func125, Try.ntmps125
      go_wp2_with fail
      refine (HT.out _ hR).mono ?_
      rintro e w1 ⟨rfl, hB1⟩
      go_wp2_with fail
      refine (HR.out _).mono ?_
      rintro e w2 ⟨rfl, hB2⟩
      have hB12 := hB1.next hB2
      go_wp2_with fail
      go_quiet (fail)
      go_wp2
      go_ret
      exact ⟨by rw [← hE.out]; rfl, hB12.drewN' _⟩
end Go.Proofs.Ytnpkmlpmeeidbaa
/- WALKS OF DECIMALS, 4: a fraction's sign and parts, by the program and by the document. -/
namespace Go.Proofs.Ytnpkmlpmeeidbaa
set_option linter.unusedVariables false
set_option linter.unusedSimpArgs false
open Go.ChangeShapes Go.WideShapes Go.ChangeAt Go.RowKit Go.NatP

/-- a sign, and two numbers -/
def RetPr (w : World) (s : Bool) (v d : Nat) (e : Ending) (w' : World) : Prop :=
  ∃ a n c b m d', e = .returned (.tuple #[.bool s, .slice a n c, .slice b m d']) ∧ Own w.heap.size w' a n c (lm v) ∧ Own w.heap.size w' b m d' (lm d) ∧ Below w.heap.size w w'
theorem dnormQ {W : World} {s : Bool} {a b : Option Addr} {n c m d v : Nat} {x : Int} {q : Rat} (hz : RdZ 4194304 W s a n c x) (ho : RdN 4194304 W b m d v) (hv : v ≠ 0) (hq : mkRat x v = q) :
    Calls Try.prog 128 #[.agg #[.bool s, .slice a n c, .slice b m d]] W (RetQK W q) := by
  have h := (qnorm hz ho).mono fun e w' h => retqe_ok h (zE_pos (y := (v : Int)) (by omega))
  rwa [Rat.divInt_ofNat, hq] at h

set_option maxRecDepth 100000 in
set_option maxHeartbeats 4000000 in
theorem dparts1 {w : World} {a1 b1 : Option Addr} {n1 c1 m1 d1 u1 v1 : Nat} {s : Bool} {J : Nat} (h1 : RdN J w a1 n1 c1 u1) (hd1 : RdN J w b1 m1 d1 v1) (hJ : J ≤ 1000000) (hv : v1 = 0) :
    Calls Try.prog 122 #[.agg #[.bool s, .slice a1 n1 c1, .slice b1 m1 d1]] w (RetPr w (decide ((qv s u1 v1).num < 0)) (qv s u1 v1).num.natAbs (qv s u1 v1).den) := by
  have hq := (show mkRat (zv s u1) 1 = qv s u1 v1 by unfold qv; rw [hv]; rfl)
  have HZ := hid (fun W (h : Below w.heap.size w W) => ((h1.toZ (s := s)).below h).mono (show J ≤ 4194304 by omega))
  have HD := hid (fun W (h : Below w.heap.size w W) => (hd1.below h).mono (show J ≤ 4194304 by omega))
  generalize qv s u1 v1 = q at *
  have HN := hid (fun W a n c b m d v (hz : RdZ 4194304 W s a n c (zv s u1)) (ho : RdN 4194304 W b m d v) (hv : v ≠ 0) (hq : mkRat (zv s u1) v = q) => dnormQ hz ho hv hq)
  have hvh := hid hv
  have hqh := hid hq
  clear hv hq h1
  have hent := ent1 w #[Value.bool s, Value.slice a1 n1 c1, Value.slice b1 m1 d1] 29
  go_enter Try.func122, Try.ntmps122
  go_wp2_with fail
  generalize (w.alloc (.cells #[Value.bool s, Value.slice a1 n1 c1, Value.slice b1 m1 d1] 29)) = W0 at hent ⊢
  obtain ⟨X_0, hbel_0, hsz_0⟩ := hent
  have cX_0_0 : _ = some (Value.bool s) := X_0.cell 0
  have fX_0_0 := X_0.free 0
  have cX_0_1 : _ = some (Value.slice a1 n1 c1) := X_0.cell 1
  have fX_0_1 := X_0.free 1
  have cX_0_2 : _ = some (Value.slice b1 m1 d1) := X_0.cell 2
  have fX_0_2 := X_0.free 2
  have hd1_0 := hd1.below hbel_0
  clear hd1
  go_wp2_with fail
  refine (nnormR hd1_0 (by omega)).mono ?_
  rintro e w1 ⟨ra, rn, rc, rfl, hO, hB⟩
  have hB_1 : Below W0.heap.size W0 w1 := (bl.next hB)
  have X_1 := X_0.next hB_1
  have cX_1_0 : _ = some (Value.bool s) := X_1.cell 0
  have fX_1_0 := X_1.free 0
  have cX_1_1 : _ = some (Value.slice a1 n1 c1) := X_1.cell 1
  have fX_1_1 := X_1.free 1
  have cX_1_2 : _ = some (Value.slice b1 m1 d1) := X_1.cell 2
  have fX_1_2 := X_1.free 2
  have hd1_1 := hd1_0.below hB_1
  have hbel_1 := hbel_0.next hB_1
  have hsz_1 := hB_1.size
  clear X_0 cX_0_0 fX_0_0 cX_0_1 fX_0_1 cX_0_2 fX_0_2 hd1_0 hbel_0 hB_1
  have hrn : rn = 0 := by have := hO.len; have := lm_len_pos (v := v1); have := hvh.out; omega
  subst hrn
  clear hO
  try clear hB
  clear hd1_1
  go_wp2_with fail
  refine (of_any 1 (by omega) (by omega)).mono ?_
  rintro e w2 ⟨oa, on, oc, rfl, hO, hB⟩
  have hB_2 : Below w1.heap.size w1 w2 := (bl.next hB)
  have X_2 := X_1.next hB_2
  have cX_2_0 : _ = some (Value.bool s) := X_2.cell 0
  have fX_2_0 := X_2.free 0
  have cX_2_1 : _ = some (Value.slice a1 n1 c1) := X_2.cell 1
  have fX_2_1 := X_2.free 1
  have cX_2_2 : _ = some (Value.slice b1 m1 d1) := X_2.cell 2
  have fX_2_2 := X_2.free 2
  have hbel_2 := hbel_1.next hB_2
  have hsz_2 := hB_2.size
  clear X_1 cX_1_0 fX_1_0 cX_1_1 fX_1_1 cX_1_2 fX_1_2 hbel_1 hB_2
  have O_2 := hO
  have ltO := hO.ltB
  try clear hB
  have hkp := ((Kp.refl (fun j => j = w.heap.size) w2).setCell (ad := ⟨w.heap.size, 2, none⟩) rfl (Value.slice oa on oc))
  have X_3 := (show Blk _ _ #[Value.bool s, Value.slice a1 n1 c1, Value.slice oa on oc] from (X_2).setCell (i := 2) (v := Value.slice oa on oc) (by simp))
  have O_3 := O_2.kp hkp (fun g hg hj => by subst hg; have := O_2.lt.1; have hj2 : g = w.heap.size := hj; omega)
  have hbel_3 := hbel_2.kp hkp hbel_2.size (fun j hj => by show ¬ (j = w.heap.size); omega)
  have hsz_3 := hkp.size
  have cX_3_0 : _ = some (Value.bool s) := X_3.cell 0
  have fX_3_0 := X_3.free 0
  have cX_3_1 : _ = some (Value.slice a1 n1 c1) := X_3.cell 1
  have fX_3_1 := X_3.free 1
  have cX_3_2 : _ = some (Value.slice oa on oc) := X_3.cell 2
  have fX_3_2 := X_3.free 2
  go_wp2_with fail
  clear X_2 cX_2_0 fX_2_0 cX_2_1 fX_2_1 cX_2_2 fX_2_2 O_2 hbel_2 hkp
  generalize (w2.setCell ⟨w.heap.size, 2, none⟩ (Value.slice oa on oc)) = v3 at *
  have D_3 := ((O_3.rdN (v := 1) (k := 1) (sz_one (Nat.le_refl _))).mono (show 1 ≤ 4194304 by omega))
  have Z_3 := HZ.out _ hbel_3
  clear O_3
  clear HZ HD
  go_wp2_with fail
  refine (HN.out _ _ _ _ _ _ _ _ Z_3 D_3 (by omega) hqh.out).mono ?_
  rintro e w4 ⟨qa, qn, qc, da, dn, dc, rfl, hO, hO', hD, hB⟩
  have hB_4 : Below v3.heap.size v3 w4 := (bl.next hB)
  have X_4 := X_3.next hB_4
  have cX_4_0 : _ = some (Value.bool s) := X_4.cell 0
  have fX_4_0 := X_4.free 0
  have cX_4_1 : _ = some (Value.slice a1 n1 c1) := X_4.cell 1
  have fX_4_1 := X_4.free 1
  have cX_4_2 : _ = some (Value.slice oa on oc) := X_4.cell 2
  have fX_4_2 := X_4.free 2
  have D_4 := D_3.below hB_4
  have Z_4 := Z_3.below hB_4
  have hbel_4 := hbel_3.next hB_4
  have hsz_4 := hB_4.size
  clear X_3 cX_3_0 fX_3_0 cX_3_1 fX_3_1 cX_3_2 fX_3_2 D_3 Z_3 hbel_3 hB_4
  have OQ_4 := hO
  have ltOQ := hO.ltB
  have OD_4 := hO'
  have ltOD := hO'.ltB
  clear hO hO'
  try clear hB
  clear Z_4 D_4
  have X_5 := (show Blk _ _ #[Value.bool (decide (q.num < 0)), Value.slice qa qn qc, Value.slice da dn dc] from ((X_4.setCell (i := 0) (v := Value.bool (decide (q.num < 0))) (by simp)).setCell (i := 1) (v := Value.slice qa qn qc) (by simp)).setCell (i := 2) (v := Value.slice da dn dc) (by simp))
  have OQ_5 := OQ_4.set3 (show w.heap.size < _ by omega) (Value.bool (decide (q.num < 0))) (Value.slice qa qn qc) (Value.slice da dn dc)
  have OD_5 := OD_4.set3 (show w.heap.size < _ by omega) (Value.bool (decide (q.num < 0))) (Value.slice qa qn qc) (Value.slice da dn dc)
  have hbel_5 := Below.set3 hbel_4 (show w.heap.size ≤ w.heap.size by omega) (Value.bool (decide (q.num < 0))) (Value.slice qa qn qc) (Value.slice da dn dc)
  have hsz_5 : w4.heap.size ≤ (((w4.setCell ⟨w.heap.size, 0, none⟩ (Value.bool (decide (q.num < 0)))).setCell ⟨w.heap.size, 1, none⟩ (Value.slice qa qn qc)).setCell ⟨w.heap.size, 2, none⟩ (Value.slice da dn dc)).heap.size := by simp [World.setCell]
  have cX_5_0 : _ = some (Value.bool (decide (q.num < 0))) := X_5.cell 0
  have fX_5_0 := X_5.free 0
  have cX_5_1 : _ = some (Value.slice qa qn qc) := X_5.cell 1
  have fX_5_1 := X_5.free 1
  have cX_5_2 : _ = some (Value.slice da dn dc) := X_5.cell 2
  have fX_5_2 := X_5.free 2
  go_wp2_with fail
  clear X_4 cX_4_0 fX_4_0 cX_4_1 fX_4_1 cX_4_2 fX_4_2 OQ_4 OD_4 hbel_4
  generalize (((w4.setCell ⟨w.heap.size, 0, none⟩ (Value.bool (decide (q.num < 0)))).setCell ⟨w.heap.size, 1, none⟩ (Value.slice qa qn qc)).setCell ⟨w.heap.size, 2, none⟩ (Value.slice da dn dc)) = v5 at *
  go_wp2_with fail
  go_quiet (fail)
  go_wp2
  go_ret3
  exact ⟨qa, qn, qc, da, dn, dc, rfl, (OQ_5.mono (by omega)).drewN _, (OD_5.mono (by omega)).drewN _, hbel_5.drewN' _⟩

set_option maxRecDepth 100000 in
set_option maxHeartbeats 4000000 in
theorem dparts0 {w : World} {a1 b1 : Option Addr} {n1 c1 m1 d1 u1 v1 : Nat} {s : Bool} {J : Nat} (h1 : RdN J w a1 n1 c1 u1) (hd1 : RdN J w b1 m1 d1 v1) (hJ : J ≤ 1000000) (hv : v1 ≠ 0) :
    Calls Try.prog 122 #[.agg #[.bool s, .slice a1 n1 c1, .slice b1 m1 d1]] w (RetPr w (decide ((qv s u1 v1).num < 0)) (qv s u1 v1).num.natAbs (qv s u1 v1).den) := by
  have hq := (show mkRat (zv s u1) v1 = qv s u1 v1 by unfold qv; rw [und_of hv])
  have HZ := hid (fun W (h : Below w.heap.size w W) => ((h1.toZ (s := s)).below h).mono (show J ≤ 4194304 by omega))
  have HD := hid (fun W (h : Below w.heap.size w W) => (hd1.below h).mono (show J ≤ 4194304 by omega))
  generalize qv s u1 v1 = q at *
  have HN := hid (fun W a n c b m d v (hz : RdZ 4194304 W s a n c (zv s u1)) (ho : RdN 4194304 W b m d v) (hv : v ≠ 0) (hq : mkRat (zv s u1) v = q) => dnormQ hz ho hv hq)
  have hvh := hid hv
  have hqh := hid hq
  clear hv hq h1
  have hent := ent1 w #[Value.bool s, Value.slice a1 n1 c1, Value.slice b1 m1 d1] 29
  go_enter Try.func122, Try.ntmps122
  go_wp2_with fail
  generalize (w.alloc (.cells #[Value.bool s, Value.slice a1 n1 c1, Value.slice b1 m1 d1] 29)) = W0 at hent ⊢
  obtain ⟨X_0, hbel_0, hsz_0⟩ := hent
  have cX_0_0 : _ = some (Value.bool s) := X_0.cell 0
  have fX_0_0 := X_0.free 0
  have cX_0_1 : _ = some (Value.slice a1 n1 c1) := X_0.cell 1
  have fX_0_1 := X_0.free 1
  have cX_0_2 : _ = some (Value.slice b1 m1 d1) := X_0.cell 2
  have fX_0_2 := X_0.free 2
  have hd1_0 := hd1.below hbel_0
  clear hd1
  go_wp2_with fail
  refine (nnormR hd1_0 (by omega)).mono ?_
  rintro e w1 ⟨ra, rn, rc, rfl, hO, hB⟩
  have hB_1 : Below W0.heap.size W0 w1 := (bl.next hB)
  have X_1 := X_0.next hB_1
  have cX_1_0 : _ = some (Value.bool s) := X_1.cell 0
  have fX_1_0 := X_1.free 0
  have cX_1_1 : _ = some (Value.slice a1 n1 c1) := X_1.cell 1
  have fX_1_1 := X_1.free 1
  have cX_1_2 : _ = some (Value.slice b1 m1 d1) := X_1.cell 2
  have fX_1_2 := X_1.free 2
  have hd1_1 := hd1_0.below hB_1
  have hbel_1 := hbel_0.next hB_1
  have hsz_1 := hB_1.size
  clear X_0 cX_0_0 fX_0_0 cX_0_1 fX_0_1 cX_0_2 fX_0_2 hd1_0 hbel_0 hB_1
  have hrn : 0 < rn := by have := hO.len; have := lm_len_pos (v := v1); have := hvh.out; omega
  have hbq : ((rn : Int) == 0) = false := by simp; omega
  clear hO
  try clear hB
  clear hd1_1
  have Z_1 := HZ.out _ hbel_1
  have D_1 := HD.out _ hbel_1
  clear HZ HD
  go_wp2_with fail
  refine (HN.out _ _ _ _ _ _ _ _ Z_1 D_1 hvh.out hqh.out).mono ?_
  rintro e w2 ⟨qa, qn, qc, da, dn, dc, rfl, hO, hO', hD, hB⟩
  have hB_2 : Below w1.heap.size w1 w2 := (bl.next hB)
  have X_2 := X_1.next hB_2
  have cX_2_0 : _ = some (Value.bool s) := X_2.cell 0
  have fX_2_0 := X_2.free 0
  have cX_2_1 : _ = some (Value.slice a1 n1 c1) := X_2.cell 1
  have fX_2_1 := X_2.free 1
  have cX_2_2 : _ = some (Value.slice b1 m1 d1) := X_2.cell 2
  have fX_2_2 := X_2.free 2
  have Z_2 := Z_1.below hB_2
  have D_2 := D_1.below hB_2
  have hbel_2 := hbel_1.next hB_2
  have hsz_2 := hB_2.size
  clear X_1 cX_1_0 fX_1_0 cX_1_1 fX_1_1 cX_1_2 fX_1_2 Z_1 D_1 hbel_1 hB_2
  have OQ_2 := hO
  have ltOQ := hO.ltB
  have OD_2 := hO'
  have ltOD := hO'.ltB
  clear hO hO'
  try clear hB
  clear Z_2 D_2
  have X_3 := (show Blk _ _ #[Value.bool (decide (q.num < 0)), Value.slice qa qn qc, Value.slice da dn dc] from ((X_2.setCell (i := 0) (v := Value.bool (decide (q.num < 0))) (by simp)).setCell (i := 1) (v := Value.slice qa qn qc) (by simp)).setCell (i := 2) (v := Value.slice da dn dc) (by simp))
  have OQ_3 := OQ_2.set3 (show w.heap.size < _ by omega) (Value.bool (decide (q.num < 0))) (Value.slice qa qn qc) (Value.slice da dn dc)
  have OD_3 := OD_2.set3 (show w.heap.size < _ by omega) (Value.bool (decide (q.num < 0))) (Value.slice qa qn qc) (Value.slice da dn dc)
  have hbel_3 := Below.set3 hbel_2 (show w.heap.size ≤ w.heap.size by omega) (Value.bool (decide (q.num < 0))) (Value.slice qa qn qc) (Value.slice da dn dc)
  have hsz_3 : w2.heap.size ≤ (((w2.setCell ⟨w.heap.size, 0, none⟩ (Value.bool (decide (q.num < 0)))).setCell ⟨w.heap.size, 1, none⟩ (Value.slice qa qn qc)).setCell ⟨w.heap.size, 2, none⟩ (Value.slice da dn dc)).heap.size := by simp [World.setCell]
  have cX_3_0 : _ = some (Value.bool (decide (q.num < 0))) := X_3.cell 0
  have fX_3_0 := X_3.free 0
  have cX_3_1 : _ = some (Value.slice qa qn qc) := X_3.cell 1
  have fX_3_1 := X_3.free 1
  have cX_3_2 : _ = some (Value.slice da dn dc) := X_3.cell 2
  have fX_3_2 := X_3.free 2
  go_wp2_with fail
  clear X_2 cX_2_0 fX_2_0 cX_2_1 fX_2_1 cX_2_2 fX_2_2 OQ_2 OD_2 hbel_2
  generalize (((w2.setCell ⟨w.heap.size, 0, none⟩ (Value.bool (decide (q.num < 0)))).setCell ⟨w.heap.size, 1, none⟩ (Value.slice qa qn qc)).setCell ⟨w.heap.size, 2, none⟩ (Value.slice da dn dc)) = v3 at *
  go_wp2_with fail
  go_quiet (fail)
  go_wp2
  go_ret3
  exact ⟨qa, qn, qc, da, dn, dc, rfl, (OQ_3.mono (by omega)).drewN _, (OD_3.mono (by omega)).drewN _, hbel_3.drewN' _⟩

theorem dparts {w : World} {a1 b1 : Option Addr} {n1 c1 m1 d1 : Nat} {s : Bool} {x : Rat} {J : Nat} (hx : RdQ J w s a1 n1 c1 b1 m1 d1 x) (hJ : J ≤ 1000000) : Calls Try.prog 122 #[.agg #[.bool s, .slice a1 n1 c1, .slice b1 m1 d1]] w (RetPr w (decide (x.num < 0)) x.num.natAbs x.den) := by
  obtain ⟨u1, v1, h1, hd1, rfl⟩ := hx
  by_cases h : v1 = 0
  · exact dparts1 h1 hd1 hJ h
  · exact dparts0 h1 hd1 hJ h

end Go.Proofs.Ytnpkmlpmeeidbaa
/- WALKS OF DECIMALS, 6: the document's texts with a point; rounded texts, by the program and by the document. -/
namespace Go.Proofs.Ytnpkmlpmeeidbaa
set_option linter.unusedVariables false
set_option linter.unusedSimpArgs false
open Go.ChangeShapes Go.WideShapes Go.ChangeAt Go.RowKit Go.NatP

/-- a text and an error -/
def RetSE (w : World) (t : ByteArray) (er : Int) (e : Ending) (w' : World) : Prop := e = .returned (.tuple #[.string t, .int .i64 er]) ∧ Below w.heap.size w w'
/-- a rounded fraction's text: its sign and size -/
def roV (s : Bool) (v k : Nat) : ByteArray := if s = true ∧ v ≠ 0 then ⟨#[45]⟩ ++ txt (ptd v k) else txt (ptd v k)
def roT (q : Rat) (k : Nat) : ByteArray := roV (decide (q.num < 0)) (rdN q.num.natAbs q.den k) k
section
variable {W : World} {a b : Option Addr} {n c m d u v j k : Nat}
theorem naddR (ha : RdN j W a n c u) (hb : RdN k W b m d v) (hj : j ≤ 16777216) (hk : k ≤ 16777216) :
    Calls Try.prog 124 #[.slice a n c, .slice b m d] W (Ret1 W (lm (u + v))) := by
  obtain ⟨la, ha, rfl, hn⟩ := ha
  obtain ⟨lb, hb, rfl, hm⟩ := hb
  exact add_any ha hb (by omega) (by omega)
end
theorem szTwo {v K : Nat} (h : Sz v K) : Sz (2 * v) (K + 1) := by have := (show Sz 2 1 from by show 2 < 4294967296 ^ 1; omega).mul h; rwa [Nat.add_comm 1 K] at this
theorem ptd_sz {v K k : Nat} (h : Sz v K) : (txt (ptd v k)).size ≤ 10 * K + k + 4 := by have := ptd_size (k := k) (tx_len h); omega

set_option maxRecDepth 100000 in
set_option maxHeartbeats 4000000 in
theorem dround0 {w : World} {a1 b1 : Option Addr} {n1 c1 m1 d1 : Nat} {s : Bool} {x : Rat} {J : Nat} (hx : RdQ J w s a1 n1 c1 b1 m1 d1 x) (hJ : J ≤ 1000000) (k : Nat) (hk : k ≤ 4096) (hn : decide (x.num < 0) = false) :
    Calls Try.prog 56 #[.agg #[.bool s, .slice a1 n1 c1, .slice b1 m1 d1], .int .i64 k] w (RetSE w (roT x k) 0) := by
  obtain ⟨s0, hs0⟩ : ∃ s, decide (x.num < 0) = s := ⟨_, rfl⟩
  obtain ⟨v, hv0⟩ : ∃ v, x.num.natAbs = v := ⟨_, rfl⟩
  obtain ⟨d, hd0⟩ : ∃ d, x.den = d := ⟨_, rfl⟩
  have hdz : d ≠ 0 := by rw [← hd0]; exact x.den_nz
  have hqs := (hx.mono (Nat.le_succ J)).qs (by omega)
  obtain ⟨sv, sd⟩ := hqs
  rw [hv0] at sv
  rw [hd0] at sd
  obtain ⟨K, hK1, hK2⟩ : ∃ K, J + 8300 ≤ K ∧ K ≤ 1100000 := ⟨J + 8300, Nat.le_refl _, by omega⟩
  have hT : roT x k = roV s0 (rdN v d k) k := by unfold roT; rw [hs0, hv0, hd0]
  rw [hT]
  clear hT
  rw [hs0] at hn
  subst hn
  have HP := hid (fun W (h : Below w.heap.size w W) => dparts (hx.below h) hJ)
  rw [hs0, hv0, hd0] at HP
  have hdh := hid hdz
  obtain ⟨R, hR0⟩ : ∃ R, rdN v d k = R := ⟨_, rfl⟩
  have sR : Sz R K := by
    rw [← hR0]; unfold rdN
    exact (((szTwo sv).mul (szTen k)).add (sd.mono (Nat.le_refl _) (show J.succ ≤ J.succ + 1 + (k + 1) by omega))).mono (Nat.div_le_self _ _) (by omega)
  have hR := hid (show (2 * v * 10 ^ k + d) / (2 * d) = R from hR0)
  have hV := hid (show roV false R k = txt (ptd R k) by exact if_neg (fun h => by cases h.1))
  have hsz := ptd_sz (k := k) sR
  rw [hR0]
  generalize roV false R k = RT at *
  have hsR := hid sR
  have hsv := hid (sv.mono (Nat.le_refl _) (show J.succ ≤ K by omega))
  have hsd := hid (sd.mono (Nat.le_refl _) (show J.succ ≤ K by omega))
  have hs2d := hid ((szTwo sd).mono (Nat.le_refl _) (show J.succ + 1 ≤ K by omega))
  have hs2v := hid ((szTwo sv).mono (Nat.le_refl _) (show J.succ + 1 ≤ K by omega))
  have hsT0 := szTen k
  obtain ⟨T, hT0⟩ : ∃ T, 10 ^ k = T := ⟨_, rfl⟩
  have HT := hid (fun w => dten (w := w) k (by omega))
  rw [hT0] at HT hR hsT0
  have hsT := hid (hsT0.mono (Nat.le_refl _) (show k + 1 ≤ K by omega))
  have hsP0 := (szTwo sv).mul hsT0
  have hsP := hid (hsP0.mono (Nat.le_refl _) (show J.succ + 1 + (k + 1) ≤ K by omega))
  have hsA := hid ((hsP0.add (sd.mono (Nat.le_refl _) (show J.succ ≤ J.succ + 1 + (k + 1) by omega))).mono (Nat.le_refl _) (show J.succ + 1 + (k + 1) + 1 ≤ K by omega))
  clear hsP0 hsT0
  have s2 := hid (show Sz 2 1 from by show 2 < 4294967296 ^ 1; omega)
  clear sv sd hv0 hd0 hs0 hdz hR0 hT0 sR hx
  have hent := ent1 w #[Value.bool s, Value.slice a1 n1 c1, Value.slice b1 m1 d1] 29
  go_enter Try.func56, Try.ntmps56
  go_wp2_with fail
  generalize (w.alloc (.cells #[Value.bool s, Value.slice a1 n1 c1, Value.slice b1 m1 d1] 29)) = W0 at hent ⊢
  obtain ⟨X_0, hbel_0, hsz_0⟩ := hent
  have cX_0_0 : _ = some (Value.bool s) := X_0.cell 0
  have cX_0_1 : _ = some (Value.slice a1 n1 c1) := X_0.cell 1
  have cX_0_2 : _ = some (Value.slice b1 m1 d1) := X_0.cell 2
  go_wp2_with fail
  refine (HP.out _ hbel_0).mono ?_
  rintro e w1 ⟨na, nn, nc, da, dn, dc, rfl, hO, hO', hB⟩
  have hB_1 : Below W0.heap.size W0 w1 := (bl.next hB)
  have X_1 := X_0.next hB_1
  have cX_1_0 : _ = some (Value.bool s) := X_1.cell 0
  have cX_1_1 : _ = some (Value.slice a1 n1 c1) := X_1.cell 1
  have cX_1_2 : _ = some (Value.slice b1 m1 d1) := X_1.cell 2
  have hbel_1 := hbel_0.next hB_1
  have hsz_1 := hB_1.size
  clear X_0 cX_0_0 cX_0_1 cX_0_2 hbel_0 hB_1
  have V_1 := hO.rdN hsv.out
  have D_1 := hO'.rdN hsd.out
  clear hO hO'
  try clear hB
  go_wp2_with fail
  refine (of_any 2 (by omega) (by omega)).mono ?_
  rintro e w2 ⟨oa, on, oc, rfl, hO, hB⟩
  have hB_2 : Below w1.heap.size w1 w2 := (bl.next hB)
  have X_2 := X_1.next hB_2
  have cX_2_0 : _ = some (Value.bool s) := X_2.cell 0
  have cX_2_1 : _ = some (Value.slice a1 n1 c1) := X_2.cell 1
  have cX_2_2 : _ = some (Value.slice b1 m1 d1) := X_2.cell 2
  have V_2 := V_1.below hB_2
  have D_2 := D_1.below hB_2
  have hbel_2 := hbel_1.next hB_2
  have hsz_2 := hB_2.size
  clear X_1 cX_1_0 cX_1_1 cX_1_2 V_1 D_1 hbel_1 hB_2
  have T2_2 := hO.rdN (v := 2) s2.out
  clear hO
  try clear hB
  go_wp2_with fail
  refine (nmulR T2_2 D_2 (by omega) (by omega)).mono ?_
  rintro e w3 ⟨ta, tn, tc, rfl, hO, hB⟩
  have hB_3 : Below w2.heap.size w2 w3 := (bl.next hB)
  have X_3 := X_2.next hB_3
  have cX_3_0 : _ = some (Value.bool s) := X_3.cell 0
  have cX_3_1 : _ = some (Value.slice a1 n1 c1) := X_3.cell 1
  have cX_3_2 : _ = some (Value.slice b1 m1 d1) := X_3.cell 2
  have V_3 := V_2.below hB_3
  have D_3 := D_2.below hB_3
  have T2_3 := T2_2.below hB_3
  have hbel_3 := hbel_2.next hB_3
  have hsz_3 := hB_3.size
  clear X_2 cX_2_0 cX_2_1 cX_2_2 V_2 D_2 T2_2 hbel_2 hB_3
  have TD_3 := hO.rdN hs2d.out
  clear hO
  try clear hB
  clear T2_3
  go_wp2_with fail
  refine (of_any 2 (by omega) (by omega)).mono ?_
  rintro e w4 ⟨pa, pn, pc, rfl, hO, hB⟩
  have hB_4 : Below w3.heap.size w3 w4 := (bl.next hB)
  have X_4 := X_3.next hB_4
  have cX_4_0 : _ = some (Value.bool s) := X_4.cell 0
  have cX_4_1 : _ = some (Value.slice a1 n1 c1) := X_4.cell 1
  have cX_4_2 : _ = some (Value.slice b1 m1 d1) := X_4.cell 2
  have V_4 := V_3.below hB_4
  have D_4 := D_3.below hB_4
  have TD_4 := TD_3.below hB_4
  have hbel_4 := hbel_3.next hB_4
  have hsz_4 := hB_4.size
  clear X_3 cX_3_0 cX_3_1 cX_3_2 V_3 D_3 TD_3 hbel_3 hB_4
  have T2_4 := hO.rdN (v := 2) s2.out
  clear hO
  try clear hB
  go_wp2_with fail
  refine (nmulR T2_4 V_4 (by omega) (by omega)).mono ?_
  rintro e w5 ⟨ua, un, uc, rfl, hO, hB⟩
  have hB_5 : Below w4.heap.size w4 w5 := (bl.next hB)
  have X_5 := X_4.next hB_5
  have cX_5_0 : _ = some (Value.bool s) := X_5.cell 0
  have cX_5_1 : _ = some (Value.slice a1 n1 c1) := X_5.cell 1
  have cX_5_2 : _ = some (Value.slice b1 m1 d1) := X_5.cell 2
  have V_5 := V_4.below hB_5
  have D_5 := D_4.below hB_5
  have TD_5 := TD_4.below hB_5
  have T2_5 := T2_4.below hB_5
  have hbel_5 := hbel_4.next hB_5
  have hsz_5 := hB_5.size
  clear X_4 cX_4_0 cX_4_1 cX_4_2 V_4 D_4 TD_4 T2_4 hbel_4 hB_5
  have TV_5 := hO.rdN hs2v.out
  clear hO
  try clear hB
  clear T2_5
  clear V_5
  go_wp2_with fail
  refine (HT.out _).mono ?_
  rintro e w6 ⟨ka, kn, kc, rfl, hO, hB⟩
  have hB_6 : Below w5.heap.size w5 w6 := (bl.next hB)
  have X_6 := X_5.next hB_6
  have cX_6_0 : _ = some (Value.bool s) := X_6.cell 0
  have cX_6_1 : _ = some (Value.slice a1 n1 c1) := X_6.cell 1
  have cX_6_2 : _ = some (Value.slice b1 m1 d1) := X_6.cell 2
  have D_6 := D_5.below hB_6
  have TD_6 := TD_5.below hB_6
  have TV_6 := TV_5.below hB_6
  have hbel_6 := hbel_5.next hB_6
  have hsz_6 := hB_6.size
  clear X_5 cX_5_0 cX_5_1 cX_5_2 D_5 TD_5 TV_5 hbel_5 hB_6
  have TK_6 := hO.rdN hsT.out
  clear hO
  try clear hB
  go_wp2_with fail
  refine (nmulR TV_6 TK_6 (by omega) (by omega)).mono ?_
  rintro e w7 ⟨ma, mn, mc, rfl, hO, hB⟩
  have hB_7 : Below w6.heap.size w6 w7 := (bl.next hB)
  have X_7 := X_6.next hB_7
  have cX_7_0 : _ = some (Value.bool s) := X_7.cell 0
  have cX_7_1 : _ = some (Value.slice a1 n1 c1) := X_7.cell 1
  have cX_7_2 : _ = some (Value.slice b1 m1 d1) := X_7.cell 2
  have D_7 := D_6.below hB_7
  have TD_7 := TD_6.below hB_7
  have TV_7 := TV_6.below hB_7
  have TK_7 := TK_6.below hB_7
  have hbel_7 := hbel_6.next hB_7
  have hsz_7 := hB_7.size
  clear X_6 cX_6_0 cX_6_1 cX_6_2 D_6 TD_6 TV_6 TK_6 hbel_6 hB_7
  have M_7 := hO.rdN hsP.out
  clear hO
  try clear hB
  clear TV_7
  clear TK_7
  go_wp2_with fail
  refine (naddR M_7 D_7 (by omega) (by omega)).mono ?_
  rintro e w8 ⟨aa, an, ac, rfl, hO, hB⟩
  have hB_8 : Below w7.heap.size w7 w8 := (bl.next hB)
  have X_8 := X_7.next hB_8
  have cX_8_0 : _ = some (Value.bool s) := X_8.cell 0
  have cX_8_1 : _ = some (Value.slice a1 n1 c1) := X_8.cell 1
  have cX_8_2 : _ = some (Value.slice b1 m1 d1) := X_8.cell 2
  have D_8 := D_7.below hB_8
  have TD_8 := TD_7.below hB_8
  have M_8 := M_7.below hB_8
  have hbel_8 := hbel_7.next hB_8
  have hsz_8 := hB_8.size
  clear X_7 cX_7_0 cX_7_1 cX_7_2 D_7 TD_7 M_7 hbel_7 hB_8
  have A_8 := hO.rdN hsA.out
  clear hO
  try clear hB
  clear M_8
  clear D_8
  go_wp2_with fail
  refine (ndivR A_8 TD_8 (by omega) (by omega) (by have := hdh.out; omega)).mono ?_
  rw [hR.out]
  rintro e w9 ⟨qa, qn, qc, ra, rn, rc, rfl, hO, hO', hD, hB⟩
  have hB_9 : Below w8.heap.size w8 w9 := (bl.next hB)
  have X_9 := X_8.next hB_9
  have cX_9_0 : _ = some (Value.bool s) := X_9.cell 0
  have cX_9_1 : _ = some (Value.slice a1 n1 c1) := X_9.cell 1
  have cX_9_2 : _ = some (Value.slice b1 m1 d1) := X_9.cell 2
  have TD_9 := TD_8.below hB_9
  have A_9 := A_8.below hB_9
  have hbel_9 := hbel_8.next hB_9
  have hsz_9 := hB_9.size
  clear X_8 cX_8_0 cX_8_1 cX_8_2 TD_8 A_8 hbel_8 hB_9
  have hql := hid hO.len
  have Q_9 := hO.rdN hsR.out
  clear hO hO' hD
  try clear hB
  clear A_9
  clear TD_9
  go_wp2_with fail
  refine (dpt Q_9 (by omega) k (by omega)).mono ?_
  rintro e w10 ⟨rfl, hB⟩
  have hB_10 : Below w9.heap.size w9 w10 := (bl.next hB)
  have X_10 := X_9.next hB_10
  have cX_10_0 : _ = some (Value.bool s) := X_10.cell 0
  have cX_10_1 : _ = some (Value.slice a1 n1 c1) := X_10.cell 1
  have cX_10_2 : _ = some (Value.slice b1 m1 d1) := X_10.cell 2
  have Q_10 := Q_9.below hB_10
  have hbel_10 := hbel_9.next hB_10
  have hsz_10 := hB_10.size
  clear X_9 cX_9_0 cX_9_1 cX_9_2 Q_9 hbel_9 hB_10
  try clear hB
  generalize txt (ptd R k) = S at *
  go_wp2
  go_ret2
  exact ⟨by rw [hV.out]; rfl, hbel_10⟩

set_option maxRecDepth 100000 in
set_option maxHeartbeats 4000000 in
theorem dround11 {w : World} {a1 b1 : Option Addr} {n1 c1 m1 d1 : Nat} {s : Bool} {x : Rat} {J : Nat} (hx : RdQ J w s a1 n1 c1 b1 m1 d1 x) (hJ : J ≤ 1000000) (k : Nat) (hk : k ≤ 4096) (hn : decide (x.num < 0) = true) (hz : rdN x.num.natAbs x.den k = 0) :
    Calls Try.prog 56 #[.agg #[.bool s, .slice a1 n1 c1, .slice b1 m1 d1], .int .i64 k] w (RetSE w (roT x k) 0) := by
  obtain ⟨s0, hs0⟩ : ∃ s, decide (x.num < 0) = s := ⟨_, rfl⟩
  obtain ⟨v, hv0⟩ : ∃ v, x.num.natAbs = v := ⟨_, rfl⟩
  obtain ⟨d, hd0⟩ : ∃ d, x.den = d := ⟨_, rfl⟩
  have hdz : d ≠ 0 := by rw [← hd0]; exact x.den_nz
  have hqs := (hx.mono (Nat.le_succ J)).qs (by omega)
  obtain ⟨sv, sd⟩ := hqs
  rw [hv0] at sv
  rw [hd0] at sd
  obtain ⟨K, hK1, hK2⟩ : ∃ K, J + 8300 ≤ K ∧ K ≤ 1100000 := ⟨J + 8300, Nat.le_refl _, by omega⟩
  have hT : roT x k = roV s0 (rdN v d k) k := by unfold roT; rw [hs0, hv0, hd0]
  rw [hT]
  clear hT
  rw [hs0] at hn
  subst hn
  rw [hv0, hd0] at hz
  have HP := hid (fun W (h : Below w.heap.size w W) => dparts (hx.below h) hJ)
  rw [hs0, hv0, hd0] at HP
  have hdh := hid hdz
  obtain ⟨R, hR0⟩ : ∃ R, rdN v d k = R := ⟨_, rfl⟩
  have sR : Sz R K := by
    rw [← hR0]; unfold rdN
    exact (((szTwo sv).mul (szTen k)).add (sd.mono (Nat.le_refl _) (show J.succ ≤ J.succ + 1 + (k + 1) by omega))).mono (Nat.div_le_self _ _) (by omega)
  have hR := hid (show (2 * v * 10 ^ k + d) / (2 * d) = R from hR0)
  have hV := hid (show roV true R k = txt (ptd R k) by rw [hR0] at hz; exact if_neg (fun h => h.2 hz))
  have hsz := ptd_sz (k := k) sR
  rw [hR0] at hz
  have hzh := hid hz
  rw [hR0]
  generalize roV true R k = RT at *
  have hsR := hid sR
  have hsv := hid (sv.mono (Nat.le_refl _) (show J.succ ≤ K by omega))
  have hsd := hid (sd.mono (Nat.le_refl _) (show J.succ ≤ K by omega))
  have hs2d := hid ((szTwo sd).mono (Nat.le_refl _) (show J.succ + 1 ≤ K by omega))
  have hs2v := hid ((szTwo sv).mono (Nat.le_refl _) (show J.succ + 1 ≤ K by omega))
  have hsT0 := szTen k
  obtain ⟨T, hT0⟩ : ∃ T, 10 ^ k = T := ⟨_, rfl⟩
  have HT := hid (fun w => dten (w := w) k (by omega))
  rw [hT0] at HT hR hsT0
  have hsT := hid (hsT0.mono (Nat.le_refl _) (show k + 1 ≤ K by omega))
  have hsP0 := (szTwo sv).mul hsT0
  have hsP := hid (hsP0.mono (Nat.le_refl _) (show J.succ + 1 + (k + 1) ≤ K by omega))
  have hsA := hid ((hsP0.add (sd.mono (Nat.le_refl _) (show J.succ ≤ J.succ + 1 + (k + 1) by omega))).mono (Nat.le_refl _) (show J.succ + 1 + (k + 1) + 1 ≤ K by omega))
  clear hsP0 hsT0
  have s2 := hid (show Sz 2 1 from by show 2 < 4294967296 ^ 1; omega)
  clear sv sd hv0 hd0 hs0 hdz hR0 hT0 sR hx hz
  have hent := ent1 w #[Value.bool s, Value.slice a1 n1 c1, Value.slice b1 m1 d1] 29
  go_enter Try.func56, Try.ntmps56
  go_wp2_with fail
  generalize (w.alloc (.cells #[Value.bool s, Value.slice a1 n1 c1, Value.slice b1 m1 d1] 29)) = W0 at hent ⊢
  obtain ⟨X_0, hbel_0, hsz_0⟩ := hent
  have cX_0_0 : _ = some (Value.bool s) := X_0.cell 0
  have cX_0_1 : _ = some (Value.slice a1 n1 c1) := X_0.cell 1
  have cX_0_2 : _ = some (Value.slice b1 m1 d1) := X_0.cell 2
  go_wp2_with fail
  refine (HP.out _ hbel_0).mono ?_
  rintro e w1 ⟨na, nn, nc, da, dn, dc, rfl, hO, hO', hB⟩
  have hB_1 : Below W0.heap.size W0 w1 := (bl.next hB)
  have X_1 := X_0.next hB_1
  have cX_1_0 : _ = some (Value.bool s) := X_1.cell 0
  have cX_1_1 : _ = some (Value.slice a1 n1 c1) := X_1.cell 1
  have cX_1_2 : _ = some (Value.slice b1 m1 d1) := X_1.cell 2
  have hbel_1 := hbel_0.next hB_1
  have hsz_1 := hB_1.size
  clear X_0 cX_0_0 cX_0_1 cX_0_2 hbel_0 hB_1
  have V_1 := hO.rdN hsv.out
  have D_1 := hO'.rdN hsd.out
  clear hO hO'
  try clear hB
  go_wp2_with fail
  refine (of_any 2 (by omega) (by omega)).mono ?_
  rintro e w2 ⟨oa, on, oc, rfl, hO, hB⟩
  have hB_2 : Below w1.heap.size w1 w2 := (bl.next hB)
  have X_2 := X_1.next hB_2
  have cX_2_0 : _ = some (Value.bool s) := X_2.cell 0
  have cX_2_1 : _ = some (Value.slice a1 n1 c1) := X_2.cell 1
  have cX_2_2 : _ = some (Value.slice b1 m1 d1) := X_2.cell 2
  have V_2 := V_1.below hB_2
  have D_2 := D_1.below hB_2
  have hbel_2 := hbel_1.next hB_2
  have hsz_2 := hB_2.size
  clear X_1 cX_1_0 cX_1_1 cX_1_2 V_1 D_1 hbel_1 hB_2
  have T2_2 := hO.rdN (v := 2) s2.out
  clear hO
  try clear hB
  go_wp2_with fail
  refine (nmulR T2_2 D_2 (by omega) (by omega)).mono ?_
  rintro e w3 ⟨ta, tn, tc, rfl, hO, hB⟩
  have hB_3 : Below w2.heap.size w2 w3 := (bl.next hB)
  have X_3 := X_2.next hB_3
  have cX_3_0 : _ = some (Value.bool s) := X_3.cell 0
  have cX_3_1 : _ = some (Value.slice a1 n1 c1) := X_3.cell 1
  have cX_3_2 : _ = some (Value.slice b1 m1 d1) := X_3.cell 2
  have V_3 := V_2.below hB_3
  have D_3 := D_2.below hB_3
  have T2_3 := T2_2.below hB_3
  have hbel_3 := hbel_2.next hB_3
  have hsz_3 := hB_3.size
  clear X_2 cX_2_0 cX_2_1 cX_2_2 V_2 D_2 T2_2 hbel_2 hB_3
  have TD_3 := hO.rdN hs2d.out
  clear hO
  try clear hB
  clear T2_3
  go_wp2_with fail
  refine (of_any 2 (by omega) (by omega)).mono ?_
  rintro e w4 ⟨pa, pn, pc, rfl, hO, hB⟩
  have hB_4 : Below w3.heap.size w3 w4 := (bl.next hB)
  have X_4 := X_3.next hB_4
  have cX_4_0 : _ = some (Value.bool s) := X_4.cell 0
  have cX_4_1 : _ = some (Value.slice a1 n1 c1) := X_4.cell 1
  have cX_4_2 : _ = some (Value.slice b1 m1 d1) := X_4.cell 2
  have V_4 := V_3.below hB_4
  have D_4 := D_3.below hB_4
  have TD_4 := TD_3.below hB_4
  have hbel_4 := hbel_3.next hB_4
  have hsz_4 := hB_4.size
  clear X_3 cX_3_0 cX_3_1 cX_3_2 V_3 D_3 TD_3 hbel_3 hB_4
  have T2_4 := hO.rdN (v := 2) s2.out
  clear hO
  try clear hB
  go_wp2_with fail
  refine (nmulR T2_4 V_4 (by omega) (by omega)).mono ?_
  rintro e w5 ⟨ua, un, uc, rfl, hO, hB⟩
  have hB_5 : Below w4.heap.size w4 w5 := (bl.next hB)
  have X_5 := X_4.next hB_5
  have cX_5_0 : _ = some (Value.bool s) := X_5.cell 0
  have cX_5_1 : _ = some (Value.slice a1 n1 c1) := X_5.cell 1
  have cX_5_2 : _ = some (Value.slice b1 m1 d1) := X_5.cell 2
  have V_5 := V_4.below hB_5
  have D_5 := D_4.below hB_5
  have TD_5 := TD_4.below hB_5
  have T2_5 := T2_4.below hB_5
  have hbel_5 := hbel_4.next hB_5
  have hsz_5 := hB_5.size
  clear X_4 cX_4_0 cX_4_1 cX_4_2 V_4 D_4 TD_4 T2_4 hbel_4 hB_5
  have TV_5 := hO.rdN hs2v.out
  clear hO
  try clear hB
  clear T2_5
  clear V_5
  go_wp2_with fail
  refine (HT.out _).mono ?_
  rintro e w6 ⟨ka, kn, kc, rfl, hO, hB⟩
  have hB_6 : Below w5.heap.size w5 w6 := (bl.next hB)
  have X_6 := X_5.next hB_6
  have cX_6_0 : _ = some (Value.bool s) := X_6.cell 0
  have cX_6_1 : _ = some (Value.slice a1 n1 c1) := X_6.cell 1
  have cX_6_2 : _ = some (Value.slice b1 m1 d1) := X_6.cell 2
  have D_6 := D_5.below hB_6
  have TD_6 := TD_5.below hB_6
  have TV_6 := TV_5.below hB_6
  have hbel_6 := hbel_5.next hB_6
  have hsz_6 := hB_6.size
  clear X_5 cX_5_0 cX_5_1 cX_5_2 D_5 TD_5 TV_5 hbel_5 hB_6
  have TK_6 := hO.rdN hsT.out
  clear hO
  try clear hB
  go_wp2_with fail
  refine (nmulR TV_6 TK_6 (by omega) (by omega)).mono ?_
  rintro e w7 ⟨ma, mn, mc, rfl, hO, hB⟩
  have hB_7 : Below w6.heap.size w6 w7 := (bl.next hB)
  have X_7 := X_6.next hB_7
  have cX_7_0 : _ = some (Value.bool s) := X_7.cell 0
  have cX_7_1 : _ = some (Value.slice a1 n1 c1) := X_7.cell 1
  have cX_7_2 : _ = some (Value.slice b1 m1 d1) := X_7.cell 2
  have D_7 := D_6.below hB_7
  have TD_7 := TD_6.below hB_7
  have TV_7 := TV_6.below hB_7
  have TK_7 := TK_6.below hB_7
  have hbel_7 := hbel_6.next hB_7
  have hsz_7 := hB_7.size
  clear X_6 cX_6_0 cX_6_1 cX_6_2 D_6 TD_6 TV_6 TK_6 hbel_6 hB_7
  have M_7 := hO.rdN hsP.out
  clear hO
  try clear hB
  clear TV_7
  clear TK_7
  go_wp2_with fail
  refine (naddR M_7 D_7 (by omega) (by omega)).mono ?_
  rintro e w8 ⟨aa, an, ac, rfl, hO, hB⟩
  have hB_8 : Below w7.heap.size w7 w8 := (bl.next hB)
  have X_8 := X_7.next hB_8
  have cX_8_0 : _ = some (Value.bool s) := X_8.cell 0
  have cX_8_1 : _ = some (Value.slice a1 n1 c1) := X_8.cell 1
  have cX_8_2 : _ = some (Value.slice b1 m1 d1) := X_8.cell 2
  have D_8 := D_7.below hB_8
  have TD_8 := TD_7.below hB_8
  have M_8 := M_7.below hB_8
  have hbel_8 := hbel_7.next hB_8
  have hsz_8 := hB_8.size
  clear X_7 cX_7_0 cX_7_1 cX_7_2 D_7 TD_7 M_7 hbel_7 hB_8
  have A_8 := hO.rdN hsA.out
  clear hO
  try clear hB
  clear M_8
  clear D_8
  go_wp2_with fail
  refine (ndivR A_8 TD_8 (by omega) (by omega) (by have := hdh.out; omega)).mono ?_
  rw [hR.out]
  rintro e w9 ⟨qa, qn, qc, ra, rn, rc, rfl, hO, hO', hD, hB⟩
  have hB_9 : Below w8.heap.size w8 w9 := (bl.next hB)
  have X_9 := X_8.next hB_9
  have cX_9_0 : _ = some (Value.bool s) := X_9.cell 0
  have cX_9_1 : _ = some (Value.slice a1 n1 c1) := X_9.cell 1
  have cX_9_2 : _ = some (Value.slice b1 m1 d1) := X_9.cell 2
  have TD_9 := TD_8.below hB_9
  have A_9 := A_8.below hB_9
  have hbel_9 := hbel_8.next hB_9
  have hsz_9 := hB_9.size
  clear X_8 cX_8_0 cX_8_1 cX_8_2 TD_8 A_8 hbel_8 hB_9
  have hql := hid hO.len
  have Q_9 := hO.rdN hsR.out
  clear hO hO' hD
  try clear hB
  clear A_9
  clear TD_9
  have hq0 : qn = 0 := by rw [← hql.out, hzh.out]; rfl
  subst hq0
  go_wp2_with fail
  refine (dpt Q_9 (by omega) k (by omega)).mono ?_
  rintro e w10 ⟨rfl, hB⟩
  have hB_10 : Below w9.heap.size w9 w10 := (bl.next hB)
  have X_10 := X_9.next hB_10
  have cX_10_0 : _ = some (Value.bool s) := X_10.cell 0
  have cX_10_1 : _ = some (Value.slice a1 n1 c1) := X_10.cell 1
  have cX_10_2 : _ = some (Value.slice b1 m1 d1) := X_10.cell 2
  have Q_10 := Q_9.below hB_10
  have hbel_10 := hbel_9.next hB_10
  have hsz_10 := hB_10.size
  clear X_9 cX_9_0 cX_9_1 cX_9_2 Q_9 hbel_9 hB_10
  try clear hB
  generalize txt (ptd R k) = S at *
  go_wp2
  go_ret2
  exact ⟨by rw [hV.out]; rfl, hbel_10⟩

set_option maxRecDepth 100000 in
set_option maxHeartbeats 4000000 in
theorem dround10 {w : World} {a1 b1 : Option Addr} {n1 c1 m1 d1 : Nat} {s : Bool} {x : Rat} {J : Nat} (hx : RdQ J w s a1 n1 c1 b1 m1 d1 x) (hJ : J ≤ 1000000) (k : Nat) (hk : k ≤ 4096) (hn : decide (x.num < 0) = true) (hz : rdN x.num.natAbs x.den k ≠ 0) :
    Calls Try.prog 56 #[.agg #[.bool s, .slice a1 n1 c1, .slice b1 m1 d1], .int .i64 k] w (RetSE w (roT x k) 0) := by
  obtain ⟨s0, hs0⟩ : ∃ s, decide (x.num < 0) = s := ⟨_, rfl⟩
  obtain ⟨v, hv0⟩ : ∃ v, x.num.natAbs = v := ⟨_, rfl⟩
  obtain ⟨d, hd0⟩ : ∃ d, x.den = d := ⟨_, rfl⟩
  have hdz : d ≠ 0 := by rw [← hd0]; exact x.den_nz
  have hqs := (hx.mono (Nat.le_succ J)).qs (by omega)
  obtain ⟨sv, sd⟩ := hqs
  rw [hv0] at sv
  rw [hd0] at sd
  obtain ⟨K, hK1, hK2⟩ : ∃ K, J + 8300 ≤ K ∧ K ≤ 1100000 := ⟨J + 8300, Nat.le_refl _, by omega⟩
  have hT : roT x k = roV s0 (rdN v d k) k := by unfold roT; rw [hs0, hv0, hd0]
  rw [hT]
  clear hT
  rw [hs0] at hn
  subst hn
  rw [hv0, hd0] at hz
  have HP := hid (fun W (h : Below w.heap.size w W) => dparts (hx.below h) hJ)
  rw [hs0, hv0, hd0] at HP
  have hdh := hid hdz
  obtain ⟨R, hR0⟩ : ∃ R, rdN v d k = R := ⟨_, rfl⟩
  have sR : Sz R K := by
    rw [← hR0]; unfold rdN
    exact (((szTwo sv).mul (szTen k)).add (sd.mono (Nat.le_refl _) (show J.succ ≤ J.succ + 1 + (k + 1) by omega))).mono (Nat.div_le_self _ _) (by omega)
  have hR := hid (show (2 * v * 10 ^ k + d) / (2 * d) = R from hR0)
  have hV := hid (show roV true R k = ⟨#[45]⟩ ++ txt (ptd R k) by rw [hR0] at hz; exact if_pos ⟨rfl, hz⟩)
  have hsz := ptd_sz (k := k) sR
  rw [hR0] at hz
  have hzh := hid hz
  rw [hR0]
  generalize roV true R k = RT at *
  have hsR := hid sR
  have hsv := hid (sv.mono (Nat.le_refl _) (show J.succ ≤ K by omega))
  have hsd := hid (sd.mono (Nat.le_refl _) (show J.succ ≤ K by omega))
  have hs2d := hid ((szTwo sd).mono (Nat.le_refl _) (show J.succ + 1 ≤ K by omega))
  have hs2v := hid ((szTwo sv).mono (Nat.le_refl _) (show J.succ + 1 ≤ K by omega))
  have hsT0 := szTen k
  obtain ⟨T, hT0⟩ : ∃ T, 10 ^ k = T := ⟨_, rfl⟩
  have HT := hid (fun w => dten (w := w) k (by omega))
  rw [hT0] at HT hR hsT0
  have hsT := hid (hsT0.mono (Nat.le_refl _) (show k + 1 ≤ K by omega))
  have hsP0 := (szTwo sv).mul hsT0
  have hsP := hid (hsP0.mono (Nat.le_refl _) (show J.succ + 1 + (k + 1) ≤ K by omega))
  have hsA := hid ((hsP0.add (sd.mono (Nat.le_refl _) (show J.succ ≤ J.succ + 1 + (k + 1) by omega))).mono (Nat.le_refl _) (show J.succ + 1 + (k + 1) + 1 ≤ K by omega))
  clear hsP0 hsT0
  have s2 := hid (show Sz 2 1 from by show 2 < 4294967296 ^ 1; omega)
  clear sv sd hv0 hd0 hs0 hdz hR0 hT0 sR hx hz
  have hent := ent1 w #[Value.bool s, Value.slice a1 n1 c1, Value.slice b1 m1 d1] 29
  go_enter Try.func56, Try.ntmps56
  go_wp2_with fail
  generalize (w.alloc (.cells #[Value.bool s, Value.slice a1 n1 c1, Value.slice b1 m1 d1] 29)) = W0 at hent ⊢
  obtain ⟨X_0, hbel_0, hsz_0⟩ := hent
  have cX_0_0 : _ = some (Value.bool s) := X_0.cell 0
  have cX_0_1 : _ = some (Value.slice a1 n1 c1) := X_0.cell 1
  have cX_0_2 : _ = some (Value.slice b1 m1 d1) := X_0.cell 2
  go_wp2_with fail
  refine (HP.out _ hbel_0).mono ?_
  rintro e w1 ⟨na, nn, nc, da, dn, dc, rfl, hO, hO', hB⟩
  have hB_1 : Below W0.heap.size W0 w1 := (bl.next hB)
  have X_1 := X_0.next hB_1
  have cX_1_0 : _ = some (Value.bool s) := X_1.cell 0
  have cX_1_1 : _ = some (Value.slice a1 n1 c1) := X_1.cell 1
  have cX_1_2 : _ = some (Value.slice b1 m1 d1) := X_1.cell 2
  have hbel_1 := hbel_0.next hB_1
  have hsz_1 := hB_1.size
  clear X_0 cX_0_0 cX_0_1 cX_0_2 hbel_0 hB_1
  have V_1 := hO.rdN hsv.out
  have D_1 := hO'.rdN hsd.out
  clear hO hO'
  try clear hB
  go_wp2_with fail
  refine (of_any 2 (by omega) (by omega)).mono ?_
  rintro e w2 ⟨oa, on, oc, rfl, hO, hB⟩
  have hB_2 : Below w1.heap.size w1 w2 := (bl.next hB)
  have X_2 := X_1.next hB_2
  have cX_2_0 : _ = some (Value.bool s) := X_2.cell 0
  have cX_2_1 : _ = some (Value.slice a1 n1 c1) := X_2.cell 1
  have cX_2_2 : _ = some (Value.slice b1 m1 d1) := X_2.cell 2
  have V_2 := V_1.below hB_2
  have D_2 := D_1.below hB_2
  have hbel_2 := hbel_1.next hB_2
  have hsz_2 := hB_2.size
  clear X_1 cX_1_0 cX_1_1 cX_1_2 V_1 D_1 hbel_1 hB_2
  have T2_2 := hO.rdN (v := 2) s2.out
  clear hO
  try clear hB
  go_wp2_with fail
  refine (nmulR T2_2 D_2 (by omega) (by omega)).mono ?_
  rintro e w3 ⟨ta, tn, tc, rfl, hO, hB⟩
  have hB_3 : Below w2.heap.size w2 w3 := (bl.next hB)
  have X_3 := X_2.next hB_3
  have cX_3_0 : _ = some (Value.bool s) := X_3.cell 0
  have cX_3_1 : _ = some (Value.slice a1 n1 c1) := X_3.cell 1
  have cX_3_2 : _ = some (Value.slice b1 m1 d1) := X_3.cell 2
  have V_3 := V_2.below hB_3
  have D_3 := D_2.below hB_3
  have T2_3 := T2_2.below hB_3
  have hbel_3 := hbel_2.next hB_3
  have hsz_3 := hB_3.size
  clear X_2 cX_2_0 cX_2_1 cX_2_2 V_2 D_2 T2_2 hbel_2 hB_3
  have TD_3 := hO.rdN hs2d.out
  clear hO
  try clear hB
  clear T2_3
  go_wp2_with fail
  refine (of_any 2 (by omega) (by omega)).mono ?_
  rintro e w4 ⟨pa, pn, pc, rfl, hO, hB⟩
  have hB_4 : Below w3.heap.size w3 w4 := (bl.next hB)
  have X_4 := X_3.next hB_4
  have cX_4_0 : _ = some (Value.bool s) := X_4.cell 0
  have cX_4_1 : _ = some (Value.slice a1 n1 c1) := X_4.cell 1
  have cX_4_2 : _ = some (Value.slice b1 m1 d1) := X_4.cell 2
  have V_4 := V_3.below hB_4
  have D_4 := D_3.below hB_4
  have TD_4 := TD_3.below hB_4
  have hbel_4 := hbel_3.next hB_4
  have hsz_4 := hB_4.size
  clear X_3 cX_3_0 cX_3_1 cX_3_2 V_3 D_3 TD_3 hbel_3 hB_4
  have T2_4 := hO.rdN (v := 2) s2.out
  clear hO
  try clear hB
  go_wp2_with fail
  refine (nmulR T2_4 V_4 (by omega) (by omega)).mono ?_
  rintro e w5 ⟨ua, un, uc, rfl, hO, hB⟩
  have hB_5 : Below w4.heap.size w4 w5 := (bl.next hB)
  have X_5 := X_4.next hB_5
  have cX_5_0 : _ = some (Value.bool s) := X_5.cell 0
  have cX_5_1 : _ = some (Value.slice a1 n1 c1) := X_5.cell 1
  have cX_5_2 : _ = some (Value.slice b1 m1 d1) := X_5.cell 2
  have V_5 := V_4.below hB_5
  have D_5 := D_4.below hB_5
  have TD_5 := TD_4.below hB_5
  have T2_5 := T2_4.below hB_5
  have hbel_5 := hbel_4.next hB_5
  have hsz_5 := hB_5.size
  clear X_4 cX_4_0 cX_4_1 cX_4_2 V_4 D_4 TD_4 T2_4 hbel_4 hB_5
  have TV_5 := hO.rdN hs2v.out
  clear hO
  try clear hB
  clear T2_5
  clear V_5
  go_wp2_with fail
  refine (HT.out _).mono ?_
  rintro e w6 ⟨ka, kn, kc, rfl, hO, hB⟩
  have hB_6 : Below w5.heap.size w5 w6 := (bl.next hB)
  have X_6 := X_5.next hB_6
  have cX_6_0 : _ = some (Value.bool s) := X_6.cell 0
  have cX_6_1 : _ = some (Value.slice a1 n1 c1) := X_6.cell 1
  have cX_6_2 : _ = some (Value.slice b1 m1 d1) := X_6.cell 2
  have D_6 := D_5.below hB_6
  have TD_6 := TD_5.below hB_6
  have TV_6 := TV_5.below hB_6
  have hbel_6 := hbel_5.next hB_6
  have hsz_6 := hB_6.size
  clear X_5 cX_5_0 cX_5_1 cX_5_2 D_5 TD_5 TV_5 hbel_5 hB_6
  have TK_6 := hO.rdN hsT.out
  clear hO
  try clear hB
  go_wp2_with fail
  refine (nmulR TV_6 TK_6 (by omega) (by omega)).mono ?_
  rintro e w7 ⟨ma, mn, mc, rfl, hO, hB⟩
  have hB_7 : Below w6.heap.size w6 w7 := (bl.next hB)
  have X_7 := X_6.next hB_7
  have cX_7_0 : _ = some (Value.bool s) := X_7.cell 0
  have cX_7_1 : _ = some (Value.slice a1 n1 c1) := X_7.cell 1
  have cX_7_2 : _ = some (Value.slice b1 m1 d1) := X_7.cell 2
  have D_7 := D_6.below hB_7
  have TD_7 := TD_6.below hB_7
  have TV_7 := TV_6.below hB_7
  have TK_7 := TK_6.below hB_7
  have hbel_7 := hbel_6.next hB_7
  have hsz_7 := hB_7.size
  clear X_6 cX_6_0 cX_6_1 cX_6_2 D_6 TD_6 TV_6 TK_6 hbel_6 hB_7
  have M_7 := hO.rdN hsP.out
  clear hO
  try clear hB
  clear TV_7
  clear TK_7
  go_wp2_with fail
  refine (naddR M_7 D_7 (by omega) (by omega)).mono ?_
  rintro e w8 ⟨aa, an, ac, rfl, hO, hB⟩
  have hB_8 : Below w7.heap.size w7 w8 := (bl.next hB)
  have X_8 := X_7.next hB_8
  have cX_8_0 : _ = some (Value.bool s) := X_8.cell 0
  have cX_8_1 : _ = some (Value.slice a1 n1 c1) := X_8.cell 1
  have cX_8_2 : _ = some (Value.slice b1 m1 d1) := X_8.cell 2
  have D_8 := D_7.below hB_8
  have TD_8 := TD_7.below hB_8
  have M_8 := M_7.below hB_8
  have hbel_8 := hbel_7.next hB_8
  have hsz_8 := hB_8.size
  clear X_7 cX_7_0 cX_7_1 cX_7_2 D_7 TD_7 M_7 hbel_7 hB_8
  have A_8 := hO.rdN hsA.out
  clear hO
  try clear hB
  clear M_8
  clear D_8
  go_wp2_with fail
  refine (ndivR A_8 TD_8 (by omega) (by omega) (by have := hdh.out; omega)).mono ?_
  rw [hR.out]
  rintro e w9 ⟨qa, qn, qc, ra, rn, rc, rfl, hO, hO', hD, hB⟩
  have hB_9 : Below w8.heap.size w8 w9 := (bl.next hB)
  have X_9 := X_8.next hB_9
  have cX_9_0 : _ = some (Value.bool s) := X_9.cell 0
  have cX_9_1 : _ = some (Value.slice a1 n1 c1) := X_9.cell 1
  have cX_9_2 : _ = some (Value.slice b1 m1 d1) := X_9.cell 2
  have TD_9 := TD_8.below hB_9
  have A_9 := A_8.below hB_9
  have hbel_9 := hbel_8.next hB_9
  have hsz_9 := hB_9.size
  clear X_8 cX_8_0 cX_8_1 cX_8_2 TD_8 A_8 hbel_8 hB_9
  have hql := hid hO.len
  have Q_9 := hO.rdN hsR.out
  clear hO hO' hD
  try clear hB
  clear A_9
  clear TD_9
  have hq0 : 0 < qn := by rw [← hql.out]; exact lm_len_pos.2 (Nat.pos_of_ne_zero hzh.out)
  have hbn := Q_9.len
  go_wp2_with fail
  refine (dpt Q_9 (by omega) k (by omega)).mono ?_
  rintro e w10 ⟨rfl, hB⟩
  have hB_10 : Below w9.heap.size w9 w10 := (bl.next hB)
  have X_10 := X_9.next hB_10
  have cX_10_0 : _ = some (Value.bool s) := X_10.cell 0
  have cX_10_1 : _ = some (Value.slice a1 n1 c1) := X_10.cell 1
  have cX_10_2 : _ = some (Value.slice b1 m1 d1) := X_10.cell 2
  have Q_10 := Q_9.below hB_10
  have hbel_10 := hbel_9.next hB_10
  have hsz_10 := hB_10.size
  clear X_9 cX_9_0 cX_9_1 cX_9_2 Q_9 hbel_9 hB_10
  try clear hB
  generalize txt (ptd R k) = S at *
  go_wp2
  go_ret2
  exact ⟨by rw [hV.out]; rfl, hbel_10⟩

theorem dround {w : World} {a1 b1 : Option Addr} {n1 c1 m1 d1 : Nat} {s : Bool} {x : Rat} {J : Nat} (hx : RdQ J w s a1 n1 c1 b1 m1 d1 x) (hJ : J ≤ 1000000) (k : Nat) (hk : k ≤ 4096) : Calls Try.prog 56 #[.agg #[.bool s, .slice a1 n1 c1, .slice b1 m1 d1], .int .i64 k] w (RetSE w (roT x k) 0) := by
  cases hn : decide (x.num < 0)
  · exact dround0 hx hJ k hk hn
  · by_cases hz : rdN x.num.natAbs x.den k = 0
    · exact dround11 hx hJ k hk hn hz
    · exact dround10 hx hJ k hk hn hz

end Go.Proofs.Ytnpkmlpmeeidbaa
/- WALKS OF DECIMALS, 8: the statements' own helpers: cut, kept, bound. -/
namespace Go.Proofs.Ytnpkmlpmeeidbaa
set_option linter.unusedVariables false
set_option linter.unusedSimpArgs false
open Go.ChangeShapes Go.WideShapes Go.ChangeAt Go.RowKit Go.NatP

/-- a list of limbs with marked room behind -/
def Lent7 (w : World) (a : Option Addr) (n c : Nat) (l : List Nat) : Prop := Rd w a (n + 5) c (l ++ List.replicate 5 77) ∧ Rd w a n c l
theorem Lent7.below {w w' : World} {a : Option Addr} {n c : Nat} {l : List Nat} (h : Lent7 w a n c l) (hB : Below w.heap.size w w') : Lent7 w' a n c l := ⟨h.1.below hB, h.2.below hB⟩
theorem Lent7.set3 {w : World} {a : Option Addr} {n c : Nat} {l : List Nat} (h : Lent7 w a n c l) {g : Nat} (hg : ∀ b o, a = some ⟨b, o, none⟩ → b ≠ g) (v0 v1 v2 : Value) : Lent7 (((w.setCell ⟨g, 0, none⟩ v0).setCell ⟨g, 1, none⟩ v1).setCell ⟨g, 2, none⟩ v2) a n c l := by
  have hk := (((Kp.refl (fun j => j = g) w).setCell (ad := ⟨g, 0, none⟩) rfl v0).setCell (ad := ⟨g, 1, none⟩) rfl v1).setCell (ad := ⟨g, 2, none⟩) rfl v2
  exact ⟨h.1.kp hk hg, h.2.kp hk hg⟩
end Go.Proofs.Ytnpkmlpmeeidbaa
