/- WALKS, 27: square roots. -/
import Derived.Test.YtknpacegaclcgaaWz
import Derived.Test.YtknpacegaclcgaaPl
namespace Go.Proofs.Ytknpacegaclcgaa
set_option linter.unusedVariables false
open Go.ChangeShapes Go.WideShapes Go.ChangeAt Go.RowKit Go.NatP

set_option maxRecDepth 100000 in
set_option maxHeartbeats 1000000 in
theorem root_any {w : World} {a : Option Addr} {n c : Nat} {l : List Nat} (ha : Rd w a n c l) (hn : n ≤ 4194304) :
    Calls Try.prog 52 #[.slice a n c] w (Ret1 w (lm (rt (val l)))) := by
  obtain ⟨N, hN⟩ : ∃ k, (lm (val l)).length = k := ⟨_, rfl⟩
  obtain ⟨hRa, hNn⟩ := ha.trim hN
  have hN' := hid hN
  have hbb := hRa.bnd
  obtain ⟨v, hv⟩ : ∃ v, val l = v := ⟨_, rfl⟩
  rw [hv] at hRa hN' ⊢
  have hv' := hid hv
  by_cases h0 : v = 0
  · have hz : Hid (rt v = 0) := by show _ = _; rw [h0]; rfl
    have hN0 : N = 0 := by rw [← hN'.out, h0]; rfl
    subst hN0
    clear hv hN h0
    go_enter Try.func52, Try.ntmps52
    go_wp2_with fail
    refine (trim_any (k := 0) ha (by rw [hv'.out]; exact hN'.out)).mono ?_
    rintro e w' ⟨rfl, rfl⟩
    go_wp2
    go_ret
    exact ⟨none, 0, 0, rfl, by rw [hz.out]; exact own_nil _ _, Below.refl _ _⟩
  have hNp : 0 < N := by rw [← hN'.out]; exact List.length_pos_iff.2 fun e => h0 (lm_eq_nil.1 e)
  have hNe : ((N : Int) == 0) = false := beq_eq_false_iff_ne.2 (by omega)
  have hst := hid (newton_start (v := v))
  have hbv : nb v ≤ 32 * N := by
    have := lt_pow_length v
    rw [hN'.out, pow_32, ← nb_le] at this
    exact this
  have hv0 := hid h0
  have hbits := fun w (h : Rd w a N c (lm v)) => bits_any h (by omega)
  simp only [val_lm] at hbits
  generalize nb v = B at *
  obtain ⟨H, hH⟩ : ∃ H, (B + 1) / 2 = H := ⟨_, rfl⟩
  obtain ⟨q, hq⟩ : ∃ q, H / 32 = q := ⟨_, rfl⟩
  obtain ⟨r, hr⟩ : ∃ r, H % 32 = r := ⟨_, rfl⟩
  have hHI : ((B : Int) + 1) / 2 = (H : Int) := by omega
  have hqI : (H : Int) / 32 = (q : Int) := by omega
  have hrI : (H : Int) % 32 = (r : Int) := by omega
  have hqr : Hid (H = 32 * q + r) := by show _ = _; omega
  rw [hH] at hst
  have hHb : H ≤ 67108865 := by omega
  have hqb : q ≤ 2097152 := by omega
  have hrb : r < 32 := by omega
  have hBits := hid hbits
  clear hH hq hr hv hN h0 hbits
  go_enter Try.func52, Try.ntmps52
  go_wp2_with fail
  refine (trim_any (k := N) ha (by rw [hv'.out]; exact hN'.out)).mono ?_
  rintro e w' ⟨rfl, rfl⟩
  go_wp2_with fail
  refine (hBits.out _ hRa).mono ?_
  rintro e w1 ⟨rfl, hD⟩
  have hR1 := hD.rd hRa
  have hB1 := hD.below w.heap.size
  go_wp2_with (at_make; refine wpList_mk (B := w1.heap.size) rfl _ _ rfl _ (q + 1) rfl rfl ?_ ?_ (Nat.le_refl _) ?_)
  · first | omega | rfl
  · omega
  intro w2 hOx hK2
  have hB2 := hB1.then (hK2.toBelow (fun _ _ h => h)) hB1.size
  have hR2 := hR1.below (hK2.toBelow (fun _ _ h => h))
  go_wp2_with fail
  refine (hBits.out _ hR2).mono ?_
  rintro e w3 ⟨rfl, hD3⟩
  have hR3 := hD3.rd hR2
  have hOx3 := hD3.own hOx
  have hB3 := hB2.then (hD3.below _) hB2.size
  have hcx := hOx3.cell (i := q) (by omega)
  have hfx := hOx3.free q
  have hpw : (2 : Int) ^ r % 4294967296 = ((2 ^ r : Nat) : Int) := by
    have h1 : 2 ^ r < 4294967296 := Nat.lt_of_lt_of_le (Nat.pow_lt_pow_right (a := 2) (by decide) hrb) (by decide)
    have h2 : ((2 ^ r : Nat) : Int) = (2 : Int) ^ r := by simp
    rw [← h2]; generalize 2 ^ r = p at h1 ⊢; omega
  have hpw2 : 2 ^ r < 4294967296 := Nat.lt_of_lt_of_le (Nat.pow_lt_pow_right (a := 2) (by decide) hrb) (by decide)
  have hOx4 := hid (hOx3.setI q (2 ^ r) hpw hpw2)
  have hwB := hB1.size
  have hB4 := hid (hB3.setCell (p := ⟨w1.heap.size, q, none⟩) hwB (.int .u32 ((2 : Int) ^ r % 4294967296)))
  have hR4 := hid (hR3.kp (p := fun b => b = w1.heap.size) ((Kp.refl (fun b => b = w1.heap.size) w3).setCell (ad := ⟨w1.heap.size, q, none⟩) (show w1.heap.size = w1.heap.size from rfl) (.int .u32 ((2 : Int) ^ r % 4294967296)))
    (fun b o e => by subst e; have := hR1.blk_lt hNp rfl; omega))
  have hval := hid (val_pow_list (k := q + 1) (i := q) (m := r) (by omega) hrb)
  have hst2 : Hid (rt v ≤ val ((List.replicate (q + 1) 0).set q (2 ^ r)) ∧ 0 < val ((List.replicate (q + 1) 0).set q (2 ^ r)) ∧ Sz (val ((List.replicate (q + 1) 0).set q (2 ^ r))) (q + 1)) := by
    rw [hval.out, ← hqr.out]
    refine ⟨hst.out, Nat.pow_pos (by decide), ?_⟩
    show _ < _
    rw [pow_32]
    exact Nat.pow_lt_pow_right (by decide) (by have := hqr.out; omega)
  clear hpw hpw2 hval hOx3 hB3 hR3 hOx hK2 hD hD3 hR2 hB2 hB1 hst
  go_wp2
  clear hHI hqI hrI
  go_loopw [3] (fun xv wr => ∃ (xn xc : Nat) (xa : Option Addr) (L : List Nat), xv = .slice xa xn xc ∧ xn ≤ q + 1 ∧ Own w.heap.size wr xa xn xc L ∧ Hid (rt v ≤ val L ∧ 0 < val L ∧ Sz (val L) (q + 1)) ∧ Rd wr a N c (lm v) ∧ Below w.heap.size w wr) (fun xv wr => numOf wr xv)
  case atStart => exact ⟨q + 1, q + 1, _, _, rfl, Nat.le_refl _, hOx4.out.mono hwB, hst2, hR4.out, hB4.out⟩
  case round =>
    clear hOx4 hst2 hR4 hB4 hcx hfx
    obtain ⟨xn, xc, xa, L, rfl, hxn, hOx, hL, hR, hB⟩ := hrel
    have hsw := hB.size
    have hM : Hid (numOf wr (.slice xa xn xc) = val L) := by show _ = _; unfold numOf; rw [limbsOf_rd hOx.rd]
    have hDM := divmod_any hR hOx.rd (by omega)
    rw [val_lm] at hDM
    have HDM := hid hDM
    clear hDM
    have hnge := hid (newton_ge (v := v) hL.out.2.1)
    have hnend := hid (newton_end hL.out.2.1 hL.out.1)
    have hLv := hid (rfl : val L = val L)
    go_wp2_with fail
    refine HDM.out.mono ?_
    rintro e w5 ⟨qa, qn, qc, ra, rn, rc, rfl, hOq, hOr, hDf, hB5⟩
    have hs5 := hB5.size
    have hOx5 := hOx.below hB5
    have hR5 := hR.below hB5
    have hBB5 := hB.next hB5
    have hqn : qn ≤ N := by
      have h1 := hOq.len
      have h2 : Sz v N := by rw [← hN'.out]; exact lt_pow_length v
      have h3 := (h2.mono (Nat.div_le_self v (val L)) (Nat.le_refl _)).len
      omega
    clear hOx hR hB hOr hDf HDM hB5
    go_wp2_with fail
    refine (add_any hOq.rd hOx5.rd (by omega) (by omega)).mono ?_
    rw [val_lm]
    rintro e w6 ⟨ya, yn, yc, rfl, hOy, hB6⟩
    have hs6 := hB6.size
    have hOx6 := hOx5.below hB6
    have hR6 := hR5.below hB6
    have hBB6 := hBB5.next hB6
    have hyx : Diff xa ya := diff_of hOx5 hOy (Nat.le_refl _)
    have hlty := hid hOy.lt'
    have hyn : yn ≤ N + q + 2 := by
      have h1 := hOy.len
      have h2 : Sz v N := by rw [← hN'.out]; exact lt_pow_length v
      have h3 : Sz (v / val L) (N + q + 1) := h2.mono (Nat.div_le_self v (val L)) (by omega)
      have h4 : Sz (val L) (N + q + 1) := hL.out.2.2.mono (Nat.le_refl _) (by omega)
      have h5 := (h3.add h4).len
      omega
    have hltr := hid (fun g o e => hR5.blk_lt hNp (g := g) (o := o) e)
    clear hOq hOx5 hR5 hBB5 hB6
    go_wp2_with fail
    refine (small_any hOy 2 (by omega) (by omega)).mono ?_
    rw [val_lm, show Int.toNat 2 = 2 from rfl]
    rintro e w7 ⟨rfl, ⟨lq, hOy7, hlq⟩, hK7⟩
    have hs7 := hK7.size
    have hOx7 := hOx6.kp hK7 (fun g e e2 => hyx g e e2)
    have hR7 := hR6.kp hK7 (fun g o e e2 => by have h1 := hltr.out g o e; have h2 := hlty.out _ e2; omega)
    have hBB7 := hBB6.kp hK7 hBB6.size (fun k hk e2 => by have h2 := hlty.out _ e2; omega)
    have hlq' := hid hlq
    have hyb := hOy7.bnd
    clear hOx6 hR6 hBB6 hK7 hlq hOy
    have hC := cmp_any hOy7.rd hOx7.rd
    by_cases hge : val L ≤ val lq
    · have hz : 0 ≤ cmpI (val lq) (val L) := by
        rcases Int.lt_or_le (cmpI (val lq) (val L)) 0 with h | h
        · have := cmpI_neg.1 h; omega
        · exact h
      have hzr := cmpI_range (val lq) (val L)
      generalize cmpI (val lq) (val L) = z at *
      have hE : Hid (val L = rt v) := hnend.out (by rw [← hlq'.out]; exact hge)
      clear hge
      go_wp2_with fail
      refine hC.mono ?_
      rintro e w8 ⟨rfl, hD8⟩
      have hBB8 := hBB7.then (hD8.below _) hBB7.size
      go_wp2_with fail
      refine (own_any (hD8.own hOx7).rd (by omega)).mono ?_
      rw [hE.out]
      rintro e w9 ⟨pa, pn, pc, rfl, hOp, hB9⟩
      go_wp2
      go_ret
      exact ⟨pa, pn, pc, rfl, hOp.mono hBB8.size, hBB8.next hB9⟩
    · have hlt : val lq < val L := by omega
      rw [cmpI_lt hlt] at hC
      have hL' : Hid (rt v ≤ val lq ∧ 0 < val lq ∧ Sz (val lq) (q + 1)) := by
        refine ⟨by rw [hlq'.out]; exact hnge.out, ?_, hL.out.2.2.mono (Nat.le_of_lt hlt) (Nat.le_refl _)⟩
        have h1 := hnge.out
        have h2 := rt_pos hv0.out
        rw [hlq'.out]
        omega
      have hlt' := hid hlt
      clear hge hlt hlq'
      have HC := hid hC
      clear hC
      go_wp2_with fail
      refine HC.out.mono ?_
      rintro e w8 ⟨rfl, hD8⟩
      have hBB8 := hBB7.then (hD8.below _) hBB7.size
      have hR8 := hD8.rd hR7
      go_wp2_with fail
      refine (own_any (hD8.own hOy7).rd (by omega)).mono ?_
      rintro e w9 ⟨pa, pn, pc, rfl, hOp, hB9⟩
      have hpn : pn ≤ q + 1 := by have h1 := hOp.len; have h2 := hL'.out.2.2.len; omega
      go_wp2
      go_roundw
      case rel => exact ⟨pn, pc, pa, _, rfl, hpn, hOp.mono hBB8.size, by rw [val_lm]; exact hL', hR8.below hB9, hBB8.next hB9⟩
      case measure => rw [numOf_rd hOp.rd, hM.out]; exact hlt'.out


theorem rt_sz {v K : Nat} (h : Sz v K) : Sz (rt v) K := h.mono (rt_self v) (Nat.le_refl _)

set_option maxHeartbeats 1000000 in
theorem rroot_any {w : World} {a : Option Addr} {n c : Nat} {l : List Nat} (ha : Rd w a n c l) (hn : n ≤ 4096) :
    Calls Try.prog 51 #[.slice a n c] w (Ret1 w (lm (rt (val l)))) := by
  have hbl : nb (val l) ≤ 32 * n := by
    have := val_lt ha.lim
    rw [ha.len, pow_32, ← nb_le] at this
    exact this
  have hst := hid (rtIn_start (val l))
  have hbits := rbits_any ha (by omega)
  have hHI : ((nb (val l) : Int) + 1) / 2 = (((nb (val l) + 1) / 2 : Nat) : Int) := by omega
  have hHb : (nb (val l) + 1) / 2 ≤ 65536 := by omega
  have hHn : (nb (val l) + 1) / 2 ≤ 32 * n + 1 := by omega
  generalize nb (val l) = B at *
  generalize (B + 1) / 2 = H at *
  obtain ⟨v, hv⟩ : ∃ v, val l = v := ⟨_, rfl⟩
  have hv' := hid hv
  rw [hv] at hst ⊢
  have hszv : Hid (Sz v n) := by have := val_lt ha.lim; rw [ha.len, hv] at this; exact this
  clear hv
  have hBt := hid hbits
  clear hbits
  go_enter Try.func51, Try.ntmps51
  go_wp2_with fail
  refine hBt.out.mono ?_
  rintro e w1 ⟨rfl, hB1⟩
  have hR1 := ha.below hB1
  go_wp2
  go_loopw [3, 4] (fun rv iv wr => ∃ (i r rn rc : Nat) (ra : Option Addr), i ≤ H + 1 ∧ iv = .int .i64 ((i : Int) - 1) ∧ rv = .slice ra rn rc ∧ Own w.heap.size wr ra rn rc (lm r) ∧ Hid (RtIn v r i) ∧ Rd wr a n c l ∧ Below w.heap.size w wr) (fun _ iv _ => (intOf iv + 1).toNat)
  case atStart => exact ⟨H + 1, 0, 0, 0, none, Nat.le_refl _, by go_num, rfl, own_nil _ _, hst, hR1, hB1⟩
  case round =>
    clear hst hR1 hB1 hHI
    obtain ⟨i, r, rn, rc, ra, hi, rfl, rfl, hO, hI, hR, hB⟩ := hrel
    have hsw := hB.size
    by_cases hi0 : i = 0
    · subst hi0
      have hE := hid (rtIn_end hI.out)
      go_wp2
      go_ret
      exact ⟨ra, rn, rc, rfl, by rw [← hE.out]; exact hO, hB⟩
    · obtain ⟨j, rfl⟩ : ∃ j, i = j + 1 := ⟨i - 1, by omega⟩
      have hj : ((j + 1 : Nat) : Int) - 1 = (j : Int) := by omega
      have hsN : Hid (shN (val [1]) (j : Int) = 2 ^ j ∧ shE (j : Int) = 0) := by
        refine ⟨?_, by rw [shE, if_pos (by omega)]⟩
        rw [shN, if_pos (by omega), shv, if_pos (by omega), Int.toNat_natCast]; simp [val]
      have hrv : Hid (Sz r (n + 2)) := by
        refine hszv.out.mono (Nat.le_trans (le_rt hI.out.1) (rt_self v)) (by omega)
      have h2v : Hid (Sz (2 ^ j) (n + 2)) := by
        show _ < _
        rw [pow_32]
        exact Nat.pow_lt_pow_right (by decide) (by omega)
      have hrn : rn ≤ n + 2 := by have h1 := hO.len; have h2 := hrv.out.len; omega
      go_wp2_with fail
      rw [hj]
      refine (rshift_any (l := [1]) (rd_one rfl (by decide)) (by omega) (j : Int) (by omega) (by omega)).mono ?_
      rw [hsN.out.1, hsN.out.2]
      rintro e w2 ⟨oa, on, oc, rfl, hO1, hB2'⟩
      have hB2 := ((Below.refl wr.heap.size wr).alloc (Nat.le_refl _) (.cells #[.int .u32 1] 46)).then hB2' (by simp)
      have hs2 := hB2.size
      have hOr2 := hO.below hB2
      have hR2 := hR.below hB2
      have hBB2 := hB.next hB2
      have hon : on ≤ n + 2 := by have h1 := hO1.len; have h2 := h2v.out.len; omega
      clear hO hR hB hB2 hB2'
      go_wp2_with fail
      refine (radd_any hOr2.rd hO1.rd (by omega) (by omega)).mono ?_
      rw [val_lm, val_lm]
      rintro e w3 ⟨ta, tn, tc, rfl, hOt, hB3⟩
      have hOr3 := hOr2.below hB3
      have hR3 := hR2.below hB3
      have hBB3 := hBB2.next hB3
      have htn : tn ≤ n + 3 := by have h1 := hOt.len; have h2 := (hrv.out.add h2v.out).len; omega
      clear hOr2 hR2 hBB2 hO1
      go_wp2_with fail
      refine (rmul_any hOt.rd hOt.rd (by omega) (by omega)).mono ?_
      rw [val_lm]
      rintro e w4 ⟨pa, pn, pc, rfl, hOp, hB4⟩
      have hOr4 := hOr3.below hB4
      have hOt4 := hOt.below hB4
      have hR4 := hR3.below hB4
      have hBB4 := hBB3.next hB4
      have hC := rcmp_any hOp.rd hR4
      rw [val_lm, hv'.out] at hC
      have hs3 := hBB3.size
      clear hOr3 hR3 hBB3 hOt hB3 hB4
      by_cases hle : (r + 2 ^ j) * (r + 2 ^ j) ≤ v
      · have hI' := hid (rtIn_yes hI.out hle)
        have hz : cmpI ((r + 2 ^ j) * (r + 2 ^ j)) v ≤ 0 := by
          rcases Int.lt_or_le 0 (cmpI ((r + 2 ^ j) * (r + 2 ^ j)) v) with h | h
          · have := cmpI_pos.1 h; omega
          · exact h
        have hzr := cmpI_range ((r + 2 ^ j) * (r + 2 ^ j)) v
        generalize cmpI ((r + 2 ^ j) * (r + 2 ^ j)) v = z at *
        have HC := hid hC
        clear hC hle hI
        go_wp2_with fail
        refine HC.out.mono ?_
        rintro e w5 ⟨rfl, hD⟩
        go_wp2
        go_roundw
        case rel => exact ⟨j, r + 2 ^ j, tn, tc, ta, by omega, by go_num, rfl, (hD.own hOt4).mono (by omega), hI', hD.rd hR4, hBB4.then (hD.below _) hBB4.size⟩
        case measure => simp [intOf]
      · have hlt : v < (r + 2 ^ j) * (r + 2 ^ j) := by omega
        have hI' := hid (rtIn_no hI.out hlt)
        rw [cmpI_gt hlt] at hC
        have HC := hid hC
        clear hC hle hI hlt
        go_wp2_with fail
        refine HC.out.mono ?_
        rintro e w5 ⟨rfl, hD⟩
        go_wp2
        go_roundw
        case rel => exact ⟨j, r, rn, rc, ra, by omega, by go_num, rfl, hD.own hOr4, hI', hD.rd hR4, hBB4.then (hD.below _) hBB4.size⟩
        case measure => simp [intOf]

end Go.Proofs.Ytknpacegaclcgaa
