/- WALKS, 24: division by more than one limb. -/
import Derived.Test.YtennilapmcgnbaaWw
import Derived.Test.YtennilapmcgnbaaPP
namespace Go.Proofs.Ytennilapmcgnbaa
set_option linter.unusedVariables false
open Go.ChangeShapes Go.WideShapes Go.ChangeAt Go.RowKit Go.NatP

set_option maxRecDepth 100000 in
set_option maxHeartbeats 2000000 in
theorem divmod_long {w : World} {a b : Option Addr} {n c m d : Nat} {la lb : List Nat} (ha : Rd w a n c la) (hb : Rd w b m d lb) (hn : n ≤ 4194304) (hle : val lb ≤ val la) (hM2 : 2 ≤ (lm (val lb)).length) :
    Calls Try.prog 54 #[.slice a n c, .slice b m d] w (RetD w (lm (val la / val lb)) (lm (val la % val lb)) 0) := by
  obtain ⟨N, hN⟩ : ∃ k, (lm (val la)).length = k := ⟨_, rfl⟩
  obtain ⟨M, hM⟩ : ∃ k, (lm (val lb)).length = k := ⟨_, rfl⟩
  rw [hM] at hM2
  obtain ⟨hRa, hNn⟩ := ha.trim hN
  obtain ⟨hRb, hMm⟩ := hb.trim hM
  have hMN : M ≤ N := by
    rcases Nat.lt_or_ge N M with h | h
    · have := lt_of_length (m := val la) (n := val lb) (by omega); omega
    · exact h
  have hC := cmp_any hRa hRb
  rw [val_lm, val_lm] at hC
  have hz : 0 ≤ cmpI (val la) (val lb) := by
    rcases Int.lt_or_le (cmpI (val la) (val lb)) 0 with h | h
    · have := cmpI_neg.1 h; omega
    · exact h
  have hzr := cmpI_range (val la) (val lb)
  generalize cmpI (val la) (val lb) = z at *
  have hy0 : val lb ≠ 0 := fun e => by rw [e, lm_zero] at hM; simp at hM; omega
  obtain ⟨bb, oo, rfl, hc⟩ := hRb.get (i := M - 1) (by omega)
  have hx := hRb.lim.getD (M - 1)
  have hx0 : (lm (val lb)).getD (M - 1) 0 ≠ 0 := by have := lm_last' hy0; rwa [hM] at this
  have hxb : nb ((lm (val lb)).getD (M - 1) 0) ≤ 32 := nb_le.2 (by simpa using hx)
  have hxp := nb_pos hx0
  obtain ⟨s, hs⟩ : ∃ s, s + nb ((lm (val lb)).getD (M - 1) 0) = 32 := ⟨32 - nb ((lm (val lb)).getD (M - 1) 0), by omega⟩
  have hs31 : s ≤ 31 := by omega
  obtain ⟨hd1, hd2, hd3, hd4⟩ := norm_div hy0 hM hs
  have hvN : val la < 4294967296 ^ N := by rw [← hN]; exact lt_pow_length _
  have hF := hid (dm_first hvN hs31 (by omega) hMN hd2)
  have hLen := fun w => Try.bits_LeadingZeros32 (((lm (val lb)).getD (M - 1) 0 : Nat) : Int) w (by omega) (by omega)
  have hbl : Hid ((32 : Int) - (Lib.bitLen (((lm (val lb)).getD (M - 1) 0 : Nat) : Int).toNat : Int) = (s : Int)) := by
    show _ = _
    rw [Int.toNat_natCast, bitLen_nb _ (by omega)]
    omega
  have hbb := hRb.bnd
  have hM' := hid hM
  have hN' := hid hN
  have hd3' := hid hd3
  have HLen := hid hLen
  have hV0 : Hid (0 < val lb * 2 ^ s) := Nat.mul_pos (by omega) (Nat.pow_pos (by decide))
  have hla := lim_lm (val la)
  generalize (lm (val lb)).getD (M - 1) 0 = x at *
  obtain ⟨v, hv⟩ : ∃ v, val la = v := ⟨_, rfl⟩
  obtain ⟨y, hy⟩ : ∃ y, val lb = y := ⟨_, rfl⟩
  rw [hv] at hRa hN' hF ⊢
  rw [hy] at hRb hM' hd3' hd4 hF hV0 ⊢
  have hav := hid hv
  have hby := hid hy
  have HZ := hid hz
  clear hv hy hd1 hd2 hd3 hLen hs hx0 hxb hxp hvN hy0 hM hN hle hla
  go_enter Try.func54, Try.ntmps54
  go_wp2_with fail
  refine (trim_any (k := N) ha (by rw [hav.out]; exact hN'.out)).mono ?_
  rintro e w' ⟨rfl, rfl⟩
  go_wp2_with fail
  refine (trim_any (k := M) hb (by rw [hby.out]; exact hM'.out)).mono ?_
  rintro e w' ⟨rfl, rfl⟩
  go_wp2_with fail
  refine hC.mono ?_
  rintro e w1 ⟨rfl, hD⟩
  have hR1 := hD.rd hRa
  have hRb1 := hD.rd hRb
  have hc1 := (hD.cell _).trans hc
  have hh : Hid (w1.heap.size = w.heap.size) := by show _ = _; rw [hD.heap]
  have hBD := hD.below w.heap.size
  clear hC
  go_wp2_with fail
  refine (HLen.out _).mono ?_
  rintro e w' ⟨rfl, rfl⟩
  rw [hbl.out]
  go_wp2_with fail
  refine (left_any hR1 (by omega) (s : Int) (by omega) (by omega)).mono ?_
  rw [val_lm, Int.toNat_natCast]
  rintro e w2 ⟨au, cu, S0, rfl, hOu, hS0, hB2⟩
  have hs2 := hB2.size
  have HS0 := hid hS0
  clear hS0
  go_wp2_with fail
  refine (left_any (hRb1.below hB2) (by omega) (s : Int) (by omega) (by omega)).mono ?_
  rw [val_lm, Int.toNat_natCast]
  rintro e w3 ⟨av, cv, Lv, rfl, hOv, hLv, hB3⟩
  have hs3 := hB3.size
  have HLv := hid hLv
  clear hLv
  go_wp2_with fail
  refine (trim_any (k := M) hOv.rd (by rw [HLv.out]; exact hd3'.out)).mono ?_
  rintro e w' ⟨rfl, rfl⟩
  have hOv' := hOv.mono (B' := w2.heap.size) (Nat.le_refl _)
  obtain ⟨gu, rfl⟩ : ∃ g, au = some ⟨g, 0, none⟩ := by
    rcases hOu.cases with ⟨_, h, _⟩ | ⟨g, h, _⟩
    · omega
    · exact ⟨g, h⟩
  obtain ⟨gv, rfl⟩ : ∃ g, av = some ⟨g, 0, none⟩ := by
    rcases hOv.cases with ⟨_, h, _⟩ | ⟨g, h, _⟩
    · omega
    · exact ⟨g, h⟩
  obtain ⟨hRv, _⟩ := hOv.rd.trim (k := M) (by rw [HLv.out]; exact hd3'.out)
  rw [HLv.out] at hRv
  have hgu := hOu.lt
  have hgv := hOv.lt
  have hOu3 := hOu.below hB3
  have hbu := hOu.bnd
  have hbv := hOv.bnd
  have hhs := hh.out
  have hh1 := Nat.le_of_eq hh.out.symm
  have hB13 : Below w.heap.size w w3 := (hBD.then hB2 (by omega)).then hB3 (by omega)
  clear hOv hOv' hOu hB2 hB3 hD hBD hhs
  obtain ⟨K, hK⟩ : ∃ K : Nat, N - M + 1 = K := ⟨_, rfl⟩
  have hKI : (N : Int) - (M : Int) + 1 = (K : Int) := by omega
  have hK1 : K ≤ N := by omega
  rw [hK] at hF
  go_wp2_with (at_make; refine wpList_mk (B := w3.heap.size) rfl _ _ rfl _ K rfl rfl ?_ ?_ (Nat.le_refl _) ?_)
  · first | exact hKI | omega
  · omega
  intro w4 hOq hK4
  have hq4 := hK4.size
  have hB4 := hK4.toBelow (fun _ _ h => h)
  have hB14 : Below w.heap.size w w4 := hB13.then hB4 hB13.size
  have hOu4 := hOu3.below hB4
  have hRv4 := hRv.below hB4
  have hDm := hid (dmIn_start (k := K) HS0.out hF.out)
  have hq5 := hOq.lt
  clear hOu3 hRv hB4 hB13 hK4
  go_wp2
  go_loopw [13] (fun jv wr => ∃ (i : Nat) (S T : List Nat), i ≤ K ∧ jv = .int .i64 ((i : Int) - 1) ∧ Own w.heap.size wr (some ⟨gu, 0, none⟩) (N + 1) cu S ∧ Own w.heap.size wr (some ⟨w3.heap.size, 0, none⟩) K K T ∧ Hid (DmIn (v * 2 ^ s) (y * 2 ^ s) i S T) ∧ Rd wr (some ⟨gv, 0, none⟩) M cv (lm (y * 2 ^ s)) ∧ Below w.heap.size w wr) (fun jv _ => (intOf jv + 1).toNat)
  case atStart => exact ⟨K, S0, _, Nat.le_refl _, rfl, hOu4.mono (by omega), hOq.mono (by omega), hDm, hRv4, hB14⟩
  case round =>
    clear hOu4 hOq hDm hRv4 hB14
    obtain ⟨i, S, T, hi, rfl, hOu, hOq, hDm, hRv, hB⟩ := hrel
    by_cases hi0 : i = 0
    · subst hi0
      obtain ⟨hT, hSr⟩ := dmIn_end (P := 2 ^ s) (Nat.pow_pos (by decide)) hDm.out
      have HT := hid hT
      obtain ⟨k, hk⟩ : ∃ k, (lm (val S)).length = k := ⟨_, rfl⟩
      obtain ⟨hRu, hkN⟩ := hOu.rd.trim hk
      have hk' := hid hk
      have hVk : Hid (val S < 4294967296 ^ k) := by rw [← hk]; exact lt_pow_length _
      have hDn := hid (downIn_start (P := 2 ^ s) hOu.lim rfl)
      have HSr := hid hSr
      obtain ⟨V, hV⟩ : ∃ V, val S = V := ⟨_, rfl⟩
      rw [hV] at hDn HSr hVk
      clear hT hSr hk hRu hDm hRv hV
      go_wp2_with fail
      refine (trim_any hOu.rd hk'.out).mono ?_
      rintro e w' ⟨rfl, rfl⟩
      go_wp2
      go_loopw [89] (fun iv wq => ∃ (i : Nat) (S : List Nat), i ≤ k ∧ iv = .int .i64 i ∧ Own w.heap.size wq (some ⟨gu, 0, none⟩) (N + 1) cu S ∧ Own w.heap.size wq (some ⟨w3.heap.size, 0, none⟩) K K T ∧ Hid (DownIn S V (2 ^ s) i) ∧ Below w.heap.size w wq) (fun iv _ => k - (intOf iv).toNat)
      case atStart => exact ⟨0, S, by omega, rfl, hOu, hOq, hDn, hB⟩
      case round =>
        clear hOu hOq hDn hB hi
        obtain ⟨i, S, hi, rfl, hOu, hOq, hDn, hB⟩ := hrel
        by_cases hlt : i < k
        · have hc1 := hOu.cell (i := i) (by omega)
          have hf1 := hOu.free i
          rw [hDn.out.2 i (Nat.le_refl _)] at hc1
          have hx : V / 4294967296 ^ i % 4294967296 < 4294967296 := Nat.mod_lt _ (by decide)
          have hshr := shr_limb V i s (by omega)
          have HN := hid (fun (x : Nat) (hx : x = V / 2 ^ s / 4294967296 ^ i % 4294967296) => downIn_step hDn.out (by rw [hOu.len]; omega) hx)
          have HS := hid (fun (X : Int) (x : Nat) (hX : X = (x : Int)) (hx : x < 4294967296) => hOu.setI i x hX hx)
          have HQ := hid (fun (v : Value) => hOq.set_other (i := i) (g := gu) v (fun g e => by cases e; omega))
          have HB := hid (fun (v : Value) => hB.setCell (p := ⟨gu, i, none⟩) (by show w.heap.size ≤ gu; omega) v)
          have HcI := hid (fun (z : Nat) => show ((z : Int) / 2 ^ s % 4294967296) = ((z / 2 ^ s % 4294967296 : Nat) : Int) from by
            have e : (z : Int) / 2 ^ s = ((z / 2 ^ s : Nat) : Int) := by rw [Int.natCast_ediv, Int.natCast_pow]; rfl
            rw [e]; omega)
          by_cases h2 : i + 1 < k
          · have hc2 := hOu.cell (i := i + 1) (by omega)
            rw [hDn.out.2 (i + 1) (by omega)] at hc2
            have hy : V / 4294967296 ^ (i + 1) % 4294967296 < 4294967296 := Nat.mod_lt _ (by decide)
            generalize V / 4294967296 ^ i % 4294967296 = x1 at *
            generalize V / 4294967296 ^ (i + 1) % 4294967296 = y1 at *
            have HSHR := hid hshr
            have hor := shr_or y1 x1 hx hy
            have h2' : (i : Int) + 1 < (k : Int) := by omega
            clear hOu hOq hDn hB hshr
            go_wp2
            go_roundw
            case rel => exact ⟨i + 1, _, by omega, by go_num, HS.out _ _ (HcI.out _) (Nat.mod_lt _ (by decide)), HQ.out _, HN.out _ HSHR.out, HB.out _⟩
            case measure => simp [intOf]; omega
          · have hy0 : V / 4294967296 ^ (i + 1) % 4294967296 = 0 := by
              rw [Nat.div_eq_of_lt (Nat.lt_of_lt_of_le hVk.out (Nat.pow_le_pow_right (by decide) (by omega)))]
            rw [hy0] at hshr
            generalize V / 4294967296 ^ i % 4294967296 = x1 at *
            simp only [Nat.zero_mul, Nat.zero_add] at hshr
            have HSHR := hid hshr
            have hor : bits BinOp.or IntKind.u64 0 (x1 : Int) = (x1 : Int) := by
              have := u64_or_nat 0 x1 (by omega) (by omega)
              rw [Nat.zero_or] at this
              exact this
            have h2' : ¬ (i : Int) + 1 < (k : Int) := by omega
            clear hOu hOq hDn hB hshr hy0
            go_wp2
            go_roundw
            case rel => exact ⟨i + 1, _, by omega, by go_num, HS.out _ _ (HcI.out _) (Nat.mod_lt _ (by decide)), HQ.out _, HN.out _ HSHR.out, HB.out _⟩
            case measure => simp [intOf]; omega
        · obtain rfl : i = k := by omega
          have hE := hid (downIn_end hDn.out hVk.out (by rw [hOu.len]; omega) hOu.lim)
          have hE2 : Hid (V / 2 ^ s = v % y) := by
            show _ = _
            rw [HSr.out, Nat.mul_div_cancel _ (Nat.pow_pos (by decide))]
          have hOt := hOu.take (k := i) (by omega)
          clear hDn hOu
          go_wp2_with fail
          refine (own_any hOq.rd (by omega)).mono ?_
          rw [HT.out]
          rintro e w5 ⟨pa, pn, pc, rfl, hOp, hB5⟩
          have hs5 := hB5.size
          have hsw := hB.size
          have hOt5 := hOt.below hB5
          go_wp2_with fail
          refine (own_any hOt5.rd (by omega)).mono ?_
          rw [hE.out, hE2.out]
          rintro e w6 ⟨ra, rn, rc, rfl, hOr, hB6⟩
          go_wp2
          go_ret3
          exact ⟨pa, pn, pc, ra, rn, rc, rfl, (hOp.below hB6).mono (by omega), hOr.mono (by omega), diff_of hOp hOr (Nat.le_refl _), (hB.next hB5).next hB6⟩
    · obtain ⟨j, rfl⟩ : ∃ j, i = j + 1 := ⟨i - 1, by omega⟩
      have hne1 : ¬ (cu : Int) = (j : Int) := by omega
      have hne2 : ¬ cu = j := by omega
      have hQ := hid (dm_q_lt hDm.out.1 hV0.out)
      have hDg := digit_any (j := j) hOu hRv (by omega) hM2 hd4 (by omega) (by omega) (by rw [val_lm]; exact hDm.out.1) (by rw [val_lm]; exact hV0.out)
      rw [val_lm] at hDg
      have HDg := hid hDg
      clear hDg
      go_wp2_with fail
      rw [show j + M + 1 - j = M + 1 by omega]
      refine HDg.out.mono ?_
      have hQI := hid (fun (S' : List Nat) (h : val S' = _) => dmIn_step (S' := S') hV0.out hDm.out (by rw [hOq.len]; omega) rfl h)
      generalize val S / 4294967296 ^ j / (y * 2 ^ s) = Q at *
      have hQ2 := hQ.out
      rintro e w5 ⟨S', rfl, hOu5, hS', hK5⟩
      have HS' := hid hS'
      have hs5 := hK5.size
      have hOq5 := hOq.kp hK5 (fun g e => by cases e; omega)
      have hRv5 := hRv.kp hK5 (fun b o e => by cases e; omega)
      have hB5 := hB.kp hK5 hB.size (fun k hk e => by omega)
      have hf := hOq5.free j
      have hcq := hOq5.cell (i := j) (by omega)
      have hOq6 := hOq5.set j Q hQ2
      have hDm6 := hid (hQI.out S' HS'.out)
      have hOu6 := hOu5.set_other (i := j) (g := w3.heap.size) (.int .u32 (Q : Int)) (fun g e => by cases e; omega)
      have hB6 := hB5.setCell (p := ⟨w3.heap.size, j, none⟩) (by show w.heap.size ≤ w3.heap.size; omega) (.int .u32 (Q : Int))
      have hRv6 := hRv5.kp (p := fun b => b = w3.heap.size) ((Kp.refl (fun b => b = w3.heap.size) w5).setCell (ad := ⟨w3.heap.size, j, none⟩) (show w3.heap.size = w3.heap.size from rfl) (.int .u32 (Q : Int))) (fun b o e => by cases e; omega)
      clear hS' hOu hOq hRv hB HDg hDm hQI hOu5 hOq5 hRv5 hB5 hK5
      go_wp2
      go_roundw
      case rel => exact ⟨j, S', T.set j Q, by omega, by go_num, hOu6, hOq6, hDm6, hRv6, hB6⟩
      case measure => simp [intOf]

end Go.Proofs.Ytennilapmcgnbaa
