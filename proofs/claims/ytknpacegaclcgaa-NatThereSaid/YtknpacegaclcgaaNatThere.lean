/- THE WALK OF credencelaw01.NatThere: texts there and back, one behind the other. -/
import Derived.Test.YtknpacegaclcgaaWE
namespace Go.Proofs.Ytknpacegaclcgaa
set_option linter.unusedVariables false
open Go.ChangeShapes Go.WideShapes Go.ChangeAt Go.RowKit Go.NatP

set_option maxRecDepth 100000 in
set_option maxHeartbeats 4000000 in
theorem natThere_walk {w : World} {x : Option Addr} {nx cx : Nat} {lx : List Nat} (hx : Rd w x nx cx lx) (s : ByteArray) (hs : s.size ≤ maxLen) (t : ByteArray) (ht : t.size ≤ maxLen) :
    Calls Try.prog 12 #[.slice x nx cx, .string s, .string t] w fun e w' => e = .returned (.bool true) ∧ Below w.heap.size w w' := by
  go_enter Try.func12, Try.ntmps12
  have hE0 := ev_start w
  have hE1 := hE0.old hx
  clear hE0
  go_wp2_with fail
  refine (alive_any ).mono ?_
  rintro e w1 ⟨rfl, hB⟩
  have hE2 := hE1.step hB
  clear hE1
  clear hB
  go_wp2_with fail
  refine (cut_any (hE2.rd ⟨x, nx, cx, lx⟩ (by simp)) 60 (by decide) (by decide)).mono ?_
  rintro e w' ⟨nx', rfl, rfl, x1, x2⟩
  rw [show Int.toNat 60 = 60 from rfl] at x1 x2
  have A_sz : Hid (Sz (val (lx.take 60)) 60) := x2.lim.sz (by rw [x2.len]; exact x1)
  generalize lx.take 60 = A_l at x2 A_sz
  go_wp2_with fail
  refine (norm_any (l := A_l) x2 (by omega)).mono ?_
  generalize val A_l = A at A_sz ⊢
  rintro e w2 ⟨a2, n2, c2, rfl, hO, hB⟩
  have hn2 : n2 ≤ 60 := by have := hO.len; have := A_sz.out.len; omega
  have hE3 := hE2.note hO hB
  clear hE2
  clear hO hB x2
  have hTl := dl_len_le A_sz.out.len
  have hTx : Hid (paN (by' (txt (tx A))) = A ∧ paE (by' (txt (tx A))) = 0) := by show _ ∧ _; rw [by_txt (fun c hc => by have := okD_get (okD_tx A) hc; omega)]; exact paN_tx A
  have hTs : (txt (tx A)).size ≤ 16777216 := Nat.le_trans (txt_size hTl) (by decide)
  clear hTl
  go_wp2_with fail
  refine (text_any (l := lm A) ?_ ?_).mono ?_
  · exact hE3.rd ⟨a2, n2, c2, lm A⟩ (by simp)
  · omega
  rw [val_lm]
  generalize txt (tx A) = T at *
  rintro e w3 ⟨rfl, hB⟩
  have hE4 := hE3.step hB
  clear hE3
  clear hB
  go_wp2_with fail
  refine (parse_any T ?_).mono ?_
  · exact hTs
  rw [hTx.out.1, hTx.out.2]
  rintro e w4 ⟨a4, n4, c4, rfl, hO, hB⟩
  have hE5 := hE4.note hO hB
  clear hE4
  clear hO hB
  go_wp2_with fail
  refine (digits_any s hs).mono ?_
  rintro e w5 ⟨u, rfl, hu0, hu1, huo, hB⟩
  have hE6 := hE5.step hB
  clear hE5
  clear hB hs
  go_wp2_with fail
  refine (digits_any t ht).mono ?_
  rintro e w6 ⟨v, rfl, hv0, hv1, hvo, hB⟩
  have hE7 := hE6.step hB
  clear hE6
  clear hB ht
  have hun : by' u ≠ [] := fun e => by have h := by_len u; rw [e] at h; simp at h; omega
  have hup := hid (paN_ok hun huo)
  have huz := hid (paN_sz u hu1)
  rw [hup.out.1] at huz
  have hvn : by' v ≠ [] := fun e => by have h := by_len v; rw [e] at h; simp at h; omega
  have hvp := hid (paN_ok hvn hvo)
  have hvz := hid (paN_sz v hv1)
  rw [hvp.out.1] at hvz
  have huvp : Hid (paN (by' (u ++ v)) = numD (by' u) * 10 ^ v.size + numD (by' v) ∧ paE (by' (u ++ v)) = 0) := by
    have h := paN_ok (l := by' u ++ by' v) (by simp [hun]) (by rw [okD_append, huo, hvo]; rfl)
    show _ ∧ _; rw [by_append, h.1, h.2, numD_append, by_len]; exact ⟨rfl, rfl⟩
  have hts := hid (pw_okN (v := 10) (k := 1) (show 10 < 4294967296 ^ 1 by decide) v.size (by omega) (by omega))
  obtain ⟨K, hK1, hK2⟩ : ∃ K : Nat, 400 ≤ K ∧ K ≤ 500 := ⟨400, by omega, by omega⟩
  have htz := hid (szPow (K := K) (e := v.size) (show Sz 10 1 from (by decide : 10 < 4294967296 ^ 1)) (by omega))
  have huz2 := hid (huz.out.mono (Nat.le_refl _) (show 300 ≤ K by omega))
  have hvz2 := hid (hvz.out.mono (Nat.le_refl _) (show 300 ≤ K by omega))
  have huo' := hid huo
  have hul := hid (by_len u)
  have hug := hid (fun k h => by_get u k h)
  have hue := hid (fun k h => by_extract u k h)
  have huB := hid (fun c hc => okD_get (l := by' u) huo (c := c) hc)
  clear hun hvn huo hvo huz hvz
  have hsz : (u ++ v).size ≤ 16777216 := by rw [ByteArray.size_append]; omega
  go_wp2_with fail
  refine (parse_any u ?_).mono ?_
  · omega
  rw [hup.out.1, hup.out.2]
  rintro e w7 ⟨a7, n7, c7, rfl, hO, hB⟩
  have hn7 : n7 ≤ K := by have := hO.len; have := (huz2.out).len; omega
  have hE8 := hE7.note hO hB
  clear hE7
  clear hO hB
  go_wp2_with fail
  refine (parse_any v ?_).mono ?_
  · omega
  rw [hvp.out.1, hvp.out.2]
  rintro e w8 ⟨a8, n8, c8, rfl, hO, hB⟩
  have hn8 : n8 ≤ K := by have := hO.len; have := (hvz2.out).len; omega
  have hE9 := hE8.note hO hB
  clear hE8
  clear hO hB
  go_wp2_with fail
  refine (parse_any (u ++ v) ?_).mono ?_
  · exact hsz
  rw [huvp.out.1, huvp.out.2]
  rintro e w9 ⟨a9, n9, c9, rfl, hO, hB⟩
  have hE10 := hE9.note hO hB
  clear hE9
  clear hO hB
  have hE11 := hE10.lit [10] (by decide) (by simp [maxLen]) #[.int .u32 10] rfl (w9.heap.size) 1 (by simp) rfl
  clear hE10
  go_wp2_with fail
  refine (pow_any (l := [10]) (n := (v.size : Int)) ?_ ?_).mono ?_
  · exact hE11.rd ⟨(some ⟨w9.heap.size, 0, none⟩), 1, 1, [10]⟩ (by simp)
  · omega
  rw [show val [10] = 10 from rfl, hts.out.1, hts.out.2]
  rintro e w10 ⟨a10, n10, c10, rfl, hO, hB⟩
  have hn10 : n10 ≤ K := by have := hO.len; have := (htz.out).len; omega
  have hE12 := hE11.note hO hB
  clear hE11
  clear hO hB
  go_wp2_with fail
  refine (lsame_true (l := lm A) ?_ ?_).mono ?_
  · exact hE12.rd ⟨a2, n2, c2, lm A⟩ (by simp)
  · exact hE12.rd ⟨a4, n4, c4, lm A⟩ (by simp)
  rintro e w11 ⟨rfl, hD⟩
  have hE13 := hE12.dr hD
  clear hE12
  clear hD
  have HTx := hid (fun W' (h : Below w11.heap.size w11 W') => text_any (show Rd W' a7 n7 c7 (lm (numD (by' u))) from (hE13.step h).rd ⟨a7, n7, c7, lm (numD (by' u))⟩ (by simp)) (by omega))
  simp only [val_lm] at HTx
  have HMu := hid (fun W' (h : Below w11.heap.size w11 W') => mul_any (show Rd W' a7 n7 c7 (lm (numD (by' u))) from (hE13.step h).rd ⟨a7, n7, c7, lm (numD (by' u))⟩ (by simp)) (show Rd W' a10 n10 c10 (lm (10 ^ v.size)) from (hE13.step h).rd ⟨a10, n10, c10, lm (10 ^ v.size)⟩ (by simp)) (by omega) (by omega))
  simp only [val_lm] at HMu
  have HRd := hid (fun W' (h : Below w11.heap.size w11 W') => (show Rd W' a8 n8 c8 (lm (numD (by' v))) from (hE13.step h).rd ⟨a8, n8, c8, lm (numD (by' v))⟩ (by simp)))
  have HRb := hid (fun W' (h : Below w11.heap.size w11 W') => (show Rd W' a9 n9 c9 (lm (numD (by' u) * 10 ^ v.size + numD (by' v))) from (hE13.step h).rd ⟨a9, n9, c9, lm (numD (by' u) * 10 ^ v.size + numD (by' v))⟩ (by simp)))
  have hmz := hid (huz2.out.mul htz.out)
  have hdz := hid hvz2.out
  have hbel := hE13.bel
  clear hE13
  go_wp2
  go_loop [21] (fun kv => ∃ k : Nat, k < u.size ∧ kv = .int .i64 k ∧ Hid (∀ j, j < k → (by' u).getD j 0 = 48)) (fun kv => u.size - (intOf kv).toNat)
  case atStart => exact ⟨0, hu0, rfl, fun j hj => absurd hj (by omega)⟩
  case round =>
    obtain ⟨k, hk, rfl, hz⟩ := hrel
    have hx := hug.out k hk
    obtain ⟨x, hxe⟩ : ∃ x, u[k].toNat = x := ⟨_, rfl⟩
    rw [hxe] at hx
    by_cases hgo : k + 1 < u.size ∧ x = 48
    · obtain ⟨h1, rfl⟩ := hgo
      have hz' : Hid (∀ j, j < k + 1 → (by' u).getD j 0 = 48) := fun j hj => by
        by_cases hjk : j = k
        · rw [hjk, hx]
        · exact hz.out j (by omega)
      have hlt : (k : Int) < (u.size : Int) - 1 := by omega
      clear hx hz
      go_wp2
      go_round
      case rel => exact ⟨k + 1, h1, by go_num, hz'⟩
      case measure => simp [intOf]; omega
    · have hTu : Hid (txt (tx (numD (by' u))) = u.extract k u.size) := by
        refine by_inj ?_
        rw [tx_strip huo'.out (by rw [hul.out]; exact hk) hz.out (by rw [hul.out, hx]; omega), by_txt (fun c hc => by have := huB.out c (List.mem_of_mem_drop hc); omega), hue.out k (by omega)]
      clear hx hz
      have hcase : (¬ k + 1 < u.size) ∨ (k + 1 < u.size ∧ x ≠ 48) := by omega
      clear hgo
      rcases hcase with h1 | ⟨h1, h2⟩
      · have hlt : ¬ (k : Int) < (u.size : Int) - 1 := by omega
        go_wp2
        go_region_with (first
          | (go_at_call 28; refine (HTx.out _ (by first | exact Below.refl _ _ | exact ((Below.refl _ _).drew))).mono ?_; rw [hTu.out]; rintro e wT ⟨rfl, hBT⟩; have hBt : Below w11.heap.size w11 wT := ⟨hBT.os, hBT.tape, hBT.output, hBT.size, hBT.block⟩; clear hBT)
          | (go_at_call 44; refine (HMu.out _ hBt).mono ?_; rintro e wM ⟨am, nm, cm, rfl, hOm, hBm⟩; have hBM := hBt.next hBm; have hnm : nm ≤ K + K := by have := hOm.len; have := hmz.out.len; omega)
          | (go_at_call 43; refine (add_any hOm.rd (HRd.out _ hBM) (by omega) (by omega)).mono ?_; rw [val_lm, val_lm]; rintro e wA ⟨aa, na, ca, rfl, hOa, hBa⟩; have hBA := hBM.next hBa)
          | (go_at_call 54; refine (lsame_true (HRb.out _ hBA) hOa.rd).mono ?_; rintro e wS ⟨rfl, hDs⟩; have hDS : Dr wA wS := hDs))
        all_goals (go_wp2; go_ret; exact ⟨rfl, (hbel.next hBA).then (hDS.below _) (hbel.next hBA).size⟩)
      · have hlt : (k : Int) < (u.size : Int) - 1 := by omega
        have hxb : ((x : Int) == 48) = false := beq_eq_false_iff_ne.2 (by omega)
        go_wp2
        go_region_with (first
          | (go_at_call 28; refine (HTx.out _ (by first | exact Below.refl _ _ | exact ((Below.refl _ _).drew))).mono ?_; rw [hTu.out]; rintro e wT ⟨rfl, hBT⟩; have hBt : Below w11.heap.size w11 wT := ⟨hBT.os, hBT.tape, hBT.output, hBT.size, hBT.block⟩; clear hBT)
          | (go_at_call 44; refine (HMu.out _ hBt).mono ?_; rintro e wM ⟨am, nm, cm, rfl, hOm, hBm⟩; have hBM := hBt.next hBm; have hnm : nm ≤ K + K := by have := hOm.len; have := hmz.out.len; omega)
          | (go_at_call 43; refine (add_any hOm.rd (HRd.out _ hBM) (by omega) (by omega)).mono ?_; rw [val_lm, val_lm]; rintro e wA ⟨aa, na, ca, rfl, hOa, hBa⟩; have hBA := hBM.next hBa)
          | (go_at_call 54; refine (lsame_true (HRb.out _ hBA) hOa.rd).mono ?_; rintro e wS ⟨rfl, hDs⟩; have hDS : Dr wA wS := hDs))
        all_goals (go_wp2; go_ret; exact ⟨rfl, (hbel.next hBA).then (hDS.below _) (hbel.next hBA).size⟩)

end Go.Proofs.Ytknpacegaclcgaa
