/- WALKS, 17: powers. -/
import Derived.Test.YtnpkmlpmeeidbaaRWp
import Derived.Test.YtnpkmlpmeeidbaaRPP
import Derived.Test.YtnpkmlpmeeidbaaRW1
namespace Go.Proofs.Ytnpkmlpmeeidbaa
set_option linter.unusedVariables false
open Go.ChangeShapes Go.WideShapes Go.ChangeAt Go.RowKit Go.NatP

theorem i64_and1 (m : Nat) (h : m < 4611686018427387904) : bits BinOp.and IntKind.i64 (m : Int) 1 = ((m % 2 : Nat) : Int) := by
  show IntKind.i64.wrap ((BitVec.ofInt 64 (m : Int) &&& BitVec.ofInt 64 ((1 : Nat) : Int)).toNat : Int) = _
  rw [BitVec.toNat_and, ofInt_u64 m (by omega), ofInt_u64 1 (by omega), nat_mask1]
  simp [IntKind.wrap, IntKind.bits, IntKind.signed]
  omega

/-- a power as the answer -/
theorem pwN_ok {v m x : Nat} (hm : m ≤ 1024) (hx : v ^ m = x) (hb : nb x ≤ 262144) : pwN v (m : Int) = x ∧ pwE v (m : Int) = 0 := by
  unfold pwN pwE
  rw [Int.toNat_natCast, hx]
  rw [if_pos ⟨by omega, by omega, hb⟩, if_pos ⟨by omega, by omega⟩, if_pos hb]
  exact ⟨rfl, rfl⟩
theorem pwN_big {v m : Nat} (hm : m ≤ 1024) (hb : 262144 < nb (v ^ m)) : pwN v (m : Int) = 0 ∧ pwE v (m : Int) = 12 := by
  unfold pwN pwE
  rw [Int.toNat_natCast]
  rw [if_neg (by omega), if_pos ⟨by omega, by omega⟩, if_neg (by omega)]
  exact ⟨rfl, rfl⟩
theorem pwN_bad {v : Nat} {n : Int} (h : n < 0 ∨ 1024 < n) : pwN v n = 0 ∧ pwE v n = 3 := by
  unfold pwN pwE
  rw [if_neg (by omega), if_neg (by omega)]
  exact ⟨rfl, rfl⟩
theorem nb_lim {l : List Nat} {k : Nat} (h : Lim l) (hk : l.length ≤ k) : nb (val l) ≤ 32 * k := by
  have h1 := h.sz hk
  unfold Sz at h1
  rwa [pow_32, ← nb_le] at h1

set_option maxRecDepth 100000 in
set_option maxHeartbeats 1000000 in
theorem pow_bad {w : World} {a : Option Addr} {k c : Nat} {l : List Nat} (n : Int) (hn : n < 0 ∨ 1024 < n) :
    Calls Try.prog 60 #[.slice a k c, .int .i64 n] w (RetE w (lm (pwN (val l) n)) (pwE (val l) n)) := by
  have H : Hid (pwN (val l) n = 0 ∧ pwE (val l) n = 3) := pwN_bad hn
  rcases hn with hn | hn
  all_goals
    go_enter Try.func60, Try.ntmps60
    go_wp2
    go_ret2
    exact ⟨none, 0, 0, by rw [H.out.2]; rfl, by rw [H.out.1]; exact own_nil _ _, Below.refl _ _⟩

set_option maxRecDepth 100000 in
set_option maxHeartbeats 4000000 in
theorem pow_good {w : World} {a : Option Addr} {k c : Nat} {l : List Nat} (hR : Rd w a k c l) (hk : k ≤ 4096) (M : Nat) (hM : M ≤ 1024) :
    Calls Try.prog 60 #[.slice a k c, .int .i64 M] w (RetE w (lm (pwN (val l) M)) (pwE (val l) M)) := by
  obtain ⟨j, hj⟩ : ∃ j, (lm (val l)).length = j := ⟨_, rfl⟩
  obtain ⟨hRj, hjk⟩ := hR.trim hj
  have hj' := hid hj
  have hb := hRj.bnd
  obtain ⟨v, hv⟩ : ∃ v, val l = v := ⟨_, rfl⟩
  obtain ⟨s, hs⟩ : ∃ s, nb v = s := ⟨_, rfl⟩
  have hsb : s ≤ 131072 := by
    have h1 := nb_lim hR.lim (k := 4096) (by rw [hR.len]; exact hk)
    rw [hv, hs] at h1
    omega
  have HB := bits_any (w := w) hRj (by omega)
  have HO := own_any (w := w) hRj (by omega)
  rw [hv] at hRj HB HO
  rw [val_lm] at HB HO
  rw [hs] at HB
  have hs' := hid hs
  have hv' := hid hv
  rw [hv]
  clear hs hj
  go_enter Try.func60, Try.ntmps60
  go_wp2_with fail
  refine (trim_any hR (k := j) hj'.out).mono ?_
  rintro e w' ⟨rfl, rfl⟩
  go_wp2_with fail
  refine HB.mono ?_
  rintro e w1 ⟨rfl, hD⟩
  have HO := HO
  by_cases hbig : 1 < s ∧ 262144 ≤ (s - 1) * M
  · have HE : Hid (pwN v (M : Int) = 0 ∧ pwE v (M : Int) = 12) := pwN_big hM (pow_big (by rw [hs'.out]; exact hbig.1) (by rw [hs'.out]; exact hbig.2))
    obtain ⟨q, rfl⟩ : ∃ q, s = q + 1 := ⟨s - 1, by omega⟩
    obtain ⟨p, hp⟩ : ∃ p, q * M = p := ⟨_, rfl⟩
    have hpi : (q : Int) * (M : Int) = (p : Int) := by rw [← hp]; push_cast; rfl
    have hpu : p ≤ 134217728 := by
      rw [← hp]; have h1 := Nat.mul_le_mul (show q ≤ 131072 by omega) hM; omega
    have hpl : 262144 ≤ p := by rw [← hp]; exact hbig.2
    have hs1 : 1 ≤ q := by omega
    have hq : q ≤ 131071 := by omega
    have hno : Hid (¬ wrap64 (wrap64 (q : Int) * (M : Int)) < 262144) := by
      show ¬ _
      have h1 : wrap64 (q : Int) = q := by unfold wrap64; omega
      rw [h1, hpi]
      unfold wrap64; omega
    clear hbig hp HO HB hsb hpi hpu hq
    go_wp2
    rotate_left
    · exfalso; have h1 := hno.out; omega
    go_ret2
    exact ⟨none, 0, 0, by rw [HE.out.2]; rfl, by rw [HE.out.1]; exact own_nil _ _, hD.below _⟩
  · have hsm : Hid (nb v ≤ 1 ∨ (nb v - 1) * M < 262144) := by
      show _ ∨ _
      rw [hs'.out]; omega
    obtain ⟨q, hq⟩ : ∃ q, s - 1 = q := ⟨_, rfl⟩
    have hno : Hid (1 < s → (s : Int) - 1 = (q : Int) ∧ wrap64 (wrap64 ((s : Int) - 1) * (M : Int)) < 262144) := by
      intro h1s
      have h2 : (s : Int) - 1 = (q : Int) := by omega
      refine ⟨h2, ?_⟩
      have h1 : wrap64 (q : Int) = q := by unfold wrap64; omega
      have h3 : q * M < 262144 := by rw [← hq]; omega
      rw [h2, h1, show (q : Int) * (M : Int) = ((q * M : Nat) : Int) by push_cast; rfl]
      generalize q * M = p at *
      unfold wrap64; omega
    have hsm' := hsm
    clear hbig hsb hq HB
    have HF := of_any (w := w1) 1 (by omega) (by omega)
    go_wp2_with fail
    any_goals (exfalso; have h1 := (hno.out (by omega)).2; omega)
    all_goals
      clear hno hs'
      refine HF.mono ?_
      rintro e w2 ⟨pa, pn, pc, rfl, hOp, hBp⟩
      have hR2 := (hD.rd hRj).below hBp
      go_wp2_with fail
      refine (own_any hR2 (by omega)).mono ?_
      rintro e w3 ⟨sa, sn, sc, rfl, hOs, hBs⟩
      rw [val_lm] at hOs
      have hsz := hBp.size
      have hsz2 := hBs.size
      have hB3 : Below w.heap.size w w3 := (hD.below _).then (hBp.next hBs) (Nat.le_of_eq (by rw [hD.heap]))
      have hh : w1.heap.size = w.heap.size := by rw [hD.heap]
      have hOp3 := (hOp.below hBs).mono (Nat.le_of_eq hh.symm)
      have hOs3 := hOs.mono (B' := w.heap.size) (by omega)
      have hps : Hid (pn ≤ 8224 ∧ sn ≤ 8224) := by
        have h1 := hOp.len
        have h2 := hOs.len
        have h3 := (pow_sz hsm.out hM (Nat.zero_le M)).len
        have h4 := (pow_sz (e := 1) hsm.out hM)
        have h5 := hRj.len
        exact ⟨by rw [← h1]; exact h3, by omega⟩
      obtain ⟨hp8, hs8⟩ := hps.out
      clear hOp hOs hBs hBp hps hR2 hRj HO HF hD
      go_wp2
      go_loopw [1, 7, 8] (fun nv pv sv wr => ∃ (m e b pn pc sn sc : Nat) (pa sa : Option Addr), m ≤ M ∧ nv = .int .i64 m ∧ pv = .slice pa pn pc ∧ sv = .slice sa sn sc ∧ pn ≤ 8224 ∧ sn ≤ 8224 ∧ Own w.heap.size wr pa pn pc (lm (v ^ e)) ∧ Own w.heap.size wr sa sn sc (lm (v ^ b)) ∧ Hid (e + b * m = M) ∧ Below w.heap.size w wr) (fun nv _ _ _ => (intOf nv).toNat)
      case atStart => exact ⟨M, 0, 1, pn, pc, sn, sc, pa, sa, Nat.le_refl _, rfl, rfl, rfl, hp8, hs8, hOp3, by rw [Nat.pow_one]; exact hOs3, by show _ = _; omega, hB3⟩
      case round =>
        clear hp8 hs8 hOp3 hOs3 hB3
        obtain ⟨m, e, b, pn, pc, sn, sc, pa, sa, hmM, rfl, rfl, rfl, hp8, hs8, hOp, hOs, hE, hB⟩ := hrel
        have hbp := hOp.bnd
        have hbs := hOs.bnd
        have hand := i64_and1 m (by omega)
        have hsB := hB.size
        by_cases hm0 : m = 0
        · subst hm0
          have hx : Hid (v ^ M = v ^ e) := by show _ = _; rw [← hE.out, Nat.mul_zero, Nat.add_zero]
          obtain ⟨x, hxe⟩ : ∃ x, v ^ e = x := ⟨_, rfl⟩
          obtain ⟨t, ht⟩ : ∃ t, nb x = t := ⟨_, rfl⟩
          have HB := bits_any hOp.rd (by omega)
          rw [val_lm, hxe, ht] at HB
          rw [hxe] at hx hOp
          have ht9 : t ≤ 263168 := by
            have h1 := nb_lim hOp.lim (k := 8224) (by rw [hOp.len]; exact hp8)
            rw [val_lm, ht] at h1
            omega
          by_cases hbig : t ≤ 262144
          · have HE : Hid (pwN v (M : Int) = x ∧ pwE v (M : Int) = 0) := pwN_ok hM hx.out (by rw [ht]; exact hbig)
            clear hx hxe ht hE
            go_wp2_with fail
            refine HB.mono ?_
            rintro e8 w4 ⟨rfl, hD4⟩
            go_wp2
            go_ret2
            exact ⟨pa, pn, pc, by rw [HE.out.2]; rfl, by rw [HE.out.1]; exact hD4.own hOp, hB.then (hD4.below _) hsB⟩
          · have HE : Hid (pwN v (M : Int) = 0 ∧ pwE v (M : Int) = 12) := pwN_big hM (by rw [hx.out, ht]; omega)
            clear hx hxe ht hE
            go_wp2_with fail
            refine HB.mono ?_
            rintro e8 w4 ⟨rfl, hD4⟩
            go_wp2
            go_ret2
            exact ⟨none, 0, 0, by rw [HE.out.2]; rfl, by rw [HE.out.1]; exact own_nil _ _, hB.then (hD4.below _) hsB⟩
        have hm1 : 1 ≤ m := by omega
        have hbm : Hid (b ≤ b * m) := Nat.le_mul_of_pos_right _ hm1
        have hszp : Hid ((lm (v ^ (e + b))).length ≤ 8224) := (pow_sz hsm.out hM (by have h1 := hE.out; have h2 := hbm.out; omega)).len
        have hszs : Hid (1 < m → (lm (v ^ (b + b))).length ≤ 8224) := fun h => (pow_sz hsm.out hM (by have h1 := hE.out; have h2 := Nat.mul_le_mul_left b (show 2 ≤ m from h); omega)).len
        have hmd : Hid (b * m = (b + b) * (m / 2) + b * (m % 2)) := by
          show _ = _
          have h1 := Nat.div_add_mod m 2
          have h2 : b * m = b * (2 * (m / 2) + m % 2) := by rw [h1]
          rw [h2, Nat.mul_add, ← Nat.mul_assoc, Nat.mul_two]
        by_cases hodd : m % 2 = 1
        · rw [hodd] at hand
          have hEn : Hid (e + b + (b + b) * (m / 2) = M) := by
            show _ = _
            have h1 := hmd.out
            have h2 := hE.out
            rw [hodd] at h1
            omega
          clear hmd hE hbm
          by_cases hg : 1 < m
          · go_wp2_with fail
            refine (mul_any hOp.rd hOs.rd (by omega) (by omega)).mono ?_
            rintro e8 w4 ⟨qa, qn, qc, rfl, hOq, hBq⟩
            have hsB4 := hBq.size
            rw [val_lm, val_lm, ← Nat.pow_add] at hOq
            have hq8 : qn ≤ 8224 := by rw [← hOq.len]; exact hszp.out
            have hOs4 := hOs.below hBq
            have hOq4 := hOq.mono (B' := w.heap.size) (by omega)
            have hB4 := hB.next hBq
            clear hOp hOs hOq hBq hB
            go_wp2_with fail
            refine (mul_any hOs4.rd hOs4.rd (by omega) (by omega)).mono ?_
            rintro e9 w5 ⟨ta, tn, tc, rfl, hOt, hBt⟩
            have hsB5 := hBt.size
            rw [val_lm, ← Nat.pow_add] at hOt
            have ht8 : tn ≤ 8224 := by rw [← hOt.len]; exact hszs.out hg
            go_wp2
            go_roundw
            case rel => exact ⟨m / 2, e + b, b + b, qn, qc, tn, tc, qa, ta, by omega, by go_num, rfl, rfl, hq8, ht8, (hOq4).below hBt, hOt.mono (by omega), hEn, hB4.next hBt⟩
            case measure => simp [intOf]; omega
          · obtain rfl : m = 1 := by omega
            go_wp2_with fail
            refine (mul_any hOp.rd hOs.rd (by omega) (by omega)).mono ?_
            rintro e8 w4 ⟨qa, qn, qc, rfl, hOq, hBq⟩
            have hsB4 := hBq.size
            rw [val_lm, val_lm, ← Nat.pow_add] at hOq
            have hq8 : qn ≤ 8224 := by rw [← hOq.len]; exact hszp.out
            have hOs4 := hOs.below hBq
            have hOq4 := hOq.mono (B' := w.heap.size) (by omega)
            have hB4 := hB.next hBq
            clear hOp hOs hOq hBq hB
            go_wp2
            go_roundw
            case rel => exact ⟨0, e + b, b, qn, qc, sn, sc, qa, sa, by omega, by go_num, rfl, rfl, hq8, hs8, hOq4, hOs4, hEn, hB4⟩
            case measure => simp [intOf]
        · rw [show m % 2 = 0 by omega] at hand
          have hEn : Hid (e + (b + b) * (m / 2) = M) := by
            show _ = _
            have h1 := hmd.out
            have h2 := hE.out
            rw [show m % 2 = 0 by omega] at h1
            omega
          clear hmd hE hbm
          have hg : 1 < m := by omega
          go_wp2_with fail
          refine (mul_any hOs.rd hOs.rd (by omega) (by omega)).mono ?_
          rintro e9 w5 ⟨ta, tn, tc, rfl, hOt, hBt⟩
          have hsB5 := hBt.size
          rw [val_lm, ← Nat.pow_add] at hOt
          have ht8 : tn ≤ 8224 := by rw [← hOt.len]; exact hszs.out hg
          go_wp2
          go_roundw
          case rel => exact ⟨m / 2, e, b + b, pn, pc, tn, tc, pa, ta, by omega, by go_num, rfl, rfl, hp8, ht8, (hOp).below hBt, hOt.mono (by omega), hEn, hB.next hBt⟩
          case measure => simp [intOf]; omega

end Go.Proofs.Ytnpkmlpmeeidbaa
