/- WALKS, 13: the shift, any int; the reference's shift. -/
import Derived.Test.YtnbhfgpnjhbkaaaWl
import Derived.StillTailTactics
namespace Go.Proofs.Ytnbhfgpnjhbkaaa
set_option linter.unusedVariables false
open Go.ChangeShapes Go.WideShapes Go.ChangeAt Go.RowKit Go.NatP

set_option maxRecDepth 100000 in
set_option maxHeartbeats 1000000 in
theorem shift_any {w : World} {a : Option Addr} {k c : Nat} {l : List Nat} (hR : Rd w a k c l) (hk : k ≤ 8388608) (n : Int) (hlo : -9223372036854775808 ≤ n) (hhi : n ≤ 9223372036854775807) :
    Calls Try.prog 37 #[.slice a k c, .int .i64 n] w (RetE w (lm (shN (val l) n)) (shE n)) := by
  by_cases h1 : -262144 ≤ n ∧ n ≤ 262144
  · rw [shN, shE, if_pos h1, if_pos h1, shv]
    by_cases h0 : 0 ≤ n
    · obtain ⟨n, rfl⟩ := Int.eq_ofNat_of_zero_le h0
      rw [if_pos h0, Int.toNat_natCast]
      exact shift_up hR hk n (by omega)
    · obtain ⟨m, rfl⟩ : ∃ m : Nat, n = -(m : Int) := ⟨(-n).toNat, by omega⟩
      rw [if_neg h0, show (-(-(m : Int))).toNat = m by omega]
      exact shift_down hR hk m (by omega) (by omega)
  · have HE : Hid (shN (val l) n = 0 ∧ shE n = 3) := ⟨by rw [shN, if_neg h1], by rw [shE, if_neg h1]⟩
    have hcase : n < -262144 ∨ 262144 < n := by omega
    clear h1
    rcases hcase with h | h
    all_goals
      go_enter Try.func37, Try.ntmps37
      go_wp2
      go_ret2
      exact ⟨none, 0, 0, by rw [HE.out.2]; rfl, by rw [HE.out.1]; exact own_nil _ _, Below.refl _ _⟩

set_option maxRecDepth 100000 in
set_option maxHeartbeats 2000000 in
theorem rshift_any {w : World} {a : Option Addr} {k c : Nat} {l : List Nat} (hR : Rd w a k c l) (hk : k ≤ 8388608) (n : Int) (hlo : -9223372036854775808 ≤ n) (hhi : n ≤ 9223372036854775807) :
    Calls Try.prog 63 #[.slice a k c, .int .i64 n] w (RetE w (lm (shN (val l) n)) (shE n)) := by
  by_cases h1 : -262144 ≤ n ∧ n ≤ 262144
  · have HE : Hid (shN (val l) n = shv (val l) n ∧ shE n = 0) := ⟨by rw [shN, if_pos h1], by rw [shE, if_pos h1]⟩
    obtain ⟨hl1, hl2⟩ := h1
    have hnb : nb (val l) ≤ 268435456 := by
      have := nb_le.2 (show val l < 2 ^ (32 * k) by rw [← pow_32, ← hR.len]; exact val_lt hR.lim)
      omega
    have HR := hid hR
    have HBt := hid (rbits_any hR (by omega))
    obtain ⟨b, hbe⟩ : ∃ b : Nat, b = nb (val l) := ⟨_, rfl⟩
    rw [← hbe] at HBt hnb
    have HB := hid hbe
    clear hR hbe
    by_cases hs : (b : Int) + n ≤ 0
    · have HZ : Hid (lm (shN (val l) n) = []) := by
        show _ = _
        rw [HE.out.1, lm_eq_nil]
        exact shv_zero (by rw [← HB.out]; exact hs)
      go_enter Try.func63, Try.ntmps63
      go_wp2_with fail
      refine HBt.out.mono ?_
      rintro e w1 ⟨rfl, hB1⟩
      go_wp2
      go_ret2
      exact ⟨none, 0, 0, by rw [HE.out.2]; rfl, by rw [HZ.out]; exact own_nil _ _, hB1⟩
    · obtain ⟨s, hse⟩ : ∃ s : Nat, (s : Int) = (b : Int) + n := ⟨((b : Int) + n).toNat, by omega⟩
      have hs1 : 1 ≤ s := by omega
      have hs2 : s ≤ 268697600 := by omega
      have HW : Hid (shv (val l) n < 2 ^ s) := shv_lt (by rw [← HB.out]; omega)
      have hbn : (b : Int) + n = (s : Int) := hse.symm
      have hs3 : ¬ (s : Int) ≤ 0 := by omega
      clear hs hse
      go_enter Try.func63, Try.ntmps63
      go_wp2_with fail
      refine HBt.out.mono ?_
      rintro e w1 ⟨rfl, hB1⟩
      have HR1 := hid (HR.out.below hB1)
      go_wp2_with (at_make; refine wpList_mk (B := w1.heap.size) rfl _ _ rfl _ (s / 32 + 1) rfl rfl ?_ ?_ (Nat.le_refl _) ?_)
      · omega
      · omega
      intro w2 hO1 hK1
      have hB2 : Below w1.heap.size w1 w2 := hK1.toBelow (fun _ _ h => h)
      have HI : Hid (BitsIn (shv (val l) n) (List.replicate (s / 32 + 1) 0) 0) := by
        show val _ = _
        rw [val_replicate_zero, Nat.pow_zero, Nat.mod_one]
      go_wp2
      go_loopw [8] (fun iv wr => ∃ (i : Nat) (S : List Nat), i ≤ s ∧ iv = .int .i64 i ∧ Own w1.heap.size wr (some ⟨w1.heap.size, 0, none⟩) (s / 32 + 1) (s / 32 + 1) S ∧ Hid (BitsIn (shv (val l) n) S i) ∧ Below w1.heap.size w1 wr) (fun iv _ => s - (intOf iv).toNat)
      case atStart => exact ⟨0, _, by omega, rfl, hO1, HI, hB2⟩
      case round =>
        clear hO1 hK1 hB2 HI
        obtain ⟨i, S, hi, rfl, hO, hI, hB⟩ := hrel
        by_cases hlt : i < s
        · by_cases hin : n ≤ (i : Int)
          · have hlS : i / 32 < S.length := by rw [hO.len]; omega
            have hc1 := hO.cell (i := i / 32) (by omega)
            have hf1 := hO.free (i / 32)
            have hS0 := bitsIn_lt hO.lim hI.out
            have HIn := hid (bitsIn_step hI.out hlS (bit_shv hin))
            have hb2 : val l / 2 ^ ((i : Int) - n).toNat % 2 < 2 := Nat.mod_lt _ (by decide)
            have CB := hid (fun wx (hB : Below w1.heap.size w1 wx) => bit_any (HR1.out.below hB) ((i : Int) - n) (by omega) (by omega))
            have HS := hid (fun (X : Int) (x : Nat) (hX : X = (x : Int)) (hx : x < 4294967296) => hO.setI (i / 32) x hX hx)
            have hpow : 2 ^ (i % 32) * 2 ≤ 4294967296 := by
              rw [← Nat.pow_succ]
              exact Nat.pow_le_pow_right (n := 2) (by decide) (show i % 32 + 1 ≤ 32 by omega)
            generalize val l / 2 ^ ((i : Int) - n).toNat % 2 = t at *
            generalize S.getD (i / 32) 0 = s0 at *
            obtain ⟨p, hp⟩ : ∃ p : Nat, p = 2 ^ (i % 32) := ⟨_, rfl⟩
            have hpI : (2 : Int) ^ (i % 32) = (p : Int) := by rw [hp]; simp
            rw [← hp] at hS0 HIn hpow
            obtain ⟨u, hu⟩ : ∃ u : Nat, u = t * p := ⟨_, rfl⟩
            have hu2 : u ≤ p := by rw [hu]; exact Nat.le_trans (Nat.mul_le_mul_right p (show t ≤ 1 by omega)) (by omega)
            have htp : (t : Int) * (p : Int) = (u : Int) := by rw [hu]; simp
            rw [← hu] at HIn
            clear hp hu hlS hI hO
            have hw1 : IntKind.i64.wrap ((i : Int) / 32) = (i : Int) / 32 := by rw [IntKind.wrap_i64]; omega
            have hw2 : (0 : Int) ≤ (i : Int) / 32 := by omega
            have hw3 : (i : Int) / 32 < (s : Int) / 32 + 1 := by omega
            have hw4 : ((i : Int) / 32).toNat = i / 32 := by omega
            have hw5 : IntKind.i64.wrap ((i : Int) - n) = (i : Int) - n := by rw [IntKind.wrap_i64]; omega
            have hw6 : IntKind.i64.wrap ((i : Int) % 32) = (i : Int) % 32 := by rw [IntKind.wrap_i64]; omega
            have hw7 : ((i : Int) % 32).toNat = i % 32 := by omega
            have hw8 : (0 : Int) ≤ (i : Int) % 32 := by omega
            have hw9 : IntKind.u32.wrap (u : Int) = (u : Int) := by rw [IntKind.wrap_u32']; omega
            have hw10 : IntKind.u32.wrap ((s0 : Int) + (u : Int)) = (s0 : Int) + (u : Int) := by rw [IntKind.wrap_u32']; omega
            have hw6' : ((i : Int)).tmod 32 = (i : Int) % 32 := Int.tmod_eq_emod_of_nonneg (by omega)
            have hw11 : min (i % 32) 32 = i % 32 := by omega
            go_wp2
            refine wp_region_still_tail 18 (by kernel_rfl) (by kernel_rfl) ?_
            simp only [List.take_succ_cons, List.take_zero, List.drop_succ_cons, List.drop_zero]
            repeat still_step
            still_call (CB.out wr.drew hB.drew)
            repeat still_step
            refine wpStill_nil ?_
            change wpList _ _ _ _ _ wr.drew
            have hHSd : Hid (∀ (X : Int) (x : Nat), X = (x : Int) → x < 4294967296 → Own w1.heap.size (wr.drew.setCell ⟨w1.heap.size, i / 32, none⟩ (.int .u32 X)) (some ⟨w1.heap.size, 0, none⟩) (s / 32 + 1) (s / 32 + 1) (S.set (i / 32) x)) := HS.out
            have hBd : Below w1.heap.size w1 wr.drew := hB.drew
            have hc1' : wr.drew.cell? ⟨w1.heap.size, i / 32, none⟩ = some (.int .u32 (s0 : Int)) := hc1
            have hf1' : wr.drew.frozen? ⟨w1.heap.size, i / 32, none⟩ = false := hf1
            generalize wr.drew = wd at *
            go_wp2
            go_roundw
            case rel => exact ⟨i + 1, _, by omega, by go_num, hHSd.out _ _ (by omega) (by omega), HIn, hBd.setCell (Nat.le_refl _) _⟩
            case measure => simp [intOf]; omega
          · have HIn := hid (bitsIn_skip hI.out (bit_shv_low (v := val l) (show (i : Int) < n by omega)))
            clear hI
            go_wp2
            go_roundw
            case rel => exact ⟨i + 1, S, by omega, by go_num, hO, HIn, hB⟩
            case measure => simp [intOf]; omega
        · obtain rfl : i = s := by omega
          have hD : Hid (val S = shN (val l) n) := by
            show _ = _
            rw [HE.out.1, hI.out, Nat.mod_eq_of_lt HW.out]
          clear hI
          go_wp2_with fail
          refine (rnorm_any hO.rd (by omega)).mono ?_
          rw [hD.out]
          rintro e w4 ⟨a4, n4, c4, rfl, hO4, hB4⟩
          have hs1' := hB1.size
          have hs2' := hB.size
          go_wp2
          go_ret2
          exact ⟨a4, n4, c4, by rw [HE.out.2]; rfl, hO4.mono (by omega), (hB1.next hB).next hB4⟩
  · have HE : Hid (shN (val l) n = 0 ∧ shE n = 3) := ⟨by rw [shN, if_neg h1], by rw [shE, if_neg h1]⟩
    have hcase : n < -262144 ∨ 262144 < n := by omega
    clear h1
    rcases hcase with h | h
    all_goals
      go_enter Try.func63, Try.ntmps63
      go_wp2
      go_ret2
      exact ⟨none, 0, 0, by rw [HE.out.2]; rfl, by rw [HE.out.1]; exact own_nil _ _, Below.refl _ _⟩

end Go.Proofs.Ytnbhfgpnjhbkaaa
