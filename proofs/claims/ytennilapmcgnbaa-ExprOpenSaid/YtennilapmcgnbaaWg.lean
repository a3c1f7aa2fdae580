/- WALKS, 7: Bits, Cmp, of the program and of the reference; the reference's limb and Bit. -/
import Derived.Test.YtennilapmcgnbaaW1
import Derived.Test.YtennilapmcgnbaaPP
import Derived.Test.YtennilapmcgnbaaSh
import Derived.Shelf.Small.Bits
namespace Go.Proofs.Ytennilapmcgnbaa
set_option linter.unusedVariables false
open Go.ChangeShapes Go.WideShapes Go.ChangeAt Go.RowKit Go.NatP

theorem bitLen_nb (x : Nat) (h : x < 2 ^ 64) : Lib.bitLen x = nb x := by
  induction x using Nat.strongRecOn with
  | _ x ih =>
    by_cases h0 : x = 0
    · subst h0; rfl
    · rw [Lib.bitLen_half x h0 h, nb_half h0, ih _ (by omega) (by omega)]; omega

/-- ONE INT, the world as it was but for draws. -/
def RetI (w : World) (n : Int) (e : Ending) (w' : World) : Prop := e = .returned (.int .i64 n) ∧ Dr w w'

set_option maxHeartbeats 400000 in
theorem bits_any {w : World} {a : Option Addr} {n c : Nat} {l : List Nat} (hR : Rd w a n c l) (hn : n ≤ 268435456) :
    Calls Try.prog 42 #[.slice a n c] w (RetI w (nb (val l))) := by
  obtain ⟨k, hk⟩ : ∃ k, (lm (val l)).length = k := ⟨_, rfl⟩
  obtain ⟨hRk, hkn⟩ := hR.trim hk
  have hk' : Hid ((lm (val l)).length = k) := hk
  have hb := hRk.bnd
  by_cases h0 : k = 0
  · subst h0
    have hv : Hid (nb (val l) = 0) := by
      have : val l = 0 := lm_eq_nil.1 (List.eq_nil_of_length_eq_zero hk)
      show nb (val l) = 0
      rw [this]; rfl
    clear hk
    go_enter Try.func42, Try.ntmps42
    go_wp2_with (go_at_call 56; refine (trim_any hR hk'.out).mono ?_; rintro e w' ⟨rfl, rfl⟩)
    go_ret
    exact ⟨by rw [hv.out]; rfl, Dr.refl _⟩
  · have hk0 : ((k : Int) == 0) = false := beq_eq_false_iff_ne.2 (by omega)
    have hk1 : 1 ≤ k := by omega
    have hvn : val l ≠ 0 := fun e => h0 (by rw [← hk, e]; rfl)
    obtain ⟨b, o, rfl, hc⟩ := hRk.get (i := k - 1) (by omega)
    have hx := hRk.lim.getD (k - 1)
    have hv : Hid (nb (val l) = 32 * (k - 1) + nb ((lm (val l)).getD (k - 1) 0)) := by
      have := nb_top hvn
      rwa [hk] at this
    have hxb : nb ((lm (val l)).getD (k - 1) 0) ≤ 32 := nb_le.2 (by simpa using hx)
    have hLen := fun w => Try.bits_Len32 (((lm (val l)).getD (k - 1) 0 : Nat) : Int) w (by omega) (by omega)
    have hbl : Hid (Lib.bitLen (((lm (val l)).getD (k - 1) 0 : Nat) : Int).toNat = nb ((lm (val l)).getD (k - 1) 0)) := by
      show _ = _
      rw [Int.toNat_natCast, bitLen_nb _ (by omega)]
    generalize (lm (val l)).getD (k - 1) 0 = x at *
    have HLen := hid hLen
    clear hLen hk h0 hvn
    go_enter Try.func42, Try.ntmps42
    go_wp2_with (first
      | (go_at_call 56; refine (trim_any hR hk'.out).mono ?_; rintro e w' ⟨rfl, rfl⟩)
      | (go_at_call 62; refine (HLen.out _).mono ?_; rintro e w' ⟨rfl, rfl⟩; rw [hbl.out]))
    go_ret
    exact ⟨congrArg (fun z => Ending.returned (.int .i64 z)) (by rw [hv.out]; omega), Dr.refl _⟩

set_option maxHeartbeats 1000000 in
theorem cmp_any {w : World} {a b : Option Addr} {n c m d : Nat} {la lb : List Nat} (ha : Rd w a n c la) (hb : Rd w b m d lb) :
    Calls Try.prog 43 #[.slice a n c, .slice b m d] w (RetI w (cmpI (val la) (val lb))) := by
  obtain ⟨k, hk⟩ : ∃ k, (lm (val la)).length = k := ⟨_, rfl⟩
  obtain ⟨j, hj⟩ : ∃ j, (lm (val lb)).length = j := ⟨_, rfl⟩
  obtain ⟨hRa, hka⟩ := ha.trim hk
  obtain ⟨hRb, hkb⟩ := hb.trim hj
  have hk' := hid hk
  have hj' := hid hj
  have hbA := hRa.bnd
  have hbB := hRb.bnd
  by_cases hkj : k = j
  · subst hkj
    have hne : ((k : Int) != (k : Int)) = false := by simp
    have H0 : Hid (val la / 4294967296 ^ k = val lb / 4294967296 ^ k) := by
      have h1 := div_pow_ge (lim_lm (val la)) (j := k) (by omega)
      have h2 := div_pow_ge (lim_lm (val lb)) (j := k) (by omega)
      rw [val_lm] at h1 h2
      show _ = _
      rw [h1, h2]
    clear hk hj
    go_enter Try.func43, Try.ntmps43
    go_wp2_with fail
    refine (trim_any ha hk'.out).mono ?_
    rintro e w' ⟨rfl, rfl⟩
    go_wp2_with fail
    refine (trim_any hb hj'.out).mono ?_
    rintro e w' ⟨rfl, rfl⟩
    go_wp2
    go_loopw [5] (fun i wr => ∃ t : Nat, t ≤ k ∧ i = .int .i64 ((t : Int) - 1) ∧ Dr w wr ∧ Hid (val la / 4294967296 ^ t = val lb / 4294967296 ^ t)) (fun i _ => (intOf i + 1).toNat)
    case atStart => exact ⟨k, Nat.le_refl _, rfl, Dr.refl _, H0⟩
    case round =>
      clear H0
      obtain ⟨t, ht, rfl, hD, H⟩ := hrel
      by_cases h0 : t = 0
      · subst h0
        have hv : Hid (cmpI (val la) (val lb) = 0) := cmpI_eq (by simpa using H.out)
        clear H
        go_wp2
        go_ret
        exact ⟨by rw [hv.out]; rfl, hD⟩
      · obtain ⟨t, rfl⟩ : ∃ i, t = i + 1 := ⟨t - 1, by omega⟩
        obtain ⟨ba, oa, rfl, hca⟩ := hRa.get (i := t) (by omega)
        obtain ⟨bb, ob, rfl, hcb⟩ := hRb.get (i := t) (by omega)
        have hca := (hD.cell _).trans hca
        have hcb := (hD.cell _).trans hcb
        have hxa := hRa.lim.getD t
        have hxb := hRb.lim.getD t
        have L1 := fun h => lt_of_limb (lim_lm (val la)) (lim_lm (val lb)) (j := t) (by rw [val_lm, val_lm]; exact H.out) h
        have L2 := fun h => lt_of_limb (lim_lm (val lb)) (lim_lm (val la)) (j := t) (by rw [val_lm, val_lm]; exact H.out.symm) h
        have L3 := fun h => div_of_limb (lim_lm (val la)) (lim_lm (val lb)) (j := t) (by rw [val_lm, val_lm]; exact H.out) h
        rw [val_lm, val_lm] at L1 L2 L3
        generalize (lm (val la)).getD t 0 = x at *
        generalize (lm (val lb)).getD t 0 = y at *
        clear H h0
        rcases Nat.lt_trichotomy x y with hxy | hxy | hxy
        · have hv : Hid (cmpI (val la) (val lb) = -1) := cmpI_lt (L1 hxy)
          clear L1 L2 L3
          go_wp2
          go_quiet (fail)
          go_wp2
          go_ret
          exact ⟨by rw [hv.out]; rfl, hD.drewN _⟩
        · have H' := hid (L3 hxy)
          have hxy' : ¬ x < y := by omega
          have hxy2 : ¬ y < x := by omega
          clear L1 L2 L3 hxy
          go_wp2
          go_quiet (fail)
          go_wp2
          go_quiet (fail)
          go_wp2
          go_roundw
          case rel => exact ⟨t, by omega, by go_num, hD.drewN _, H'⟩
          case measure => simp [intOf]
        · have hv : Hid (cmpI (val la) (val lb) = 1) := cmpI_gt (L2 hxy)
          have hxy' : ¬ x < y := by omega
          clear L1 L2 L3
          go_wp2
          go_quiet (fail)
          go_wp2
          go_quiet (fail)
          go_wp2
          go_ret
          exact ⟨by rw [hv.out]; rfl, (hD.drewN _).drewN _⟩
  · have hne : ((k : Int) != (j : Int)) = true := by rw [bne_iff_ne]; omega
    have hv : Hid ((k < j → cmpI (val la) (val lb) = -1) ∧ (¬ k < j → cmpI (val la) (val lb) = 1)) :=
      ⟨fun h => cmpI_lt (lt_of_length (by omega)), fun h => cmpI_gt (lt_of_length (by omega))⟩
    clear hk hj
    by_cases hlt : k < j
    · go_enter Try.func43, Try.ntmps43
      go_wp2_with fail
      refine (trim_any ha hk'.out).mono ?_
      rintro e w' ⟨rfl, rfl⟩
      go_wp2_with fail
      refine (trim_any hb hj'.out).mono ?_
      rintro e w' ⟨rfl, rfl⟩
      go_wp2
      go_ret
      exact ⟨by rw [hv.out.1 hlt]; rfl, Dr.refl _⟩
    · go_enter Try.func43, Try.ntmps43
      go_wp2_with fail
      refine (trim_any ha hk'.out).mono ?_
      rintro e w' ⟨rfl, rfl⟩
      go_wp2_with fail
      refine (trim_any hb hj'.out).mono ?_
      rintro e w' ⟨rfl, rfl⟩
      go_wp2
      go_ret
      exact ⟨by rw [hv.out.2 hlt]; rfl, Dr.refl _⟩

/-- ONE INT, old memory as it was. -/
def RetIb (w : World) (n : Int) (e : Ending) (w' : World) : Prop := e = .returned (.int .i64 n) ∧ Below w.heap.size w w'

end Go.Proofs.Ytennilapmcgnbaa
