/- WALKS, 7: Bits, Cmp, of the program and of the reference; the reference's limb and Bit. -/
import Derived.Test.YtokkfppchfmjcaaW1
import Derived.Test.YtokkfppchfmjcaaPP
import Derived.Test.YtokkfppchfmjcaaSh
import Derived.Shelf.Small.Bits
namespace Go.Proofs.Ytokkfppchfmjcaa
set_option linter.unusedVariables false
open Go.ChangeShapes Go.WideShapes Go.ChangeAt Go.RowKit Go.NatP

theorem bitLen_nb (x : Nat) (h : x < 2 ^ 64) : Lib.bitLen x = nb x := by
  induction x using Nat.strongRecOn with
  | _ x ih =>
    by_cases h0 : x = 0
    · subst h0; rfl
    · rw [Lib.bitLen_half x h0 h, nb_half h0, ih _ (by omega) (by omega)]; omega

/-- ONE INT, the world as it was but for draws. -/
def RetI (w : World) (n : Int) (e : Ending) (w' : World) : Prop := e = .returned (.int .i64 n) ∧ Dr w w'

set_option maxHeartbeats 400000 in
theorem bits_any {w : World} {a : Option Addr} {n c : Nat} {l : List Nat} (hR : Rd w a n c l) (hn : n ≤ 268435456) :
    Calls Try.prog 51 #[.slice a n c] w (RetI w (nb (val l))) := by
  obtain ⟨k, hk⟩ : ∃ k, (lm (val l)).length = k := ⟨_, rfl⟩
  obtain ⟨hRk, hkn⟩ := hR.trim hk
  have hk' : Hid ((lm (val l)).length = k) := hk
  have hb := hRk.bnd
  by_cases h0 : k = 0
  · subst h0
    have hv : Hid (nb (val l) = 0) := by
      have : val l = 0 := lm_eq_nil.1 (List.eq_nil_of_length_eq_zero hk)
      show nb (val l) = 0
      rw [this]; rfl
    clear hk
    go_enter Try.func51, Try.ntmps51
    go_wp2_with (go_at_call 77; refine (trim_any hR hk'.out).mono ?_; rintro e w' ⟨rfl, rfl⟩)
    go_ret
    exact ⟨by rw [hv.out]; rfl, Dr.refl _⟩
  · have hk0 : ((k : Int) == 0) = false := beq_eq_false_iff_ne.2 (by omega)
    have hk1 : 1 ≤ k := by omega
    have hvn : val l ≠ 0 := fun e => h0 (by rw [← hk, e]; rfl)
    obtain ⟨b, o, rfl, hc⟩ := hRk.get (i := k - 1) (by omega)
    have hx := hRk.lim.getD (k - 1)
    have hv : Hid (nb (val l) = 32 * (k - 1) + nb ((lm (val l)).getD (k - 1) 0)) := by
      have := nb_top hvn
      rwa [hk] at this
    have hxb : nb ((lm (val l)).getD (k - 1) 0) ≤ 32 := nb_le.2 (by simpa using hx)
    have hLen := fun w => Try.bits_Len32 (((lm (val l)).getD (k - 1) 0 : Nat) : Int) w (by omega) (by omega)
    have hbl : Hid (Lib.bitLen (((lm (val l)).getD (k - 1) 0 : Nat) : Int).toNat = nb ((lm (val l)).getD (k - 1) 0)) := by
      show _ = _
      rw [Int.toNat_natCast, bitLen_nb _ (by omega)]
    generalize (lm (val l)).getD (k - 1) 0 = x at *
    have HLen := hid hLen
    clear hLen hk h0 hvn
    go_enter Try.func51, Try.ntmps51
    go_wp2_with (first
      | (go_at_call 77; refine (trim_any hR hk'.out).mono ?_; rintro e w' ⟨rfl, rfl⟩)
      | (go_at_call 82; refine (HLen.out _).mono ?_; rintro e w' ⟨rfl, rfl⟩; rw [hbl.out]))
    go_ret
    exact ⟨congrArg (fun z => Ending.returned (.int .i64 z)) (by rw [hv.out]; omega), Dr.refl _⟩

set_option maxHeartbeats 400000 in
theorem limb_any {w : World} {a : Option Addr} {n c : Nat} {l : List Nat} (hR : Rd w a n c l) (i : Int) (h0 : 0 ≤ i) :
    Calls Try.prog 104 #[.slice a n c, .int .i64 i] w fun e w' => e = .returned (.int .u64 (l.getD i.toNat 0 : Nat)) ∧ w' = w := by
  obtain ⟨i, rfl⟩ := Int.eq_ofNat_of_zero_le h0
  rw [Int.toNat_natCast]
  have hb := hR.bnd
  by_cases hlt : i < n
  · obtain ⟨b, o, rfl, hc⟩ := hR.get hlt
    have hx := hR.lim.getD i
    generalize l.getD i 0 = x at *
    go_enter Try.func104, Try.ntmps104
    go_wp2
    go_ret
    exact ⟨rfl, rfl⟩
  · have hx : l.getD i 0 = 0 := getD_ge _ _ (by rw [hR.len]; omega)
    rw [hx]
    clear hx
    go_enter Try.func104, Try.ntmps104
    go_wp2
    go_ret
    exact ⟨rfl, rfl⟩

set_option maxHeartbeats 400000 in
theorem bit_any {w : World} {a : Option Addr} {n c : Nat} {l : List Nat} (hR : Rd w a n c l) (i : Int) (h0 : 0 ≤ i) (h1 : i ≤ 4611686018427387904) :
    Calls Try.prog 109 #[.slice a n c, .int .i64 i] w fun e w' => e = .returned (.int .u32 (val l / 2 ^ i.toNat % 2 : Nat)) ∧ w' = w := by
  obtain ⟨i, rfl⟩ := Int.eq_ofNat_of_zero_le h0
  rw [Int.toNat_natCast]
  have hx := hR.lim.getD (i / 32)
  have hbit : Hid (l.getD (i / 32) 0 / 2 ^ (i % 32) % 2 = val l / 2 ^ i % 2) := bit_of hR.lim i
  have hL := hid (limb_any hR ((i : Int) / 32) (by omega))
  have ht : Hid (((i : Int) / 32).toNat = i / 32) := by show _ = _; omega
  go_enter Try.func109, Try.ntmps109
  go_wp2_with fail
  refine hL.out.mono ?_
  rintro e w' ⟨rfl, rfl⟩
  rw [ht.out]
  generalize l.getD (i / 32) 0 = x at *
  go_wp2
  go_ret
  refine ⟨congrArg (fun z => Ending.returned (.int .u32 z)) ?_, rfl⟩
  have e : (x : Int) / 2 ^ (i % 32) = ((x / 2 ^ (i % 32) : Nat) : Int) := by rw [Int.natCast_ediv, Int.natCast_pow]; rfl
  rw [← hbit.out]
  show (x : Int) / 2 ^ (i % 32) % 4294967296 % 2 = _
  rw [e]
  omega

set_option maxHeartbeats 1000000 in
theorem cmp_any {w : World} {a b : Option Addr} {n c m d : Nat} {la lb : List Nat} (ha : Rd w a n c la) (hb : Rd w b m d lb) :
    Calls Try.prog 52 #[.slice a n c, .slice b m d] w (RetI w (cmpI (val la) (val lb))) := by
  obtain ⟨k, hk⟩ : ∃ k, (lm (val la)).length = k := ⟨_, rfl⟩
  obtain ⟨j, hj⟩ : ∃ j, (lm (val lb)).length = j := ⟨_, rfl⟩
  obtain ⟨hRa, hka⟩ := ha.trim hk
  obtain ⟨hRb, hkb⟩ := hb.trim hj
  have hk' := hid hk
  have hj' := hid hj
  have hbA := hRa.bnd
  have hbB := hRb.bnd
  by_cases hkj : k = j
  · subst hkj
    have hne : ((k : Int) != (k : Int)) = false := by simp
    have H0 : Hid (val la / 4294967296 ^ k = val lb / 4294967296 ^ k) := by
      have h1 := div_pow_ge (lim_lm (val la)) (j := k) (by omega)
      have h2 := div_pow_ge (lim_lm (val lb)) (j := k) (by omega)
      rw [val_lm] at h1 h2
      show _ = _
      rw [h1, h2]
    clear hk hj
    go_enter Try.func52, Try.ntmps52
    go_wp2_with fail
    refine (trim_any ha hk'.out).mono ?_
    rintro e w' ⟨rfl, rfl⟩
    go_wp2_with fail
    refine (trim_any hb hj'.out).mono ?_
    rintro e w' ⟨rfl, rfl⟩
    go_wp2
    go_loopw [5] (fun i wr => ∃ t : Nat, t ≤ k ∧ i = .int .i64 ((t : Int) - 1) ∧ Dr w wr ∧ Hid (val la / 4294967296 ^ t = val lb / 4294967296 ^ t)) (fun i _ => (intOf i + 1).toNat)
    case atStart => exact ⟨k, Nat.le_refl _, rfl, Dr.refl _, H0⟩
    case round =>
      clear H0
      obtain ⟨t, ht, rfl, hD, H⟩ := hrel
      by_cases h0 : t = 0
      · subst h0
        have hv : Hid (cmpI (val la) (val lb) = 0) := cmpI_eq (by simpa using H.out)
        clear H
        go_wp2
        go_ret
        exact ⟨by rw [hv.out]; rfl, hD⟩
      · obtain ⟨t, rfl⟩ : ∃ i, t = i + 1 := ⟨t - 1, by omega⟩
        obtain ⟨ba, oa, rfl, hca⟩ := hRa.get (i := t) (by omega)
        obtain ⟨bb, ob, rfl, hcb⟩ := hRb.get (i := t) (by omega)
        have hca := (hD.cell _).trans hca
        have hcb := (hD.cell _).trans hcb
        have hxa := hRa.lim.getD t
        have hxb := hRb.lim.getD t
        have L1 := fun h => lt_of_limb (lim_lm (val la)) (lim_lm (val lb)) (j := t) (by rw [val_lm, val_lm]; exact H.out) h
        have L2 := fun h => lt_of_limb (lim_lm (val lb)) (lim_lm (val la)) (j := t) (by rw [val_lm, val_lm]; exact H.out.symm) h
        have L3 := fun h => div_of_limb (lim_lm (val la)) (lim_lm (val lb)) (j := t) (by rw [val_lm, val_lm]; exact H.out) h
        rw [val_lm, val_lm] at L1 L2 L3
        generalize (lm (val la)).getD t 0 = x at *
        generalize (lm (val lb)).getD t 0 = y at *
        clear H h0
        rcases Nat.lt_trichotomy x y with hxy | hxy | hxy
        · have hv : Hid (cmpI (val la) (val lb) = -1) := cmpI_lt (L1 hxy)
          clear L1 L2 L3
          go_wp2
          go_quiet (fail)
          go_wp2
          go_ret
          exact ⟨by rw [hv.out]; rfl, hD.drewN _⟩
        · have H' := hid (L3 hxy)
          have hxy' : ¬ x < y := by omega
          have hxy2 : ¬ y < x := by omega
          clear L1 L2 L3 hxy
          go_wp2
          go_quiet (fail)
          go_wp2
          go_quiet (fail)
          go_wp2
          go_roundw
          case rel => exact ⟨t, by omega, by go_num, hD.drewN _, H'⟩
          case measure => simp [intOf]
        · have hv : Hid (cmpI (val la) (val lb) = 1) := cmpI_gt (L2 hxy)
          have hxy' : ¬ x < y := by omega
          clear L1 L2 L3
          go_wp2
          go_quiet (fail)
          go_wp2
          go_quiet (fail)
          go_wp2
          go_ret
          exact ⟨by rw [hv.out]; rfl, (hD.drewN _).drewN _⟩
  · have hne : ((k : Int) != (j : Int)) = true := by rw [bne_iff_ne]; omega
    have hv : Hid ((k < j → cmpI (val la) (val lb) = -1) ∧ (¬ k < j → cmpI (val la) (val lb) = 1)) :=
      ⟨fun h => cmpI_lt (lt_of_length (by omega)), fun h => cmpI_gt (lt_of_length (by omega))⟩
    clear hk hj
    by_cases hlt : k < j
    · go_enter Try.func52, Try.ntmps52
      go_wp2_with fail
      refine (trim_any ha hk'.out).mono ?_
      rintro e w' ⟨rfl, rfl⟩
      go_wp2_with fail
      refine (trim_any hb hj'.out).mono ?_
      rintro e w' ⟨rfl, rfl⟩
      go_wp2
      go_ret
      exact ⟨by rw [hv.out.1 hlt]; rfl, Dr.refl _⟩
    · go_enter Try.func52, Try.ntmps52
      go_wp2_with fail
      refine (trim_any ha hk'.out).mono ?_
      rintro e w' ⟨rfl, rfl⟩
      go_wp2_with fail
      refine (trim_any hb hj'.out).mono ?_
      rintro e w' ⟨rfl, rfl⟩
      go_wp2
      go_ret
      exact ⟨by rw [hv.out.2 hlt]; rfl, Dr.refl _⟩

set_option maxHeartbeats 1000000 in
theorem rcmp_any {w : World} {a b : Option Addr} {n c m d : Nat} {la lb : List Nat} (ha : Rd w a n c la) (hb : Rd w b m d lb) :
    Calls Try.prog 105 #[.slice a n c, .slice b m d] w (RetI w (cmpI (val la) (val lb))) := by
  have hbA := ha.bnd
  have hbB := hb.bnd
  have H0 : ∀ k, n ≤ k → m ≤ k → Hid (val la / 4294967296 ^ k = val lb / 4294967296 ^ k) := by
    intro k h1 h2
    show _ = _
    rw [div_pow_ge ha.lim (by rw [ha.len]; exact h1), div_pow_ge hb.lim (by rw [hb.len]; exact h2)]
  by_cases hnm : n < m
  all_goals
    go_enter Try.func105, Try.ntmps105
    go_wp2
    go_loop [6] (fun i => ∃ t : Nat, (t ≤ n ∨ t ≤ m) ∧ i = .int .i64 ((t : Int) - 1) ∧ Hid (val la / 4294967296 ^ t = val lb / 4294967296 ^ t)) (fun i => (intOf i + 1).toNat)
    case atStart => first | exact ⟨m, .inr (Nat.le_refl _), rfl, H0 m (by omega) (by omega)⟩ | exact ⟨n, .inl (Nat.le_refl _), rfl, H0 n (by omega) (by omega)⟩
    case round =>
      clear H0
      obtain ⟨t, ht, rfl, H⟩ := hrel
      by_cases h0 : t = 0
      · subst h0
        have hv : Hid (cmpI (val la) (val lb) = 0) := cmpI_eq (by simpa using H.out)
        clear H
        go_wp2
        go_ret
        exact ⟨by rw [hv.out]; rfl, Dr.refl _⟩
      · obtain ⟨t, rfl⟩ : ∃ i, t = i + 1 := ⟨t - 1, by omega⟩
        have hxa := ha.lim.getD t
        have hxb := hb.lim.getD t
        have L1 := fun h => lt_of_limb ha.lim hb.lim (j := t) H.out h
        have L2 := fun h => lt_of_limb hb.lim ha.lim (j := t) H.out.symm h
        have L3 := fun h => div_of_limb ha.lim hb.lim (j := t) H.out h
        have C1 := hid (limb_any ha (t : Int) (by omega))
        have C2 := hid (limb_any hb (t : Int) (by omega))
        rw [Int.toNat_natCast] at C1 C2
        generalize la.getD t 0 = x at *
        generalize lb.getD t 0 = y at *
        clear H h0
        have htr : x < y ∨ x = y ∨ y < x := by omega
        have ht1 : ((t : Nat) : Int) + 1 - 1 = (t : Int) := by omega
        have ht2 : (((t + 1 : Nat) : Int) - 1) = (t : Int) := by omega
        rw [ht2]
        clear ht1 ht2
        rcases htr with hxy | hxy | hxy
        · have hv : Hid (cmpI (val la) (val lb) = -1) := cmpI_lt (L1 hxy)
          clear L1 L2 L3
          go_wp2_with fail
          refine C1.out.mono ?_
          rintro e w' ⟨rfl, rfl⟩
          go_wp2_with fail
          refine C2.out.mono ?_
          rintro e w' ⟨rfl, rfl⟩
          go_wp2
          go_ret
          exact ⟨by rw [hv.out]; rfl, Dr.refl _⟩
        · have H' := hid (L3 hxy)
          have hxy' : ¬ x < y := by omega
          have hxy2 : ¬ y < x := by omega
          clear L1 L2 L3 hxy
          go_wp2_with fail
          refine C1.out.mono ?_
          rintro e w' ⟨rfl, rfl⟩
          go_wp2_with fail
          refine C2.out.mono ?_
          rintro e w' ⟨rfl, rfl⟩
          go_wp2
          go_round
          case rel => exact ⟨t, by omega, by go_num, H'⟩
          case measure => simp [intOf]
        · have hv : Hid (cmpI (val la) (val lb) = 1) := cmpI_gt (L2 hxy)
          have hxy' : ¬ x < y := by omega
          clear L1 L2 L3
          go_wp2_with fail
          refine C1.out.mono ?_
          rintro e w' ⟨rfl, rfl⟩
          go_wp2_with fail
          refine C2.out.mono ?_
          rintro e w' ⟨rfl, rfl⟩
          go_wp2
          go_ret
          exact ⟨by rw [hv.out]; rfl, Dr.refl _⟩

/-- ONE INT, old memory as it was. -/
def RetIb (w : World) (n : Int) (e : Ending) (w' : World) : Prop := e = .returned (.int .i64 n) ∧ Below w.heap.size w w'

set_option maxHeartbeats 400000 in
theorem rbits_any {w : World} {a : Option Addr} {n c : Nat} {l : List Nat} (hR : Rd w a n c l) (hn : n ≤ 268435456) :
    Calls Try.prog 107 #[.slice a n c] w (RetIb w (nb (val l))) := by
  go_enter Try.func107, Try.ntmps107
  go_wp2_with fail
  refine (rnorm_any hR hn).mono ?_
  rintro e w' ⟨a', k, c', rfl, hO, hB⟩
  have hRk := hO.rd
  have hb := hRk.bnd
  have hk := hRk.len
  have hkn : k ≤ n := by rw [← hk, ← hR.len]; exact length_lm_val hR.lim
  by_cases h0 : k = 0
  · subst h0
    have hv : Hid (nb (val l) = 0) := by
      have : val l = 0 := lm_eq_nil.1 (List.eq_nil_of_length_eq_zero hk)
      show nb (val l) = 0
      rw [this]; rfl
    clear hk
    go_wp2
    go_ret
    exact ⟨by rw [hv.out]; rfl, hB⟩
  · have hk0 : ((k : Int) == 0) = false := beq_eq_false_iff_ne.2 (by omega)
    have hk1 : 1 ≤ k := by omega
    have hvn : val l ≠ 0 := fun e => h0 (by rw [← hk, e]; rfl)
    obtain ⟨b, o, rfl, hc⟩ := hRk.get (i := k - 1) (by omega)
    have hx := hRk.lim.getD (k - 1)
    have hv : Hid (nb (val l) = 32 * (k - 1) + nb ((lm (val l)).getD (k - 1) 0)) := by
      have := nb_top hvn
      rwa [hk] at this
    generalize (lm (val l)).getD (k - 1) 0 = x at *
    clear hk h0 hvn
    go_wp2
    go_loop [4, 5] (fun v t => ∃ (j y : Nat), v = .int .i64 ((32 * (k - 1) + j : Nat) : Int) ∧ t = .int .u32 y ∧ y < 4294967296 ∧ j + nb y ≤ 32 ∧ Hid (j + nb y = nb x)) (fun _ t => (intOf t).toNat)
    case atStart => exact ⟨0, x, by go_num, rfl, hx, by have := nb_le (n := x) (k := 32); omega, by show _ = _; omega⟩
    case round =>
      obtain ⟨j, y, rfl, rfl, hy, hj, hxy⟩ := hrel
      by_cases hy0 : y = 0
      · subst hy0
        have hr : Hid (nb (val l) = 32 * (k - 1) + j) := by show _ = _; rw [hv.out, ← hxy.out]; simp [nb_zero]
        clear hxy hv
        go_wp2
        go_ret
        exact ⟨congrArg (fun z => Ending.returned (.int .i64 z)) (by rw [hr.out]; first | done | omega | (simp; omega)), hB⟩
      · have hnb := nb_half hy0
        have hxy' : Hid (j + 1 + nb (y / 2) = nb x) := by show _ = _; rw [← hxy.out, hnb]; omega
        have hj' : j + 1 + nb (y / 2) ≤ 32 := by omega
        have hy1 : 0 < y := by omega
        clear hnb hxy hv hy0
        go_wp2
        go_round
        case rel => exact ⟨j + 1, y / 2, by go_num, by go_num, by omega, hj', hxy'⟩
        case measure => simp [intOf]; omega

end Go.Proofs.Ytokkfppchfmjcaa
