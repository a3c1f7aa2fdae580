/- WALKS, 18: the reference's powers. -/
import Derived.Test.YtknpacegaclcgaaWq
namespace Go.Proofs.Ytknpacegaclcgaa
set_option linter.unusedVariables false
open Go.ChangeShapes Go.WideShapes Go.ChangeAt Go.RowKit Go.NatP

/-- a slice of the call's own, from block B on, and an error -/
def RetP (B : Nat) (w : World) (l : List Nat) (er : Int) (e : Ending) (w' : World) : Prop :=
  ∃ a n c, e = .returned (.tuple #[.slice a n c, .int .i64 er]) ∧ Own B w' a n c l ∧ Below w.heap.size w w'

theorem pw_cases (v m : Nat) (hm : m ≤ 1024) : (pwN v (m : Int) = v ^ m ∧ pwE v (m : Int) = 0 ∧ nb (v ^ m) ≤ 262144) ∨ (pwN v (m : Int) = 0 ∧ pwE v (m : Int) = 12 ∧ 262144 < nb (v ^ m)) := by
  by_cases h : nb (v ^ m) ≤ 262144
  · exact .inl ⟨(pwN_ok hm rfl h).1, (pwN_ok hm rfl h).2, h⟩
  · exact .inr ⟨(pwN_big hm (by omega)).1, (pwN_big hm (by omega)).2, by omega⟩

theorem tdiv2 (m : Nat) : (m : Int).tdiv 2 = ((m / 2 : Nat) : Int) := by
  rw [Int.tdiv_eq_ediv_of_nonneg (by omega)]; omega
theorem tmod2 (m : Nat) : (m : Int).tmod 2 = ((m % 2 : Nat) : Int) := by
  rw [Int.tmod_eq_emod_of_nonneg (by omega)]; omega

theorem len_nb {x k : Nat} (h : nb x ≤ 32 * k) : (lm x).length ≤ k := by
  refine Sz.len ?_
  unfold Sz
  rw [pow_32, ← nb_le]; exact h

/-- what power promises, for every world -/
def PowC (v M : Nat) : Prop := ∀ (w : World) (B : Nat) (a : Option Addr) (n c : Nat), Own B w a n c (lm v) → B ≤ w.heap.size → n ≤ 4096 →
    Calls Try.prog 65 #[.slice a n c, .int .i64 M] w (RetP B w (lm (pwN v M)) (pwE v M))

set_option maxHeartbeats 1000000 in
theorem power_any (v : Nat) (hv : 2 ≤ v) (M : Nat) : 1 ≤ M → M ≤ 1024 → PowC v M := by
  induction M using Nat.strongRecOn with
  | _ M ih =>
  intro hM hM2 w B a n c hO hB hn
  have hbd := hO.bnd
  obtain ⟨s, hs⟩ : ∃ s, nb v = s := ⟨_, rfl⟩
  have hsb : s ≤ 131072 := by
    have h1 := nb_lim hO.lim (k := 4096) (by rw [hO.len]; exact hn)
    rw [val_lm, hs] at h1
    omega
  have hs' := hid hs
  have hv' := hid hv
  by_cases h1 : M = 1
  · subst h1
    have HE := hid (pwN_ok (v := v) (m := 1) (by omega) (Nat.pow_one v) (by rw [hs]; omega))
    have HB := rbits_any hO.rd (by omega)
    rw [val_lm, hs] at HB
    clear hs ih hv
    go_enter Try.func65, Try.ntmps65
    go_wp2_with fail
    refine HB.mono ?_
    rintro e w1 ⟨rfl, hB1⟩
    go_wp2
    go_ret2
    exact ⟨a, n, c, by rw [HE.out.2]; rfl, by rw [HE.out.1]; exact hO.below hB1, hB1⟩
  · have hM1 : 2 ≤ M := by omega
    have IH := ih (M / 2) (by omega) (by omega) (by omega)
    have hd := tdiv2 M
    have hr := tmod2 M
    obtain ⟨h, hh⟩ : ∃ h, M / 2 = h := ⟨_, rfl⟩
    obtain ⟨r, hr2⟩ : ∃ r, M % 2 = r := ⟨_, rfl⟩
    have hMh : Hid (M = h + h + r) := by show _ = _; omega
    have hr1 : r < 2 := by omega
    have hhb : h ≤ 512 := by omega
    rw [hh] at IH hd
    rw [hr2] at hr
    clear ih hh hr2 hs
    have hpc := hid (pw_cases v h (by have h1 := hMh.out; omega))
    go_enter Try.func65, Try.ntmps65
    go_wp2_with fail
    refine (IH _ _ _ _ _ hO hB hn).mono ?_
    rintro e w1 ⟨pa, pn, pc, rfl, hOp, hB1⟩
    have hs1 := hB1.size
    have hpb := hOp.bnd
    rcases hpc.out with ⟨h2, h3, h4⟩ | ⟨h2, h3, h4⟩
    · rw [h2] at hOp
      rw [h3]
      obtain ⟨x, hx⟩ : ∃ x, v ^ h = x := ⟨_, rfl⟩
      obtain ⟨t, ht⟩ : ∃ t, nb x = t := ⟨_, rfl⟩
      rw [hx] at hOp h4
      rw [ht] at h4
      have hx' := hid hx
      have ht' := hid ht
      have hp8 : pn ≤ 8193 := by rw [← hOp.len]; exact len_nb (by rw [ht]; omega)
      clear hpc h2 h3 IH
      by_cases ht1 : 131073 < t
      · have HE := hid (pwN_big (v := v) (m := M) hM2 (pow_half_big hv'.out (by rw [hx, ht]; exact ht1) (n := M) (h := h) (by have h1 := hMh.out; omega)))
        clear hx ht
        go_wp2_with fail
        refine (rbits_any (hOp).rd (by omega)).mono ?_
        rw [val_lm, ht'.out]
        rintro e w2 ⟨rfl, hB2⟩
        have hs2 := hB2.size
        go_wp2
        go_ret2
        exact ⟨none, 0, 0, by rw [HE.out.2]; rfl, by rw [HE.out.1]; exact own_nil _ _, hB1.next hB2⟩
      · obtain ⟨y, hy⟩ : ∃ y, x * x = y := ⟨_, rfl⟩
        obtain ⟨u, hu⟩ : ∃ u, nb y = u := ⟨_, rfl⟩
        have hu2 : u ≤ 262146 := by
          have h1 := nb_mul_le x x
          rw [hy, hu, ht] at h1
          omega
        have hyl := hid (len_nb (x := y) (k := 8193) (by rw [hu]; omega))
        have hyv : Hid (v ^ (h + h) = y) := by show _ = _; rw [Nat.pow_add, hx, hy]
        have hy' := hid hy
        have hu' := hid hu
        clear hx ht hy hu
        go_wp2_with fail
        refine (rbits_any (hOp).rd (by omega)).mono ?_
        rw [val_lm, ht'.out]
        rintro e w2 ⟨rfl, hB2⟩
        have hs2 := hB2.size
        go_wp2_with fail
        refine (rmul_any (hOp.below hB2).rd (hOp.below hB2).rd (by omega) (by omega)).mono ?_
        rw [val_lm, hy'.out]
        rintro e w3 ⟨qa, qn, qc, rfl, hOq, hB3⟩
        have hs3 := hB3.size
        have hq8 : qn ≤ 8193 := by rw [← hOq.len]; exact hyl.out
        have hOq := hOq.mono (B' := B) (by omega)
        have hBB := (hB1.next hB2).next hB3
        have hO3 := hO.below hBB
        have hqb := hOq.bnd
        clear hO hOp hyl
        have hr0 : r = 0 ∨ r = 1 := by omega
        rcases hr0 with rfl | rfl
        · have hMM : Hid (v ^ M = y) := by show _ = _; rw [← hyv.out]; congr 1
          go_wp2_with fail
          refine (rbits_any (hOq).rd (by omega)).mono ?_
          rw [val_lm, hu'.out]
          rintro e w4 ⟨rfl, hB4⟩
          have hs4 := hB4.size
          by_cases hbig : u ≤ 262144
          · have HE := hid (pwN_ok (v := v) (m := M) hM2 hMM.out (by rw [hu'.out]; exact hbig))
            go_wp2
            go_ret2
            exact ⟨_, _, _, by rw [HE.out.2]; rfl, by rw [HE.out.1]; exact hOq.below hB4, hBB.next hB4⟩
          · have HE := hid (pwN_big (v := v) (m := M) hM2 (by rw [hMM.out, hu'.out]; omega))
            go_wp2
            go_ret2
            exact ⟨none, 0, 0, by rw [HE.out.2]; rfl, by rw [HE.out.1]; exact own_nil _ _, hBB.next hB4⟩
        · have hMM : Hid (v ^ M = y * v) := by show _ = _; rw [← hyv.out, ← Nat.pow_succ]; congr 1
          have hy0 : y ≠ 0 := by rw [← hyv.out]; exact Nat.ne_of_gt (Nat.pow_pos (by omega))
          have hv0 : v ≠ 0 := by omega
          have hge := nb_mul_ge hy0 hv0
          have hle := nb_mul_le y v
          obtain ⟨z, hz⟩ : ∃ z, y * v = z := ⟨_, rfl⟩
          obtain ⟨x3, hx3⟩ : ∃ x3, nb z = x3 := ⟨_, rfl⟩
          rw [hz, hx3, hu'.out, hs'.out] at hge hle
          have hz' := hid hz
          have hx3' := hid hx3
          rw [hz] at hMM
          have hvp : Hid (0 < s) := by have := nb_pos hv0; rw [hs'.out] at this; exact this
          have hzl := hid (len_nb (x := z) (k := 12289) (by rw [hx3]; omega))
          by_cases hc1 : 262144 < u
          · have HE := hid (pwN_big (v := v) (m := M) hM2 (by rw [hMM.out, hx3]; have h1 := hvp.out; omega))
            clear hge hle hz hx3 hy0 hv0
            go_wp2_with fail
            refine (rbits_any (hOq).rd (by omega)).mono ?_
            rw [val_lm, hu'.out]
            rintro e w4 ⟨rfl, hB4⟩
            have hs4 := hB4.size
            go_wp2
            go_ret2
            exact ⟨none, 0, 0, by rw [HE.out.2]; rfl, by rw [HE.out.1]; exact own_nil _ _, hBB.next hB4⟩
          have hc1' : u ≤ 262144 := by omega
          clear hc1
          by_cases hc2 : 262145 < u + s
          · have HE := hid (pwN_big (v := v) (m := M) hM2 (by rw [hMM.out, hx3]; omega))
            clear hge hle hz hx3 hy0 hv0
            go_wp2_with fail
            refine (rbits_any (hOq).rd (by omega)).mono ?_
            rw [val_lm, hu'.out]
            rintro e w4 ⟨rfl, hB4⟩
            have hs4 := hB4.size
            go_wp2_with fail
            refine (rbits_any (hOq.below hB4).rd (by omega)).mono ?_
            rw [val_lm, hu'.out]
            rintro e w5 ⟨rfl, hB5⟩
            have hs5 := hB5.size
            go_wp2_with fail
            refine (rbits_any (hO3.below (hB4.next hB5)).rd (by omega)).mono ?_
            rw [val_lm, hs'.out]
            rintro e w6 ⟨rfl, hB6⟩
            have hs6 := hB6.size
            go_wp2
            go_ret2
            exact ⟨none, 0, 0, by rw [HE.out.2]; rfl, by rw [HE.out.1]; exact own_nil _ _, hBB.next ((hB4.next hB5).next hB6)⟩
          · have hc2' : u + s ≤ 262145 := by omega
            clear hge hle hz hx3 hy0 hv0 hc2
            go_wp2_with fail
            refine (rbits_any (hOq).rd (by omega)).mono ?_
            rw [val_lm, hu'.out]
            rintro e w4 ⟨rfl, hB4⟩
            have hs4 := hB4.size
            go_wp2_with fail
            refine (rbits_any (hOq.below hB4).rd (by omega)).mono ?_
            rw [val_lm, hu'.out]
            rintro e w5 ⟨rfl, hB5⟩
            have hs5 := hB5.size
            go_wp2_with fail
            refine (rbits_any (hO3.below (hB4.next hB5)).rd (by omega)).mono ?_
            rw [val_lm, hs'.out]
            rintro e w6 ⟨rfl, hB6⟩
            have hs6 := hB6.size
            go_wp2_with fail
            refine (rmul_any (hOq.below ((hB4.next hB5).next hB6)).rd (hO3.below ((hB4.next hB5).next hB6)).rd (by omega) (by omega)).mono ?_
            rw [val_lm, val_lm, hz'.out]
            rintro e w7 ⟨za, zn, zc, rfl, hOz, hB7⟩
            have hs7 := hB7.size
            have hz8 : zn ≤ 12289 := by rw [← hOz.len]; exact hzl.out
            have hOz := hOz.mono (B' := B) (by omega)
            have hBZ := (hBB.next ((hB4.next hB5).next hB6)).next hB7
            have hzb := hOz.bnd
            go_wp2_with fail
            refine (rbits_any (hOz).rd (by omega)).mono ?_
            rw [val_lm, hx3'.out]
            rintro e w8 ⟨rfl, hB8⟩
            have hs8 := hB8.size
            by_cases hbig : x3 ≤ 262144
            · have HE := hid (pwN_ok (v := v) (m := M) hM2 hMM.out (by rw [hx3'.out]; exact hbig))
              go_wp2
              go_ret2
              exact ⟨_, _, _, by rw [HE.out.2]; rfl, by rw [HE.out.1]; exact hOz.below hB8, hBZ.next hB8⟩
            · have HE := hid (pwN_big (v := v) (m := M) hM2 (by rw [hMM.out, hx3'.out]; omega))
              go_wp2
              go_ret2
              exact ⟨none, 0, 0, by rw [HE.out.2]; rfl, by rw [HE.out.1]; exact own_nil _ _, hBZ.next hB8⟩
    · have HE := hid (pwN_big (v := v) (m := M) hM2 (pow_half_big hv'.out (by omega) (n := M) (h := h) (by have h1 := hMh.out; omega)))
      rw [h3]
      clear hpc h2 h3 h4 hOp
      go_wp2
      go_ret2
      exact ⟨none, 0, 0, by rw [HE.out.2]; rfl, by rw [HE.out.1]; exact own_nil _ _, hB1⟩

set_option maxHeartbeats 1000000 in
theorem rpow_bad {w : World} {a : Option Addr} {k c : Nat} {l : List Nat} (n : Int) (hn : n < 0 ∨ 1024 < n) :
    Calls Try.prog 31 #[.slice a k c, .int .i64 n] w (RetE w (lm (pwN (val l) n)) (pwE (val l) n)) := by
  have H : Hid (pwN (val l) n = 0 ∧ pwE (val l) n = 3) := pwN_bad hn
  rcases hn with hn | hn
  all_goals
    go_enter Try.func31, Try.ntmps31
    go_wp2
    go_ret2
    exact ⟨none, 0, 0, by rw [H.out.2]; rfl, by rw [H.out.1]; exact own_nil _ _, Below.refl _ _⟩

theorem lm_one : lm 1 = [1] := by
  rw [lm_pos (by decide)]
  rfl
theorem own_one (B : Nat) (w : World) (x : Nat) (hx : x < 4294967296) (hB : B ≤ w.heap.size) : Own B (w.alloc (.cells #[.int .u32 (x : Int)] 46)) (some ⟨w.heap.size, 0, none⟩) 1 1 [x] :=
  ⟨rfl, lim_cons hx lim_nil, by simp [encL], .inr ⟨w.heap.size, 1, #[.int .u32 (x : Int)], rfl, hB, heap_alloc_new w _, Nat.le_refl _, by simp [maxLen], rfl, by simp [encL]⟩⟩
theorem pow_small {v M : Nat} (hv : nb v < 2) (hM : 1 ≤ M) : v ^ M = v := by
  have h1 : v < 2 := by
    have h2 := lt_two_nb v
    have h3 : 2 ^ nb v ≤ 2 ^ 1 := Nat.pow_le_pow_right (by decide) (by omega)
    omega
  have h2 : v = 0 ∨ v = 1 := by omega
  rcases h2 with rfl | rfl
  · exact Nat.zero_pow (by omega)
  · exact Nat.one_pow _

set_option maxHeartbeats 1000000 in
theorem rpow_good {w : World} {a : Option Addr} {k c : Nat} {l : List Nat} (hR : Rd w a k c l) (hk : k ≤ 4096) (M : Nat) (hM : M ≤ 1024) :
    Calls Try.prog 31 #[.slice a k c, .int .i64 M] w (RetE w (lm (pwN (val l) M)) (pwE (val l) M)) := by
  have hbd := hR.bnd
  obtain ⟨v, hv⟩ : ∃ v, val l = v := ⟨_, rfl⟩
  obtain ⟨s, hs⟩ : ∃ s, nb v = s := ⟨_, rfl⟩
  have hl := hid (len_nb (x := v) (k := 4096) (by
    have h1 := nb_lim hR.lim (k := 4096) (by rw [hR.len]; exact hk)
    rw [hv] at h1; exact h1))
  have hv' := hid hv
  have hs' := hid hs
  rw [hv]
  clear hv hs
  go_enter Try.func31, Try.ntmps31
  go_wp2_with fail
  refine (rnorm_any hR (by omega)).mono ?_
  rw [hv'.out]
  rintro e w1 ⟨pa, pn, pc, rfl, hOp, hB1⟩
  have hs1 := hB1.size
  have hp8 : pn ≤ 4096 := by rw [← hOp.len]; exact hl.out
  clear hl
  have hpb := hOp.bnd
  by_cases h0 : M = 0
  · subst h0
    have HE := hid (pwN_ok (v := v) (m := 0) (by omega) (Nat.pow_zero v) (by rw [nb_one]; omega))
    go_wp2
    go_ret2
    exact ⟨_, _, _, by rw [HE.out.2]; rfl, by rw [HE.out.1, lm_one]; exact own_one _ w1 1 (by omega) hs1, hB1.alloc hs1 _⟩
  have hM1 : 1 ≤ M := by omega
  clear h0
  by_cases hsm : s < 2
  · have HE := hid (pwN_ok (v := v) (m := M) hM (pow_small (by rw [hs'.out]; exact hsm) hM1) (by rw [hs'.out]; omega))
    go_wp2_with fail
    refine (rbits_any hOp.rd (by omega)).mono ?_
    rw [val_lm, hs'.out]
    rintro e w2 ⟨rfl, hB2⟩
    go_wp2
    go_ret2
    exact ⟨_, _, _, by rw [HE.out.2]; rfl, by rw [HE.out.1]; exact hOp.below hB2, hB1.next hB2⟩
  · have hv2 : 2 ≤ v := by
      have h1 := nb_gt.1 (show 1 < nb v by rw [hs'.out]; omega)
      simpa using h1
    go_wp2_with fail
    refine (rbits_any hOp.rd (by omega)).mono ?_
    rw [val_lm, hs'.out]
    rintro e w2 ⟨rfl, hB2⟩
    have hs2 := hB2.size
    go_wp2_with fail
    refine (power_any v hv2 M hM1 hM w2 w.heap.size _ _ _ (hOp.below hB2) (by omega) hp8).mono ?_
    rintro e w3 ⟨qa, qn, qc, rfl, hOq, hB3⟩
    go_wp2
    go_ret2
    exact ⟨_, _, _, rfl, hOq, (hB1.next hB2).next hB3⟩

theorem pow_any {w : World} {a : Option Addr} {k c : Nat} {l : List Nat} (hR : Rd w a k c l) (hk : k ≤ 4096) (n : Int) :
    Calls Try.prog 30 #[.slice a k c, .int .i64 n] w (RetE w (lm (pwN (val l) n)) (pwE (val l) n)) := by
  by_cases h : 0 ≤ n ∧ n ≤ 1024
  · obtain ⟨m, rfl⟩ := Int.eq_ofNat_of_zero_le h.1
    exact pow_good hR hk m (by omega)
  · exact pow_bad n (by omega)
theorem rpow_any {w : World} {a : Option Addr} {k c : Nat} {l : List Nat} (hR : Rd w a k c l) (hk : k ≤ 4096) (n : Int) :
    Calls Try.prog 31 #[.slice a k c, .int .i64 n] w (RetE w (lm (pwN (val l) n)) (pwE (val l) n)) := by
  by_cases h : 0 ≤ n ∧ n ≤ 1024
  · obtain ⟨m, rfl⟩ := Int.eq_ofNat_of_zero_le h.1
    exact rpow_good hR hk m (by omega)
  · exact rpow_bad n (by omega)

end Go.Proofs.Ytknpacegaclcgaa
