/- WALKS, 20: the reference's division. -/
import Derived.Test.YtokkfppchfmjcaaWs
import Derived.Test.YtokkfppchfmjcaaPP
import Derived.StillTailTactics
import Derived.OwnWalk
namespace Go.Proofs.Ytokkfppchfmjcaa
set_option linter.unusedVariables false
set_option maxRecDepth 100000
open Go.ChangeShapes Go.WideShapes Go.ChangeAt Go.RowKit Go.NatP

/-- two rows that are not the same block -/
def Diff (a b : Option Addr) : Prop := ∀ g, a = some ⟨g, 0, none⟩ → b ≠ some ⟨g, 0, none⟩
theorem Diff.symm {a b : Option Addr} (h : Diff a b) : Diff b a := fun g e e2 => h g e2 e
theorem diff_nil (a : Option Addr) : Diff none a := fun _ e => by cases e
theorem diff_nil' (a : Option Addr) : Diff a none := fun _ _ e => by cases e

/-- two slices of the call's own, apart, and an error -/
def RetD (w : World) (q r : List Nat) (er : Int) (e : Ending) (w' : World) : Prop :=
  ∃ a n c a' n' c', e = .returned (.tuple #[.slice a n c, .slice a' n' c', .int .i64 er]) ∧ Own w.heap.size w' a n c q ∧ Own w.heap.size w' a' n' c' r ∧ Diff a a' ∧ Below w.heap.size w w'

set_option maxRecDepth 100000 in
set_option maxHeartbeats 1000000 in
theorem rdivmod_zero {w : World} {a b : Option Addr} {n c m d : Nat} {la lb : List Nat} (hb : Rd w b m d lb) (hm : m ≤ 4194304) (h0 : val lb = 0) :
    Calls Try.prog 89 #[.slice a n c, .slice b m d] w (RetD w [] [] 11) := by
  have h0' := hid h0
  go_enter Try.func89, Try.ntmps89
  go_wp2_with fail
  refine (rnorm_any hb (by omega)).mono ?_
  rw [h0'.out]
  rintro e w1 ⟨ya, yn, yc, rfl, hOy, hB1⟩
  have hy0 : yn = 0 := by rw [← hOy.len]; rfl
  subst hy0
  go_wp2
  go_ret3
  exact ⟨none, 0, 0, none, 0, 0, rfl, own_nil _ _, own_nil _ _, diff_nil _, hB1⟩

theorem u32_shl1 (i : Nat) : (2 : Int) ^ (i % 32) = ((2 ^ (i % 32) : Nat) : Int) := by simp

set_option maxRecDepth 100000 in
set_option maxHeartbeats 2000000 in
theorem rdivmod_any {w : World} {a b : Option Addr} {n c m d : Nat} {la lb : List Nat} (ha : Rd w a n c la) (hb : Rd w b m d lb) (hn : n ≤ 4194304) (hm : m ≤ 4194304) (h0 : 0 < val lb) :
    Calls Try.prog 89 #[.slice a n c, .slice b m d] w (RetD w (lm (val la / val lb)) (lm (val la % val lb)) 0) := by
  have hyl := hid (hb.lim.sz (k := m) (by rw [hb.len]; exact Nat.le_refl _))
  obtain ⟨y, hy⟩ : ∃ y, val lb = y := ⟨_, rfl⟩
  obtain ⟨v, hv⟩ : ∃ v, val la = v := ⟨_, rfl⟩
  obtain ⟨s, hs⟩ : ∃ s, nb v = s := ⟨_, rfl⟩
  have hsb : s ≤ 134217728 := by
    have h1 := nb_lim ha.lim (k := n) (by rw [ha.len]; exact Nat.le_refl _)
    rw [hv, hs] at h1; omega
  rw [hy] at h0 hyl
  have hy' := hid hy
  have hv' := hid hv
  have hs' := hid hs
  have hlt : Hid (v < 2 ^ s) := by show _ < _; rw [← hs]; exact lt_two_nb v
  have hy0 := hid h0
  have HA := hid ha
  rw [hy, hv]
  clear hy hv hs h0 ha
  go_enter Try.func89, Try.ntmps89
  go_wp2_with fail
  refine (rnorm_any hb (by omega)).mono ?_
  rw [hy'.out]
  rintro e w1 ⟨ya, yn, yc, rfl, hOy, hB1⟩
  have hs1 := hB1.size
  have hyn : 0 < yn := by
    rw [← hOy.len]; exact List.length_pos_iff.2 (fun e => absurd (lm_eq_nil.1 e) (Nat.ne_of_gt hy0.out))
  have hym : yn ≤ m := by rw [← hOy.len]; exact hyl.out.len
  have hyb := hOy.bnd
  go_wp2_with fail
  refine (rbits_any (HA.out.below hB1) (by omega)).mono ?_
  rw [hv'.out, hs'.out]
  rintro e w2 ⟨rfl, hB2⟩
  have hs2 := hB2.size
  go_wp2_with (at_make; refine wpList_mk (B := w.heap.size) rfl _ _ rfl _ ((s + 31) / 32) rfl rfl ?_ ?_ (by omega) ?_)
  · omega
  · omega
  intro w3 hO3 hK3
  have hB3 := hK3.toBelow (fun _ _ h => h)
  have hs3 := hB3.size
  have hBB := (hB1.next hB2).next hB3
  have hYr := (hOy.below hB2).rd
  have hI := hid (dvIn_start (y := y) hlt.out ((s + 31) / 32))
  have hg0 : w2.heap.size < w3.heap.size := hO3.lt.2
  have HY := hid (fun (wx : World) (h : Below w2.heap.size w2 wx) => hYr.below h)
  clear hB1 hB2 hK3 hOy hb hYr
  generalize hg : w2.heap.size = g at *
  have hQ2 : s ≤ 32 * ((s + 31) / 32) := by omega
  have hQ3 : (s + 31) / 32 ≤ 4194304 := by omega
  generalize (s + 31) / 32 = Q at *
  go_wp2
  go_loopw [10, 11] (fun rv iv wr => ∃ (j r rn rc : Nat) (ra : Option Addr) (T : List Nat), j ≤ s ∧ iv = .int .i64 ((j : Int) - 1) ∧ rv = .slice ra rn rc ∧ Hid (r < y) ∧ Own w.heap.size wr (some ⟨g, 0, none⟩) Q Q T ∧ Own (g + 1) wr ra rn rc (lm r) ∧ Hid (DvIn v y j r T) ∧ Below w.heap.size w wr ∧ g + 1 ≤ wr.heap.size ∧ Below g w2 wr) (fun _ iv _ => (intOf iv + 1).toNat)
  case atStart => exact ⟨s, 0, 0, 0, none, _, Nat.le_refl _, rfl, rfl, hy0.out, hO3, own_nil _ _, hI, hBB, by omega, hB3⟩
  case round =>
    clear hO3 hI hB3 hBB
    obtain ⟨j, r, rn, rc, ra, T, hj, rfl, rfl, hry, hO, hOr, hI, hB, hgw, hB3⟩ := hrel
    have hsw := hB.size
    by_cases hj0 : j = 0
    · subst hj0
      have hD := hid (dvIn_end hI.out)
      clear hI
      go_wp2_with fail
      refine (rnorm_any hO.rd (by omega)).mono ?_
      rw [hD.out.1]
      rintro e w4 ⟨a4, n4, c4, rfl, hO4, hB4⟩
      have hdf : Diff a4 ra := fun g' e1 e2 => by
        subst e1 e2
        have h1 := hO4.lt
        have h2 := hOr.lt
        omega
      go_wp2
      go_ret3
      exact ⟨a4, n4, c4, ra, rn, rc, rfl, hO4.mono hsw, by rw [← hD.out.2]; exact (hOr.below hB4).mono (by omega), hdf, hB.next hB4⟩
    · obtain ⟨i, rfl⟩ : ∃ i, j = i + 1 := ⟨j - 1, by omega⟩
      rw [show ((i + 1 : Nat) : Int) - 1 = (i : Int) by omega]
      have CB := bit_any (HA.out.below hB) (i : Int) (by omega) (by omega)
      rw [Int.toNat_natCast, hv'.out] at CB
      have hlo := hid (fun h => dvIn_lo hy0.out hI.out h)
      have hhi := hid (fun h => dvIn_hi hO.lim hy0.out hI.out h (by rw [hO.len]; omega))
      have hb2 : v / 2 ^ i % 2 < 2 := Nat.mod_lt _ (by decide)
      have hbI : (((v / 2 ^ i % 2 : Nat) : Int)).toNat = v / 2 ^ i % 2 := Int.toNat_natCast _
      generalize v / 2 ^ i % 2 = t at *
      have hrn : rn ≤ m := by rw [← hOr.len]; exact (hyl.out.mono (Nat.le_of_lt hry.out) (Nat.le_refl _)).len
      have hpl : (lm (2 * r + t)).length ≤ m + 1 := by
        refine Sz.len ?_
        have h1 := hyl.out
        have h2 := hry.out
        unfold Sz at h1 ⊢
        rw [Nat.pow_succ]; omega
      clear hj0 hI
      have hrb := hOr.bnd
      go_wp2_with fail
      refine CB.mono ?_
      rintro e w4 ⟨rfl, rfl⟩
      go_wp2_with fail
      refine (double_any hOr.rd (by omega) (t : Int) (by omega) (by omega)).mono ?_
      rw [hbI]
      rintro e w5 ⟨pa, pn, pc, rfl, hOp, hB5⟩
      have hpn : pn ≤ m + 1 := by rw [← hOp.len]; exact hpl
      have hs5 := hB5.size
      go_wp2_with fail
      refine (rnorm_any hOp.rd (by omega)).mono ?_
      rw [val_lm]
      rintro e w6 ⟨qa, qn, qc, rfl, hOq, hB6⟩
      have hqn : qn ≤ m + 1 := by rw [← hOq.len]; exact hpl
      have hs6 := hB6.size
      have hOq := hOq.mono (B' := g + 1) (by omega)
      have hB56 := hB5.next hB6
      have hO6 := hO.below hB56
      have hB36 := hB3.then hB56 (by omega)
      have hB06 := hB.next hB56
      have hY6 := HY.out w6 hB36
      clear hOp hO hOr hB hB3 hB5 hB6 CB hB56
      go_wp2_with fail
      refine (rcmp_any hOq.rd hY6).mono ?_
      rw [val_lm, val_lm]
      by_cases hc : y ≤ 2 * r + t
      · have hz : 0 ≤ cmpI (2 * r + t) y := by
          rcases Int.lt_or_le (cmpI (2 * r + t) y) 0 with h | h
          · have := cmpI_neg.1 h; omega
          · exact h
        have hzr := cmpI_range (2 * r + t) y
        generalize cmpI (2 * r + t) y = z at *
        rintro e w7 ⟨rfl, hD7⟩
        have hhi' := hid (hhi.out hc)
        clear hhi hlo
        have hB7 : Below w6.heap.size w6 w7 := hD7.below _
        have hs7 := hB7.size
        have hO7 := hO6.below hB7
        have hOq7 := hOq.below hB7
        have hB37 := hB36.then hB7 (by omega)
        have hB07 := hB06.next hB7
        have hY7 := HY.out w7 hB37
        clear hO6 hOq hB36 hB06 hY6 hB7 hD7
        go_wp2_with fail
        refine (rsub_any hOq7.rd hY7 (by omega)).mono ?_
        rw [val_lm, val_lm]
        rintro e w8 ⟨sa, sn, sc, rfl, hOs, hB8⟩
        have hs8 := hB8.size
        have hOs := hOs.mono (B' := g + 1) (by omega)
        have hO8 := hO7.below hB8
        have hB38 := hB37.then hB8 (by omega)
        have hB08 := hB07.next hB8
        clear hO7 hOq7 hB37 hB07 hY7 hB8
        have hc1 := hO8.cell (i := i / 32) (by omega)
        have hf1 := hO8.free (i / 32)
        have hry2 : Hid (2 * r + t - y < y) := by show _ < _; have := hry.out; omega
        have HS := hid (fun (X : Int) (x : Nat) (hX : X = (x : Int)) (hx : x < 4294967296) => hO8.setI (i / 32) x hX hx)
        have hs0 := hhi'.out.1
        have HN := hid hhi'.out.2
        clear hhi'
        generalize T.getD (i / 32) 0 = s0 at *
        have hpI := u32_shl1 i
        generalize 2 ^ (i % 32) = p at *
        clear hO8
        have hw1 : IntKind.i64.wrap ((i : Int) / 32) = (i : Int) / 32 := by rw [IntKind.wrap_i64]; omega
        have hw2 : (0 : Int) ≤ (i : Int) / 32 := by omega
        have hw3 : (i : Int) / 32 < (Q : Int) := by omega
        have hw4 : ((i : Int) / 32).toNat = i / 32 := by omega
        have hw6 : IntKind.i64.wrap ((i : Int) % 32) = (i : Int) % 32 := by rw [IntKind.wrap_i64]; omega
        have hw7 : ((i : Int) % 32).toNat = i % 32 := by omega
        have hw8 : (0 : Int) ≤ (i : Int) % 32 := by omega
        have hw9 : IntKind.u32.wrap (p : Int) = (p : Int) := by rw [IntKind.wrap_u32']; omega
        have hw10 : IntKind.u32.wrap ((s0 : Int) + (p : Int)) = (s0 : Int) + (p : Int) := by rw [IntKind.wrap_u32']; omega
        have hw6' : ((i : Int)).tmod 32 = (i : Int) % 32 := Int.tmod_eq_emod_of_nonneg (by omega)
        have hw11 : min (i % 32) 32 = i % 32 := by omega
        go_wp2
        refine wp_region_still_tail 13 (by kernel_rfl) (by kernel_rfl) ?_
        simp only [List.take_succ_cons, List.take_zero, List.drop_succ_cons, List.drop_zero]
        repeat still_step
        refine wpStill_nil ?_
        change wpList _ _ _ _ _ w8.drew
        have hHSd : Hid (∀ (X : Int) (x : Nat), X = (x : Int) → x < 4294967296 → Own w.heap.size (w8.drew.setCell ⟨g, i / 32, none⟩ (.int .u32 X)) (some ⟨g, 0, none⟩) Q Q (T.set (i / 32) x)) := HS.out
        have hBd : Below w.heap.size w w8.drew := hB08.drew
        have hBd3 : Below g w2 w8.drew := hB38.drew
        have hOsd : Own (g + 1) w8.drew sa sn sc (lm (2 * r + t - y)) := hOs
        have hc1' : w8.drew.cell? ⟨g, i / 32, none⟩ = some (.int .u32 (s0 : Int)) := hc1
        have hf1' : w8.drew.frozen? ⟨g, i / 32, none⟩ = false := hf1
        have hsd : g + 1 ≤ w8.drew.heap.size := show g + 1 ≤ w8.heap.size by omega
        have hwg : w.heap.size ≤ g := by omega
        generalize w8.drew = wd at *
        go_wp2
        go_roundw
        case rel =>
          refine ⟨i, 2 * r + t - y, sn, sc, sa, _, by omega, by go_num, rfl, hry2, hHSd.out _ _ (by omega) (by omega), hOsd.set_other _ (fun g' e1 e2 => ?_), HN, hBd.setCell hwg _, by simp [World.setCell]; omega, hBd3.setCell (Nat.le_refl _) _⟩
          subst e1 e2
          have := hOsd.lt
          omega
        case measure => simp [intOf]
      · have hz : cmpI (2 * r + t) y < 0 := cmpI_neg.2 (by omega)
        have hzr := cmpI_range (2 * r + t) y
        generalize cmpI (2 * r + t) y = z at *
        rintro e w7 ⟨rfl, hD7⟩
        have hlt2 : 2 * r + t < y := by omega
        have hN := hid (hlo.out hlt2)
        have hB7 : Below w6.heap.size w6 w7 := hD7.below _
        have hs7 := hB7.size
        clear hhi hlo
        go_wp2
        go_roundw
        case rel => exact ⟨i, 2 * r + t, qn, qc, qa, T, by omega, by go_num, rfl, hlt2, hO6.below hB7, hOq.below hB7, hN, hB06.next hB7, by omega, hB36.then hB7 (by omega)⟩
        case measure => simp [intOf]

end Go.Proofs.Ytokkfppchfmjcaa
