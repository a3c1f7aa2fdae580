/- WALKS, 23: division, the short ways. -/
import Derived.Test.YtennilapmcgnbaaWv
namespace Go.Proofs.Ytennilapmcgnbaa
set_option linter.unusedVariables false
open Go.ChangeShapes Go.WideShapes Go.ChangeAt Go.RowKit Go.NatP

set_option maxRecDepth 100000 in
set_option maxHeartbeats 1000000 in
theorem divmod_zero {w : World} {a b : Option Addr} {n c m d : Nat} {la lb : List Nat} (ha : Rd w a n c la) (hb : Rd w b m d lb) (h0 : val lb = 0) :
    Calls Try.prog 54 #[.slice a n c, .slice b m d] w (RetD w [] [] 11) := by
  obtain ⟨N, hN⟩ : ∃ k, (lm (val la)).length = k := ⟨_, rfl⟩
  have hz : (lm (val lb)).length = 0 := by rw [h0]; rfl
  go_enter Try.func54, Try.ntmps54
  go_wp2_with fail
  refine (trim_any ha hN).mono ?_
  rintro e w' ⟨rfl, rfl⟩
  go_wp2_with fail
  refine (trim_any hb hz).mono ?_
  rintro e w' ⟨rfl, rfl⟩
  go_wp2
  go_ret3
  exact ⟨none, 0, 0, none, 0, 0, rfl, own_nil _ _, own_nil _ _, diff_nil _, Below.refl _ _⟩

set_option maxRecDepth 100000 in
set_option maxHeartbeats 1000000 in
theorem divmod_less {w : World} {a b : Option Addr} {n c m d : Nat} {la lb : List Nat} (ha : Rd w a n c la) (hb : Rd w b m d lb) (hn : n ≤ 4194304) (hlt : val la < val lb) :
    Calls Try.prog 54 #[.slice a n c, .slice b m d] w (RetD w (lm (val la / val lb)) (lm (val la % val lb)) 0) := by
  rw [Nat.div_eq_of_lt hlt, Nat.mod_eq_of_lt hlt]
  obtain ⟨N, hN⟩ : ∃ k, (lm (val la)).length = k := ⟨_, rfl⟩
  obtain ⟨M, hM⟩ : ∃ k, (lm (val lb)).length = k := ⟨_, rfl⟩
  obtain ⟨hRa, hNn⟩ := ha.trim hN
  obtain ⟨hRb, hMm⟩ := hb.trim hM
  have hM0 : 0 < M := by
    rw [← hM]; exact List.length_pos_iff.2 (fun e => by have := lm_eq_nil.1 e; omega)
  have hC := cmp_any hRa hRb
  rw [val_lm, val_lm, cmpI_lt hlt] at hC
  have hbb := hRb.bnd
  go_enter Try.func54, Try.ntmps54
  go_wp2_with fail
  refine (trim_any ha hN).mono ?_
  rintro e w' ⟨rfl, rfl⟩
  go_wp2_with fail
  refine (trim_any hb hM).mono ?_
  rintro e w' ⟨rfl, rfl⟩
  go_wp2_with fail
  refine hC.mono ?_
  rintro e w1 ⟨rfl, hD⟩
  go_wp2_with fail
  refine (own_any (hD.rd hRa) (by omega)).mono ?_
  rw [val_lm]
  rintro e w2 ⟨ra, rn, rc, rfl, hO, hB⟩
  go_wp2
  go_ret3
  exact ⟨none, 0, 0, ra, rn, rc, rfl, own_nil _ _, hO.mono (Nat.le_of_eq (by rw [hD.heap])), diff_nil _, (hD.below _).then hB (Nat.le_of_eq (by rw [hD.heap]))⟩

theorem Own.lt' {B : Nat} {w : World} {a : Option Addr} {n c : Nat} {l : List Nat} (h : Own B w a n c l) : ∀ g, a = some ⟨g, 0, none⟩ → B ≤ g ∧ g < w.heap.size := fun g e => by subst e; exact h.lt
/-- what is made later lies elsewhere -/
theorem diff_of {B C : Nat} {w w' : World} {a b : Option Addr} {n c m d : Nat} {l k : List Nat} (h : Own B w a n c l) (h' : Own C w' b m d k) (hC : w.heap.size ≤ C) : Diff a b := fun g e e2 => by
  have h1 := h.lt' g e
  have h2 := h'.lt' g e2
  omega

set_option maxRecDepth 100000 in
set_option maxHeartbeats 1000000 in
theorem divmod_one {w : World} {a b : Option Addr} {n c m d : Nat} {la lb : List Nat} (ha : Rd w a n c la) (hb : Rd w b m d lb) (hn : n ≤ 4194304) (hle : val lb ≤ val la) (hM : (lm (val lb)).length = 1) :
    Calls Try.prog 54 #[.slice a n c, .slice b m d] w (RetD w (lm (val la / val lb)) (lm (val la % val lb)) 0) := by
  obtain ⟨N, hN⟩ : ∃ k, (lm (val la)).length = k := ⟨_, rfl⟩
  obtain ⟨hRa, hNn⟩ := ha.trim hN
  obtain ⟨hRb, hMm⟩ := hb.trim hM
  have hC := cmp_any hRa hRb
  rw [val_lm, val_lm] at hC
  have hz : 0 ≤ cmpI (val la) (val lb) := by
    rcases Int.lt_or_le (cmpI (val la) (val lb)) 0 with h | h
    · have := cmpI_neg.1 h; omega
    · exact h
  have hzr := cmpI_range (val la) (val lb)
  generalize cmpI (val la) (val lb) = z at *
  obtain ⟨x, hx⟩ : ∃ x, lm (val lb) = [x] := List.length_eq_one_iff.1 hM
  have hxv : val lb = x := by have := val_lm (val lb); rw [hx] at this; simpa [val] using this.symm
  have hx0 : x ≠ 0 := by
    have := lm_last' (n := val lb) (fun e => by rw [e] at hM; simp [lm_zero] at hM)
    rw [hx] at this; simpa using this
  have hxl : x < 4294967296 := by have := (lim_lm (val lb)).getD 0; rw [hx] at this; simpa using this
  obtain ⟨bb, oo, rfl, hc⟩ := hRb.get (i := 0) (by omega)
  rw [hx, Nat.add_zero] at hc
  have hc : w.cell? ⟨bb, oo, none⟩ = some (.int .u32 (x : Int)) := hc
  have hbb := hRb.bnd
  have hM' := hid hM
  have hN' := hid hN
  rw [hxv]
  clear hx hxv hM hN hRb
  obtain ⟨v, hv⟩ : ∃ v, val la = v := ⟨_, rfl⟩
  rw [hv] at hRa ⊢
  have hN'' := hid hv
  clear hv hle
  go_enter Try.func54, Try.ntmps54
  go_wp2_with fail
  refine (trim_any ha hN'.out).mono ?_
  rintro e w' ⟨rfl, rfl⟩
  go_wp2_with fail
  refine (trim_any hb hM'.out).mono ?_
  rintro e w' ⟨rfl, rfl⟩
  go_wp2_with fail
  refine hC.mono ?_
  rintro e w1 ⟨rfl, hD⟩
  have hR1 := hD.rd hRa
  have hc1 := (hD.cell _).trans hc
  have hh : w1.heap.size = w.heap.size := by rw [hD.heap]
  go_wp2_with fail
  refine (clone_any hR1 (by omega)).mono ?_
  rintro e w2 ⟨qa, qn, qc, rfl, hOq, hB2⟩
  have hs2 := hB2.size
  have hc2 : w2.cell? ⟨bb, oo, none⟩ = some (.int .u32 (x : Int)) := (hB2.cell (p := ⟨bb, oo, none⟩) (World.block_lt_of_cell? w1 _ hc1)).trans hc1
  have hqb := hOq.bnd
  have hqn : qn = N := by rw [← hOq.len, ← hN''.out]; exact hN'.out
  subst hqn
  go_wp2_with fail
  refine (small_any hOq (x : Int) (by omega) (by omega)).mono ?_
  rw [val_lm, Int.toNat_natCast]
  rintro e w3 ⟨rfl, ⟨lq, hOq3, hlq⟩, hK3⟩
  have hs3 := hK3.size
  have hB3 := hB2.kp hK3 hs2 (fun k hk e => by have := hOq.lt' _ e; omega)
  go_wp2_with fail
  refine (own_any hOq3.rd (by omega)).mono ?_
  rw [hlq]
  rintro e w4 ⟨pa, pn, pc, rfl, hOp, hB4⟩
  have hs4 := hB4.size
  have hrl : v % x < 4294967296 := Nat.lt_trans (Nat.mod_lt _ (by omega)) hxl
  have hrI : (v : Int) % (x : Int) = ((v % x : Nat) : Int) := (Int.natCast_emod _ _).symm
  have hrI' := hid hrI
  clear hrI
  generalize v % x = r at *
  go_wp2_with fail
  refine (own_any (rd_one (X := (v : Int) % (x : Int)) hrI'.out hrl) (by omega)).mono ?_
  rw [show val [r] = r by simp [val]]
  rintro e w5 ⟨ra, rn, rc, rfl, hOr, hB5⟩
  have hOp4 := hOp.alloc (.cells #[.int .u32 ((v : Int) % (x : Int))] 97)
  go_wp2
  go_ret3
  exact ⟨pa, pn, pc, ra, rn, rc, rfl, (hOp4.below hB5).mono (by omega), hOr.mono (by simp; omega), diff_of hOp4 hOr (Nat.le_refl _), ((((hD.below _).then (hB3.then hB4 (by omega)) (by omega)).alloc (by omega) _).then hB5 (by simp; omega))⟩

end Go.Proofs.Ytennilapmcgnbaa
