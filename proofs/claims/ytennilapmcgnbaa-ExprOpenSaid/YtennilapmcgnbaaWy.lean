/- WALKS, 25: division whole; the greatest common divisor; numbers written over in their places. -/
import Derived.Test.YtennilapmcgnbaaWx
import Derived.Test.YtennilapmcgnbaaWu
import Derived.Test.YtennilapmcgnbaaW1
namespace Go.Proofs.Ytennilapmcgnbaa
set_option linter.unusedVariables false
open Go.ChangeShapes Go.WideShapes Go.ChangeAt Go.RowKit Go.NatP

/-- what is left, none where nothing is divided -/
def dvR (v y : Nat) : Nat := if y = 0 then 0 else v % y
def dvE (y : Nat) : Int := if y = 0 then 11 else 0
theorem dvR_le (v y : Nat) : dvR v y ≤ v := by
  unfold dvR; split
  · omega
  · exact Nat.mod_le _ _
theorem dvR_pos {v y : Nat} (h : y ≠ 0) : dvR v y = v % y := if_neg h
theorem dvE_pos {y : Nat} (h : y ≠ 0) : dvE y = 0 := if_neg h

theorem divmod_any {w : World} {a b : Option Addr} {n c m d : Nat} {la lb : List Nat} (ha : Rd w a n c la) (hb : Rd w b m d lb) (hn : n ≤ 4194304) :
    Calls Try.prog 54 #[.slice a n c, .slice b m d] w (RetD w (lm (val la / val lb)) (lm (dvR (val la) (val lb))) (dvE (val lb))) := by
  by_cases h0 : val lb = 0
  · rw [h0, Nat.div_zero]
    exact divmod_zero ha hb h0
  rw [dvR_pos h0, dvE_pos h0]
  rcases Nat.lt_or_ge (val la) (val lb) with h1 | h1
  · exact divmod_less ha hb hn h1
  rcases Nat.lt_or_ge (lm (val lb)).length 2 with h2 | h2
  · refine divmod_one ha hb hn h1 ?_
    have : 0 < (lm (val lb)).length := List.length_pos_iff.2 fun e => h0 (lm_eq_nil.1 e)
    omega
  · exact divmod_long ha hb hn h1 h2

set_option maxRecDepth 100000 in
set_option maxHeartbeats 1000000 in
theorem gcd_any {w : World} {a b : Option Addr} {n c m d K : Nat} {la lb : List Nat} (ha : Rd w a n c la) (hb : Rd w b m d lb) (hn : n ≤ K) (hm : m ≤ K) (hK : K ≤ 4194304) :
    Calls Try.prog 53 #[.slice a n c, .slice b m d] w (Ret1 w (lm (Nat.gcd (val la) (val lb)))) := by
  have hxl := hid (ha.lim.sz (k := K) (by rw [ha.len]; exact hn))
  have hyl := hid (hb.lim.sz (k := K) (by rw [hb.len]; exact hm))
  obtain ⟨X, hX⟩ : ∃ v, val la = v := ⟨_, rfl⟩
  obtain ⟨Y, hY⟩ : ∃ v, val lb = v := ⟨_, rfl⟩
  rw [hX] at hxl
  rw [hY] at hyl
  have hX' := hid hX
  have hY' := hid hY
  rw [hX, hY]
  clear hX hY
  obtain ⟨G, hG⟩ : ∃ v, Nat.gcd X Y = v := ⟨_, rfl⟩
  rw [hG]
  have hG' := hid hG
  clear hG
  go_enter Try.func53, Try.ntmps53
  go_wp2_with fail
  refine (own_any ha (by omega)).mono ?_
  rw [hX'.out]
  rintro e w1 ⟨xa, xn, xc, rfl, hOx, hB1⟩
  have hs1 := hB1.size
  go_wp2_with fail
  refine (own_any (hb.below hB1) (by omega)).mono ?_
  rw [hY'.out]
  rintro e w2 ⟨ya, yn, yc, rfl, hOy, hB2⟩
  have hOx2 := hOx.below hB2
  have hOy2 := hOy.mono (B' := w.heap.size) hs1
  have hBB := hB1.next hB2
  clear hOx hOy hB1 hB2
  go_wp2
  go_loopw [0, 1] (fun xv yv wr => ∃ (x y xn xc yn yc : Nat) (xa ya : Option Addr), xv = .slice xa xn xc ∧ yv = .slice ya yn yc ∧ Own w.heap.size wr xa xn xc (lm x) ∧ Own w.heap.size wr ya yn yc (lm y) ∧ Hid (Sz x K ∧ Sz y K) ∧ Hid (Nat.gcd x y = G) ∧ Below w.heap.size w wr) (fun _ yv wr => numOf wr yv)
  case atStart => exact ⟨X, Y, xn, xc, yn, yc, xa, ya, rfl, rfl, hOx2, hOy2, ⟨hxl.out, hyl.out⟩, hG', hBB⟩
  case round =>
    clear hOx2 hOy2 hBB hxl hyl hs1
    obtain ⟨x, y, xn, xc, yn, yc, xa, ya, rfl, rfl, hOx, hOy, hS, hG, hB⟩ := hrel
    have hsw := hB.size
    have hxb := hOx.bnd
    have hyb := hOy.bnd
    have hxn : xn ≤ K := by rw [← hOx.len]; exact hS.out.1.len
    have hyn : yn ≤ K := by rw [← hOy.len]; exact hS.out.2.len
    by_cases hy0 : y = 0
    · subst hy0
      have hyz : yn = 0 := by rw [← hOy.len]; rfl
      subst hyz
      have hGx : Hid (x = G) := by show _ = _; rw [← hG.out, Nat.gcd_zero_right]
      clear hG
      go_wp2
      go_ret
      exact ⟨_, _, _, rfl, by rw [← hGx.out]; exact hOx, hB⟩
    · have hyp : 0 < yn := by rw [← hOy.len]; exact List.length_pos_iff.2 fun e => hy0 (lm_eq_nil.1 e)
      have hM := hid (numOf_rd hOy.rd)
      have hG' : Hid (Nat.gcd y (dvR x y) = G) := by
        show _ = _
        rw [dvR_pos hy0, ← hG.out, Nat.gcd_comm x y, Nat.gcd_rec y x, Nat.gcd_comm]
      have hS' : Hid (Sz y K ∧ Sz (dvR x y) K) := ⟨hS.out.2, hS.out.1.mono (dvR_le _ _) (Nat.le_refl _)⟩
      have hlt : Hid (dvR x y < y) := by show _ < _; rw [dvR_pos hy0]; exact Nat.mod_lt _ (by omega)
      have hDM := divmod_any hOx.rd hOy.rd (by omega)
      rw [val_lm, val_lm] at hDM
      generalize dvR x y = r at *
      have HDM := hid hDM
      clear hG hy0 hDM
      go_wp2_with fail
      refine HDM.out.mono ?_
      rintro e w3 ⟨qa, qn, qc, ra, rn, rc, rfl, hOq, hOr, hDf, hB3⟩
      have hOy3 := hOy.below hB3
      have hOr3 := hOr.mono (B' := w.heap.size) hsw
      go_wp2
      go_roundw
      case rel => exact ⟨y, r, yn, yc, rn, rc, ya, ra, rfl, rfl, hOy3, hOr3, hS', hG', hB.next hB3⟩
      case measure => rw [numOf_rd hOr3.rd, hM.out]; exact hlt.out

/-- a number written over: five times each limb and three -/
def ovl (l : List Nat) : List Nat := l.map fun x => (5 * x + 3) % 4294967296
theorem ovl_length (l : List Nat) : (ovl l).length = l.length := by simp [ovl]
/-- down to limb i it is written over -/
def OvIn (l S : List Nat) (i : Nat) : Prop := S = ovl (l.take i) ++ l.drop i
theorem ovIn_start (l : List Nat) : OvIn l l 0 := by simp [OvIn, ovl]
theorem ovl_snoc {l : List Nat} {i : Nat} (h : i < l.length) : ovl (l.take (i + 1)) = ovl (l.take i) ++ [(5 * l.getD i 0 + 3) % 4294967296] := by
  rw [take_succ_getD _ _ h]; simp [ovl]
theorem ovIn_get {l S : List Nat} {i : Nat} (h : OvIn l S i) (hi : i < l.length) : S.getD i 0 = l.getD i 0 := by
  have e : (ovl (l.take i)).length = i := by simp [ovl]; omega
  rw [h]
  simp [List.getD_eq_getElem?_getD, List.getElem?_append_right (show (ovl (l.take i)).length ≤ i by omega), e, List.getElem?_drop]
theorem ovIn_step {l S : List Nat} {i : Nat} (h : OvIn l S i) (hi : i < l.length) : OvIn l (S.set i ((5 * l.getD i 0 + 3) % 4294967296)) (i + 1) := by
  have e : (ovl (l.take i)).length = i := by simp [ovl]; omega
  unfold OvIn at *
  rw [h, ovl_snoc hi, drop_getD _ _ hi, List.set_append_right _ _ (by omega), e]
  simp
theorem ovIn_end {l S : List Nat} (h : OvIn l S l.length) : S = ovl l := by
  rw [h]; simp

/-- the copy, and the row written over -/
def RetOver (B : Nat) (w : World) (a : Option Addr) (n c : Nat) (l : List Nat) (e : Ending) (w' : World) : Prop :=
  ∃ a' n' c', e = .returned (.slice a' n' c') ∧ Own w.heap.size w' a' n' c' (ovl l) ∧ Own B w' a n c (ovl l) ∧ Kp (fun b => a = some ⟨b, 0, none⟩) w w'

end Go.Proofs.Ytennilapmcgnbaa
