/- WALKS, 21: the reference's greatest common divisor. -/
import Derived.Test.YtokkfppchfmjcaaGreatWt
import Derived.Test.YtokkfppchfmjcaaGreatPP
namespace Go.Proofs.YtokkfppchfmjcaaGreat
set_option linter.unusedVariables false
open Go.ChangeShapes Go.WideShapes Go.ChangeAt Go.RowKit Go.NatP

/-- the limbs that a slice reads -/
def limbsOf (w : World) : Value → List Nat
  | .slice (some x) n _ => (List.range n).map fun i => match w.cell? (x.add i) with | some (.int _ z) => z.toNat | _ => 0
  | _ => []
def numOf (w : World) (v : Value) : Nat := val (limbsOf w v)

theorem limbsOf_rd {w : World} {a : Option Addr} {n c : Nat} {l : List Nat} (h : Rd w a n c l) : limbsOf w (.slice a n c) = l := by
  cases a with
  | none =>
    have hn : n = 0 := by
      rcases Nat.eq_zero_or_pos n with h0 | h0
      · exact h0
      · obtain ⟨b, o, e, _⟩ := h.get h0; cases e
    have := h.len
    rw [hn, List.length_eq_zero_iff] at this
    rw [this]; rfl
  | some x =>
    apply List.ext_getElem
    · simp [limbsOf, h.len]
    intro i h1 h2
    obtain ⟨b, o, e, hc⟩ := h.get (i := i) (by rw [← h.len]; exact h2)
    cases e
    simp only [limbsOf, List.getElem_map, List.getElem_range]
    rw [show (Addr.add ⟨b, o, none⟩ i) = ⟨b, o + i, none⟩ by simp [Addr.add], hc, ← getD_eq _ _ h2]
    simp
theorem numOf_rd {w : World} {a : Option Addr} {n c v : Nat} (h : Rd w a n c (lm v)) : numOf w (.slice a n c) = v := by
  unfold numOf
  rw [limbsOf_rd h, val_lm]

set_option maxRecDepth 100000 in
set_option maxHeartbeats 2000000 in
theorem rgcd_any {w : World} {a b : Option Addr} {n c m d K : Nat} {la lb : List Nat} (ha : Rd w a n c la) (hb : Rd w b m d lb) (hn : n ≤ K) (hm : m ≤ K) (hK : K ≤ 4194304) :
    Calls Tryz.prog 138 #[.slice a n c, .slice b m d] w (Ret1 w (lm (Nat.gcd (val la) (val lb)))) := by
  have hxl := hid (ha.lim.sz (k := K) (by rw [ha.len]; exact hn))
  have hyl := hid (hb.lim.sz (k := K) (by rw [hb.len]; exact hm))
  obtain ⟨X, hX⟩ : ∃ v, val la = v := ⟨_, rfl⟩
  obtain ⟨Y, hY⟩ : ∃ v, val lb = v := ⟨_, rfl⟩
  rw [hX] at hxl
  rw [hY] at hyl
  have hX' := hid hX
  have hY' := hid hY
  rw [hX, hY]
  clear hX hY
  go_enter Tryz.func138, Tryz.ntmps138
  go_wp2_with fail
  refine (rnorm_any ha (by omega)).mono ?_
  rw [hX'.out]
  rintro e w1 ⟨xa, xn, xc, rfl, hOx, hB1⟩
  have hs1 := hB1.size
  go_wp2_with fail
  refine (rnorm_any (hb.below hB1) (by omega)).mono ?_
  rw [hY'.out]
  rintro e w2 ⟨ya, yn, yc, rfl, hOy, hB2⟩
  have hs2 := hB2.size
  have hOx2 := hOx.below hB2
  have hOy2 := hOy.mono (B' := w.heap.size) hs1
  have hBB := hB1.next hB2
  have hxn : xn ≤ K := by rw [← hOx.len]; exact hxl.out.len
  have hyn : yn ≤ K := by rw [← hOy.len]; exact hyl.out.len
  have hxb := hOx.bnd
  have hyb := hOy.bnd
  clear hOx hOy hB1 hB2
  by_cases hX0 : X = 0
  · subst hX0
    have hx0 : xn = 0 := by rw [← hOx2.len]; rfl
    subst hx0
    go_wp2
    go_ret
    exact ⟨_, _, _, rfl, by rw [Nat.gcd_zero_left]; exact hOy2, hBB⟩
  have hx0 : 0 < xn := by
    rw [← hOx2.len]; exact List.length_pos_iff.2 (fun e => absurd (lm_eq_nil.1 e) hX0)
  by_cases hY0 : Y = 0
  · subst hY0
    have hy0 : yn = 0 := by rw [← hOy2.len]; rfl
    subst hy0
    go_wp2
    go_ret
    exact ⟨_, _, _, rfl, by rw [Nat.gcd_zero_right]; exact hOx2, hBB⟩
  have hy0 : 0 < yn := by
    rw [← hOy2.len]; exact List.length_pos_iff.2 (fun e => absurd (lm_eq_nil.1 e) hY0)
  have hG := hid (gcIn_start (x := X) (y := Y) (by omega))
  have hgl : Hid (Sz (Nat.gcd X Y) K) := hxl.out.mono (Nat.gcd_le_left _ (by omega)) (Nat.le_refl _)
  have hgb : Hid (nb (Nat.gcd X Y) ≤ 32 * K) := by
    have := hgl.out
    unfold Sz at this
    rwa [pow_32, ← nb_le] at this
  have hY1 := hid (Nat.pos_of_ne_zero hY0)
  clear hX0 hY0
  generalize hGe : Nat.gcd X Y = G at *
  clear hGe
  have e1 : ((xn : Int) == 0) = false := by simp; omega
  have e2 : ((yn : Int) == 0) = false := by simp; omega
  go_wp2
  go_loopw [5, 6, 7] (fun xv yv tv wr => ∃ (x y t xn xc yn yc : Nat) (xa ya : Option Addr), xv = .slice xa xn xc ∧ yv = .slice ya yn yc ∧ tv = .int .i64 t ∧ Own w.heap.size wr xa xn xc (lm x) ∧ Own w.heap.size wr ya yn yc (lm y) ∧ Hid (Sz x K ∧ Sz y K ∧ 0 < y) ∧ t ≤ 32 * K ∧ Hid (GcIn G t x y) ∧ Below w.heap.size w wr) (fun _ _ tv _ => 32 * K + 1 - (intOf tv).toNat)
  case atStart => exact ⟨X, Y, 0, xn, xc, yn, yc, xa, ya, rfl, rfl, rfl, hOx2, hOy2, ⟨hxl.out, hyl.out, hY1.out⟩, by omega, hG, hBB⟩
  case round =>
    clear hOx2 hOy2 hG hBB hxl hyl hxn hyn hxb hyb hx0 hy0 hs2 hs1
    obtain ⟨x, y, t, xn, xc, yn, yc, xa, ya, rfl, rfl, rfl, hOx, hOy, hS, ht, hG, hB⟩ := hrel
    have hsw := hB.size
    have hxb := hOx.bnd
    have hyb := hOy.bnd
    have hxn : xn ≤ K := by rw [← hOx.len]; exact hS.out.1.len
    have hyn : yn ≤ K := by rw [← hOy.len]; exact hS.out.2.1.len
    by_cases hbo : x % 2 = 0 ∧ y % 2 = 0
    · obtain ⟨hx, hy⟩ := hbo
      have hG' := hid (gcIn_both hG.out hx hy)
      have ht' : t + 1 ≤ 32 * K := by have h1 := gcIn_t hG'.out; have h2 := hgb.out; omega
      have hS' : Hid (Sz (x / 2) K ∧ Sz (y / 2) K ∧ 0 < y / 2) := ⟨hS.out.1.mono (Nat.div_le_self _ _) (Nat.le_refl _), hS.out.2.1.mono (Nat.div_le_self _ _) (Nat.le_refl _), by have := hS.out.2.2; omega⟩
      clear hG
      go_wp2_with fail
      refine (even_any hOx.rd).mono ?_
      rw [val_lm, decide_eq_true hx]
      rintro e w4 ⟨rfl, hD⟩
      have hD' : Dr wr w4 := hD
      clear hD
      have hOx4 := hD'.own hOx
      have hOy4 := hD'.own hOy
      have hB4 := hB.then (hD'.below _) hsw
      have hs4 := hB4.size
      clear hOx hOy hB hD'
      go_wp2_with fail
      refine (even_any hOy4.rd).mono ?_
      rw [val_lm, decide_eq_true hy]
      rintro e w5 ⟨rfl, hD⟩
      have hD' : Dr w4 w5 := hD
      clear hD
      have hOx5 := hD'.own hOx4
      have hOy5 := hD'.own hOy4
      have hB5 := hB4.then (hD'.below _) hs4
      have hs5 := hB5.size
      clear hOx4 hOy4 hB4 hx hy hD'
      go_wp2_with fail
      refine (half_any hOx5.rd (by omega)).mono ?_
      rw [val_lm]
      rintro e w6 ⟨pa, pn, pc, rfl, hOp, hB6⟩
      have hs6 := hB6.size
      have hOp := hOp.mono (B' := w.heap.size) (by omega)
      go_wp2_with fail
      refine (half_any (hOy5.below hB6).rd (by omega)).mono ?_
      rw [val_lm]
      rintro e w7 ⟨qa, qn, qc, rfl, hOq, hB7⟩
      have hs7 := hB7.size
      have hOq := hOq.mono (B' := w.heap.size) (by omega)
      go_wp2
      go_roundw
      case rel => exact ⟨x / 2, y / 2, t + 1, pn, pc, qn, qc, pa, qa, rfl, rfl, by go_num, hOp.below hB7, hOq, hS', ht', hG', (hB5.next hB6).next hB7⟩
      case measure => simp [intOf]; omega
    have hpar : Hid (x % 2 = 1 ∨ y % 2 = 1) := by show _ ∨ _; omega
    have hS2 : Hid (Sz x K ∧ Sz y K) := ⟨hS.out.1, hS.out.2.1⟩
    by_cases hx : x % 2 = 0
    all_goals
      go_wp2_with fail
      refine (even_any hOx.rd).mono ?_
      rw [val_lm]
      first
        | (have hy : ¬ y % 2 = 0 := fun h => hbo ⟨hx, h⟩
           rw [decide_eq_true hx]
           rintro e w4 ⟨rfl, hD⟩
           have hD' : Dr wr w4 := hD
           clear hD
           have hOx4 := hD'.own hOx
           have hOy4 := hD'.own hOy
           have hB4 := hB.then (hD'.below _) hsw
           have hs4 := hB4.size
           clear hOx hOy hB hD' hbo
           go_wp2_with fail
           refine (even_any hOy4.rd).mono ?_
           rw [val_lm, decide_eq_false hy]
           rintro e w5 ⟨rfl, hD⟩
           have hD' : Dr w4 w5 := hD
           clear hD
           have hOx5 := hD'.own hOx4
           have hOy5 := hD'.own hOy4
           have hB5 := hB4.then (hD'.below _) hs4
           have hs5 := hB5.size
           clear hOx4 hOy4 hB4 hx hy hD'
           go_wp2)
        | (rw [decide_eq_false hx]
           rintro e w5 ⟨rfl, hD⟩
           have hD' : Dr wr w5 := hD
           clear hD
           have hOx5 := hD'.own hOx
           have hOy5 := hD'.own hOy
           have hB5 := hB.then (hD'.below _) hsw
           have hs5 := hB5.size
           clear hOx hOy hB hD' hbo hx
           go_wp2)
      go_loopw [5, 6] (fun xv yv wr => ∃ (x y xn xc yn yc : Nat) (xa ya : Option Addr), xv = .slice xa xn xc ∧ yv = .slice ya yn yc ∧ Own w.heap.size wr xa xn xc (lm x) ∧ Own w.heap.size wr ya yn yc (lm y) ∧ Hid (Sz x K ∧ Sz y K) ∧ Hid (x % 2 = 1 ∨ y % 2 = 1) ∧ Hid (GcIn G t x y) ∧ Below w.heap.size w wr) (fun xv yv wr => numOf wr xv + numOf wr yv)
      case atStart => exact ⟨x, y, xn, xc, yn, yc, xa, ya, rfl, rfl, hOx5, hOy5, hS2, hpar, hG, hB5⟩
      case round =>
        clear hOx5 hOy5 hS2 hpar hG hB5 hs5 hxb hyb hxn hyn hS
        obtain ⟨wo, rfl⟩ : ∃ wo : World, wo = wr := ⟨_, rfl⟩
        obtain ⟨x, y, xn, xc, yn, yc, xa, ya, rfl, rfl, hOx, hOy, hS, hpar, hG, hB⟩ := hrel
        have hsw := hB.size
        have hxb := hOx.bnd
        have hyb := hOy.bnd
        have hxn : xn ≤ K := by rw [← hOx.len]; exact hS.out.1.len
        have hyn : yn ≤ K := by rw [← hOy.len]; exact hS.out.2.len
        have HM : Hid (numOf wo (.slice xa xn xc) + numOf wo (.slice ya yn yc) = x + y) := by
          show _ = _
          rw [numOf_rd hOx.rd, numOf_rd hOy.rd]
        by_cases hy0 : y = 0
        · subst hy0
          have hyn0 : yn = 0 := by rw [← hOy.len]; rfl
          subst hyn0
          have hE := hid (gcIn_end hG.out)
          clear hG HM hpar hOy
          have hOx0 : Own w.heap.size wo xa xn xc (lm (x * 2 ^ 0)) := by rw [Nat.pow_zero, Nat.mul_one]; exact hOx
          clear hOx
          go_wp2
          go_loopw [5, 8] (fun xv iv wr => ∃ (i xn xc : Nat) (xa : Option Addr), xv = .slice xa xn xc ∧ iv = .int .i64 i ∧ i ≤ t ∧ Own w.heap.size wr xa xn xc (lm (x * 2 ^ i)) ∧ Below w.heap.size w wr) (fun _ iv _ => t - (intOf iv).toNat)
          case atStart => exact ⟨0, xn, xc, xa, rfl, rfl, by omega, hOx0, hB⟩
          case round =>
            clear hOx0 hB hxb hyb hxn hyn hsw
            obtain ⟨i, xn, xc, xa, rfl, rfl, hit, hOx, hB⟩ := hrel
            have hsw := hB.size
            have hxb := hOx.bnd
            have hle : Hid (x * 2 ^ i ≤ G) := by
              show _ ≤ _
              rw [hE.out, Nat.mul_comm]
              exact Nat.mul_le_mul_right _ (Nat.pow_le_pow_right (by decide) hit)
            have hxn : xn ≤ K := by rw [← hOx.len]; exact (hgl.out.mono hle.out (Nat.le_refl _)).len
            by_cases hlt : i < t
            · have he : Hid (2 * (x * 2 ^ i) + Int.toNat 0 = x * 2 ^ (i + 1)) := by
                show _ = _
                rw [Nat.pow_succ]; simp; grind
              generalize x * 2 ^ i = z at *
              go_wp2_with fail
              refine (double_any hOx.rd (by omega) 0 (by omega) (by omega)).mono ?_
              rw [he.out]
              rintro e w6 ⟨pa, pn, pc, rfl, hOp, hB6⟩
              have hs6 := hB6.size
              go_wp2
              go_roundw
              case rel => exact ⟨i + 1, pn, pc, pa, rfl, by go_num, by omega, hOp.mono (by omega), hB.next hB6⟩
              case measure => simp [intOf]; omega
            · obtain rfl : i = t := by omega
              have he : Hid (x * 2 ^ i = G) := by show _ = _; rw [hE.out, Nat.mul_comm]
              generalize x * 2 ^ i = z at *
              go_wp2
              go_ret
              exact ⟨xa, xn, xc, rfl, by rw [← he.out]; exact hOx, hB⟩
        · have hyn0 : 0 < yn := by
            rw [← hOy.len]; exact List.length_pos_iff.2 (fun e => absurd (lm_eq_nil.1 e) hy0)
          have hx0 : Hid (0 < x) := hG.out.1
          go_wp2
          go_loopw [5] (fun xv wr => ∃ (x' xn xc : Nat) (xa : Option Addr), xv = .slice xa xn xc ∧ x' ≤ x ∧ Own w.heap.size wr xa xn xc (lm x') ∧ Own w.heap.size wr ya yn yc (lm y) ∧ Hid (Sz x' K) ∧ Hid (x' % 2 = 1 ∨ y % 2 = 1) ∧ Hid (GcIn G t x' y) ∧ Below w.heap.size w wr) (fun xv wr => numOf wr xv)
          case atStart => exact ⟨x, xn, xc, xa, rfl, Nat.le_refl _, hOx, hOy, hS.out.1, hpar, hG, hB⟩
          case round =>
            clear hOx hOy hpar hG hB hxb hxn hsw
            obtain ⟨wi, rfl⟩ : ∃ wi : World, wi = wr := ⟨_, rfl⟩
            obtain ⟨x', xn', xc', xa', rfl, hxx, hOx, hOy, hS3, hpar, hG, hB⟩ := hrel
            have hsw := hB.size
            have hxb := hOx.bnd
            have hxn : xn' ≤ K := by rw [← hOx.len]; exact hS3.out.len
            have HM3 : Hid (numOf wi (.slice xa' xn' xc') = x') := numOf_rd hOx.rd
            by_cases hx : x' % 2 = 0
            · have hG' := hid (gcIn_left hG.out hx (by have := hpar.out; omega))
              have hx1 : Hid (0 < x') := hG.out.1
              go_wp2_with fail
              refine (even_any hOx.rd).mono ?_
              rw [val_lm, decide_eq_true hx]
              rintro e w6 ⟨rfl, hD⟩
              have hD' : Dr wi w6 := hD
              have hOx6 := hD'.own hOx
              have hOy6 := hD'.own hOy
              have hB6 := hB.then (hD'.below _) hsw
              have hs6 := hB6.size
              have hpar' : Hid (x' / 2 % 2 = 1 ∨ y % 2 = 1) := .inr (by have := hpar.out; omega)
              clear hD hD' hOx hOy hB hpar hG hx
              go_wp2_with fail
              refine (half_any hOx6.rd (by omega)).mono ?_
              rw [val_lm]
              rintro e w7 ⟨pa, pn, pc, rfl, hOp, hB7⟩
              have hs7 := hB7.size
              have hOp := hOp.mono (B' := w.heap.size) (by omega)
              go_wp2
              go_roundw
              case rel => exact ⟨x' / 2, pn, pc, pa, rfl, by omega, hOp, hOy6.below hB7, hS3.out.mono (Nat.div_le_self _ _) (Nat.le_refl _), hpar', hG', hB6.next hB7⟩
              case measure => rw [numOf_rd hOp.rd, HM3.out]; have := hx1.out; omega
            · have hx1 : Hid (x' % 2 = 1) := by show _ = _; omega
              go_wp2_with fail
              refine (even_any hOx.rd).mono ?_
              rw [val_lm, decide_eq_false hx]
              rintro e w6 ⟨rfl, hD⟩
              have hD' : Dr wi w6 := hD
              have hOx6 := hD'.own hOx
              have hOy6 := hD'.own hOy
              have hB6 := hB.then (hD'.below _) hsw
              have hs6 := hB6.size
              clear hD hD' hOx hOy hB hpar hx
              go_wp2
              go_loopw [6] (fun yv wr => ∃ (y' yn yc : Nat) (ya : Option Addr), yv = .slice ya yn yc ∧ y' ≤ y ∧ 0 < y' ∧ Own w.heap.size wr xa' xn' xc' (lm x') ∧ Own w.heap.size wr ya yn yc (lm y') ∧ Hid (Sz y' K) ∧ Hid (GcIn G t x' y') ∧ Below w.heap.size w wr) (fun yv wr => numOf wr yv)
              case atStart => exact ⟨y, yn, yc, ya, rfl, Nat.le_refl _, by omega, hOx6, hOy6, hS.out.2, hG, hB6⟩
              case round =>
                clear hOx6 hOy6 hG hB6 hyb hyn hs6 hyn0
                obtain ⟨wj, rfl⟩ : ∃ wj : World, wj = wr := ⟨_, rfl⟩
                obtain ⟨y', yn', yc', ya', rfl, hyy, hy1, hOx, hOy, hS4, hG, hB⟩ := hrel
                have hsw := hB.size
                have hyb := hOy.bnd
                have hyn : yn' ≤ K := by rw [← hOy.len]; exact hS4.out.len
                have hyn0 : 0 < yn' := by
                  rw [← hOy.len]; exact List.length_pos_iff.2 (fun e => absurd (lm_eq_nil.1 e) (by omega))
                have HM4 : Hid (numOf wj (.slice ya' yn' yc') = y') := numOf_rd hOy.rd
                by_cases hyv : y' % 2 = 0
                · have hG' := hid (gcIn_right hG.out hx1.out hyv)
                  go_wp2_with fail
                  refine (even_any hOy.rd).mono ?_
                  rw [val_lm, decide_eq_true hyv]
                  rintro e w7 ⟨rfl, hD⟩
                  have hD' : Dr wj w7 := hD
                  have hOx7 := hD'.own hOx
                  have hOy7 := hD'.own hOy
                  have hB7 := hB.then (hD'.below _) hsw
                  have hs7 := hB7.size
                  clear hD hD' hOx hOy hB hG
                  go_wp2_with fail
                  refine (half_any hOy7.rd (by omega)).mono ?_
                  rw [val_lm]
                  rintro e w8 ⟨pa, pn, pc, rfl, hOp, hB8⟩
                  have hs8 := hB8.size
                  have hOp := hOp.mono (B' := w.heap.size) (by omega)
                  go_wp2
                  go_roundw
                  case rel => exact ⟨y' / 2, pn, pc, pa, rfl, by omega, by omega, hOx7.below hB8, hOp, hS4.out.mono (Nat.div_le_self _ _) (Nat.le_refl _), hG', hB7.next hB8⟩
                  case measure => rw [numOf_rd hOp.rd, HM4.out]; omega
                · go_wp2_with fail
                  refine (even_any hOy.rd).mono ?_
                  rw [val_lm, decide_eq_false hyv]
                  rintro e w7 ⟨rfl, hD⟩
                  have hD' : Dr wj w7 := hD
                  have hOx7 := hD'.own hOx
                  have hOy7 := hD'.own hOy
                  have hB7 := hB.then (hD'.below _) hsw
                  have hs7 := hB7.size
                  clear hD hD' hOx hOy hB
                  have hyo : Hid (y' % 2 = 1) := by show _ = _; omega
                  clear hyv
                  go_wp2_with fail
                  refine (rcmp_any hOx7.rd hOy7.rd).mono ?_
                  rw [val_lm, val_lm]
                  by_cases hc : y' < x'
                  · rw [cmpI_gt hc]
                    rintro e w8 ⟨rfl, hD⟩
                    have hG' := hid (gcIn_sub (gcIn_swap hG.out hy1) (Nat.le_of_lt hc))
                    have hS' : Hid (Sz y' K ∧ Sz (x' - y') K) := ⟨hS4.out, hS3.out.mono (Nat.sub_le _ _) (Nat.le_refl _)⟩
                    have hp' : Hid (y' % 2 = 1 ∨ (x' - y') % 2 = 1) := .inl hyo.out
                    have hOx8 := hD.own hOx7
                    have hOy8 := hD.own hOy7
                    have hB8 := hB7.then (hD.below _) hs7
                    have hs8 := hB8.size
                    clear hOx7 hOy7 hB7 hD hG
                    go_wp2_with fail
                    refine (rsub_any hOx8.rd hOy8.rd (by omega)).mono ?_
                    rw [val_lm, val_lm]
                    rintro e w9 ⟨sa, sn, sc, rfl, hOs, hB9⟩
                    have hs9 := hB9.size
                    have hOs := hOs.mono (B' := w.heap.size) (by omega)
                    have hOy9 := hOy8.below hB9
                    go_wp2
                    go_roundw
                    case rel => exact ⟨y', x' - y', yn', yc', sn, sc, ya', sa, rfl, rfl, hOy9, hOs, hS', hp', hG', hB8.next hB9⟩
                    case measure => rw [numOf_rd hOy9.rd, numOf_rd hOs.rd, HM.out]; omega
                  · have hc' : x' ≤ y' := by omega
                    have hz : Hid (cmpI x' y' ≤ 0) := by
                      show _ ≤ _
                      rcases Int.lt_or_le 0 (cmpI x' y') with h | h
                      · have := cmpI_pos.1 h; omega
                      · exact h
                    have hz' := hz.out
                    have hzr := cmpI_range x' y'
                    generalize cmpI x' y' = z at *
                    rintro e w8 ⟨rfl, hD⟩
                    have hG' := hid (gcIn_sub hG.out hc')
                    have hxp : Hid (0 < x') := hG.out.1
                    have hS' : Hid (Sz x' K ∧ Sz (y' - x') K) := ⟨hS3.out, hS4.out.mono (Nat.sub_le _ _) (Nat.le_refl _)⟩
                    have hp' : Hid (x' % 2 = 1 ∨ (y' - x') % 2 = 1) := .inl hx1.out
                    have hOx8 := hD.own hOx7
                    have hOy8 := hD.own hOy7
                    have hB8 := hB7.then (hD.below _) hs7
                    have hs8 := hB8.size
                    clear hOx7 hOy7 hB7 hD hG
                    go_wp2_with fail
                    refine (rsub_any hOy8.rd hOx8.rd (by omega)).mono ?_
                    rw [val_lm, val_lm]
                    rintro e w9 ⟨sa, sn, sc, rfl, hOs, hB9⟩
                    have hs9 := hB9.size
                    have hOs := hOs.mono (B' := w.heap.size) (by omega)
                    have hOx9 := hOx8.below hB9
                    go_wp2
                    go_roundw
                    case rel => exact ⟨x', y' - x', xn', xc', sn, sc, xa', sa, rfl, rfl, hOx9, hOs, hS', hp', hG', hB8.next hB9⟩
                    case measure => rw [numOf_rd hOx9.rd, numOf_rd hOs.rd, HM.out]; have := hxp.out; omega

end Go.Proofs.YtokkfppchfmjcaaGreat
