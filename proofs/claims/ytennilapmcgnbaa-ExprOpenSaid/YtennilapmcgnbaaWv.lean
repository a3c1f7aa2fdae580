/- WALKS, 22: one digit of a long division. -/
import Derived.Test.YtennilapmcgnbaaWu
import Derived.Test.YtennilapmcgnbaaPP
namespace Go.Proofs.Ytennilapmcgnbaa
set_option linter.unusedVariables false
open Go.ChangeShapes Go.WideShapes Go.ChangeAt Go.RowKit Go.NatP

theorem and_limb (c : Nat) (h : c < 18446744073709551616) : bits BinOp.and IntKind.u64 (c : Int) 4294967295 = ((c % 4294967296 : Nat) : Int) := by
  have h1 := u64_and_nat c 4294967295 h (by omega)
  rw [show c &&& 4294967295 = c % 4294967296 from Nat.and_two_pow_sub_one_eq_mod c 32] at h1
  exact h1

def RetDigit (B : Nat) (w : World) (gu N C Q R : Nat) (e : Ending) (w' : World) : Prop :=
  ∃ S', e = .returned (.int .u32 (Q : Nat)) ∧ Own B w' (some ⟨gu, 0, none⟩) N C S' ∧ val S' = R ∧ Kp (fun b => b = gu) w w'

set_option maxRecDepth 100000 in
set_option maxHeartbeats 2000000 in
theorem digit_any {B : Nat} {w : World} {gu N C j n d vb vo : Nat} {S lb : List Nat} (hO : Own B w (some ⟨gu, 0, none⟩) N C S) (hV : Rd w (some ⟨vb, vo, none⟩) n d lb) (hne : vb ≠ gu)
    (hn2 : 2 ≤ n) (hi : 2147483648 ≤ lb.getD (n - 1) 0) (hj : j + n + 1 ≤ N) (hN : N ≤ 16777216) (hlt : val S < val lb * 4294967296 ^ (j + 1)) (hp : 0 < val lb) :
    Calls Try.prog 72 #[.slice (some ⟨gu, j, none⟩) (n + 1 : Nat) (C - j : Nat), .slice (some ⟨vb, vo, none⟩) n d] w
      (RetDigit B w gu N C (val S / 4294967296 ^ j / val lb) (val S - val S / 4294967296 ^ j / val lb * val lb * 4294967296 ^ j)) := by
  have hbO := hO.bnd
  have hbV := hV.bnd
  have hK : Hid (KD (val S / 4294967296 ^ j) (val lb) (4294967296 ^ (n - 2)) (lb.getD (n - 1) 0) (lb.getD (n - 2) 0) (S.getD (j + n) 0 * 4294967296 + S.getD (j + (n - 1)) 0) (S.getD (j + (n - 2)) 0)) := by
    obtain ⟨m, rfl⟩ : ∃ m, n = m + 2 := ⟨n - 2, by omega⟩
    exact kd_of hO.lim hV.lim hV.len hi hlt
  have cu0 := hO.cell (i := j + n) (by omega)
  have cu1 := hO.cell (i := j + (n - 1)) (by omega)
  have cu2 := hO.cell (i := j + (n - 2)) (by omega)
  have cv1 := hV.cell (i := n - 1) (by omega)
  have cv2 := hV.cell (i := n - 2) (by omega)
  have lu0 := hO.lim.getD (j + n)
  have lu1 := hO.lim.getD (j + (n - 1))
  have lu2 := hO.lim.getD (j + (n - 2))
  have lv1 := hV.lim.getD (n - 1)
  have lv2 := hV.lim.getD (n - 2)
  have Hlt := hid hlt
  have HO := hid hO
  have HV := hid hV
  clear hO hV hlt
  generalize S.getD (j + n) 0 = u0 at *
  generalize S.getD (j + (n - 1)) 0 = u1 at *
  generalize S.getD (j + (n - 2)) 0 = u2 at *
  generalize lb.getD (n - 1) 0 = vt at *
  generalize lb.getD (n - 2) 0 = v2 at *
  have hor := or_limb u0 u1 lu0 lu1
  obtain ⟨top, htop⟩ : ∃ top : Nat, u0 * 4294967296 + u1 = top := ⟨_, rfl⟩
  rw [htop] at hor hK
  have htl : top ≤ 18446744073709551615 := by omega
  have hst := hid hK.out.start
  have hgI : (top : Int).tdiv (vt : Int) = ((top / vt : Nat) : Int) := by rw [Int.tdiv_eq_ediv_of_nonneg (by omega)]; exact (Int.natCast_ediv _ _).symm
  have hrI : (top : Int).tmod (vt : Int) = ((top % vt : Nat) : Int) := by rw [Int.tmod_eq_emod_of_nonneg (by omega)]; exact (Int.natCast_emod _ _).symm
  have hgI2 : (top : Int) / (vt : Int) = ((top / vt : Nat) : Int) := (Int.natCast_ediv _ _).symm
  have hrI2 : (top : Int) % (vt : Int) = ((top % vt : Nat) : Int) := (Int.natCast_emod _ _).symm
  have hg0 : top / vt ≤ 8589934591 := by
    have : top / vt < 8589934592 := by rw [Nat.div_lt_iff_lt_mul (by omega)]; omega
    omega
  have hr0 : top % vt < vt := Nat.mod_lt _ (by omega)
  have hgr : Hid (top / vt * vt + top % vt = top) := Nat.div_add_mod' top vt
  obtain ⟨Q, hQ⟩ : ∃ Q, val S / 4294967296 ^ j / val lb = Q := ⟨_, rfl⟩
  rw [hQ] at hst ⊢
  have hQ' := hid hQ
  generalize top / vt = g0 at *
  generalize top % vt = r0 at *
  clear hQ htop
  go_enter Try.func72, Try.ntmps72
  go_wp2
  go_quiet (fail)
  go_wp2
  go_loopw [7, 8] (fun gv rv wr => ∃ (g r : Nat), gv = .int .u64 g ∧ rv = .int .u64 r ∧ g ≤ 8589934591 ∧ r < 4294967296 ∧ Hid (g * vt + r = top) ∧ Hid (Q ≤ g) ∧ Dr w wr) (fun gv _ _ => (intOf gv).toNat)
  case atStart => exact ⟨g0, r0, rfl, rfl, hg0, by omega, hgr, hst, ⟨_, rfl⟩⟩
  case round =>
    clear hgI hgI2 hg0 hst hrI hrI2 hr0 hgr hor htl
    obtain ⟨g, r, rfl, rfl, hg, hr, hgr, hQg, hDw⟩ := hrel
    have cu0 := (hDw.cell _).trans cu0
    have cu1 := (hDw.cell _).trans cu1
    have cu2 := (hDw.cell _).trans cu2
    have cv1 := (hDw.cell _).trans cv1
    have cv2 := (hDw.cell _).trans cv2
    have hor := or_limb r u2 hr lu2
    have hpI : (g : Int) * (v2 : Int) = ((g * v2 : Nat) : Int) := by push_cast; rfl
    have hQ1 := hid hK.out.q_lt
    rw [hQ'.out] at hQ1
    have hQ2 := hid (hK.out.dec2 hgr.out)
    rw [hQ'.out] at hQ2
    have hpb : g < 4294967296 → g * v2 ≤ 18446744065119617025 := fun h => limb_prod h lv2
    obtain ⟨p, hpe⟩ : ∃ p, g * v2 = p := ⟨_, rfl⟩
    obtain ⟨y, hye⟩ : ∃ y, r * 4294967296 + u2 = y := ⟨_, rfl⟩
    have hyb : y ≤ 18446744073709551615 := by omega
    rw [hpe] at hpI hQ2 hpb
    rw [hye] at hor hQ2
    have hpe' := hid hpe
    have hye' := hid hye
    clear hpe hye
    by_cases hgo : (4294967296 ≤ g ∨ y < p) ∧ r + vt < 4294967296
    · obtain ⟨hgo, hrv⟩ := hgo
      have hdec : Hid (Q + 1 ≤ g) := by
        show _ ≤ _
        rcases hgo with h | h
        · have := hQ1.out; omega
        · exact hQ2.out h
      have hg1 : 1 ≤ g := by have := hdec.out; omega
      have hgr' : Hid ((g - 1) * vt + (r + vt) = top) := by
        show _ = _
        have h1 := hgr.out
        rw [show g = g - 1 + 1 by omega, Nat.add_mul] at h1
        omega
      rcases hgo with h | h
      · clear hpb hQ1 hQ2
        have d1 : decide (4294967295 < g) = true := decide_eq_true (by omega)
        have d2 : decide ((4294967295 : Int) < (g : Int)) = true := decide_eq_true (by omega)
        go_wp2
        go_quiet (fail)
        go_wp2
        go_roundw
        case rel => exact ⟨g - 1, r + vt, by go_num, by go_num, by omega, hrv, hgr', by have := hdec.out; show _ ≤ _; omega, hDw.drewN _⟩
        case measure => simp [intOf]; omega
      · by_cases hgb : 4294967296 ≤ g
        · clear hpb hQ1 hQ2
          have d1 : decide (4294967295 < g) = true := decide_eq_true (by omega)
          have d2 : decide ((4294967295 : Int) < (g : Int)) = true := decide_eq_true (by omega)
          go_wp2
          go_quiet (fail)
          go_wp2
          go_roundw
          case rel => exact ⟨g - 1, r + vt, by go_num, by go_num, by omega, hrv, hgr', by have := hdec.out; show _ ≤ _; omega, hDw.drewN _⟩
          case measure => simp [intOf]; omega
        · have hpp := hpb (by omega)
          have d1 : decide (4294967295 < g) = false := decide_eq_false (by omega)
          have d2 : decide ((4294967295 : Int) < (g : Int)) = false := decide_eq_false (by omega)
          have d3 : decide (r ≤ 4294967295) = true := decide_eq_true (by omega)
          have d4 : decide ((r : Int) ≤ 4294967295) = true := decide_eq_true (by omega)
          have d5 : decide (y < p) = true := decide_eq_true (by omega)
          have d6 : decide ((y : Int) < (p : Int)) = true := decide_eq_true (by omega)
          clear hpb hQ1 hQ2
          go_wp2
          go_quiet (fail)
          go_wp2
          go_roundw
          case rel => exact ⟨g - 1, r + vt, by go_num, by go_num, by omega, hrv, hgr', by have := hdec.out; show _ ≤ _; omega, hDw.drewN _⟩
          case measure => simp [intOf]; omega
    · have h3 : (4294967296 ≤ g ∧ 4294967296 ≤ r + vt) ∨ (g < 4294967296 ∧ y < p ∧ 4294967296 ≤ r + vt) ∨ (g < 4294967296 ∧ p ≤ y) := by omega
      clear hgo
      rcases h3 with ⟨h1, h2⟩ | ⟨h1, h1', h2⟩ | ⟨h1, h2⟩
      all_goals
        first
          | (have d1 : decide (4294967295 < g) = true := decide_eq_true (by omega)
             have d2 : decide ((4294967295 : Int) < (g : Int)) = true := decide_eq_true (by omega)
             have hq : Q < g := by have h5 := hQ1.out; omega
             have hgt : (g - 1) * vt + (r + vt) = top := by
               have h5 := hgr.out
               rw [show g = g - 1 + 1 by omega, Nat.add_mul] at h5
               omega
             obtain ⟨G, hGe⟩ : ∃ G, G = g - 1 := ⟨_, rfl⟩
             have hGg : (g : Int) - 1 = (G : Int) := by omega
             rw [← hGe] at hgt
             have hGF : Hid (G < 4294967296 ∧ Q ≤ G ∧ G * val lb < val S / 4294967296 ^ j + val lb) := ⟨hK.out.below hgt h2, by omega, hK.out.endA hgt h2⟩
             have hGb : G ≤ 4294967295 := by have := hGF.out.1; omega
             clear hgt hGe
             clear hpb hQ1 hQ2
             go_wp2
             go_quiet (fail)
             go_wp2)
          | (have hq0 : Q < g := hQ2.out h1'
             have hpp := hpb (by omega)
             have hq : Q < g := hQ2.out h1'
             have hgt : (g - 1) * vt + (r + vt) = top := by
               have h5 := hgr.out
               rw [show g = g - 1 + 1 by omega, Nat.add_mul] at h5
               omega
             obtain ⟨G, hGe⟩ : ∃ G, G = g - 1 := ⟨_, rfl⟩
             have hGg : (g : Int) - 1 = (G : Int) := by omega
             rw [← hGe] at hgt
             have hGF : Hid (G < 4294967296 ∧ Q ≤ G ∧ G * val lb < val S / 4294967296 ^ j + val lb) := ⟨hK.out.below hgt h2, by omega, hK.out.endA hgt h2⟩
             have hGb : G ≤ 4294967295 := by have := hGF.out.1; omega
             clear hgt hGe
             have d1 : decide (4294967295 < g) = false := decide_eq_false (by omega)
             have d2 : decide ((4294967295 : Int) < (g : Int)) = false := decide_eq_false (by omega)
             have d3 : decide (r ≤ 4294967295) = true := decide_eq_true (by omega)
             have d4 : decide ((r : Int) ≤ 4294967295) = true := decide_eq_true (by omega)
             have d5 : decide (y < p) = true := decide_eq_true (by omega)
             have d6 : decide ((y : Int) < (p : Int)) = true := decide_eq_true (by omega)
             clear hpb hQ1 hQ2
             go_wp2
             go_quiet (fail)
             go_wp2)
          | (have hpp := hpb (by omega)
             have hGF : Hid (g < 4294967296 ∧ Q ≤ g ∧ g * val lb < val S / 4294967296 ^ j + val lb) := ⟨h1, hQg.out, hK.out.endB hgr.out h1 (by rw [hpe'.out, hye'.out]; exact h2)⟩
             have hGb : g ≤ 4294967295 := by omega
             have d1 : decide (4294967295 < g) = false := decide_eq_false (by omega)
             have d2 : decide ((4294967295 : Int) < (g : Int)) = false := decide_eq_false (by omega)
             have d3 : decide (r ≤ 4294967295) = true := decide_eq_true (by omega)
             have d4 : decide ((r : Int) ≤ 4294967295) = true := decide_eq_true (by omega)
             have d5 : decide (y < p) = false := decide_eq_false (by omega)
             have d6 : decide ((y : Int) < (p : Int)) = false := decide_eq_false (by omega)
             obtain ⟨G, rfl⟩ : ∃ G, G = g := ⟨g, rfl⟩
             clear hpb hQ1 hQ2
             go_wp2
             go_quiet (fail)
             go_wp2)
        clear hgr hQg hpI hpe' hye' hor hg hr hyb
        have hSI := hid (subIn_start S lb G j)
        go_loopw [9, 10, 89] (fun cv bv iv wr => ∃ (k cy bo : Nat) (S1 : List Nat), k ≤ n ∧ iv = .int .i64 k ∧ cv = .int .u64 cy ∧ cy ≤ 4294967295 ∧ bv = .int .u64 bo ∧ bo ≤ 1 ∧ Own B wr (some ⟨gu, 0, none⟩) N C S1 ∧ Hid (SubIn S S1 lb G j k (cy + bo)) ∧ Kp (fun b => b = gu) w wr) (fun _ _ iv _ => n - (intOf iv).toNat)
        case atStart => exact ⟨0, 0, 0, S, by omega, rfl, rfl, by omega, rfl, by omega, (hDw.drewN _).own HO.out, hSI, (hDw.drewN _).kp _⟩
        case round =>
          clear hSI hDw
          obtain ⟨k, cy, bo, S1, hk, rfl, rfl, hcy, rfl, hbo, hO1, hS1, hK1⟩ := hrel
          by_cases hlt : k < n
          · have cu := hO1.cell (i := j + k) (by omega)
            rw [hS1.out.2 (j + k) (Nat.le_refl _)] at cu
            have cf := hO1.free (j + k)
            have cv := (HV.out.kp hK1 (fun b o e => by cases e; exact hne)).cell (i := k) (by omega)
            have lu := HO.out.lim.getD (j + k)
            have lv := HV.out.lim.getD k
            have HN := hid (fun q t h => subIn_step (q := q) (t := t) hS1.out (by rw [hO1.len]; omega) h)
            have HS := hid (fun (X : Int) (x : Nat) (hX : X = (x : Int)) (hx : x < 4294967296) => hO1.setI (j + k) x hX hx)
            have HK1 := hid (fun v => hK1.setCell (ad := ⟨gu, j + k, none⟩) (p := fun b => b = gu) rfl v)
            generalize S.getD (j + k) 0 = ui at *
            generalize lb.getD k 0 = x at *
            have hpI : (G : Int) * (x : Int) = ((G * x : Nat) : Int) := by push_cast; rfl
            have hpb := limb_prod (x := G) (y := x) (by omega) lv
            obtain ⟨p, hpe⟩ : ∃ p, G * x = p := ⟨_, rfl⟩
            rw [hpe] at hpI hpb HN
            obtain ⟨c, hce⟩ : ∃ c, cy + p = c := ⟨_, rfl⟩
            have hcI : (cy : Int) + (p : Int) = (c : Int) := by omega
            have hcb : c ≤ 18446744069414584320 := by omega
            have hand := and_limb c (by omega)
            have hmb : c % 4294967296 < 4294967296 := Nat.mod_lt _ (by decide)
            have hdm := hid (Nat.div_add_mod c 4294967296)
            have hdI : (c : Int) / 4294967296 = ((c / 4294967296 : Nat) : Int) := by omega
            have hdb : c / 4294967296 ≤ 4294967295 := by omega
            have HC := hid hce
            generalize c % 4294967296 = m at *
            generalize c / 4294967296 = t at *
            clear hO1 hS1 hK1 hpe hce
            by_cases hb : ui < m + bo
            · go_wp2
              go_roundw
              case rel => exact ⟨k + 1, t, 1, _, by omega, by go_num, rfl, hdb, rfl, Nat.le_refl _, HS.out _ (ui + 4294967296 - (m + bo)) (by omega) (by omega), HN.out _ (t + 1) (by have h5 := HC.out; have h6 := hdm.out; omega), HK1.out _⟩
              case measure => simp [intOf]; omega
            · have hb' : m + bo ≤ ui := by omega
              clear hb
              go_wp2
              go_roundw
              case rel => exact ⟨k + 1, t, 0, _, by omega, by go_num, rfl, hdb, rfl, by omega, HS.out _ (ui - (m + bo)) (by omega) (by omega), HN.out _ t (by have h5 := HC.out; have h6 := hdm.out; omega), HK1.out _⟩
              case measure => simp [intOf]; omega
          · obtain rfl : k = n := by omega
            have hlen := hid HV.out.len
            have hLb := hid HV.out.lim
            have cu := hO1.cell (i := j + k) (by omega)
            rw [hS1.out.2 (j + k) (Nat.le_refl _)] at cu
            have cf := hO1.free (j + k)
            have lu := HO.out.lim.getD (j + k)
            have HN := hid (fun q t h => subIn_step (q := q) (t := t) hS1.out (by rw [hO1.len]; omega) h)
            rw [getD_ge lb k (by rw [hlen.out]; exact Nat.le_refl _), Nat.mul_zero, Nat.add_zero] at HN
            have HS := hid (fun (X : Int) (x : Nat) (hX : X = (x : Int)) (hx : x < 4294967296) => hO1.setI (j + k) x hX hx)
            have HK1 := hid (fun v => hK1.setCell (ad := ⟨gu, j + k, none⟩) (p := fun b => b = gu) rfl v)
            have H0 : Hid (val S < 4294967296 ^ (j + k + 1)) := by
              show _ < _
              have h5 := val_lt hLb.out
              rw [hlen.out] at h5
              refine Nat.lt_of_lt_of_le Hlt.out ?_
              have h6 : 4294967296 ^ (j + k + 1) = 4294967296 ^ k * 4294967296 ^ (j + 1) := by rw [← Nat.pow_add]; congr 1; omega
              rw [h6]
              exact Nat.mul_le_mul_right _ (Nat.le_of_lt h5)
            have H1 : Hid (val S / 4294967296 ^ j / val lb ≤ G) := by show _ ≤ _; rw [hQ'.out]; exact hGF.out.2.1
            generalize S.getD (j + k) 0 = un at *
            clear hO1 hS1 hK1
            by_cases hb : un < cy + bo
            · have HO2 := hid (HS.out (((un : Int) - ((cy : Int) + (bo : Int))) % 4294967296) (un + 4294967296 - (cy + bo)) (by omega) (by omega))
              have hS2 := hid (HN.out (un + 4294967296 - (cy + bo)) 1 (by omega))
              have hL2 := hid HO2.out.lim
              have hGQ := hid (sub_end1 hp H1.out hGF.out.2.2 hlen.out hS2.out HO.out.lim H0.out hL2.out)
              generalize S1.set (j + k) (un + 4294967296 - (cy + bo)) = S2 at *
              have hQG : G = Q + 1 := by rw [← hQ'.out]; exact hGQ.out
              have hQb : Q ≤ 4294967294 := by omega
              have hAE := hid (fun (S4 : List Nat) (c : Nat) (ha : AddIn S2 S4 lb j (k + 1) c) (h4 : Lim S4) => add_end hp hGQ.out hlen.out hS2.out HO.out.lim H0.out hL2.out ha h4)
              clear hGb hGQ HN HS hS2 H1 hGF hL2
              try clear hGg
              subst hQG
              have hAI := hid (addIn_start S2 lb j)
              go_wp2
              go_loopw [9, 145] (fun cv iv wr => ∃ (i cy : Nat) (S3 : List Nat), i ≤ k ∧ iv = .int .i64 i ∧ cv = .int .u64 cy ∧ cy ≤ 1 ∧ Own B wr (some ⟨gu, 0, none⟩) N C S3 ∧ Hid (AddIn S2 S3 lb j i cy) ∧ Kp (fun b => b = gu) w wr) (fun _ iv _ => k - (intOf iv).toNat)
              case atStart => exact ⟨0, 0, S2, by omega, rfl, rfl, by omega, HO2.out, hAI, HK1.out _⟩
              case round =>
                clear hAI cu cf hcy hbo hb lu
                obtain ⟨i, cz, S3, hi3, rfl, rfl, hcz, hO3, hA3, hK3⟩ := hrel
                by_cases hik : i < k
                · have cu := hO3.cell (i := j + i) (by omega)
                  rw [hA3.out.2 (j + i) (Nat.le_refl _)] at cu
                  have cf := hO3.free (j + i)
                  have cv := (HV.out.kp hK3 (fun b o e => by cases e; exact hne)).cell (i := i) (by omega)
                  have lu := HO2.out.lim.getD (j + i)
                  have lv := HV.out.lim.getD i
                  have HN := hid (fun q t h => addIn_step (q := q) (t := t) hA3.out (by rw [hO3.len]; omega) h)
                  have HS := hid (fun (X : Int) (x : Nat) (hX : X = (x : Int)) (hx : x < 4294967296) => hO3.setI (j + i) x hX hx)
                  have HK3 := hid (fun v => hK3.setCell (ad := ⟨gu, j + i, none⟩) (p := fun b => b = gu) rfl v)
                  generalize S2.getD (j + i) 0 = ui at *
                  generalize lb.getD i 0 = x at *
                  clear hO3 hA3 hK3
                  go_wp2
                  go_roundw
                  case rel => exact ⟨i + 1, (cz + (ui + x)) / 4294967296, _, by omega, by go_num, by go_num, by omega, HS.out _ ((cz + (ui + x)) % 4294967296) (by omega) (by omega), HN.out _ _ (Nat.mod_add_div' _ _), HK3.out _⟩
                  case measure => simp [intOf]; omega
                · obtain rfl : i = k := by omega
                  have cu := hO3.cell (i := j + i) (by omega)
                  rw [hA3.out.2 (j + i) (Nat.le_refl _)] at cu
                  have cf := hO3.free (j + i)
                  have lu := HO2.out.lim.getD (j + i)
                  have HN := hid (fun q t h => addIn_step (q := q) (t := t) hA3.out (by rw [hO3.len]; omega) h)
                  rw [getD_ge lb i (by rw [hlen.out]; exact Nat.le_refl _), Nat.add_zero] at HN
                  have HS := hid (fun (X : Int) (x : Nat) (hX : X = (x : Int)) (hx : x < 4294967296) => hO3.setI (j + i) x hX hx)
                  have HK3 := hid (fun v => hK3.setCell (ad := ⟨gu, j + i, none⟩) (p := fun b => b = gu) rfl v)
                  generalize S2.getD (j + i) 0 = ui at *
                  clear hO3 hA3 hK3
                  go_wp2
                  go_ret
                  have HO4 := HS.out (((ui : Int) + (cz : Int)) % 4294967296) ((ui + cz) % 4294967296) (by omega) (by omega)
                  have h5 := hAE.out _ _ (HN.out ((ui + cz) % 4294967296) ((ui + cz) / 4294967296) (by omega)) HO4.lim
                  rw [Nat.add_sub_cancel] at h5
                  exact ⟨_, rfl, HO4, by omega, HK3.out _⟩
            · have hb' : cy + bo ≤ un := by omega
              have HO2 := hid (HS.out ((un : Int) - ((cy : Int) + (bo : Int))) (un - (cy + bo)) (by omega) (by omega))
              have hS2 := hid (HN.out (un - (cy + bo)) 0 (by omega))
              have hE := hid (sub_end0 hp H1.out hlen.out hS2.out HO.out.lim H0.out)
              clear hb
              have hGQ := hid (hE.out.1.trans hQ'.out)
              go_wp2
              go_ret
              exact ⟨_, by rw [hGQ.out]; rfl, HO2.out, by rw [← hGQ.out]; have h5 := hE.out.2; omega, HK1.out _⟩

end Go.Proofs.Ytennilapmcgnbaa
