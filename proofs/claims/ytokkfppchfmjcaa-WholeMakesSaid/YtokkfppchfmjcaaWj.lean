/- WALKS, 10: the reference's sums and differences. -/
import Derived.Test.YtokkfppchfmjcaaWi
namespace Go.Proofs.Ytokkfppchfmjcaa
set_option linter.unusedVariables false
open Go.ChangeShapes Go.WideShapes Go.ChangeAt Go.RowKit Go.NatP

theorem own_lt {B : Nat} {w : World} {a : Option Addr} {n c : Nat} {l : List Nat} (hO : Own B w a n c l) : ∀ k, k < B → ¬ (a = some ⟨k, 0, none⟩) := by
  intro j hj e
  subst e
  have := hO.lt
  omega

theorem val_snoc (l : List Nat) (x : Nat) : val (l ++ [x]) = val l + x * 4294967296 ^ l.length := by
  rw [val_append]; simp [val, Nat.mul_comm]

set_option maxHeartbeats 1000000 in
theorem radd_any {w : World} {a b : Option Addr} {n c m d : Nat} {la lb : List Nat} (ha : Rd w a n c la) (hb : Rd w b m d lb) (hn : n ≤ 16777216) (hm : m ≤ 16777216) :
    Calls Try.prog 84 #[.slice a n c, .slice b m d] w (Ret1 w (lm (val la + val lb))) := by
  have hbA := ha.bnd
  have hbB := hb.bnd
  have haR := hid ha
  have hbR := hid hb
  obtain ⟨M, hM1, hM2, hM3, hM4⟩ : ∃ M, n ≤ M ∧ m ≤ M ∧ M ≤ 16777216 ∧ (M ≤ n ∨ M ≤ m) := ⟨max n m, by omega, by omega, by omega, by omega⟩
  clear ha hb
  go_enter Try.func84, Try.ntmps84
  go_wp2
  go_loopw [5, 6, 7] (fun ov cv iv wr => ∃ (i cy c1 : Nat) (a1 : Option Addr) (l : List Nat), (i ≤ M ∨ i ≤ M + 1 ∧ cy < 1) ∧ ov = .slice a1 i c1 ∧ iv = .int .i64 i ∧ cv = .int .u64 cy ∧ cy ≤ 1 ∧ Own w.heap.size wr a1 i c1 l ∧ Hid (val l + cy * 4294967296 ^ i = val (la.take i) + val (lb.take i)) ∧ Below w.heap.size w wr) (fun _ cv iv _ => 2 * (M - (intOf iv).toNat) + (intOf cv).toNat)
  case atStart => exact ⟨0, 0, 0, none, [], by omega, rfl, rfl, rfl, by omega, own_nil _ _, by show _ = _; simp [val], Below.refl _ _⟩
  case round =>
    obtain ⟨i, cy, c1, a1, l, hi, rfl, rfl, rfl, hcy, hO, hV, hB⟩ := hrel
    have hbO := hO.bnd
    have hsz := hB.size
    have hi' : i ≤ 16777217 := by omega
    have C1 := hid (fun w' (hB : Below w.heap.size w w') => limb_any (haR.out.below hB) (i : Int) (by omega))
    have C2 := hid (fun w' (hB : Below w.heap.size w w') => limb_any (hbR.out.below hB) (i : Int) (by omega))
    rw [Int.toNat_natCast] at C1 C2
    have hx := haR.out.lim.getD i
    have hy := hbR.out.lim.getD i
    have HN : Hid (∀ l', l'.length = i → val l' = val l → val (l' ++ [(cy + la.getD i 0 + lb.getD i 0) % 4294967296]) + (cy + la.getD i 0 + lb.getD i 0) / 4294967296 * 4294967296 ^ (i + 1) = val (la.take (i + 1)) + val (lb.take (i + 1))) := by
      intro l' h1 h2
      rw [val_snoc, h1, h2, val_take_succ', val_take_succ', Nat.pow_succ]
      exact add_step hV.out
    have hxz : n ≤ i → la.getD i 0 = 0 := fun h => getD_ge _ _ (by rw [haR.out.len]; omega)
    have hyz : m ≤ i → lb.getD i 0 = 0 := fun h => getD_ge _ _ (by rw [hbR.out.len]; omega)
    by_cases hend : i < n ∨ i < m ∨ 0 < cy
    · have hcyz : M ≤ i → la.getD i 0 = 0 ∧ lb.getD i 0 = 0 := fun h => ⟨hxz (by omega), hyz (by omega)⟩
      generalize la.getD i 0 = x at *
      generalize lb.getD i 0 = y at *
      have hq : (cy + x + y) / 4294967296 ≤ 1 := by omega
      have hq0 : M ≤ i → (cy + x + y) / 4294967296 < 1 := fun h => by have := hcyz h; omega
      have Hq0 := hid hq0
      have hci : i ≤ M := by omega
      clear hV hxz hyz hcyz hq0
      have hcase : (i < n) ∨ (¬ i < n ∧ i < m) ∨ (¬ i < n ∧ ¬ i < m ∧ 0 < cy) := by omega
      clear hend hi
      rcases hcase with h1 | ⟨h1, h2⟩ | ⟨h1, h2, h3⟩
      all_goals
        go_wp2_with fail
        refine (C1.out wr hB).mono ?_
        rintro e w' ⟨rfl, rfl⟩
        go_wp2_with fail
        refine (C2.out _ hB).mono ?_
        rintro e w' ⟨rfl, rfl⟩
        go_wp2_with (at_builtin; refine wpList_app1 (y := (cy + x + y) % 4294967296) rfl _ _ rfl rfl (hO.alloc _) _ 1 rfl (by omega) (by go_simp) (by simp; omega) (by omega) ?_; intro a2 c2 w2 hO2 hK2 _)
        go_roundw
        case rel => exact ⟨i + 1, (cy + x + y) / 4294967296, c2, a2, _, by have := Hq0.out; omega, rfl, by go_num, by go_num, hq, hO2, HN.out l hO.len rfl, (hB.alloc hsz _).kp hK2 (by simp; omega) (own_lt hO)⟩
        case measure =>
          have := Hq0.out
          simp [intOf]
          omega
    · have hD : Hid (val l = val la + val lb) := by
        have h0 : cy = 0 := by omega
        have := hV.out
        rw [h0, val_take_all la _ (by rw [haR.out.len]; omega), val_take_all lb _ (by rw [hbR.out.len]; omega)] at this
        show _ = _
        omega
      have h1 : ¬ i < n := by omega
      have h2 : ¬ i < m := by omega
      have h3 : ¬ 0 < cy := by omega
      clear hV hxz hyz hend hi HN
      go_wp2_with fail
      refine (rnorm_any hO.rd (by omega)).mono ?_
      rw [hD.out]
      rintro e w3 ⟨a3, n3, c3, rfl, hO3, hB3⟩
      go_wp2
      go_ret
      exact ⟨a3, n3, c3, rfl, hO3.mono hsz, hB.next hB3⟩

set_option maxHeartbeats 1000000 in
theorem rsub_any {w : World} {a b : Option Addr} {n c m d : Nat} {la lb : List Nat} (ha : Rd w a n c la) (hb : Rd w b m d lb) (hn : n ≤ 16777216) :
    Calls Try.prog 85 #[.slice a n c, .slice b m d] w (RetSub w (val la) (val lb)) := by
  have hbA := ha.bnd
  have hbB := hb.bnd
  have haR := hid ha
  have hbR := hid hb
  by_cases hle : val lb ≤ val la
  · have hc : 0 ≤ cmpI (val la) (val lb) := Int.not_lt.1 fun h => by have := cmpI_neg.1 h; omega
    have HD : Hid (decide (val lb ≤ val la) = true) := decide_eq_true hle
    have HL := hid hle
    have HC := hid (rcmp_any ha hb)
    generalize cmpI (val la) (val lb) = z at *
    clear hle ha hb
    go_enter Try.func85, Try.ntmps85
    go_wp2_with fail
    refine HC.out.mono ?_
    rintro e w1 ⟨rfl, hD1⟩
    go_wp2
    go_loopw [6, 7, 8] (fun ov cv iv wr => ∃ (i cy c1 : Nat) (a1 : Option Addr) (l : List Nat), i ≤ n ∧ ov = .slice a1 i c1 ∧ iv = .int .i64 i ∧ cv = .int .u64 cy ∧ cy ≤ 1 ∧ Own w.heap.size wr a1 i c1 l ∧ Hid (val l + val (lb.take i) = val (la.take i) + cy * 4294967296 ^ i) ∧ Below w.heap.size w wr) (fun _ cv iv _ => n - (intOf iv).toNat)
    case atStart => exact ⟨0, 0, 0, none, [], by omega, rfl, rfl, rfl, by omega, own_nil _ _, by show _ = _; simp [val], hD1.below _⟩
    case round =>
      obtain ⟨i, cy, c1, a1, l, hi, rfl, rfl, rfl, hcy, hO, hV, hB⟩ := hrel
      have hbO := hO.bnd
      have hsz := hB.size
      by_cases hlt : i < n
      · have C1 := hid (fun w' (hB : Below w.heap.size w w') => limb_any (haR.out.below hB) (i : Int) (by omega))
        have C2 := hid (fun w' (hB : Below w.heap.size w w') => limb_any (hbR.out.below hB) (i : Int) (by omega))
        rw [Int.toNat_natCast] at C1 C2
        have hx := haR.out.lim.getD i
        have hy := hbR.out.lim.getD i
        have HN : Hid (∀ t b', la.getD i 0 + b' * 4294967296 = lb.getD i 0 + cy + t → val (l ++ [t]) + val (lb.take (i + 1)) = val (la.take (i + 1)) + b' * 4294967296 ^ (i + 1)) := by
          intro t b' h
          rw [val_snoc, hO.len, val_take_succ', val_take_succ', Nat.pow_succ]
          exact sub_step hV.out h
        generalize la.getD i 0 = x at *
        generalize lb.getD i 0 = y at *
        clear hV
        by_cases hxy : x < y + cy
        · go_wp2_with fail
          refine (C1.out wr hB).mono ?_
          rintro e w' ⟨rfl, rfl⟩
          go_wp2_with fail
          refine (C2.out _ hB).mono ?_
          rintro e w' ⟨rfl, rfl⟩
          go_wp2_with (at_builtin; refine wpList_app1 (y := x + 4294967296 - (y + cy)) rfl _ _ rfl rfl (hO.alloc _) _ 1 rfl (by omega) (by go_simp; omega) (by simp; omega) (by omega) ?_; intro a2 c2 w2 hO2 hK2 _)
          go_roundw
          case rel => exact ⟨i + 1, 1, c2, a2, _, by omega, rfl, by go_num, rfl, by omega, hO2, HN.out _ _ (by omega), (hB.alloc hsz _).kp hK2 (by simp; omega) (own_lt hO)⟩
          case measure => simp [intOf]; omega
        · go_wp2_with fail
          refine (C1.out wr hB).mono ?_
          rintro e w' ⟨rfl, rfl⟩
          go_wp2_with fail
          refine (C2.out _ hB).mono ?_
          rintro e w' ⟨rfl, rfl⟩
          go_wp2_with (at_builtin; refine wpList_app1 (y := x - (y + cy)) rfl _ _ rfl rfl (hO.alloc _) _ 1 rfl (by omega) (by go_simp; omega) (by simp; omega) (by omega) ?_; intro a2 c2 w2 hO2 hK2 _)
          go_roundw
          case rel => exact ⟨i + 1, 0, c2, a2, _, by omega, rfl, by go_num, rfl, by omega, hO2, HN.out _ _ (by omega), (hB.alloc hsz _).kp hK2 (by simp; omega) (own_lt hO)⟩
          case measure => simp [intOf]; omega
      · obtain rfl : i = n := by omega
        have hDD : Hid (val l = val la - val lb) := by
          have := hV.out
          refine sub_done hO.len hO.lim haR.out.len haR.out.lim hbR.out.lim HL.out (c := cy) ?_
          rw [val_take_all l _ (by rw [hO.len]; exact Nat.le_refl _)]
          exact this
        clear hV
        go_wp2_with fail
        refine (rnorm_any hO.rd (by omega)).mono ?_
        rw [hDD.out]
        rintro e w3 ⟨a3, n3, c3, rfl, hO3, hB3⟩
        go_wp2
        go_ret2
        exact ⟨a3, n3, c3, by rw [HD.out]; rfl, hO3.mono hsz, hB.next hB3⟩
  · have hc : cmpI (val la) (val lb) < 0 := cmpI_neg.2 (by omega)
    have HD : Hid (decide (val lb ≤ val la) = false) := decide_eq_false hle
    have HC := hid (rcmp_any ha hb)
    have HL : Hid (lm (val la - val lb) = []) := lm_eq_nil.2 (by omega)
    generalize cmpI (val la) (val lb) = z at *
    clear hle
    go_enter Try.func85, Try.ntmps85
    go_wp2_with fail
    refine HC.out.mono ?_
    rintro e w1 ⟨rfl, hD1⟩
    go_wp2
    go_ret2
    exact ⟨none, 0, 0, by rw [HD.out]; rfl, by rw [HL.out]; exact own_nil _ _, hD1.below _⟩

end Go.Proofs.Ytokkfppchfmjcaa
