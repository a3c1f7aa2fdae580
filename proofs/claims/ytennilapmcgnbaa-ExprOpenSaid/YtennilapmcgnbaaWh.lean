/- WALKS, 8: sums, differences, products, of the program and of the reference. -/
import Derived.Test.YtennilapmcgnbaaWg
import Derived.Test.YtennilapmcgnbaaPP
namespace Go.Proofs.Ytennilapmcgnbaa
set_option linter.unusedVariables false
open Go.ChangeShapes Go.WideShapes Go.ChangeAt Go.RowKit Go.NatP

theorem Own.setI {B g n c : Nat} {w : World} {l : List Nat} {X : Int} (h : Own B w (some ⟨g, 0, none⟩) n c l) (i x : Nat) (hX : X = (x : Int)) (hx : x < 4294967296) :
    Own B (w.setCell ⟨g, i, none⟩ (.int .u32 X)) (some ⟨g, 0, none⟩) n c (l.set i x) := by
  subst hX; exact h.set i x hx

set_option maxHeartbeats 1000000 in
theorem add_any {w : World} {a b : Option Addr} {n c m d : Nat} {la lb : List Nat} (ha : Rd w a n c la) (hb : Rd w b m d lb) (hn : n ≤ 16777216) (hm : m ≤ 16777216) :
    Calls Try.prog 49 #[.slice a n c, .slice b m d] w (Ret1 w (lm (val la + val lb))) := by
  obtain ⟨k, hk⟩ : ∃ k, (lm (val la)).length = k := ⟨_, rfl⟩
  obtain ⟨j, hj⟩ : ∃ j, (lm (val lb)).length = j := ⟨_, rfl⟩
  obtain ⟨hRa, hka⟩ := ha.trim hk
  obtain ⟨hRb, hkb⟩ := hb.trim hj
  have hk' := hid hk
  have hj' := hid hj
  have hbA := hRa.bnd
  have hbB := hRb.bnd
  clear hk hj
  by_cases hkj : k < j
  · skip
    have hj : j ≤ m := hkb
    go_enter Try.func49, Try.ntmps49
    go_wp2_with fail
    refine (trim_any ha hk'.out).mono ?_
    rintro e w' ⟨rfl, rfl⟩
    go_wp2_with fail
    refine (trim_any hb hj'.out).mono ?_
    rintro e w' ⟨rfl, rfl⟩
    go_wp2_with (at_make; refine wpList_mk (B := w.heap.size) rfl _ _ rfl _ (j + 1) rfl rfl ?_ ?_ (Nat.le_refl _) ?_)
    · omega
    · omega
    intro w1 hO1 hK1
    have hB1 : Below w.heap.size w w1 := hK1.toBelow (fun _ _ h => h)
    go_wp2
    go_loopw [6, 26] (fun cv iv wr => ∃ (i cy : Nat) (S : List Nat), i ≤ j ∧ iv = .int .i64 i ∧ cv = .int .u64 cy ∧ cy ≤ 1 ∧ Own w.heap.size wr (some ⟨w.heap.size, 0, none⟩) (j + 1) (j + 1) S ∧ Hid (val (S.take i) + cy * 4294967296 ^ i = val ((lm (val lb)).take i) + val ((lm (val la)).take i)) ∧ Below w.heap.size w wr) (fun _ iv _ => j - (intOf iv).toNat)
    case atStart => exact ⟨0, 0, _, by omega, rfl, rfl, by omega, hO1, by show _ = _; simp [val], hB1⟩
    case round =>
      clear hO1 hK1 hB1
      obtain ⟨i, cy, S, hi, rfl, rfl, hcy, hO, hV, hB⟩ := hrel
      by_cases hlt : i < j
      · obtain ⟨ba, oa, rfl, hca⟩ := (hRb.below hB).get hlt
        have hxa := hRb.lim.getD i
        have hcS := hO.cell (i := i) (by omega)
        have hfS := hO.free i
        have hxb := hRa.lim.getD i
        have hV' : Hid (val (S.take i) + (cy + (lm (val lb)).getD i 0 + (lm (val la)).getD i 0) % 4294967296 * 4294967296 ^ i + (cy + (lm (val lb)).getD i 0 + (lm (val la)).getD i 0) / 4294967296 * 4294967296 ^ (i + 1) = val ((lm (val lb)).take (i + 1)) + val ((lm (val la)).take (i + 1))) := by
          show _ = _
          rw [val_take_succ', val_take_succ', Nat.pow_succ]
          exact add_step hV.out
        have HOs := fun (X : Int) (x : Nat) (hX : X = (x : Int)) (hx : x < 4294967296) => hO.setI i x hX hx
        have HVs := fun x => val_set_take S i x (by rw [hO.len]; omega)
        by_cases hM : i < k
        · obtain ⟨bb, ob, rfl, hcb⟩ := (hRa.below hB).get hM
          generalize (lm (val lb)).getD i 0 = x at *
          generalize (lm (val la)).getD i 0 = y at *
          generalize S.getD i 0 = z at *
          have HOs' := hid HOs
          have HVs' := hid HVs
          clear hV HOs HVs
          go_wp2
          go_roundw
          case rel => exact ⟨i + 1, (cy + x + y) / 4294967296, S.set i ((cy + x + y) % 4294967296), by omega, by go_num, by go_num, by omega, HOs'.out _ _ (by omega) (by omega), by show _ = _; rw [HVs'.out]; exact hV'.out, hB.setCell (Nat.le_refl _) _⟩
          case measure => simp [intOf]; omega
        · have hy0 : (lm (val la)).getD i 0 = 0 := getD_ge _ _ (by rw [hRa.len]; omega)
          rw [hy0] at hV'
          generalize (lm (val lb)).getD i 0 = x at *
          generalize S.getD i 0 = z at *
          have HOs' := hid HOs
          have HVs' := hid HVs
          clear hV HOs HVs hy0 hxb
          go_wp2
          go_roundw
          case rel => exact ⟨i + 1, (cy + x) / 4294967296, S.set i ((cy + x) % 4294967296), by omega, by go_num, by go_num, by omega, HOs'.out _ _ (by omega) (by omega), by show _ = _; rw [HVs'.out]; exact hV'.out, hB.setCell (Nat.le_refl _) _⟩
          case measure => simp [intOf]; omega
      · obtain rfl : i = j := by omega
        have hcS := hO.cell (i := i) (by omega)
        have hfS := hO.free i
        have hO' := hO.setI (X := (cy : Int)) i cy rfl (by omega)
        have hD : Hid (val (S.set i cy) = val lb + val la) := by
          have := add_done hO.len (by rw [hRb.len]; exact Nat.le_refl _) (by rw [hRa.len]; omega) hV.out
          rwa [val_lm, val_lm] at this
        have hB' : Below w.heap.size w (wr.setCell ⟨w.heap.size, i, none⟩ (.int .u32 (cy : Int))) := hB.setCell (Nat.le_refl _) _
        generalize S.getD i 0 = z at *
        clear hV
        go_wp2_with fail
        refine (own_any (l := S.set i cy) ?_ ?_).mono ?_
        · exact hO'.rd
        · omega
        rintro e w2 ⟨a2, n2, c2, rfl, hO2, hB2⟩
        rw [hD.out] at hO2
        go_wp2
        go_ret
        exact ⟨a2, n2, c2, rfl, by rw [Nat.add_comm]; exact hO2.mono hB'.size, hB'.next hB2⟩
  · skip
    have hk : k ≤ n := hka
    go_enter Try.func49, Try.ntmps49
    go_wp2_with fail
    refine (trim_any ha hk'.out).mono ?_
    rintro e w' ⟨rfl, rfl⟩
    go_wp2_with fail
    refine (trim_any hb hj'.out).mono ?_
    rintro e w' ⟨rfl, rfl⟩
    go_wp2_with (at_make; refine wpList_mk (B := w.heap.size) rfl _ _ rfl _ (k + 1) rfl rfl ?_ ?_ (Nat.le_refl _) ?_)
    · omega
    · omega
    intro w1 hO1 hK1
    have hB1 : Below w.heap.size w w1 := hK1.toBelow (fun _ _ h => h)
    go_wp2
    go_loopw [6, 26] (fun cv iv wr => ∃ (i cy : Nat) (S : List Nat), i ≤ k ∧ iv = .int .i64 i ∧ cv = .int .u64 cy ∧ cy ≤ 1 ∧ Own w.heap.size wr (some ⟨w.heap.size, 0, none⟩) (k + 1) (k + 1) S ∧ Hid (val (S.take i) + cy * 4294967296 ^ i = val ((lm (val la)).take i) + val ((lm (val lb)).take i)) ∧ Below w.heap.size w wr) (fun _ iv _ => k - (intOf iv).toNat)
    case atStart => exact ⟨0, 0, _, by omega, rfl, rfl, by omega, hO1, by show _ = _; simp [val], hB1⟩
    case round =>
      clear hO1 hK1 hB1
      obtain ⟨i, cy, S, hi, rfl, rfl, hcy, hO, hV, hB⟩ := hrel
      by_cases hlt : i < k
      · obtain ⟨ba, oa, rfl, hca⟩ := (hRa.below hB).get hlt
        have hxa := hRa.lim.getD i
        have hcS := hO.cell (i := i) (by omega)
        have hfS := hO.free i
        have hxb := hRb.lim.getD i
        have hV' : Hid (val (S.take i) + (cy + (lm (val la)).getD i 0 + (lm (val lb)).getD i 0) % 4294967296 * 4294967296 ^ i + (cy + (lm (val la)).getD i 0 + (lm (val lb)).getD i 0) / 4294967296 * 4294967296 ^ (i + 1) = val ((lm (val la)).take (i + 1)) + val ((lm (val lb)).take (i + 1))) := by
          show _ = _
          rw [val_take_succ', val_take_succ', Nat.pow_succ]
          exact add_step hV.out
        have HOs := fun (X : Int) (x : Nat) (hX : X = (x : Int)) (hx : x < 4294967296) => hO.setI i x hX hx
        have HVs := fun x => val_set_take S i x (by rw [hO.len]; omega)
        by_cases hM : i < j
        · obtain ⟨bb, ob, rfl, hcb⟩ := (hRb.below hB).get hM
          generalize (lm (val la)).getD i 0 = x at *
          generalize (lm (val lb)).getD i 0 = y at *
          generalize S.getD i 0 = z at *
          have HOs' := hid HOs
          have HVs' := hid HVs
          clear hV HOs HVs
          go_wp2
          go_roundw
          case rel => exact ⟨i + 1, (cy + x + y) / 4294967296, S.set i ((cy + x + y) % 4294967296), by omega, by go_num, by go_num, by omega, HOs'.out _ _ (by omega) (by omega), by show _ = _; rw [HVs'.out]; exact hV'.out, hB.setCell (Nat.le_refl _) _⟩
          case measure => simp [intOf]; omega
        · have hy0 : (lm (val lb)).getD i 0 = 0 := getD_ge _ _ (by rw [hRb.len]; omega)
          rw [hy0] at hV'
          generalize (lm (val la)).getD i 0 = x at *
          generalize S.getD i 0 = z at *
          have HOs' := hid HOs
          have HVs' := hid HVs
          clear hV HOs HVs hy0 hxb
          go_wp2
          go_roundw
          case rel => exact ⟨i + 1, (cy + x) / 4294967296, S.set i ((cy + x) % 4294967296), by omega, by go_num, by go_num, by omega, HOs'.out _ _ (by omega) (by omega), by show _ = _; rw [HVs'.out]; exact hV'.out, hB.setCell (Nat.le_refl _) _⟩
          case measure => simp [intOf]; omega
      · obtain rfl : i = k := by omega
        have hcS := hO.cell (i := i) (by omega)
        have hfS := hO.free i
        have hO' := hO.setI (X := (cy : Int)) i cy rfl (by omega)
        have hD : Hid (val (S.set i cy) = val la + val lb) := by
          have := add_done hO.len (by rw [hRa.len]; exact Nat.le_refl _) (by rw [hRb.len]; omega) hV.out
          rwa [val_lm, val_lm] at this
        have hB' : Below w.heap.size w (wr.setCell ⟨w.heap.size, i, none⟩ (.int .u32 (cy : Int))) := hB.setCell (Nat.le_refl _) _
        generalize S.getD i 0 = z at *
        clear hV
        go_wp2_with fail
        refine (own_any (l := S.set i cy) ?_ ?_).mono ?_
        · exact hO'.rd
        · omega
        rintro e w2 ⟨a2, n2, c2, rfl, hO2, hB2⟩
        rw [hD.out] at hO2
        go_wp2
        go_ret
        exact ⟨a2, n2, c2, rfl, hO2.mono hB'.size, hB'.next hB2⟩

end Go.Proofs.Ytennilapmcgnbaa
