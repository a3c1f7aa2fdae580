/- WALKS, 31: texts of digits. -/
import Derived.Test.YtknpacegaclcgaaWD
import Derived.Test.YtknpacegaclcgaaPn
import Derived.Deep.RegionWith
namespace Go.Proofs.Ytknpacegaclcgaa
set_option linter.unusedVariables false
open Go.ChangeShapes Go.WideShapes Go.ChangeAt Go.RowKit Go.NatP

theorem by_txt {l : List Nat} (h : ∀ x ∈ l, x < 256) : by' (txt l) = l := by
  unfold by' txt
  rw [strOfNums_data, List.map_map, List.map_map]
  conv => rhs; rw [← List.map_id l]
  refine List.map_congr_left fun x hx => ?_
  have := h x hx
  simp only [Function.comp_apply, Int.toNat_natCast, id_eq, UInt8.toNat_ofNat']
  omega
theorem by_inj {s t : ByteArray} (h : by' s = by' t) : s = t := by
  have h1 : s.data.toList = t.data.toList := by
    refine List.ext_getElem (by have := congrArg List.length h; simpa [by'] using this) fun i h1 h2 => ?_
    have h3 := congrArg (fun l => l[i]?) h
    simp only [by', List.getElem?_map, List.getElem?_eq_getElem h1, List.getElem?_eq_getElem h2, Option.map_some, Option.some.injEq] at h3
    exact UInt8.toNat_inj.1 h3
  exact ByteArray.ext (Array.ext' h1)
theorem by_append (s t : ByteArray) : by' (s ++ t) = by' s ++ by' t := by
  unfold by'
  rw [ByteArray.data_append, Array.toList_append, List.map_append]
theorem by_extract (s : ByteArray) (k : Nat) (h : k ≤ s.size) : by' (s.extract k s.size) = (by' s).drop k := by
  unfold by'
  rw [ByteArray.data_extract, Array.toList_extract, List.extract_eq_take_drop, ← List.map_drop]
  rw [List.take_of_length_le (by simp)]

theorem txt_size {n k : Nat} (h : (dl n).length ≤ k) : (txt (tx n)).size ≤ k + 1 := by
  unfold txt
  rw [strOfNums_size, List.length_map]
  unfold tx
  split
  · simp
  · simp; omega

def RetDg (w : World) (e : Ending) (w' : World) : Prop := ∃ t : ByteArray, e = .returned (.string t) ∧ 0 < t.size ∧ t.size ≤ 300 ∧ okD (by' t) = true ∧ Below w.heap.size w w'

set_option maxRecDepth 100000 in
set_option maxHeartbeats 1000000 in
theorem digits_any {w : World} (s : ByteArray) (hs : s.size ≤ maxLen) : Calls Try.prog 55 #[.string s] w (RetDg w) := by
  unfold maxLen at hs
  go_enter Try.func55, Try.ntmps55
  go_wp2
  go_loopw [3, 4] (fun ov iv wr => ∃ (i c : Nat) (a : Option Addr) (D : List Nat), i ≤ s.size ∧ i ≤ 300 ∧ iv = .int .i64 i ∧ ov = .slice a i c ∧ OwnB w.heap.size wr a i c D ∧ Hid (okD D = true) ∧ Below w.heap.size w wr) (fun _ iv _ => 300 - (intOf iv).toNat)
  case atStart => exact ⟨0, 0, none, [], by omega, by omega, rfl, rfl, ownB_nil _ _, rfl, Below.refl _ _⟩
  case round =>
    obtain ⟨i, c, a, D, hi, hi2, rfl, rfl, hO, hD, hB⟩ := hrel
    have hb := hO.bnd
    have hsw := hB.size
    by_cases hgo : i < s.size ∧ i < 300
    · obtain ⟨h1, h2⟩ := hgo
      have hx : s[i].toNat < 256 := UInt8.toNat_lt _
      obtain ⟨x, hxe⟩ : ∃ x, s[i].toNat = x := ⟨_, rfl⟩
      rw [hxe] at hx
      have hD' : Hid (okD (D ++ [48 + x % 10]) = true) := by
        show _ = _
        rw [okD_append, hD.out]
        simp [okD]; omega
      have hy : 48 + x % 10 < 256 := by omega
      clear hD
      go_wp2_with (at_builtin; refine wpList_appB1 (y := 48 + x % 10) rfl _ _ rfl rfl (hO.alloc _) _ 1 rfl hy (by go_simp) (by simp; omega) (by omega) ?_; intro a2 c2 w2 hO2 hK2)
      go_roundw
      case rel => exact ⟨i + 1, c2, a2, _, by omega, by omega, by go_num, rfl, hO2, hD', (hB.alloc hsw _).kp hK2 (by simp; omega) (ownB_lt hO)⟩
      case measure => simp [intOf]; omega
    · by_cases h0 : i = 0
      · subst h0
        have h1 : s.size = 0 := by omega
        have h1' : ¬ 0 < s.size := by omega
        clear hgo h1
        go_wp2
        go_ret
        exact ⟨_, rfl, by decide, by decide, by decide, hB⟩
      · obtain ⟨g, rfl⟩ : ∃ g, a = some ⟨g, 0, none⟩ := by
          rcases hO.cases with ⟨_, h, _⟩ | ⟨g, h, _⟩
          · omega
          · exact ⟨g, h⟩
        have hconv := ownB_string hO
        have hT : Hid (0 < (txt D).size ∧ (txt D).size ≤ 300 ∧ okD (by' (txt D)) = true) := by
          have h1 : (txt D).size = i := by unfold txt; rw [strOfNums_size, List.length_map, hO.len]
          exact ⟨by omega, by omega, by rw [by_txt hO.2.1]; exact hD.out⟩
        have hbi : ((i : Int) == 0) = false := beq_eq_false_iff_ne.2 (by omega)
        by_cases h1 : i < s.size
        · have h2 : ¬ i < 300 := by omega
          clear hgo
          go_wp2
          go_ret
          exact ⟨_, rfl, hT.out.1, hT.out.2.1, hT.out.2.2, hB⟩
        · clear hgo
          go_wp2
          go_ret
          exact ⟨_, rfl, hT.out.1, hT.out.2.1, hT.out.2.2, hB⟩

end Go.Proofs.Ytknpacegaclcgaa
