/- PLAIN: the bytes of texts of numbers. -/
import Derived.Test.YtenmjgnhneofjaaZg
import Derived.Test.YtenmjgnhneofjaaPn
namespace Go.Proofs.Ytenmjgnhneofjaa
set_option linter.unusedVariables false
open Go.ChangeShapes Go.WideShapes Go.ChangeAt Go.RowKit Go.NatP

theorem bk_txt {l : List Nat} (h : ∀ x ∈ l, x < 256) : by' (txt l) = l := by
  unfold by' txt
  rw [strOfNums_data, List.map_map, List.map_map]
  conv => rhs; rw [← List.map_id l]
  refine List.map_congr_left fun x hx => ?_
  have := h x hx
  simp only [Function.comp_apply, Int.toNat_natCast, id_eq, UInt8.toNat_ofNat']
  omega
theorem bk_append (s t : ByteArray) : by' (s ++ t) = by' s ++ by' t := by
  unfold by'
  rw [ByteArray.data_append, Array.toList_append, List.map_append]
theorem bk_extract (s : ByteArray) (k : Nat) : by' (s.extract k s.size) = (by' s).drop k := by
  unfold by'
  rw [ByteArray.data_extract, Array.toList_extract, List.extract_eq_take_drop, ← List.map_drop]
  rw [List.take_of_length_le (by simp)]
theorem bk_take (s : ByteArray) (k : Nat) : by' (s.extract 0 k) = (by' s).take k := by
  unfold by'
  rw [ByteArray.data_extract, Array.toList_extract, List.extract_eq_take_drop, ← List.map_take]
  rfl
theorem tx_lt (n : Nat) : ∀ x ∈ tx n, x < 256 := fun x hx => by have := okD_get (okD_tx n) hx; omega
theorem bk_tx (n : Nat) : by' (txt (tx n)) = tx n := bk_txt (tx_lt n)
theorem bk_ztx (z : Int) : by' (ztx z) = if z < 0 then 45 :: tx z.natAbs else tx z.natAbs := by
  unfold ztx
  split
  · rw [bk_append, bk_tx]; rfl
  · exact bk_tx _
theorem head_ok {l : List Nat} (h : okD l = true) : l.getD 0 0 ≠ 45 := by
  cases l with
  | nil => simp
  | cons c l => have := okD_get h (List.mem_cons_self); simp; omega
theorem pz_neg {s : ByteArray} {l : List Nat} (h : by' s = 45 :: l) : pzZ s = zv true (paN l) ∧ pzE s = paE l := by
  have hs : 0 < s.size := by rw [← by_len, h]; simp
  have hb : pzB s = true := decide_eq_true ⟨hs, by rw [h]; rfl⟩
  have hr : by' (pzR s) = l := by unfold pzR; rw [hb, if_pos rfl, bk_extract, h]; rfl
  unfold pzZ pzE
  rw [hb, hr]; exact ⟨rfl, rfl⟩
theorem pz_pos {s : ByteArray} {l : List Nat} (h : by' s = l) (h0 : l.getD 0 0 ≠ 45) : pzZ s = zv false (paN l) ∧ pzE s = paE l := by
  have hb : pzB s = false := decide_eq_false (fun hc => h0 (by rw [← h]; exact hc.2))
  have hr : by' (pzR s) = l := by unfold pzR; rw [hb, if_neg (by decide), h]
  unfold pzZ pzE
  rw [hb, hr]; exact ⟨rfl, rfl⟩
end Go.Proofs.Ytenmjgnhneofjaa
