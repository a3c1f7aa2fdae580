/- PLAIN: texts of fractions, read again. -/
import Derived.Test.YtenmjgnhneofjaaBt
import Derived.Test.YtenmjgnhneofjaaQ2
namespace Go.Proofs.Ytenmjgnhneofjaa
set_option linter.unusedVariables false
open Go.ChangeShapes Go.WideShapes Go.ChangeAt Go.RowKit Go.NatP

theorem by_get? (s : ByteArray) (i : Nat) : (by' s)[i]? = (s.data.toList[i]?).map UInt8.toNat := by unfold by'; rw [List.getElem?_map]
theorem slI_none {s : ByteArray} (h : 47 ∉ by' s) : slI s = -1 := by
  rcases slI_cases s with h1 | ⟨i, h1, hi⟩
  · exact h1
  · exfalso
    have h2 := (Lib.indexByte_some (show Lib.indexByte s.data.toList 47 = (i : Int) from h1)).1
    refine h (List.mem_iff_getElem?.2 ⟨i, ?_⟩)
    rw [by_get?, h2]; rfl
theorem slI_some {s : ByteArray} {l r : List Nat} (h : by' s = l ++ 47 :: r) (hl : 47 ∉ l) : slI s = l.length := by
  have hg : s.data.toList[l.length]? = some 47 := by
    have h1 : (by' s)[l.length]? = some 47 := by rw [h, List.getElem?_append_right (Nat.le_refl _), Nat.sub_self]; rfl
    rw [by_get?] at h1
    cases hc : s.data.toList[l.length]? with
    | none => rw [hc] at h1; cases h1
    | some c => rw [hc] at h1; simp only [Option.map_some, Option.some.injEq] at h1; rw [show c = 47 from UInt8.toNat_inj.1 h1]
  rcases slI_cases s with h1 | ⟨i, h1, hi⟩
  · exact absurd hg (Lib.indexByte_none (show Lib.indexByte s.data.toList 47 = -1 from h1) l.length)
  · rw [h1]
    obtain ⟨h2, h3⟩ := Lib.indexByte_some (show Lib.indexByte s.data.toList 47 = (i : Int) from h1)
    have h4 : ¬ l.length < i := fun hlt => h3 _ hlt hg
    have h5 : ¬ i < l.length := fun hlt => by
      refine hl (List.mem_iff_getElem?.2 ⟨i, ?_⟩)
      have : (by' s)[i]? = some 47 := by rw [by_get?, h2]; rfl
      rwa [h, List.getElem?_append_left hlt] at this
    omega
theorem cut_none {s : ByteArray} (h : 47 ∉ by' s) : cutA s = s ∧ cutF s = false := by
  unfold cutA cutF; rw [slI_none h]; exact ⟨rfl, rfl⟩
theorem cut_some {s : ByteArray} {l r : List Nat} (h : by' s = l ++ 47 :: r) (hl : 47 ∉ l) : by' (cutA s) = l ∧ by' (cutB s) = r ∧ cutF s = true := by
  unfold cutA cutB cutF
  rw [slI_some h hl, if_neg (by omega), if_neg (by omega), Int.toNat_natCast]
  refine ⟨?_, ?_, decide_eq_true (by omega)⟩
  · rw [bk_take, h, List.take_left]
  · rw [bk_extract, h, show l.length + 1 = (l ++ [47]).length by simp, show l ++ 47 :: r = (l ++ [47]) ++ r by simp, List.drop_left]
theorem no_slash {l : List Nat} (h : okD l = true) : 47 ∉ l := fun hm => by have := okD_get h hm; omega
theorem no_slash_ztx (z : Int) : 47 ∉ by' (ztx z) := by
  rw [bk_ztx]
  have := no_slash (okD_tx z.natAbs)
  split
  · intro h
    rcases List.mem_cons.1 h with h | h
    · cases h
    · exact this h
  · exact this
theorem pz_by {s t : ByteArray} (h : by' s = by' t) : s = t := by
  have h1 : s.data.toList = t.data.toList := by
    refine List.ext_getElem (by have := congrArg List.length h; simpa [by'] using this) fun i h1 h2 => ?_
    have h3 := congrArg (fun l => l[i]?) h
    simp only [by', List.getElem?_map, List.getElem?_eq_getElem h1, List.getElem?_eq_getElem h2, Option.map_some, Option.some.injEq] at h3
    exact UInt8.toNat_inj.1 h3
  exact ByteArray.ext (Array.ext' h1)
theorem pz_ztx (z : Int) : pzZ (ztx z) = z ∧ pzE (ztx z) = 0 := by
  obtain ⟨h1, h2⟩ := paN_tx z.natAbs
  by_cases h : z < 0
  · obtain ⟨h3, h4⟩ := pz_neg (s := ztx z) (l := tx z.natAbs) (by rw [bk_ztx, if_pos h])
    rw [h3, h4, h1, h2]
    exact ⟨by simp [zv]; omega, rfl⟩
  · obtain ⟨h3, h4⟩ := pz_pos (s := ztx z) (l := tx z.natAbs) (by rw [bk_ztx, if_neg h]) (head_ok (okD_tx _))
    rw [h3, h4, h1, h2]
    exact ⟨by simp [zv]; omega, rfl⟩
/-- digits over digits -/
theorem fp_over (z : Int) (v : Nat) {s : ByteArray} (hs : s = ztx z ++ (⟨#[47]⟩ ++ txt (tx v))) : fpQ s = Rat.divInt z v ∧ fpE s = zE v := by
  have hb : by' s = by' (ztx z) ++ 47 :: tx v := by rw [hs, bk_append, bk_append, bk_tx]; rfl
  obtain ⟨h1, h2, h3⟩ := cut_some hb (no_slash_ztx z)
  have hA : cutA s = ztx z := pz_by h1
  obtain ⟨h4, h5⟩ := pz_ztx z
  obtain ⟨h6, h7⟩ := paN_tx v
  have hD : fpD s = v := by unfold fpD; rw [h3, if_pos rfl, h2, h6]
  unfold fpQ fpE
  rw [hA, hD, h4, h5, h3, h2, h7]
  exact ⟨rfl, rfl⟩
theorem fp_qtx (q : Rat) : fpQ (qtx q) = q ∧ fpE (qtx q) = 0 := by
  by_cases h : q.den = 1
  · have hs : qtx q = ztx q.num := by unfold qtx; rw [if_pos h]
    obtain ⟨h1, h2⟩ := cut_none (s := ztx q.num) (no_slash_ztx q.num)
    obtain ⟨h4, h5⟩ := pz_ztx q.num
    have hD : fpD (ztx q.num) = 1 := by unfold fpD; rw [h2]; rfl
    rw [hs]
    unfold fpQ fpE
    rw [h1, hD, h4, h5, h2]
    refine ⟨?_, rfl⟩
    have := Rat.num_divInt_den q
    rw [h] at this
    exact this
  · obtain ⟨h1, h2⟩ := fp_over q.num q.den (s := qtx q) (by unfold qtx; rw [if_neg h])
    rw [h1, h2]
    exact ⟨Rat.num_divInt_den q, zE_pos (by have := q.den_nz; omega)⟩
theorem qtx_size {q : Rat} {k : Nat} (h : QS q k) : (qtx q).size ≤ 20 * k + 6 := by
  have h1 := ztx_size h.1
  have h2 := txt_sz h.2
  unfold qtx
  split
  · omega
  · rw [ByteArray.size_append, ByteArray.size_append]
    have : (⟨#[47]⟩ : ByteArray).size = 1 := rfl
    omega
end Go.Proofs.Ytenmjgnhneofjaa
