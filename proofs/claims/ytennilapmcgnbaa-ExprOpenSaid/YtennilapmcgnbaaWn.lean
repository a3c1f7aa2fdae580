/- WALKS, 14: numbers read. -/
import Derived.Test.YtennilapmcgnbaaWm
import Derived.Test.YtennilapmcgnbaaPP
import Derived.Test.YtennilapmcgnbaaMc
namespace Go.Proofs.Ytennilapmcgnbaa
set_option linter.unusedVariables false
open Go.ChangeShapes Go.WideShapes Go.ChangeAt Go.RowKit Go.NatP

/-- the bytes of a text, as numbers -/
def by' (s : ByteArray) : List Nat := s.data.toList.map UInt8.toNat
theorem by_len (s : ByteArray) : (by' s).length = s.size := by simp [by']
theorem by_get (s : ByteArray) (k : Nat) (h : k < s.size) : (by' s).getD k 0 = s[k].toNat := by
  have h2 : k < s.data.toList.length := by simpa using h
  simp [by', List.getD_eq_getElem?_getD, List.getElem?_eq_getElem h2]
  rfl
theorem by_lt (s : ByteArray) (k : Nat) : (by' s).getD k 0 < 256 := by
  by_cases h : k < s.size
  · rw [by_get s k h]; exact UInt8.toNat_lt _
  · rw [getD_ge _ _ (by rw [by_len]; omega)]; decide

theorem paN_sz (s : ByteArray) {K : Nat} (h : s.size ≤ K) : Sz (paN (by' s)) K := by
  unfold paN
  split
  · rename_i hc
    refine Nat.lt_of_lt_of_le (numD_lt (by' s) fun c hcm => ?_) (Nat.pow_le_pow_right (by decide) (by rw [by_len]; exact h))
    have := hc.2
    simp only [okD, List.all_eq_true, Bool.and_eq_true, decide_eq_true_eq] at this
    exact (this c hcm).2
  · exact Nat.pow_pos (by decide)

set_option maxRecDepth 100000 in
set_option maxHeartbeats 2000000 in
theorem parse_any {w : World} (s : ByteArray) (hs : s.size ≤ 16777216) :
    Calls Try.prog 60 #[.string s] w (RetE w (lm (paN (by' s))) (paE (by' s))) := by
  by_cases h0 : s.size = 0
  · have hs0 : s = ⟨#[]⟩ := by
      cases s with
      | mk d => simp [ByteArray.size] at h0; rw [h0]
    subst hs0
    have HE : Hid (paN (by' ⟨#[]⟩) = 0 ∧ paE (by' ⟨#[]⟩) = 10) := ⟨rfl, rfl⟩
    go_enter Try.func60, Try.ntmps60
    go_wp2
    go_ret2
    exact ⟨none, 0, 0, by rw [HE.out.2]; rfl, by rw [HE.out.1]; exact own_nil _ _, Below.refl _ _⟩
  · have hne : s.toList.isEmpty = false := by
      rw [ByteArray.toList_eq]
      cases hl : s.data.toList with
      | nil => exact absurd (by have h1 := congrArg List.length hl; rw [Array.length_toList] at h1; exact h1) h0
      | cons _ _ => rfl
    have hn1 : 1 ≤ s.size := by omega
    have HL := hid (by_len s)
    go_enter Try.func60, Try.ntmps60
    go_wp2
    go_loopw [4, 14] (fun v iv wr => ∃ (i n c : Nat) (a : Option Addr) (l : List Nat), i ≤ s.size ∧ iv = .int .i64 i ∧ v = .slice a n c ∧ n ≤ i ∧ Own w.heap.size wr a n c l ∧ Hid (okD ((by' s).take i) = true ∧ val l = numD ((by' s).take i)) ∧ Below w.heap.size w wr) (fun _ iv _ => s.size - (intOf iv).toNat)
    case atStart => exact ⟨0, 0, 0, none, [], by omega, rfl, rfl, by omega, own_nil _ _, ⟨rfl, rfl⟩, Below.refl _ _⟩
    case round =>
      obtain ⟨wo, rfl⟩ : ∃ wo : World, wo = wr := ⟨_, rfl⟩
      obtain ⟨i, n, c, a, l, hi, rfl, rfl, hn, hO, hV, hB⟩ := hrel
      by_cases hlt : i < s.size
      · have hx := by_get s i hlt
        obtain ⟨x, hxe⟩ : ∃ x, s[i].toNat = x := ⟨_, rfl⟩
        rw [hxe] at hx
        by_cases hd : 48 ≤ x ∧ x ≤ 57
        · obtain ⟨hd1, hd2⟩ := hd
          have HN : Hid (∀ l', val l' = 10 * val l + (x - 48) → okD ((by' s).take (i + 1)) = true ∧ val l' = numD ((by' s).take (i + 1))) := by
            intro l' h
            rw [take_succ_getD _ _ (by rw [by_len]; exact hlt), hx, okD_snoc, numD_snoc, hV.out.1, h, hV.out.2]
            simp [hd1, hd2]
          have hs1 := hB.size
          have HLl := hid hO.len
          clear hV hx
          go_wp2
          go_loopw [7, 31] (fun cv kv wr => ∃ (k cy : Nat) (S : List Nat), k ≤ n ∧ kv = .int .i64 k ∧ cv = .int .u64 cy ∧ cy ≤ 9 ∧ Own w.heap.size wr a n c S ∧ Hid (TenIn l S k cy (x - 48)) ∧ Hid (∀ t, k ≤ t → S.getD t 0 = l.getD t 0) ∧ Below w.heap.size w wr) (fun _ kv _ => n - (intOf kv).toNat)
          case atStart => exact ⟨0, x - 48, l, by omega, rfl, by go_num, by omega, hO, tenIn_start _ _ _, fun _ _ => rfl, hB⟩
          case round =>
            clear hO hB
            obtain ⟨k, cy, S, hk, rfl, rfl, hcy, hO, hT, hU, hB⟩ := hrel
            have hlen := hid hO.len
            by_cases hlk : k < n
            · obtain ⟨g, rfl⟩ : ∃ g, a = some ⟨g, 0, none⟩ := by
                rcases hO.cases with ⟨_, h, _⟩ | ⟨g, h, _⟩
                · omega
                · exact ⟨g, h⟩
              have hg := hO.lt.1
              have hbn := hO.bnd
              have hc := hO.cell hlk
              rw [hU.out k (Nat.le_refl _)] at hc
              have hf := hO.free k
              have hz : l.getD k 0 < 4294967296 := by rw [← hU.out k (Nat.le_refl _)]; exact hO.lim.getD k
              have HS := hid (fun (X : Int) (x : Nat) (hX : X = (x : Int)) (hx : x < 4294967296) => hO.setI k x hX hx)
              have HT := hid (tenIn_set hT.out (by rw [hO.len]; exact hlk))
              have HU : Hid (∀ q t, k + 1 ≤ t → (S.set k q).getD t 0 = l.getD t 0) := fun q t ht => by
                rw [NatP.getD_set_ne _ _ _ _ (by omega)]; exact hU.out t (by omega)
              generalize l.getD k 0 = z at *
              clear hO hT hU
              go_wp2
              go_roundw
              case rel => exact ⟨k + 1, (cy + 10 * z) / 4294967296, S.set k ((cy + 10 * z) % 4294967296), by omega, by go_num, by go_num, by omega, HS.out _ _ (by omega) (by omega), HT, HU.out _, hB.setCell hg _⟩
              case measure => simp [intOf]; omega
            · obtain rfl : k = n := by omega
              have hll : Hid (l.length = k) := HLl
              have HV : Hid (val S + cy * 4294967296 ^ k = 10 * val (l.take k) + (x - 48)) := by
                have := hT.out
                unfold TenIn at this
                rwa [val_take_all S _ (by rw [hO.len]; exact Nat.le_refl _)] at this
              clear hT hU
              by_cases hc0 : cy = 0
              · subst hc0
                go_wp2
                go_roundw
                case rel => exact ⟨i + 1, k, c, a, S, by omega, by go_num, rfl, by omega, hO, HN.out S (by
                    have h1 := HV.out
                    rw [val_take_all l _ (by rw [hll.out]; exact Nat.le_refl _)] at h1
                    omega), hB⟩
                case measure => simp [intOf]; omega
              · have hc1 : 0 < cy := by omega
                have hs2 := hB.size
                clear hc0
                go_wp2_with (at_builtin; refine wpList_app1 (y := cy) rfl _ _ rfl rfl (hO.alloc _) _ 1 rfl (by omega) (by go_simp) (by simp; omega) (by omega) ?_; intro a2 c2 w2 hO2 hK2 _)
                go_roundw
                case rel => exact ⟨i + 1, k + 1, c2, a2, S ++ [cy], by omega, by go_num, rfl, by omega, hO2, HN.out _ (by
                    have h1 := HV.out
                    rw [val_take_all l _ (by rw [hll.out]; exact Nat.le_refl _)] at h1
                    rw [val_snoc, hO.len]; exact h1), (hB.alloc hs2 _).kp hK2 (by simp; omega) (own_lt hO)⟩
                case measure => simp [intOf]; omega
        · have hbad : Hid (paN (by' s) = 0 ∧ paE (by' s) = 10) := by
            have := okD_bad (l := by' s) (i := i) (by rw [by_len]; exact hlt) (by rw [hx]; exact hd)
            exact ⟨by simp [paN, this], by simp [paE, this]⟩
          have hd' : x < 48 ∨ 57 < x := by omega
          clear hV hx hd
          rcases hd' with hd | hd
          all_goals
            go_wp2
            go_ret2
            exact ⟨none, 0, 0, by rw [hbad.out.2]; rfl, by rw [hbad.out.1]; exact own_nil _ _, hB⟩
      · obtain rfl : i = s.size := by omega
        have hD : Hid (val l = paN (by' s) ∧ paE (by' s) = 0) := by
          have h1 := hV.out
          rw [List.take_of_length_le (by rw [by_len]; exact Nat.le_refl _)] at h1
          have hnn : by' s ≠ [] := fun e => by have := by_len s; rw [e] at this; simp at this; omega
          exact ⟨by rw [paN, if_pos ⟨hnn, h1.1⟩]; exact h1.2, by rw [paE, if_pos ⟨hnn, h1.1⟩]⟩
        clear hV
        go_wp2_with fail
        refine (own_any hO.rd (by omega)).mono ?_
        rw [hD.out.1]
        rintro e w4 ⟨a4, n4, c4, rfl, hO4, hB4⟩
        go_wp2
        go_ret2
        exact ⟨a4, n4, c4, by rw [hD.out.2]; rfl, hO4.mono hB.size, hB.next hB4⟩

end Go.Proofs.Ytennilapmcgnbaa
