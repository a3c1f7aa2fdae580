/- WALKS OF DECIMALS, 5: a whole number's text with a point in it, by the program and by the document. -/
import Derived.Test.YtbodlkfhmapngaaDd
import Derived.Test.YtbodlkfhmapngaaDr
import Derived.Test.YtbodlkfhmapngaaQ2
import Derived.BigQuiet
namespace Go.Proofs.Ytbodlkfhmapngaa
set_option linter.unusedVariables false
set_option linter.unusedSimpArgs false
open Go.ChangeShapes Go.WideShapes Go.ChangeAt Go.RowKit Go.NatP

theorem bt_txt {l : List Nat} (h : ∀ x ∈ l, x < 256) : by' (txt l) = l := by
  have e : strOfNums (l.map fun n : Nat => (n : Int)) = txt l := rfl
  refine List.ext_getElem (by simp [by', txt, strOfNums]) fun i h1 h2 => ?_
  have h3 := h l[i] (List.getElem_mem h2)
  simp [by', txt, strOfNums]
  omega
theorem okD_tx' (n : Nat) : okD (tx n) = true := by
  unfold tx
  split
  · rfl
  · rw [okD_all, List.all_eq_true]
    intro c hc
    rw [List.mem_map] at hc
    obtain ⟨d, hd, rfl⟩ := hc
    have := dl_lt n d (List.mem_reverse.1 hd)
    simp [isD]
    omega
theorem tx_pos' (n : Nat) : 0 < (tx n).length := by
  unfold tx
  split
  · decide
  · rename_i h
    rw [List.length_map, List.length_reverse, dl_pos h]
    simp
theorem tx_lt (n : Nat) : ∀ c ∈ tx n, c < 256 := fun c hc => by have := okD_mem (okD_tx' n) hc; omega
theorem bt_tx (n : Nat) : by' (txt (tx n)) = tx n := bt_txt (tx_lt n)
theorem pad_lt (n k : Nat) : ∀ c ∈ pad (tx n) k, c < 256 := fun c hc => by
  unfold pad at hc
  rcases List.mem_append.1 hc with h | h
  · have := (List.mem_replicate.1 h).2; omega
  · exact tx_lt n c h
theorem ptd_lt (n k : Nat) : ∀ c ∈ ptd n k, c < 256 := fun c hc => by
  unfold ptd at hc
  split at hc
  · exact tx_lt n c hc
  · rcases List.mem_append.1 hc with h | h
    · exact pad_lt n k c (List.mem_of_mem_take h)
    · rcases List.mem_cons.1 h with h | h
      · omega
      · exact pad_lt n k c (List.mem_of_mem_drop h)
theorem bt_ptd (n k : Nat) : by' (txt (ptd n k)) = ptd n k := bt_txt (ptd_lt n k)
theorem ptd_zero (n : Nat) : ptd n 0 = tx n := if_pos rfl
theorem ptd_of {n k : Nat} {R : ByteArray} (hk : k ≠ 0) (hR : by' R = pad (tx n) k) : R.extract 0 (R.size - k) ++ ⟨#[46]⟩ ++ R.extract (R.size - k) R.size = txt (ptd n k) := by
  refine by_inj ?_
  rw [bt_ptd, be_append, be_append, be_take, be_drop, hR]
  unfold ptd
  have hl : R.size = (pad (tx n) k).length := by rw [← hR, by_len]
  rw [if_neg hk, hl, List.append_assoc]
  rfl
theorem rep_by (c : Nat) : by' ⟨(Lib.repeatL [48] c).toArray⟩ = List.replicate c 48 := by
  unfold by'
  induction c with
  | zero => rfl
  | succ c ih =>
    simp only [Lib.repeatL, List.replicate_succ]
    simp only at ih
    rw [← ih]
    rfl
theorem ptd_size {n k J : Nat} (h : (tx n).length ≤ J) : (txt (ptd n k)).size ≤ max J (k + 1) + 1 := by
  rw [← by_len, bt_ptd]
  unfold ptd
  split
  · omega
  · have := pad_len (tx n) k
    simp
    omega
theorem tx_len {n K : Nat} (h : Sz n K) : (tx n).length ≤ 10 * K + 2 := by
  have h1 := txt_sz h
  rwa [← by_len, bt_tx] at h1

set_option maxRecDepth 100000 in
set_option maxHeartbeats 2000000 in
theorem dpt {w : World} {a : Option Addr} {n c v K : Nat} (hR : RdN K w a n c v) (hK : K ≤ 4000000) (k : Nat) (hk : k ≤ 1000000) :
    Calls Try.prog 135 #[.slice a n c, .int .i64 k] w (RetT w (txt (ptd v k))) := by
  have HT := hid (fun w (h : RdN K w a n c v) => ntextR (W := w) h (by omega))
  have hsz := txt_sz hR.sz
  have hpos : 0 < (txt (tx v)).size := by rw [← by_len, bt_tx]; exact tx_pos' v
  obtain ⟨S, hS⟩ : ∃ S, txt (tx v) = S := ⟨_, rfl⟩
  have hb := hid (show by' S = tx v by rw [← hS]; exact bt_tx v)
  have hS0 := hid hS
  rw [hS] at HT hsz hpos
  clear hS
  by_cases h0 : k = 0
  · subst h0
    have hE : Hid (txt (ptd v 0) = S) := by show _ = _; rw [ptd_zero]; exact hS0.out
    have hd2 : decide (S = ByteArray.empty) = false := decide_eq_false (fun e => by rw [e] at hpos; exact absurd hpos (by decide))
    have hd3 : S ≠ ByteArray.empty := of_decide_eq_false hd2
    go_enter Try.func135, Try.ntmps135
    go_wp2_with fail
    refine (HT.out _ hR).mono ?_
    rintro e w1 ⟨rfl, hB1⟩
    go_wp2
    go_ret
    exact ⟨by rw [hE.out]; rfl, hB1⟩
  · have h1 : 1 ≤ k := by omega
    by_cases hlt : k < S.size
    · have hE : Hid (S.extract 0 (S.size - k) ++ ⟨#[46]⟩ ++ S.extract (S.size - k) S.size = txt (ptd v k)) := ptd_of h0 (by rw [hb.out, pad_long (by rw [← hb.out, by_len]; exact hlt)])
      clear h0
      go_enter Try.func135, Try.ntmps135
      go_wp2_with fail
      refine (HT.out _ hR).mono ?_
      rintro e w1 ⟨rfl, hB1⟩
      go_wp2_with fail
      go_quiet (fail)
      go_wp2
      go_ret
      exact ⟨by rw [← hE.out]; rfl, hB1.drewN' _⟩
    · obtain ⟨t, ht⟩ : ∃ t, t = k + 1 - S.size := ⟨_, rfl⟩
      have htI : (k : Int) + 1 - (S.size : Int) = (t : Int) := by omega
      have ht1 : t ≤ 1000001 := by omega
      obtain ⟨Z, hZ⟩ : ∃ Z : ByteArray, Z = ⟨(Lib.repeatL [48] t).toArray⟩ := ⟨_, rfl⟩
      have hZs : Z.size = t := by rw [← by_len, hZ, rep_by, List.length_replicate]
      have HR := hid (fun w => Try.strings_Repeat ⟨#[48]⟩ t w (by omega) (by show 1 * t ≤ _; omega))
      rw [show (⟨(Lib.repeatL (⟨#[48]⟩ : ByteArray).data.toList t).toArray⟩ : ByteArray) = Z from hZ.symm] at HR
      have hbR : Hid (by' (Z ++ S) = pad (tx v) k) := by
        show _ = _
        rw [be_append, hZ, rep_by, hb.out]; unfold pad; rw [← hb.out, by_len, ht]
      have hRs : (Z ++ S).size = k + 1 := by rw [ByteArray.size_append]; omega
      obtain ⟨R, hR0⟩ : ∃ R, Z ++ S = R := ⟨_, rfl⟩
      rw [hR0] at hbR hRs
      have hE : Hid (R.extract 0 1 ++ ⟨#[46]⟩ ++ R.extract 1 (k + 1) = txt (ptd v k)) := by
        have h := ptd_of h0 hbR.out
        rw [hRs] at h
        rwa [show k + 1 - k = 1 by omega] at h
      clear h0 hZ
      subst ht
      go_enter Try.func135, Try.ntmps135
      go_wp2_with fail
      refine (HT.out _ hR).mono ?_
      rintro e w1 ⟨rfl, hB1⟩
      go_wp2_with fail
      refine (HR.out _).mono ?_
      rintro e w2 ⟨rfl, hB2⟩
      have hB12 := hB1.next hB2
      go_wp2_with fail
      go_quiet (fail)
      go_wp2
      go_ret
      exact ⟨by rw [← hE.out]; rfl, hB12.drewN' _⟩
end Go.Proofs.Ytbodlkfhmapngaa
