/- WALKS OF FRACTIONS, 15: the reference reads a text. -/
import Derived.Test.YtenmjgnhneofjaaQm
import Derived.Test.YtenmjgnhneofjaaQp
namespace Go.Proofs.Ytenmjgnhneofjaa
set_option linter.unusedVariables false
set_option linter.unusedSimpArgs false
open Go.ChangeShapes Go.WideShapes Go.ChangeAt Go.RowKit Go.NatP

theorem by_ne_of {s : ByteArray} {i : Nat} (h : ∀ k, k < i → s.data.toList[k]? ≠ some 47) {j : Nat} (hj : j < i) : (by' s).getD j 0 ≠ 47 := fun e => by
  have h1 := h j hj
  rw [List.getD_eq_getElem?_getD, by_get?] at e
  cases hc : s.data.toList[j]? with
  | none => rw [hc] at e; cases e
  | some c =>
    rw [hc] at e h1
    exact h1 (by rw [show c = 47 from UInt8.toNat_inj.1 e])
theorem by_eq_of {s : ByteArray} {i : Nat} (h : s.data.toList[i]? = some 47) : (by' s).getD i 0 = 47 := by
  rw [List.getD_eq_getElem?_getD, by_get?, h]; rfl
/-- digits, one at least -/
def digOk (s : ByteArray) : Bool := okD (by' s) && decide (0 < s.size)
theorem digOk_pa (s : ByteArray) : paE (by' s) = 0 ↔ digOk s = true := by
  unfold paE digOk
  have h1 : by' s ≠ [] ↔ 0 < s.size := by rw [← by_len]; exact List.length_pos_iff.symm
  by_cases h : 0 < s.size
  · cases ho : okD (by' s)
    · simp
    · simp [h1.2 h, h]
  · have : ¬ by' s ≠ [] := fun h2 => h (h1.1 h2)
    simp [h, this]

set_option maxRecDepth 100000 in
set_option maxHeartbeats 2000000 in
theorem rdigits_any {w : World} (s : ByteArray) (hs : s.size ≤ 16777216) : Calls Try.prog 76 #[.string s] w (fun e w' => e = .returned (.bool (digOk s)) ∧ w' = w) := by
  have hOk := hid (show digOk s = (okD (by' s) && decide (0 < s.size)) from rfl)
  have HL := hid (by_len s)
  go_enter Try.func76, Try.ntmps76
  go_wp2
  go_loopw [3] (fun iv wr => ∃ i : Nat, i ≤ s.size ∧ iv = .int .i64 i ∧ Hid (okD ((by' s).take i) = true) ∧ wr = w) (fun iv _ => s.size - (intOf iv).toNat)
  case atStart => exact ⟨0, by omega, rfl, rfl, rfl⟩
  case round =>
    obtain ⟨i, hi, rfl, hV, rfl⟩ := hrel
    by_cases hlt : i < s.size
    · have hx := by_get s i hlt
      obtain ⟨x, hxe⟩ : ∃ x, s[i].toNat = x := ⟨_, rfl⟩
      rw [hxe] at hx
      by_cases hd : 48 ≤ x ∧ x ≤ 57
      · obtain ⟨hd1, hd2⟩ := hd
        have HN : Hid (okD ((by' s).take (i + 1)) = true) := by
          show _ = _
          rw [take_succ_getD _ _ (by rw [by_len]; exact hlt), hx, okD_snoc, hV.out]
          simp [hd1, hd2]
        clear hV hx
        have hd3 : decide (x < 48) = false := decide_eq_false (by omega)
        have hd4 : decide (57 < x) = false := decide_eq_false (by omega)
        go_wp2
        go_roundw
        case rel => exact ⟨i + 1, by omega, by go_num, HN, by first | rfl | trivial⟩
        case measure => simp [intOf]; omega
      · have hbad : digOk s = false := by
          rw [hOk.out, okD_bad (l := by' s) (i := i) (by rw [by_len]; exact hlt) (by rw [hx]; exact hd)]; rfl
        have hB := hid hbad
        clear hV hx hbad hOk
        by_cases h48 : x < 48
        · have hd3 : decide (x < 48) = true := decide_eq_true h48
          go_wp2
          go_ret
          exact ⟨by rw [hB.out]; rfl, rfl⟩
        · have hd3 : decide (x < 48) = false := decide_eq_false h48
          have hd4 : decide (57 < x) = true := decide_eq_true (by omega)
          go_wp2
          go_ret
          exact ⟨by rw [hB.out]; rfl, rfl⟩
    · obtain rfl : i = s.size := by omega
      have hB := hid (show digOk s = decide (0 < s.size) by
        rw [hOk.out]
        have := hV.out
        rw [List.take_of_length_le (by rw [by_len]; exact Nat.le_refl _)] at this
        rw [this, Bool.true_and])
      clear hV hOk
      go_wp2
      go_ret
      exact ⟨by rw [hB.out]; simp, rfl⟩

theorem rdigits_b {w : World} (s : ByteArray) (hs : s.size ≤ 16777216) : Calls Try.prog 76 #[.string s] w (fun e w' => e = .returned (.bool (digOk s)) ∧ Below w.heap.size w w') :=
  (rdigits_any s hs).mono fun e w' h => ⟨h.1, by rw [h.2]; exact Below.refl _ _⟩
theorem split_first {L : List Nat} (h : 47 ∈ L) : ∃ l t, L = l ++ 47 :: t ∧ 47 ∉ l := by
  induction L with
  | nil => cases h
  | cons x L ih =>
    by_cases hx : x = 47
    · exact ⟨[], L, by rw [hx]; rfl, by simp⟩
    · obtain ⟨l, t, e, hn⟩ := ih (by rcases List.mem_cons.1 h with h | h; exact absurd h.symm hx; exact h)
      exact ⟨x :: l, t, by rw [e]; rfl, fun hm => by rcases List.mem_cons.1 hm with h | h; exact hx h.symm; exact hn h⟩
/-- a stroke ahead and a cut: either way round -/
theorem cut_stroke (s : ByteArray) : pzZ (cutA s) = zv (pzB s) (paN (by' (cutA (pzR s)))) ∧ pzE (cutA s) = paE (by' (cutA (pzR s))) ∧ cutF s = cutF (pzR s) ∧ by' (cutB s) = by' (cutB (pzR s)) := by
  have hB0 : ∀ t : ByteArray, 47 ∉ by' t → by' (cutB t) = [] := fun t h => by unfold cutB; rw [slI_none h]; rfl
  cases hb : pzB s
  · have hr : pzR s = s := by unfold pzR; rw [hb]; rfl
    rw [hr]
    have hd : (by' s).getD 0 0 ≠ 45 := fun e => by
      have hs : 0 < s.size := by
        rcases Nat.eq_zero_or_pos s.size with h | h
        · have : by' s = [] := List.eq_nil_of_length_eq_zero (by rw [by_len]; exact h)
          rw [this] at e; cases e
        · exact h
      have : pzB s = true := decide_eq_true ⟨hs, e⟩
      rw [hb] at this; cases this
    by_cases h : 47 ∈ by' s
    · obtain ⟨l, t, e, hn⟩ := split_first h
      obtain ⟨h1, h2, h3⟩ := cut_some e hn
      obtain ⟨h4, h5⟩ := pz_pos h1 (by
        cases l with
        | nil => simp
        | cons x l => rw [e] at hd; exact hd)
      rw [h1]
      exact ⟨h4, h5, rfl, rfl⟩
    · obtain ⟨h1, h2⟩ := cut_none h
      rw [h1]
      obtain ⟨h4, h5⟩ := pz_pos (s := s) rfl hd
      exact ⟨h4, h5, rfl, rfl⟩
  · obtain ⟨hs, hd⟩ := of_decide_eq_true hb
    have hr : by' (pzR s) = (by' s).drop 1 := by unfold pzR; rw [hb, if_pos rfl, bk_extract]
    have hc : by' s = 45 :: by' (pzR s) := by
      rw [hr]
      cases hl : by' s with
      | nil => have := by_len s; rw [hl] at this; simp at this; omega
      | cons x l => rw [hl] at hd; rw [show x = 45 from hd]; rfl
    by_cases h : 47 ∈ by' (pzR s)
    · obtain ⟨l, t, e, hn⟩ := split_first h
      obtain ⟨h1, h2, h3⟩ := cut_some e hn
      obtain ⟨h6, h7, h8⟩ := cut_some (s := s) (l := 45 :: l) (r := t) (by rw [hc, e]; rfl) (by intro hm; rcases List.mem_cons.1 hm with h | h; cases h; exact hn h)
      obtain ⟨h4, h5⟩ := pz_neg h6
      rw [h1, h2, h3, h7, h8]
      exact ⟨h4, h5, rfl, rfl⟩
    · obtain ⟨h1, h2⟩ := cut_none h
      have h' : 47 ∉ by' s := by rw [hc]; intro hm; rcases List.mem_cons.1 hm with h2 | h2; cases h2; exact h h2
      obtain ⟨h3, h4⟩ := cut_none h'
      obtain ⟨h5, h6⟩ := pz_neg hc
      rw [h1, h3, h2, h4, hB0 _ h, hB0 _ h']
      exact ⟨h5, h6, rfl, rfl⟩
/-- the denominator's text -/
def rBel (r : ByteArray) : ByteArray := if cutF r = true then cutB r else ⟨#[49]⟩
/-- what the reference reads -/
theorem fp_ref (s : ByteArray) (h1 : digOk (cutA (pzR s)) = true) (h2 : digOk (rBel (pzR s)) = true) :
    fpQ s = Rat.divInt (zv (pzB s) (paN (by' (cutA (pzR s))))) (paN (by' (rBel (pzR s)))) ∧ fpE s = zE (paN (by' (rBel (pzR s)))) := by
  obtain ⟨e1, e2, e3, e4⟩ := cut_stroke s
  have hD : fpD s = paN (by' (rBel (pzR s))) := by
    unfold fpD rBel
    rw [e3, e4]
    split
    · rfl
    · rfl
  have hA := (digOk_pa _).2 h1
  have hB := (digOk_pa _).2 h2
  unfold fpQ fpE
  rw [hD, e1, e2, if_neg (by omega), if_neg]
  · exact ⟨rfl, rfl⟩
  · rintro ⟨h3, h4⟩
    rw [e4] at h4
    unfold rBel at hB
    rw [← e3, h3] at hB
    exact h4 hB
theorem fp_ref_bad (s : ByteArray) (h : digOk (cutA (pzR s)) = false ∨ digOk (rBel (pzR s)) = false) : fpE s = 10 := by
  obtain ⟨e1, e2, e3, e4⟩ := cut_stroke s
  unfold fpE
  rw [e2]
  by_cases hA : paE (by' (cutA (pzR s))) = 0
  · have h1 := (digOk_pa _).1 hA
    rw [h1] at h
    have hB : digOk (rBel (pzR s)) = false := by rcases h with h | h; cases h; exact h
    have hf : cutF (pzR s) = true := by
      cases hc : cutF (pzR s)
      · unfold rBel at hB; rw [hc, if_neg (by decide)] at hB; exact absurd hB (by decide)
      · rfl
    have h2 : paE (by' (cutB s)) ≠ 0 := fun e => by
      unfold rBel at hB
      rw [hf, if_pos rfl] at hB
      rw [e4] at e
      rw [(digOk_pa _).1 e] at hB; cases hB
    rw [if_neg (by omega), if_pos ⟨by rw [e3]; exact hf, h2⟩]
  · rw [if_pos hA]

set_option maxRecDepth 100000 in
set_option maxHeartbeats 4000000 in
theorem rqparseN1 {w : World} (s : ByteArray) (hs : s.size ≤ 4194304) (hb : pzB s = true) (hf : cutF (pzR s) = true) :
    Calls Try.prog 32 #[.string s] w (RetQE w (fpQ s) (fpE s)) := by
  have hrs := pzR_size s
  have hca := cutA_size (pzR s)
  have hcb := cutB_size (pzR s)
  obtain ⟨hs0, hd⟩ := of_decide_eq_true hb
  have hx0 := by_get s 0 hs0
  obtain ⟨x0, hxe0⟩ : ∃ x, s[0].toNat = x := ⟨_, rfl⟩
  rw [hxe0, hd] at hx0
  subst hx0
  have hr : s.extract 1 s.size = pzR s := by unfold pzR; rw [hb]; rfl
  have h1s : 1 ≤ s.size := hs0
  obtain ⟨i0, hsl, hi0⟩ : ∃ i : Nat, slI (pzR s) = i ∧ i < (pzR s).size := by rcases slI_cases (pzR s) with h | h; (unfold cutF at hf; rw [h] at hf; exact absurd hf (by decide)); exact h
  have hns := hid (fun j (hj : j < i0) => by_ne_of (Lib.indexByte_some (show Lib.indexByte (pzR s).data.toList 47 = (i0 : Int) from hsl)).2 hj)
  have hat := hid (by_eq_of (Lib.indexByte_some (show Lib.indexByte (pzR s).data.toList 47 = (i0 : Int) from hsl)).1)
  have hA : cutA (pzR s) = (pzR s).extract 0 i0 := by unfold cutA; rw [hsl, if_neg (by omega)]; rfl
  have hB : rBel (pzR s) = (pzR s).extract (i0 + 1) (pzR s).size := by unfold rBel cutB; rw [hf, if_pos rfl, hsl, if_neg (by omega)]; rfl
  have hBs : (rBel (pzR s)).size ≤ (pzR s).size := by rw [hB, ByteArray.size_extract]; omega
  clear hsl
  obtain ⟨K, hK⟩ : ∃ K, K = 4194304 := ⟨_, rfl⟩
  have HDA := hid (fun w => rdigits_b (w := w) (cutA (pzR s)) (by omega))
  have HDB := hid (fun w => rdigits_b (w := w) (rBel (pzR s)) (by omega))
  have HPA := hid (fun w => rparse_any (w := w) (cutA (pzR s)) (by omega))
  have HPB := hid (fun w => rparse_any (w := w) (rBel (pzR s)) (by omega))
  have hnA := hid ((paN_sz (cutA (pzR s)) (Nat.le_refl _)).mono (Nat.le_refl _) (show _ ≤ K by omega))
  have hnB := hid ((paN_sz (rBel (pzR s)) (Nat.le_refl _)).mono (Nat.le_refl _) (show _ ≤ K by omega))
  have hok := hid (fp_ref s)
  have hbad := hid (fp_ref_bad s)
  have hpA := hid (digOk_pa (cutA (pzR s)))
  have hpB := hid (digOk_pa (rBel (pzR s)))
  rw [hb] at hok
  have hAr := hid hA.symm
  have hBr := hid hB.symm
  clear hA hB hca hcb hBs hf hb
  generalize cutA (pzR s) = tA at *
  generalize rBel (pzR s) = tB at *
  generalize hrg : pzR s = r at *
  clear hrg
  have hent := ent1 w #[Value.bool false, Value.slice none 0 0, Value.slice none 0 0] 32
  go_enter Try.func32, Try.ntmps32
  go_wp2_with fail
  generalize (w.alloc (.cells #[Value.bool false, Value.slice none 0 0, Value.slice none 0 0] 32)) = W0 at hent ⊢
  obtain ⟨R0_0, hbel_0, hsz_0⟩ := hent
  have cR0_0_0 : _ = some (Value.bool false) := R0_0.cell 0
  have fR0_0_0 := R0_0.free 0
  have cR0_0_1 : _ = some (Value.slice none 0 0) := R0_0.cell 1
  have fR0_0_1 := R0_0.free 1
  have cR0_0_2 : _ = some (Value.slice none 0 0) := R0_0.cell 2
  have fR0_0_2 := R0_0.free 2
  go_wp2_with fail
  try rw [hr]
  clear hxe0 h1s
  go_loopw [5, 6, 7] (fun u v i wr => ∃ k : Nat, k ≤ i0 ∧ u = .string r ∧ v = .string ⟨#[49]⟩ ∧ i = .int .i64 k ∧ wr = W0) (fun _ _ i _ => i0 - (intOf i).toNat)
  case atStart => exact ⟨0, by omega, rfl, rfl, rfl, rfl⟩
  case round =>
    obtain ⟨k, hk, rfl, rfl, rfl, hwr⟩ := hrel
    have hwr2 := hwr.symm
    clear hwr
    subst hwr2
    by_cases hkn : k < i0
    · have hkr : k < r.size := by omega
      have hx := hns.out k hkn
      rw [by_get r k hkr] at hx
      obtain ⟨x, hxe⟩ : ∃ x, r[k].toNat = x := ⟨_, rfl⟩
      rw [hxe] at hx
      have hx47 : (x == 47) = false := by simp; exact hx
      go_wp2
      go_roundw
      case rel => exact ⟨k + 1, by omega, rfl, rfl, by go_num, by first | rfl | trivial⟩
      case measure => simp [intOf]; omega
    · obtain rfl : k = i0 := by omega
      have hx := hat.out
      rw [by_get r k hi0] at hx
      obtain ⟨x, hxe⟩ : ∃ x, r[k].toNat = x := ⟨_, rfl⟩
      rw [hxe] at hx
      subst hx
      have hk1 : IntKind.i64.wrap ((k : Int) + 1) = ((k + 1 : Nat) : Int) := by rw [IntKind.wrap_i64]; omega
      go_wp2_with fail
      rw [hAr.out]
      clear hxe
      go_wp2_with fail
      refine (HDA.out _).mono ?_
      rintro e w1 ⟨rfl, hB⟩
      have hB_1 : Below W0.heap.size W0 w1 := (by first | exact hB | exact below_drew hB | exact bel_alloc hB | exact below_drew (bel_alloc hB) | exact bel_alloc (below_drew hB) | exact bel_alloc (bel_alloc hB))
      have R0_1 := R0_0.next hB_1
      have cR0_1_0 : _ = some (Value.bool false) := R0_1.cell 0
      have fR0_1_0 := R0_1.free 0
      have cR0_1_1 : _ = some (Value.slice none 0 0) := R0_1.cell 1
      have fR0_1_1 := R0_1.free 1
      have cR0_1_2 : _ = some (Value.slice none 0 0) := R0_1.cell 2
      have fR0_1_2 := R0_1.free 2
      have hbel_1 := hbel_0.next hB_1
      have hsz_1 := hB_1.size
      clear R0_0 cR0_0_0 fR0_0_0 cR0_0_1 fR0_0_1 cR0_0_2 fR0_0_2 hbel_0 hB_1
      try clear hB
      go_wp2_with fail
      rw [hBr.out]
      go_wp2_with fail
      refine (HDB.out _).mono ?_
      rintro e w2 ⟨rfl, hB⟩
      have hB_2 : Below w1.heap.size w1 w2 := (by first | exact hB | exact below_drew hB | exact bel_alloc hB | exact below_drew (bel_alloc hB) | exact bel_alloc (below_drew hB) | exact bel_alloc (bel_alloc hB))
      have R0_2 := R0_1.next hB_2
      have cR0_2_0 : _ = some (Value.bool false) := R0_2.cell 0
      have fR0_2_0 := R0_2.free 0
      have cR0_2_1 : _ = some (Value.slice none 0 0) := R0_2.cell 1
      have fR0_2_1 := R0_2.free 1
      have cR0_2_2 : _ = some (Value.slice none 0 0) := R0_2.cell 2
      have fR0_2_2 := R0_2.free 2
      have hbel_2 := hbel_1.next hB_2
      have hsz_2 := hB_2.size
      clear R0_1 cR0_1_0 fR0_1_0 cR0_1_1 fR0_1_1 cR0_1_2 fR0_1_2 hbel_1 hB_2
      try clear hB
      cases h1 : digOk tA
      · skip
        have he := hid (hbad.out (.inl h1))
        go_wp2
        refine bodyPost_ret (v := .tuple #[.agg #[.bool false, .slice none 0 0, .slice none 0 0], .int .i64 10]) (by simp [results, Try.results32, go_sem, cR0_2_0, cR0_2_1, cR0_2_2]) rfl ?_
        exact (by rw [he.out]; exact retqe_nil (by decide) hbel_2 (by omega))
      · skip
        cases h2 : digOk tB
        · skip
          have he := hid (hbad.out (.inr h2))
          go_wp2
          refine bodyPost_ret (v := .tuple #[.agg #[.bool false, .slice none 0 0, .slice none 0 0], .int .i64 10]) (by simp [results, Try.results32, go_sem, cR0_2_0, cR0_2_1, cR0_2_2]) rfl ?_
          exact (by rw [he.out]; exact retqe_nil (by decide) hbel_2 (by omega))
        · skip
          obtain ⟨hq, he⟩ := hok.out h1 h2
          have hq' := hid hq
          have he' := hid he
          clear hq he hok hbad
          have hEA := hpA.out.2 h1
          have hEB := hpB.out.2 h2
          rw [hEA] at HPA
          rw [hEB] at HPB
          clear hEA hEB
          generalize paN (by' tA) = u at *
          generalize paN (by' tB) = v at *
          go_wp2_with fail
          refine (HPA.out _).mono ?_
          rintro e w3 ⟨na, nn, nc, rfl, hO, hB⟩
          have hB_3 : Below w2.heap.size w2 w3 := (by first | exact hB | exact below_drew hB | exact bel_alloc hB | exact below_drew (bel_alloc hB) | exact bel_alloc (below_drew hB) | exact bel_alloc (bel_alloc hB))
          have R0_3 := R0_2.next hB_3
          have cR0_3_0 : _ = some (Value.bool false) := R0_3.cell 0
          have fR0_3_0 := R0_3.free 0
          have cR0_3_1 : _ = some (Value.slice none 0 0) := R0_3.cell 1
          have fR0_3_1 := R0_3.free 1
          have cR0_3_2 : _ = some (Value.slice none 0 0) := R0_3.cell 2
          have fR0_3_2 := R0_3.free 2
          have hbel_3 := hbel_2.next hB_3
          have hsz_3 := hB_3.size
          clear R0_2 cR0_2_0 fR0_2_0 cR0_2_1 fR0_2_1 cR0_2_2 fR0_2_2 hbel_2 hB_3
          have N_3 := hO.rdN hnA.out
          clear hO
          try clear hB
          go_wp2_with fail
          refine (HPB.out _).mono ?_
          rintro e w4 ⟨ma, mn, mc, rfl, hO, hB⟩
          have hB_4 : Below w3.heap.size w3 w4 := (by first | exact hB | exact below_drew hB | exact bel_alloc hB | exact below_drew (bel_alloc hB) | exact bel_alloc (below_drew hB) | exact bel_alloc (bel_alloc hB))
          have R0_4 := R0_3.next hB_4
          have cR0_4_0 : _ = some (Value.bool false) := R0_4.cell 0
          have fR0_4_0 := R0_4.free 0
          have cR0_4_1 : _ = some (Value.slice none 0 0) := R0_4.cell 1
          have fR0_4_1 := R0_4.free 1
          have cR0_4_2 : _ = some (Value.slice none 0 0) := R0_4.cell 2
          have fR0_4_2 := R0_4.free 2
          have N_4 := N_3.below hB_4
          have hbel_4 := hbel_3.next hB_4
          have hsz_4 := hB_4.size
          clear R0_3 cR0_3_0 fR0_3_0 cR0_3_1 fR0_3_1 cR0_3_2 fR0_3_2 N_3 hbel_3 hB_4
          have M_4 := hO.rdN hnB.out
          clear hO
          try clear hB
          go_wp2_with fail
          refine (rwhole_any).mono ?_
          rintro e w5 ⟨rfl, hB⟩
          have hB_5 : Below w4.heap.size w4 w5 := (by first | exact hB | exact below_drew hB | exact bel_alloc hB | exact below_drew (bel_alloc hB) | exact bel_alloc (below_drew hB) | exact bel_alloc (bel_alloc hB))
          have R0_5 := R0_4.next hB_5
          have cR0_5_0 : _ = some (Value.bool false) := R0_5.cell 0
          have fR0_5_0 := R0_5.free 0
          have cR0_5_1 : _ = some (Value.slice none 0 0) := R0_5.cell 1
          have fR0_5_1 := R0_5.free 1
          have cR0_5_2 : _ = some (Value.slice none 0 0) := R0_5.cell 2
          have fR0_5_2 := R0_5.free 2
          have N_5 := N_4.below hB_5
          have M_5 := M_4.below hB_5
          have hbel_5 := hbel_4.next hB_5
          have hsz_5 := hB_5.size
          clear R0_4 cR0_4_0 fR0_4_0 cR0_4_1 fR0_4_1 cR0_4_2 fR0_4_2 N_4 M_4 hbel_4 hB_5
          try clear hB
          go_wp2_with fail
          refine (rqnew ((N_5.toZ (s := true)).mono (by omega)) (M_5.toI.mono (by omega))).mono ?_
          rw [← hq'.out, ← he'.out]
          rintro e w6 ⟨qa, qn, qc, da, dn, dc, rfl, hO, hO', hD, hB⟩
          have hB_6 : Below w5.heap.size w5 w6 := (by first | exact hB | exact below_drew hB | exact bel_alloc hB | exact below_drew (bel_alloc hB) | exact bel_alloc (below_drew hB) | exact bel_alloc (bel_alloc hB))
          have R0_6 := R0_5.next hB_6
          have cR0_6_0 : _ = some (Value.bool false) := R0_6.cell 0
          have fR0_6_0 := R0_6.free 0
          have cR0_6_1 : _ = some (Value.slice none 0 0) := R0_6.cell 1
          have fR0_6_1 := R0_6.free 1
          have cR0_6_2 : _ = some (Value.slice none 0 0) := R0_6.cell 2
          have fR0_6_2 := R0_6.free 2
          have N_6 := N_5.below hB_6
          have M_6 := M_5.below hB_6
          have hbel_6 := hbel_5.next hB_6
          have hsz_6 := hB_6.size
          clear R0_5 cR0_5_0 fR0_5_0 cR0_5_1 fR0_5_1 cR0_5_2 fR0_5_2 N_5 M_5 hbel_5 hB_6
          have OQ_6 := hO
          have ltOQ := hO.ltB
          have OD_6 := hO'
          have ltOD := hO'.ltB
          clear hO hO'
          try clear hB
          go_wp2
          refine bodyPost_ret (v := .tuple #[.agg #[.bool (qsg (fpQ s) (fpE s)), .slice qa qn qc, .slice da dn dc], .int .i64 (fpE s)]) (by simp [results, Try.results32, go_sem, cR0_6_0, cR0_6_1, cR0_6_2]) rfl ?_
          exact retqe_set OQ_6 OD_6 hD hbel_6 (by omega) (by omega)

set_option maxRecDepth 100000 in
set_option maxHeartbeats 4000000 in
theorem rqparseN0 {w : World} (s : ByteArray) (hs : s.size ≤ 4194304) (hb : pzB s = true) (hf : cutF (pzR s) = false) :
    Calls Try.prog 32 #[.string s] w (RetQE w (fpQ s) (fpE s)) := by
  have hrs := pzR_size s
  have hca := cutA_size (pzR s)
  have hcb := cutB_size (pzR s)
  obtain ⟨hs0, hd⟩ := of_decide_eq_true hb
  have hx0 := by_get s 0 hs0
  obtain ⟨x0, hxe0⟩ : ∃ x, s[0].toNat = x := ⟨_, rfl⟩
  rw [hxe0, hd] at hx0
  subst hx0
  have hr : s.extract 1 s.size = pzR s := by unfold pzR; rw [hb]; rfl
  have h1s : 1 ≤ s.size := hs0
  have hsl : slI (pzR s) = -1 := by rcases slI_cases (pzR s) with h | ⟨i, h, _⟩; exact h; (unfold cutF at hf; rw [h] at hf; have := of_decide_eq_false hf; omega)
  have hns := hid (fun j (_ : j < (pzR s).size) => by_ne_of (fun k (_ : k < j + 1) => Lib.indexByte_none (show Lib.indexByte (pzR s).data.toList 47 = -1 from hsl) k) (Nat.lt_succ_self j))
  have hA : cutA (pzR s) = pzR s := by unfold cutA; rw [hsl]; rfl
  have hB : rBel (pzR s) = ⟨#[49]⟩ := by unfold rBel; rw [hf]; rfl
  have hBs : (rBel (pzR s)).size ≤ 1 := by rw [hB]; exact Nat.le_refl _
  clear hsl
  obtain ⟨K, hK⟩ : ∃ K, K = 4194304 := ⟨_, rfl⟩
  have HDA := hid (fun w => rdigits_b (w := w) (cutA (pzR s)) (by omega))
  have HDB := hid (fun w => rdigits_b (w := w) (rBel (pzR s)) (by omega))
  have HPA := hid (fun w => rparse_any (w := w) (cutA (pzR s)) (by omega))
  have HPB := hid (fun w => rparse_any (w := w) (rBel (pzR s)) (by omega))
  have hnA := hid ((paN_sz (cutA (pzR s)) (Nat.le_refl _)).mono (Nat.le_refl _) (show _ ≤ K by omega))
  have hnB := hid ((paN_sz (rBel (pzR s)) (Nat.le_refl _)).mono (Nat.le_refl _) (show _ ≤ K by omega))
  have hok := hid (fp_ref s)
  have hbad := hid (fp_ref_bad s)
  have hpA := hid (digOk_pa (cutA (pzR s)))
  have hpB := hid (digOk_pa (rBel (pzR s)))
  rw [hb] at hok
  have hAr := hid hA.symm
  have hBr := hid hB.symm
  clear hA hB hca hcb hBs hf hb
  generalize cutA (pzR s) = tA at *
  generalize rBel (pzR s) = tB at *
  generalize hrg : pzR s = r at *
  clear hrg
  have hent := ent1 w #[Value.bool false, Value.slice none 0 0, Value.slice none 0 0] 32
  go_enter Try.func32, Try.ntmps32
  go_wp2_with fail
  generalize (w.alloc (.cells #[Value.bool false, Value.slice none 0 0, Value.slice none 0 0] 32)) = W0 at hent ⊢
  obtain ⟨R0_0, hbel_0, hsz_0⟩ := hent
  have cR0_0_0 : _ = some (Value.bool false) := R0_0.cell 0
  have fR0_0_0 := R0_0.free 0
  have cR0_0_1 : _ = some (Value.slice none 0 0) := R0_0.cell 1
  have fR0_0_1 := R0_0.free 1
  have cR0_0_2 : _ = some (Value.slice none 0 0) := R0_0.cell 2
  have fR0_0_2 := R0_0.free 2
  go_wp2_with fail
  try rw [hr]
  clear hxe0 h1s
  go_loopw [5, 6, 7] (fun u v i wr => ∃ k : Nat, k ≤ r.size ∧ u = .string r ∧ v = .string ⟨#[49]⟩ ∧ i = .int .i64 k ∧ wr = W0) (fun _ _ i _ => r.size - (intOf i).toNat)
  case atStart => exact ⟨0, by omega, rfl, rfl, rfl, rfl⟩
  case round =>
    obtain ⟨k, hk, rfl, rfl, rfl, hwr⟩ := hrel
    have hwr2 := hwr.symm
    clear hwr
    subst hwr2
    by_cases hkn : k < r.size
    · have hkr : k < r.size := by omega
      have hx := hns.out k hkn
      rw [by_get r k hkr] at hx
      obtain ⟨x, hxe⟩ : ∃ x, r[k].toNat = x := ⟨_, rfl⟩
      rw [hxe] at hx
      have hx47 : (x == 47) = false := by simp; exact hx
      go_wp2
      go_roundw
      case rel => exact ⟨k + 1, by omega, rfl, rfl, by go_num, by first | rfl | trivial⟩
      case measure => simp [intOf]; omega
    · obtain rfl : k = r.size := by omega
      go_wp2_with fail
      rw [hAr.out]
      go_wp2_with fail
      refine (HDA.out _).mono ?_
      rintro e w1 ⟨rfl, hB⟩
      have hB_1 : Below W0.heap.size W0 w1 := (by first | exact hB | exact below_drew hB | exact bel_alloc hB | exact below_drew (bel_alloc hB) | exact bel_alloc (below_drew hB) | exact bel_alloc (bel_alloc hB))
      have R0_1 := R0_0.next hB_1
      have cR0_1_0 : _ = some (Value.bool false) := R0_1.cell 0
      have fR0_1_0 := R0_1.free 0
      have cR0_1_1 : _ = some (Value.slice none 0 0) := R0_1.cell 1
      have fR0_1_1 := R0_1.free 1
      have cR0_1_2 : _ = some (Value.slice none 0 0) := R0_1.cell 2
      have fR0_1_2 := R0_1.free 2
      have hbel_1 := hbel_0.next hB_1
      have hsz_1 := hB_1.size
      clear R0_0 cR0_0_0 fR0_0_0 cR0_0_1 fR0_0_1 cR0_0_2 fR0_0_2 hbel_0 hB_1
      try clear hB
      go_wp2_with fail
      rw [hBr.out]
      go_wp2_with fail
      refine (HDB.out _).mono ?_
      rintro e w2 ⟨rfl, hB⟩
      have hB_2 : Below w1.heap.size w1 w2 := (by first | exact hB | exact below_drew hB | exact bel_alloc hB | exact below_drew (bel_alloc hB) | exact bel_alloc (below_drew hB) | exact bel_alloc (bel_alloc hB))
      have R0_2 := R0_1.next hB_2
      have cR0_2_0 : _ = some (Value.bool false) := R0_2.cell 0
      have fR0_2_0 := R0_2.free 0
      have cR0_2_1 : _ = some (Value.slice none 0 0) := R0_2.cell 1
      have fR0_2_1 := R0_2.free 1
      have cR0_2_2 : _ = some (Value.slice none 0 0) := R0_2.cell 2
      have fR0_2_2 := R0_2.free 2
      have hbel_2 := hbel_1.next hB_2
      have hsz_2 := hB_2.size
      clear R0_1 cR0_1_0 fR0_1_0 cR0_1_1 fR0_1_1 cR0_1_2 fR0_1_2 hbel_1 hB_2
      try clear hB
      cases h1 : digOk tA
      · skip
        have he := hid (hbad.out (.inl h1))
        go_wp2
        refine bodyPost_ret (v := .tuple #[.agg #[.bool false, .slice none 0 0, .slice none 0 0], .int .i64 10]) (by simp [results, Try.results32, go_sem, cR0_2_0, cR0_2_1, cR0_2_2]) rfl ?_
        exact (by rw [he.out]; exact retqe_nil (by decide) hbel_2 (by omega))
      · skip
        cases h2 : digOk tB
        · skip
          have he := hid (hbad.out (.inr h2))
          go_wp2
          refine bodyPost_ret (v := .tuple #[.agg #[.bool false, .slice none 0 0, .slice none 0 0], .int .i64 10]) (by simp [results, Try.results32, go_sem, cR0_2_0, cR0_2_1, cR0_2_2]) rfl ?_
          exact (by rw [he.out]; exact retqe_nil (by decide) hbel_2 (by omega))
        · skip
          obtain ⟨hq, he⟩ := hok.out h1 h2
          have hq' := hid hq
          have he' := hid he
          clear hq he hok hbad
          have hEA := hpA.out.2 h1
          have hEB := hpB.out.2 h2
          rw [hEA] at HPA
          rw [hEB] at HPB
          clear hEA hEB
          generalize paN (by' tA) = u at *
          generalize paN (by' tB) = v at *
          go_wp2_with fail
          refine (HPA.out _).mono ?_
          rintro e w3 ⟨na, nn, nc, rfl, hO, hB⟩
          have hB_3 : Below w2.heap.size w2 w3 := (by first | exact hB | exact below_drew hB | exact bel_alloc hB | exact below_drew (bel_alloc hB) | exact bel_alloc (below_drew hB) | exact bel_alloc (bel_alloc hB))
          have R0_3 := R0_2.next hB_3
          have cR0_3_0 : _ = some (Value.bool false) := R0_3.cell 0
          have fR0_3_0 := R0_3.free 0
          have cR0_3_1 : _ = some (Value.slice none 0 0) := R0_3.cell 1
          have fR0_3_1 := R0_3.free 1
          have cR0_3_2 : _ = some (Value.slice none 0 0) := R0_3.cell 2
          have fR0_3_2 := R0_3.free 2
          have hbel_3 := hbel_2.next hB_3
          have hsz_3 := hB_3.size
          clear R0_2 cR0_2_0 fR0_2_0 cR0_2_1 fR0_2_1 cR0_2_2 fR0_2_2 hbel_2 hB_3
          have N_3 := hO.rdN hnA.out
          clear hO
          try clear hB
          go_wp2_with fail
          refine (HPB.out _).mono ?_
          rintro e w4 ⟨ma, mn, mc, rfl, hO, hB⟩
          have hB_4 : Below w3.heap.size w3 w4 := (by first | exact hB | exact below_drew hB | exact bel_alloc hB | exact below_drew (bel_alloc hB) | exact bel_alloc (below_drew hB) | exact bel_alloc (bel_alloc hB))
          have R0_4 := R0_3.next hB_4
          have cR0_4_0 : _ = some (Value.bool false) := R0_4.cell 0
          have fR0_4_0 := R0_4.free 0
          have cR0_4_1 : _ = some (Value.slice none 0 0) := R0_4.cell 1
          have fR0_4_1 := R0_4.free 1
          have cR0_4_2 : _ = some (Value.slice none 0 0) := R0_4.cell 2
          have fR0_4_2 := R0_4.free 2
          have N_4 := N_3.below hB_4
          have hbel_4 := hbel_3.next hB_4
          have hsz_4 := hB_4.size
          clear R0_3 cR0_3_0 fR0_3_0 cR0_3_1 fR0_3_1 cR0_3_2 fR0_3_2 N_3 hbel_3 hB_4
          have M_4 := hO.rdN hnB.out
          clear hO
          try clear hB
          go_wp2_with fail
          refine (rwhole_any).mono ?_
          rintro e w5 ⟨rfl, hB⟩
          have hB_5 : Below w4.heap.size w4 w5 := (by first | exact hB | exact below_drew hB | exact bel_alloc hB | exact below_drew (bel_alloc hB) | exact bel_alloc (below_drew hB) | exact bel_alloc (bel_alloc hB))
          have R0_5 := R0_4.next hB_5
          have cR0_5_0 : _ = some (Value.bool false) := R0_5.cell 0
          have fR0_5_0 := R0_5.free 0
          have cR0_5_1 : _ = some (Value.slice none 0 0) := R0_5.cell 1
          have fR0_5_1 := R0_5.free 1
          have cR0_5_2 : _ = some (Value.slice none 0 0) := R0_5.cell 2
          have fR0_5_2 := R0_5.free 2
          have N_5 := N_4.below hB_5
          have M_5 := M_4.below hB_5
          have hbel_5 := hbel_4.next hB_5
          have hsz_5 := hB_5.size
          clear R0_4 cR0_4_0 fR0_4_0 cR0_4_1 fR0_4_1 cR0_4_2 fR0_4_2 N_4 M_4 hbel_4 hB_5
          try clear hB
          go_wp2_with fail
          refine (rqnew ((N_5.toZ (s := true)).mono (by omega)) (M_5.toI.mono (by omega))).mono ?_
          rw [← hq'.out, ← he'.out]
          rintro e w6 ⟨qa, qn, qc, da, dn, dc, rfl, hO, hO', hD, hB⟩
          have hB_6 : Below w5.heap.size w5 w6 := (by first | exact hB | exact below_drew hB | exact bel_alloc hB | exact below_drew (bel_alloc hB) | exact bel_alloc (below_drew hB) | exact bel_alloc (bel_alloc hB))
          have R0_6 := R0_5.next hB_6
          have cR0_6_0 : _ = some (Value.bool false) := R0_6.cell 0
          have fR0_6_0 := R0_6.free 0
          have cR0_6_1 : _ = some (Value.slice none 0 0) := R0_6.cell 1
          have fR0_6_1 := R0_6.free 1
          have cR0_6_2 : _ = some (Value.slice none 0 0) := R0_6.cell 2
          have fR0_6_2 := R0_6.free 2
          have N_6 := N_5.below hB_6
          have M_6 := M_5.below hB_6
          have hbel_6 := hbel_5.next hB_6
          have hsz_6 := hB_6.size
          clear R0_5 cR0_5_0 fR0_5_0 cR0_5_1 fR0_5_1 cR0_5_2 fR0_5_2 N_5 M_5 hbel_5 hB_6
          have OQ_6 := hO
          have ltOQ := hO.ltB
          have OD_6 := hO'
          have ltOD := hO'.ltB
          clear hO hO'
          try clear hB
          go_wp2
          refine bodyPost_ret (v := .tuple #[.agg #[.bool (qsg (fpQ s) (fpE s)), .slice qa qn qc, .slice da dn dc], .int .i64 (fpE s)]) (by simp [results, Try.results32, go_sem, cR0_6_0, cR0_6_1, cR0_6_2]) rfl ?_
          exact retqe_set OQ_6 OD_6 hD hbel_6 (by omega) (by omega)

set_option maxRecDepth 100000 in
set_option maxHeartbeats 4000000 in
theorem rqparseP1 {w : World} (s : ByteArray) (hs : s.size ≤ 4194304) (hb : pzB s = false) (h0 : 0 < s.size) (hf : cutF (pzR s) = true) :
    Calls Try.prog 32 #[.string s] w (RetQE w (fpQ s) (fpE s)) := by
  have hrs := pzR_size s
  have hca := cutA_size (pzR s)
  have hcb := cutB_size (pzR s)
  have hd : (by' s).getD 0 0 ≠ 45 := fun e => by rw [show pzB s = true from decide_eq_true ⟨h0, e⟩] at hb; cases hb
  have hx0 := by_get s 0 h0
  obtain ⟨x0, hxe0⟩ : ∃ x, s[0].toNat = x := ⟨_, rfl⟩
  rw [hxe0] at hx0
  rw [hx0] at hd
  have hx45 : (x0 == 45) = false := by simp; exact hd
  have hr : pzR s = s := by unfold pzR; rw [hb]; rfl
  clear hd hx0
  obtain ⟨i0, hsl, hi0⟩ : ∃ i : Nat, slI (pzR s) = i ∧ i < (pzR s).size := by rcases slI_cases (pzR s) with h | h; (unfold cutF at hf; rw [h] at hf; exact absurd hf (by decide)); exact h
  have hns := hid (fun j (hj : j < i0) => by_ne_of (Lib.indexByte_some (show Lib.indexByte (pzR s).data.toList 47 = (i0 : Int) from hsl)).2 hj)
  have hat := hid (by_eq_of (Lib.indexByte_some (show Lib.indexByte (pzR s).data.toList 47 = (i0 : Int) from hsl)).1)
  have hA : cutA (pzR s) = (pzR s).extract 0 i0 := by unfold cutA; rw [hsl, if_neg (by omega)]; rfl
  have hB : rBel (pzR s) = (pzR s).extract (i0 + 1) (pzR s).size := by unfold rBel cutB; rw [hf, if_pos rfl, hsl, if_neg (by omega)]; rfl
  have hBs : (rBel (pzR s)).size ≤ (pzR s).size := by rw [hB, ByteArray.size_extract]; omega
  clear hsl
  obtain ⟨K, hK⟩ : ∃ K, K = 4194304 := ⟨_, rfl⟩
  have HDA := hid (fun w => rdigits_b (w := w) (cutA (pzR s)) (by omega))
  have HDB := hid (fun w => rdigits_b (w := w) (rBel (pzR s)) (by omega))
  have HPA := hid (fun w => rparse_any (w := w) (cutA (pzR s)) (by omega))
  have HPB := hid (fun w => rparse_any (w := w) (rBel (pzR s)) (by omega))
  have hnA := hid ((paN_sz (cutA (pzR s)) (Nat.le_refl _)).mono (Nat.le_refl _) (show _ ≤ K by omega))
  have hnB := hid ((paN_sz (rBel (pzR s)) (Nat.le_refl _)).mono (Nat.le_refl _) (show _ ≤ K by omega))
  have hok := hid (fp_ref s)
  have hbad := hid (fp_ref_bad s)
  have hpA := hid (digOk_pa (cutA (pzR s)))
  have hpB := hid (digOk_pa (rBel (pzR s)))
  rw [hb] at hok
  have hAr := hid hA.symm
  have hBr := hid hB.symm
  clear hA hB hca hcb hBs hf hb
  generalize cutA (pzR s) = tA at *
  generalize rBel (pzR s) = tB at *
  generalize hrg : pzR s = r at *
  have hr2 := hr.symm
  clear hr
  subst hr2
  have hent := ent1 w #[Value.bool false, Value.slice none 0 0, Value.slice none 0 0] 32
  go_enter Try.func32, Try.ntmps32
  go_wp2_with fail
  generalize (w.alloc (.cells #[Value.bool false, Value.slice none 0 0, Value.slice none 0 0] 32)) = W0 at hent ⊢
  obtain ⟨R0_0, hbel_0, hsz_0⟩ := hent
  have cR0_0_0 : _ = some (Value.bool false) := R0_0.cell 0
  have fR0_0_0 := R0_0.free 0
  have cR0_0_1 : _ = some (Value.slice none 0 0) := R0_0.cell 1
  have fR0_0_1 := R0_0.free 1
  have cR0_0_2 : _ = some (Value.slice none 0 0) := R0_0.cell 2
  have fR0_0_2 := R0_0.free 2
  go_wp2_with fail
  clear hxe0 hx45
  go_loopw [5, 6, 7] (fun u v i wr => ∃ k : Nat, k ≤ i0 ∧ u = .string s ∧ v = .string ⟨#[49]⟩ ∧ i = .int .i64 k ∧ wr = W0) (fun _ _ i _ => i0 - (intOf i).toNat)
  case atStart => exact ⟨0, by omega, rfl, rfl, rfl, rfl⟩
  case round =>
    obtain ⟨k, hk, rfl, rfl, rfl, hwr⟩ := hrel
    have hwr2 := hwr.symm
    clear hwr
    subst hwr2
    by_cases hkn : k < i0
    · have hkr : k < s.size := by omega
      have hx := hns.out k hkn
      rw [by_get s k hkr] at hx
      obtain ⟨x, hxe⟩ : ∃ x, s[k].toNat = x := ⟨_, rfl⟩
      rw [hxe] at hx
      have hx47 : (x == 47) = false := by simp; exact hx
      go_wp2
      go_roundw
      case rel => exact ⟨k + 1, by omega, rfl, rfl, by go_num, by first | rfl | trivial⟩
      case measure => simp [intOf]; omega
    · obtain rfl : k = i0 := by omega
      have hx := hat.out
      rw [by_get s k hi0] at hx
      obtain ⟨x, hxe⟩ : ∃ x, s[k].toNat = x := ⟨_, rfl⟩
      rw [hxe] at hx
      subst hx
      have hk1 : IntKind.i64.wrap ((k : Int) + 1) = ((k + 1 : Nat) : Int) := by rw [IntKind.wrap_i64]; omega
      go_wp2_with fail
      rw [hAr.out]
      clear hxe
      go_wp2_with fail
      refine (HDA.out _).mono ?_
      rintro e w1 ⟨rfl, hB⟩
      have hB_1 : Below W0.heap.size W0 w1 := (by first | exact hB | exact below_drew hB | exact bel_alloc hB | exact below_drew (bel_alloc hB) | exact bel_alloc (below_drew hB) | exact bel_alloc (bel_alloc hB))
      have R0_1 := R0_0.next hB_1
      have cR0_1_0 : _ = some (Value.bool false) := R0_1.cell 0
      have fR0_1_0 := R0_1.free 0
      have cR0_1_1 : _ = some (Value.slice none 0 0) := R0_1.cell 1
      have fR0_1_1 := R0_1.free 1
      have cR0_1_2 : _ = some (Value.slice none 0 0) := R0_1.cell 2
      have fR0_1_2 := R0_1.free 2
      have hbel_1 := hbel_0.next hB_1
      have hsz_1 := hB_1.size
      clear R0_0 cR0_0_0 fR0_0_0 cR0_0_1 fR0_0_1 cR0_0_2 fR0_0_2 hbel_0 hB_1
      try clear hB
      go_wp2_with fail
      rw [hBr.out]
      go_wp2_with fail
      refine (HDB.out _).mono ?_
      rintro e w2 ⟨rfl, hB⟩
      have hB_2 : Below w1.heap.size w1 w2 := (by first | exact hB | exact below_drew hB | exact bel_alloc hB | exact below_drew (bel_alloc hB) | exact bel_alloc (below_drew hB) | exact bel_alloc (bel_alloc hB))
      have R0_2 := R0_1.next hB_2
      have cR0_2_0 : _ = some (Value.bool false) := R0_2.cell 0
      have fR0_2_0 := R0_2.free 0
      have cR0_2_1 : _ = some (Value.slice none 0 0) := R0_2.cell 1
      have fR0_2_1 := R0_2.free 1
      have cR0_2_2 : _ = some (Value.slice none 0 0) := R0_2.cell 2
      have fR0_2_2 := R0_2.free 2
      have hbel_2 := hbel_1.next hB_2
      have hsz_2 := hB_2.size
      clear R0_1 cR0_1_0 fR0_1_0 cR0_1_1 fR0_1_1 cR0_1_2 fR0_1_2 hbel_1 hB_2
      try clear hB
      cases h1 : digOk tA
      · skip
        have he := hid (hbad.out (.inl h1))
        go_wp2
        refine bodyPost_ret (v := .tuple #[.agg #[.bool false, .slice none 0 0, .slice none 0 0], .int .i64 10]) (by simp [results, Try.results32, go_sem, cR0_2_0, cR0_2_1, cR0_2_2]) rfl ?_
        exact (by rw [he.out]; exact retqe_nil (by decide) hbel_2 (by omega))
      · skip
        cases h2 : digOk tB
        · skip
          have he := hid (hbad.out (.inr h2))
          go_wp2
          refine bodyPost_ret (v := .tuple #[.agg #[.bool false, .slice none 0 0, .slice none 0 0], .int .i64 10]) (by simp [results, Try.results32, go_sem, cR0_2_0, cR0_2_1, cR0_2_2]) rfl ?_
          exact (by rw [he.out]; exact retqe_nil (by decide) hbel_2 (by omega))
        · skip
          obtain ⟨hq, he⟩ := hok.out h1 h2
          have hq' := hid hq
          have he' := hid he
          clear hq he hok hbad
          have hEA := hpA.out.2 h1
          have hEB := hpB.out.2 h2
          rw [hEA] at HPA
          rw [hEB] at HPB
          clear hEA hEB
          generalize paN (by' tA) = u at *
          generalize paN (by' tB) = v at *
          go_wp2_with fail
          refine (HPA.out _).mono ?_
          rintro e w3 ⟨na, nn, nc, rfl, hO, hB⟩
          have hB_3 : Below w2.heap.size w2 w3 := (by first | exact hB | exact below_drew hB | exact bel_alloc hB | exact below_drew (bel_alloc hB) | exact bel_alloc (below_drew hB) | exact bel_alloc (bel_alloc hB))
          have R0_3 := R0_2.next hB_3
          have cR0_3_0 : _ = some (Value.bool false) := R0_3.cell 0
          have fR0_3_0 := R0_3.free 0
          have cR0_3_1 : _ = some (Value.slice none 0 0) := R0_3.cell 1
          have fR0_3_1 := R0_3.free 1
          have cR0_3_2 : _ = some (Value.slice none 0 0) := R0_3.cell 2
          have fR0_3_2 := R0_3.free 2
          have hbel_3 := hbel_2.next hB_3
          have hsz_3 := hB_3.size
          clear R0_2 cR0_2_0 fR0_2_0 cR0_2_1 fR0_2_1 cR0_2_2 fR0_2_2 hbel_2 hB_3
          have N_3 := hO.rdN hnA.out
          clear hO
          try clear hB
          go_wp2_with fail
          refine (HPB.out _).mono ?_
          rintro e w4 ⟨ma, mn, mc, rfl, hO, hB⟩
          have hB_4 : Below w3.heap.size w3 w4 := (by first | exact hB | exact below_drew hB | exact bel_alloc hB | exact below_drew (bel_alloc hB) | exact bel_alloc (below_drew hB) | exact bel_alloc (bel_alloc hB))
          have R0_4 := R0_3.next hB_4
          have cR0_4_0 : _ = some (Value.bool false) := R0_4.cell 0
          have fR0_4_0 := R0_4.free 0
          have cR0_4_1 : _ = some (Value.slice none 0 0) := R0_4.cell 1
          have fR0_4_1 := R0_4.free 1
          have cR0_4_2 : _ = some (Value.slice none 0 0) := R0_4.cell 2
          have fR0_4_2 := R0_4.free 2
          have N_4 := N_3.below hB_4
          have hbel_4 := hbel_3.next hB_4
          have hsz_4 := hB_4.size
          clear R0_3 cR0_3_0 fR0_3_0 cR0_3_1 fR0_3_1 cR0_3_2 fR0_3_2 N_3 hbel_3 hB_4
          have M_4 := hO.rdN hnB.out
          clear hO
          try clear hB
          go_wp2_with fail
          refine (rwhole_any).mono ?_
          rintro e w5 ⟨rfl, hB⟩
          have hB_5 : Below w4.heap.size w4 w5 := (by first | exact hB | exact below_drew hB | exact bel_alloc hB | exact below_drew (bel_alloc hB) | exact bel_alloc (below_drew hB) | exact bel_alloc (bel_alloc hB))
          have R0_5 := R0_4.next hB_5
          have cR0_5_0 : _ = some (Value.bool false) := R0_5.cell 0
          have fR0_5_0 := R0_5.free 0
          have cR0_5_1 : _ = some (Value.slice none 0 0) := R0_5.cell 1
          have fR0_5_1 := R0_5.free 1
          have cR0_5_2 : _ = some (Value.slice none 0 0) := R0_5.cell 2
          have fR0_5_2 := R0_5.free 2
          have N_5 := N_4.below hB_5
          have M_5 := M_4.below hB_5
          have hbel_5 := hbel_4.next hB_5
          have hsz_5 := hB_5.size
          clear R0_4 cR0_4_0 fR0_4_0 cR0_4_1 fR0_4_1 cR0_4_2 fR0_4_2 N_4 M_4 hbel_4 hB_5
          try clear hB
          go_wp2_with fail
          refine (rqnew ((N_5.toZ (s := false)).mono (by omega)) (M_5.toI.mono (by omega))).mono ?_
          rw [← hq'.out, ← he'.out]
          rintro e w6 ⟨qa, qn, qc, da, dn, dc, rfl, hO, hO', hD, hB⟩
          have hB_6 : Below w5.heap.size w5 w6 := (by first | exact hB | exact below_drew hB | exact bel_alloc hB | exact below_drew (bel_alloc hB) | exact bel_alloc (below_drew hB) | exact bel_alloc (bel_alloc hB))
          have R0_6 := R0_5.next hB_6
          have cR0_6_0 : _ = some (Value.bool false) := R0_6.cell 0
          have fR0_6_0 := R0_6.free 0
          have cR0_6_1 : _ = some (Value.slice none 0 0) := R0_6.cell 1
          have fR0_6_1 := R0_6.free 1
          have cR0_6_2 : _ = some (Value.slice none 0 0) := R0_6.cell 2
          have fR0_6_2 := R0_6.free 2
          have N_6 := N_5.below hB_6
          have M_6 := M_5.below hB_6
          have hbel_6 := hbel_5.next hB_6
          have hsz_6 := hB_6.size
          clear R0_5 cR0_5_0 fR0_5_0 cR0_5_1 fR0_5_1 cR0_5_2 fR0_5_2 N_5 M_5 hbel_5 hB_6
          have OQ_6 := hO
          have ltOQ := hO.ltB
          have OD_6 := hO'
          have ltOD := hO'.ltB
          clear hO hO'
          try clear hB
          go_wp2
          refine bodyPost_ret (v := .tuple #[.agg #[.bool (qsg (fpQ s) (fpE s)), .slice qa qn qc, .slice da dn dc], .int .i64 (fpE s)]) (by simp [results, Try.results32, go_sem, cR0_6_0, cR0_6_1, cR0_6_2]) rfl ?_
          exact retqe_set OQ_6 OD_6 hD hbel_6 (by omega) (by omega)

set_option maxRecDepth 100000 in
set_option maxHeartbeats 4000000 in
theorem rqparseP0 {w : World} (s : ByteArray) (hs : s.size ≤ 4194304) (hb : pzB s = false) (h0 : 0 < s.size) (hf : cutF (pzR s) = false) :
    Calls Try.prog 32 #[.string s] w (RetQE w (fpQ s) (fpE s)) := by
  have hrs := pzR_size s
  have hca := cutA_size (pzR s)
  have hcb := cutB_size (pzR s)
  have hd : (by' s).getD 0 0 ≠ 45 := fun e => by rw [show pzB s = true from decide_eq_true ⟨h0, e⟩] at hb; cases hb
  have hx0 := by_get s 0 h0
  obtain ⟨x0, hxe0⟩ : ∃ x, s[0].toNat = x := ⟨_, rfl⟩
  rw [hxe0] at hx0
  rw [hx0] at hd
  have hx45 : (x0 == 45) = false := by simp; exact hd
  have hr : pzR s = s := by unfold pzR; rw [hb]; rfl
  clear hd hx0
  have hsl : slI (pzR s) = -1 := by rcases slI_cases (pzR s) with h | ⟨i, h, _⟩; exact h; (unfold cutF at hf; rw [h] at hf; have := of_decide_eq_false hf; omega)
  have hns := hid (fun j (_ : j < (pzR s).size) => by_ne_of (fun k (_ : k < j + 1) => Lib.indexByte_none (show Lib.indexByte (pzR s).data.toList 47 = -1 from hsl) k) (Nat.lt_succ_self j))
  have hA : cutA (pzR s) = pzR s := by unfold cutA; rw [hsl]; rfl
  have hB : rBel (pzR s) = ⟨#[49]⟩ := by unfold rBel; rw [hf]; rfl
  have hBs : (rBel (pzR s)).size ≤ 1 := by rw [hB]; exact Nat.le_refl _
  clear hsl
  obtain ⟨K, hK⟩ : ∃ K, K = 4194304 := ⟨_, rfl⟩
  have HDA := hid (fun w => rdigits_b (w := w) (cutA (pzR s)) (by omega))
  have HDB := hid (fun w => rdigits_b (w := w) (rBel (pzR s)) (by omega))
  have HPA := hid (fun w => rparse_any (w := w) (cutA (pzR s)) (by omega))
  have HPB := hid (fun w => rparse_any (w := w) (rBel (pzR s)) (by omega))
  have hnA := hid ((paN_sz (cutA (pzR s)) (Nat.le_refl _)).mono (Nat.le_refl _) (show _ ≤ K by omega))
  have hnB := hid ((paN_sz (rBel (pzR s)) (Nat.le_refl _)).mono (Nat.le_refl _) (show _ ≤ K by omega))
  have hok := hid (fp_ref s)
  have hbad := hid (fp_ref_bad s)
  have hpA := hid (digOk_pa (cutA (pzR s)))
  have hpB := hid (digOk_pa (rBel (pzR s)))
  rw [hb] at hok
  have hAr := hid hA.symm
  have hBr := hid hB.symm
  clear hA hB hca hcb hBs hf hb
  generalize cutA (pzR s) = tA at *
  generalize rBel (pzR s) = tB at *
  generalize hrg : pzR s = r at *
  have hr2 := hr.symm
  clear hr
  subst hr2
  have hent := ent1 w #[Value.bool false, Value.slice none 0 0, Value.slice none 0 0] 32
  go_enter Try.func32, Try.ntmps32
  go_wp2_with fail
  generalize (w.alloc (.cells #[Value.bool false, Value.slice none 0 0, Value.slice none 0 0] 32)) = W0 at hent ⊢
  obtain ⟨R0_0, hbel_0, hsz_0⟩ := hent
  have cR0_0_0 : _ = some (Value.bool false) := R0_0.cell 0
  have fR0_0_0 := R0_0.free 0
  have cR0_0_1 : _ = some (Value.slice none 0 0) := R0_0.cell 1
  have fR0_0_1 := R0_0.free 1
  have cR0_0_2 : _ = some (Value.slice none 0 0) := R0_0.cell 2
  have fR0_0_2 := R0_0.free 2
  go_wp2_with fail
  clear hxe0 hx45
  go_loopw [5, 6, 7] (fun u v i wr => ∃ k : Nat, k ≤ s.size ∧ u = .string s ∧ v = .string ⟨#[49]⟩ ∧ i = .int .i64 k ∧ wr = W0) (fun _ _ i _ => s.size - (intOf i).toNat)
  case atStart => exact ⟨0, by omega, rfl, rfl, rfl, rfl⟩
  case round =>
    obtain ⟨k, hk, rfl, rfl, rfl, hwr⟩ := hrel
    have hwr2 := hwr.symm
    clear hwr
    subst hwr2
    by_cases hkn : k < s.size
    · have hkr : k < s.size := by omega
      have hx := hns.out k hkn
      rw [by_get s k hkr] at hx
      obtain ⟨x, hxe⟩ : ∃ x, s[k].toNat = x := ⟨_, rfl⟩
      rw [hxe] at hx
      have hx47 : (x == 47) = false := by simp; exact hx
      go_wp2
      go_roundw
      case rel => exact ⟨k + 1, by omega, rfl, rfl, by go_num, by first | rfl | trivial⟩
      case measure => simp [intOf]; omega
    · obtain rfl : k = s.size := by omega
      go_wp2_with fail
      rw [hAr.out]
      go_wp2_with fail
      refine (HDA.out _).mono ?_
      rintro e w1 ⟨rfl, hB⟩
      have hB_1 : Below W0.heap.size W0 w1 := (by first | exact hB | exact below_drew hB | exact bel_alloc hB | exact below_drew (bel_alloc hB) | exact bel_alloc (below_drew hB) | exact bel_alloc (bel_alloc hB))
      have R0_1 := R0_0.next hB_1
      have cR0_1_0 : _ = some (Value.bool false) := R0_1.cell 0
      have fR0_1_0 := R0_1.free 0
      have cR0_1_1 : _ = some (Value.slice none 0 0) := R0_1.cell 1
      have fR0_1_1 := R0_1.free 1
      have cR0_1_2 : _ = some (Value.slice none 0 0) := R0_1.cell 2
      have fR0_1_2 := R0_1.free 2
      have hbel_1 := hbel_0.next hB_1
      have hsz_1 := hB_1.size
      clear R0_0 cR0_0_0 fR0_0_0 cR0_0_1 fR0_0_1 cR0_0_2 fR0_0_2 hbel_0 hB_1
      try clear hB
      go_wp2_with fail
      rw [hBr.out]
      go_wp2_with fail
      refine (HDB.out _).mono ?_
      rintro e w2 ⟨rfl, hB⟩
      have hB_2 : Below w1.heap.size w1 w2 := (by first | exact hB | exact below_drew hB | exact bel_alloc hB | exact below_drew (bel_alloc hB) | exact bel_alloc (below_drew hB) | exact bel_alloc (bel_alloc hB))
      have R0_2 := R0_1.next hB_2
      have cR0_2_0 : _ = some (Value.bool false) := R0_2.cell 0
      have fR0_2_0 := R0_2.free 0
      have cR0_2_1 : _ = some (Value.slice none 0 0) := R0_2.cell 1
      have fR0_2_1 := R0_2.free 1
      have cR0_2_2 : _ = some (Value.slice none 0 0) := R0_2.cell 2
      have fR0_2_2 := R0_2.free 2
      have hbel_2 := hbel_1.next hB_2
      have hsz_2 := hB_2.size
      clear R0_1 cR0_1_0 fR0_1_0 cR0_1_1 fR0_1_1 cR0_1_2 fR0_1_2 hbel_1 hB_2
      try clear hB
      cases h1 : digOk tA
      · skip
        have he := hid (hbad.out (.inl h1))
        go_wp2
        refine bodyPost_ret (v := .tuple #[.agg #[.bool false, .slice none 0 0, .slice none 0 0], .int .i64 10]) (by simp [results, Try.results32, go_sem, cR0_2_0, cR0_2_1, cR0_2_2]) rfl ?_
        exact (by rw [he.out]; exact retqe_nil (by decide) hbel_2 (by omega))
      · skip
        cases h2 : digOk tB
        · skip
          have he := hid (hbad.out (.inr h2))
          go_wp2
          refine bodyPost_ret (v := .tuple #[.agg #[.bool false, .slice none 0 0, .slice none 0 0], .int .i64 10]) (by simp [results, Try.results32, go_sem, cR0_2_0, cR0_2_1, cR0_2_2]) rfl ?_
          exact (by rw [he.out]; exact retqe_nil (by decide) hbel_2 (by omega))
        · skip
          obtain ⟨hq, he⟩ := hok.out h1 h2
          have hq' := hid hq
          have he' := hid he
          clear hq he hok hbad
          have hEA := hpA.out.2 h1
          have hEB := hpB.out.2 h2
          rw [hEA] at HPA
          rw [hEB] at HPB
          clear hEA hEB
          generalize paN (by' tA) = u at *
          generalize paN (by' tB) = v at *
          go_wp2_with fail
          refine (HPA.out _).mono ?_
          rintro e w3 ⟨na, nn, nc, rfl, hO, hB⟩
          have hB_3 : Below w2.heap.size w2 w3 := (by first | exact hB | exact below_drew hB | exact bel_alloc hB | exact below_drew (bel_alloc hB) | exact bel_alloc (below_drew hB) | exact bel_alloc (bel_alloc hB))
          have R0_3 := R0_2.next hB_3
          have cR0_3_0 : _ = some (Value.bool false) := R0_3.cell 0
          have fR0_3_0 := R0_3.free 0
          have cR0_3_1 : _ = some (Value.slice none 0 0) := R0_3.cell 1
          have fR0_3_1 := R0_3.free 1
          have cR0_3_2 : _ = some (Value.slice none 0 0) := R0_3.cell 2
          have fR0_3_2 := R0_3.free 2
          have hbel_3 := hbel_2.next hB_3
          have hsz_3 := hB_3.size
          clear R0_2 cR0_2_0 fR0_2_0 cR0_2_1 fR0_2_1 cR0_2_2 fR0_2_2 hbel_2 hB_3
          have N_3 := hO.rdN hnA.out
          clear hO
          try clear hB
          go_wp2_with fail
          refine (HPB.out _).mono ?_
          rintro e w4 ⟨ma, mn, mc, rfl, hO, hB⟩
          have hB_4 : Below w3.heap.size w3 w4 := (by first | exact hB | exact below_drew hB | exact bel_alloc hB | exact below_drew (bel_alloc hB) | exact bel_alloc (below_drew hB) | exact bel_alloc (bel_alloc hB))
          have R0_4 := R0_3.next hB_4
          have cR0_4_0 : _ = some (Value.bool false) := R0_4.cell 0
          have fR0_4_0 := R0_4.free 0
          have cR0_4_1 : _ = some (Value.slice none 0 0) := R0_4.cell 1
          have fR0_4_1 := R0_4.free 1
          have cR0_4_2 : _ = some (Value.slice none 0 0) := R0_4.cell 2
          have fR0_4_2 := R0_4.free 2
          have N_4 := N_3.below hB_4
          have hbel_4 := hbel_3.next hB_4
          have hsz_4 := hB_4.size
          clear R0_3 cR0_3_0 fR0_3_0 cR0_3_1 fR0_3_1 cR0_3_2 fR0_3_2 N_3 hbel_3 hB_4
          have M_4 := hO.rdN hnB.out
          clear hO
          try clear hB
          go_wp2_with fail
          refine (rwhole_any).mono ?_
          rintro e w5 ⟨rfl, hB⟩
          have hB_5 : Below w4.heap.size w4 w5 := (by first | exact hB | exact below_drew hB | exact bel_alloc hB | exact below_drew (bel_alloc hB) | exact bel_alloc (below_drew hB) | exact bel_alloc (bel_alloc hB))
          have R0_5 := R0_4.next hB_5
          have cR0_5_0 : _ = some (Value.bool false) := R0_5.cell 0
          have fR0_5_0 := R0_5.free 0
          have cR0_5_1 : _ = some (Value.slice none 0 0) := R0_5.cell 1
          have fR0_5_1 := R0_5.free 1
          have cR0_5_2 : _ = some (Value.slice none 0 0) := R0_5.cell 2
          have fR0_5_2 := R0_5.free 2
          have N_5 := N_4.below hB_5
          have M_5 := M_4.below hB_5
          have hbel_5 := hbel_4.next hB_5
          have hsz_5 := hB_5.size
          clear R0_4 cR0_4_0 fR0_4_0 cR0_4_1 fR0_4_1 cR0_4_2 fR0_4_2 N_4 M_4 hbel_4 hB_5
          try clear hB
          go_wp2_with fail
          refine (rqnew ((N_5.toZ (s := false)).mono (by omega)) (M_5.toI.mono (by omega))).mono ?_
          rw [← hq'.out, ← he'.out]
          rintro e w6 ⟨qa, qn, qc, da, dn, dc, rfl, hO, hO', hD, hB⟩
          have hB_6 : Below w5.heap.size w5 w6 := (by first | exact hB | exact below_drew hB | exact bel_alloc hB | exact below_drew (bel_alloc hB) | exact bel_alloc (below_drew hB) | exact bel_alloc (bel_alloc hB))
          have R0_6 := R0_5.next hB_6
          have cR0_6_0 : _ = some (Value.bool false) := R0_6.cell 0
          have fR0_6_0 := R0_6.free 0
          have cR0_6_1 : _ = some (Value.slice none 0 0) := R0_6.cell 1
          have fR0_6_1 := R0_6.free 1
          have cR0_6_2 : _ = some (Value.slice none 0 0) := R0_6.cell 2
          have fR0_6_2 := R0_6.free 2
          have N_6 := N_5.below hB_6
          have M_6 := M_5.below hB_6
          have hbel_6 := hbel_5.next hB_6
          have hsz_6 := hB_6.size
          clear R0_5 cR0_5_0 fR0_5_0 cR0_5_1 fR0_5_1 cR0_5_2 fR0_5_2 N_5 M_5 hbel_5 hB_6
          have OQ_6 := hO
          have ltOQ := hO.ltB
          have OD_6 := hO'
          have ltOD := hO'.ltB
          clear hO hO'
          try clear hB
          go_wp2
          refine bodyPost_ret (v := .tuple #[.agg #[.bool (qsg (fpQ s) (fpE s)), .slice qa qn qc, .slice da dn dc], .int .i64 (fpE s)]) (by simp [results, Try.results32, go_sem, cR0_6_0, cR0_6_1, cR0_6_2]) rfl ?_
          exact retqe_set OQ_6 OD_6 hD hbel_6 (by omega) (by omega)

set_option maxRecDepth 100000 in
set_option maxHeartbeats 4000000 in
theorem rqparseE0 {w : World} (s : ByteArray) (hs : s.size ≤ 4194304) (h0 : s = ⟨#[]⟩) :
    Calls Try.prog 32 #[.string s] w (RetQE w (fpQ s) (fpE s)) := by
  subst h0
  have hE := hid (show fpE ⟨#[]⟩ = 10 by decide +kernel)
  rw [hE.out]
  have HD := hid (fun w => rdigits_b (w := w) ⟨#[]⟩ (by decide +kernel))
  rw [show digOk ⟨#[]⟩ = false by decide +kernel] at HD
  have HD1 := hid (fun w => rdigits_b (w := w) ⟨#[49]⟩ (by decide +kernel))
  rw [show digOk ⟨#[49]⟩ = true by decide +kernel] at HD1
  have hent := ent1 w #[Value.bool false, Value.slice none 0 0, Value.slice none 0 0] 32
  go_enter Try.func32, Try.ntmps32
  go_wp2_with fail
  generalize (w.alloc (.cells #[Value.bool false, Value.slice none 0 0, Value.slice none 0 0] 32)) = W0 at hent ⊢
  obtain ⟨R0_0, hbel_0, hsz_0⟩ := hent
  have cR0_0_0 : _ = some (Value.bool false) := R0_0.cell 0
  have fR0_0_0 := R0_0.free 0
  have cR0_0_1 : _ = some (Value.slice none 0 0) := R0_0.cell 1
  have fR0_0_1 := R0_0.free 1
  have cR0_0_2 : _ = some (Value.slice none 0 0) := R0_0.cell 2
  have fR0_0_2 := R0_0.free 2
  go_wp2_with fail
  go_loopw [5, 6, 7] (fun u v i wr => u = .string ⟨#[]⟩ ∧ v = .string ⟨#[49]⟩ ∧ i = .int .i64 0 ∧ wr = W0) (fun _ _ i _ => 0)
  case atStart => exact ⟨rfl, rfl, rfl, rfl⟩
  case round =>
    obtain ⟨rfl, rfl, rfl, hwr⟩ := hrel
    have hwr2 := hwr.symm
    clear hwr
    subst hwr2
    go_wp2_with fail
    refine (HD.out _).mono ?_
    rintro e w1 ⟨rfl, hB⟩
    have hB_1 : Below W0.heap.size W0 w1 := (by first | exact hB | exact below_drew hB | exact bel_alloc hB | exact below_drew (bel_alloc hB) | exact bel_alloc (below_drew hB) | exact bel_alloc (bel_alloc hB))
    have R0_1 := R0_0.next hB_1
    have cR0_1_0 : _ = some (Value.bool false) := R0_1.cell 0
    have fR0_1_0 := R0_1.free 0
    have cR0_1_1 : _ = some (Value.slice none 0 0) := R0_1.cell 1
    have fR0_1_1 := R0_1.free 1
    have cR0_1_2 : _ = some (Value.slice none 0 0) := R0_1.cell 2
    have fR0_1_2 := R0_1.free 2
    have hbel_1 := hbel_0.next hB_1
    have hsz_1 := hB_1.size
    clear R0_0 cR0_0_0 fR0_0_0 cR0_0_1 fR0_0_1 cR0_0_2 fR0_0_2 hbel_0 hB_1
    try clear hB
    go_wp2_with fail
    refine (HD1.out _).mono ?_
    rintro e w2 ⟨rfl, hB⟩
    have hB_2 : Below w1.heap.size w1 w2 := (by first | exact hB | exact below_drew hB | exact bel_alloc hB | exact below_drew (bel_alloc hB) | exact bel_alloc (below_drew hB) | exact bel_alloc (bel_alloc hB))
    have R0_2 := R0_1.next hB_2
    have cR0_2_0 : _ = some (Value.bool false) := R0_2.cell 0
    have fR0_2_0 := R0_2.free 0
    have cR0_2_1 : _ = some (Value.slice none 0 0) := R0_2.cell 1
    have fR0_2_1 := R0_2.free 1
    have cR0_2_2 : _ = some (Value.slice none 0 0) := R0_2.cell 2
    have fR0_2_2 := R0_2.free 2
    have hbel_2 := hbel_1.next hB_2
    have hsz_2 := hB_2.size
    clear R0_1 cR0_1_0 fR0_1_0 cR0_1_1 fR0_1_1 cR0_1_2 fR0_1_2 hbel_1 hB_2
    try clear hB
    go_wp2
    refine bodyPost_ret (v := .tuple #[.agg #[.bool false, .slice none 0 0, .slice none 0 0], .int .i64 10]) (by simp [results, Try.results32, go_sem, cR0_2_0, cR0_2_1, cR0_2_2]) rfl ?_
    exact retqe_nil (by decide) hbel_2 (by omega)

theorem rqparse {w : World} (s : ByteArray) (hs : s.size ≤ 4194304) : Calls Try.prog 32 #[.string s] w (RetQE w (fpQ s) (fpE s)) := by
  cases hb : pzB s
  · by_cases h0 : 0 < s.size
    · cases hf : cutF (pzR s)
      · exact rqparseP0 s hs hb h0 hf
      · exact rqparseP1 s hs hb h0 hf
    · exact rqparseE0 s hs (by
        cases s with
        | mk d => have : d.size = 0 := by simp [ByteArray.size] at h0; simpa using h0
                  rw [Array.eq_empty_of_size_eq_zero this])
  · cases hf : cutF (pzR s)
    · exact rqparseN0 s hs hb hf
    · exact rqparseN1 s hs hb hf

end Go.Proofs.Ytenmjgnhneofjaa
