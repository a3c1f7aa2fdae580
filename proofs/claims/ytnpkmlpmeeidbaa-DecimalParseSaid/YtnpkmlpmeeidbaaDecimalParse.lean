/- THE WALK OF credencelaw04.DecimalParse: any text: the fraction, told twice; the first one written over. -/
import Derived.Test.YtnpkmlpmeeidbaaEd
import Derived.Test.YtnpkmlpmeeidbaaDq
import Derived.Test.YtnpkmlpmeeidbaaQn
namespace Go.Proofs.Ytnpkmlpmeeidbaa
set_option linter.unusedVariables false
set_option linter.unusedSimpArgs false
open Go.ChangeShapes Go.WideShapes Go.ChangeAt Go.RowKit Go.NatP

theorem dcP_bd {l D : List Nat} {b : Bool} {e : Int} (h : dcP l = some (b, D, e)) : okD D = true ∧ D.length ≤ l.length ∧ -1000 - (l.length : Int) ≤ e ∧ e ≤ 1000 := by
  unfold dcP at h
  rw [Option.map_eq_some_iff] at h
  obtain ⟨⟨D', e'⟩, h1, h2⟩ := h
  cases h2
  have hs : ((sgS l).2).length ≤ l.length := by
    cases l with
    | nil => exact Nat.le_refl _
    | cons c t =>
      show (if c = 45 then (true, t) else (false, c :: t)).2.length ≤ t.length + 1
      split <;> simp
  have hG : ∀ A B r, okD A = true → okD B = true → dcG A B r = some (D, e) → okD D = true ∧ D.length = A.length + B.length ∧ -1000 - (B.length : Int) ≤ e ∧ e ≤ 1000 := by
    intro A B r hA hB hg
    unfold dcG at hg
    split at hg
    · cases hg
    · rw [Option.map_eq_some_iff] at hg
      obtain ⟨x, h3, h4⟩ := hg
      cases h4
      obtain ⟨b1, b2⟩ := exP_bd h3
      exact ⟨by rw [okD_append, hA, hB]; rfl, List.length_append, by omega, by omega⟩
  generalize (sgS l).2 = s at *
  have hAB := congrArg List.length (dgAB s)
  rw [List.length_append] at hAB
  unfold dcU at h1
  split at h1
  · obtain ⟨h3, h4, h5, h6⟩ := hG _ _ _ (okD_dgA s) rfl h1
    simp at h4
    exact ⟨h3, by omega, by simp at h5; omega, h6⟩
  · rename_i c t hc
    rw [hc, List.length_cons] at hAB
    have hT := congrArg List.length (dgAB t)
    rw [List.length_append] at hT
    split at h1
    · split at h1
      · cases h1
      · obtain ⟨h3, h4, h5, h6⟩ := hG _ _ _ (okD_dgA s) (okD_dgA t) h1
        exact ⟨h3, by omega, by omega, h6⟩
    · obtain ⟨h3, h4, h5, h6⟩ := hG _ _ _ (okD_dgA s) rfl h1
      simp at h4
      exact ⟨h3, by omega, by simp at h5; omega, h6⟩
theorem ten_sz (k : Nat) : Sz (10 ^ k) (k + 1) := by
  show 10 ^ k < 4294967296 ^ (k + 1)
  exact Nat.lt_of_le_of_lt (Nat.pow_le_pow_left (by decide) k) (Nat.pow_lt_pow_right (by decide) (Nat.lt_succ_self k))
/-- a decimal number's fraction is not long -/
theorem dc_sz {l : List Nat} {K : Nat} (h : l.length ≤ K) : QS (dcQ l) (2 * K + 1002) := by
  unfold dcQ
  split
  · rename_i p hp
    obtain ⟨b, D, e⟩ := p
    obtain ⟨h1, h2, h3, h4⟩ := dcP_bd hp
    have hD : Sz (numD D) K := by
      show numD D < 4294967296 ^ K
      exact Nat.lt_of_lt_of_le (numD_lt D fun c hc => (okD_get h1 hc).2) (Nat.pow_le_pow_right (by decide) (by omega))
    unfold dcV
    dsimp only
    split
    · exact QS.mk (by decide) (by rw [zv_abs]; exact (hD.mul (ten_sz _)).mono (Nat.le_refl _) (by omega)) (sz_one (by omega))
    · exact QS.mk (Nat.ne_of_gt (Nat.pow_pos (by decide))) (by rw [zv_abs]; exact hD.mono (Nat.le_refl _) (by omega)) ((ten_sz _).mono (Nat.le_refl _) (by omega))
  · exact ⟨(sz_one (k := 2 * K + 1002) (by omega)).mono (by decide) (Nat.le_refl _), sz_one (by omega)⟩

/-! ### limbs written over, and gone on with -/
def fil (l : List Nat) (k x : Nat) : List Nat := List.replicate k x ++ l.drop k
theorem fil_zero (l : List Nat) (x : Nat) : fil l 0 x = l := by simp [fil]
theorem fil_set {l : List Nat} {k : Nat} (x : Nat) (h : k < l.length) : (fil l k x).set k x = fil l (k + 1) x := by
  unfold fil
  rw [List.set_append_right _ _ (by simp), List.length_replicate, Nat.sub_self, List.drop_eq_getElem_cons h, List.set_cons_zero, List.replicate_succ', List.append_assoc]
  rfl
theorem fil_all {l : List Nat} {k : Nat} (x : Nat) (h : l.length = k) : fil l k x = List.replicate k x := by
  unfold fil
  rw [List.drop_eq_nil_of_le (by omega), List.append_nil]
theorem rep_get {k i : Nat} (x : Nat) (h : i < k) : (List.replicate k x).getD i 0 = x := by simp [List.getD_eq_getElem?_getD, h]
theorem rep2_get {k t i : Nat} (x y : Nat) (h : i < t) : (List.replicate k x ++ List.replicate t y).getD (k + i) 0 = y := by
  rw [List.getD_eq_getElem?_getD, List.getElem?_append_right (by simp), List.length_replicate, Nat.add_sub_cancel_left]
  simp [h]
theorem rep2_lo {k t i : Nat} (x y : Nat) (h : i < k) : (List.replicate k x ++ List.replicate t y).getD i 0 = x := by
  rw [List.getD_eq_getElem?_getD, List.getElem?_append_left (by simpa using h)]
  simp [h]
theorem rep2_snoc (k t x y : Nat) : List.replicate k x ++ List.replicate t y ++ [y] = List.replicate k x ++ List.replicate (t + 1) y := by rw [List.append_assoc, List.replicate_succ']
def PPb (a b : Option Addr) (j : Nat) : Prop := a = some ⟨j, 0, none⟩ ∨ b = some ⟨j, 0, none⟩
/-- limbs appended to: where they lay, or in a new block; other limbs stay -/
structure App (w0 : World) (aa ab al : Option Addr) (mm cl : Nat) (l : List Nat) (am ad : Nat) (M : List Nat) (wr : World) : Prop where
  own : Own 0 wr al mm cl l
  pl : al = aa ∨ ∀ g, al = some ⟨g, 0, none⟩ → w0.heap.size ≤ g
  oth : Own 0 wr ab am ad M
  kp : Kp (fun j => aa = some ⟨j, 0, none⟩) w0 wr
section
variable {w0 wr w2 : World} {aa ab al a2 : Option Addr} {mm cl c2 am ad B B' n c y : Nat} {l M : List Nat}
theorem App.start (h : Own B w0 aa n c l) (h' : Own B' w0 ab am ad M) : App w0 aa ab aa n c l am ad M w0 := ⟨h.mono (Nat.zero_le _), .inl rfl, h'.mono (Nat.zero_le _), Kp.refl _ _⟩
theorem App.ne (hD : Diff aa ab) (hlt : LtB ab w0.heap.size) (h : App w0 aa ab al mm cl l am ad M wr) : Diff ab al := by
  intro g e e2
  rcases h.pl with h2 | h2
  · exact hD g (h2 ▸ e2) e
  · have h3 := h2 g e2
    have h4 := hlt g e
    omega
theorem App.step (hD : Diff aa ab) (hlt : LtB ab w0.heap.size) (h : App w0 aa ab al mm cl l am ad M wr) {o : Obj} (hO2 : Own 0 w2 a2 (mm + 1) c2 (l ++ [y]))
    (hK2 : Kp (fun j => al = some ⟨j, 0, none⟩) (wr.alloc o) w2) (hf : a2 = al ∨ (∀ g, a2 = some ⟨g, 0, none⟩ → (wr.alloc o).heap.size ≤ g) ∧ Kp (fun _ => False) (wr.alloc o) w2) :
    App w0 aa ab a2 (mm + 1) c2 (l ++ [y]) am ad M w2 := by
  have hsz := h.kp.size
  refine ⟨hO2, ?_, (h.oth.alloc o).kp hK2 fun g e e2 => h.ne hD hlt g e e2, (h.kp.alloc o).kp hK2 fun k hk e => ?_⟩
  · rcases hf with h2 | ⟨h2, _⟩
    · rw [h2]; exact h.pl
    · right; intro g e; have := h2 g e; simp at this; omega
  · rcases h.pl with h2 | h2
    · exact .inl (h2 ▸ e)
    · exact .inr (h2 k e)
end

theorem same_b {w : World} {a b : Option Addr} {n c m d : Nat} {l : List Nat} (h : Rd w a n c l) (h' : Rd w b m d l) : Calls Try.prog 82 #[.slice a n c, .slice b m d] w (fun e w' => e = .returned (.bool true) ∧ Below w.heap.size w w') :=
  (same_true h h').mono fun e w' ⟨h1, q, h2⟩ => ⟨h1, by rw [h2]; exact (Below.refl _ _).drewN' q⟩

set_option maxRecDepth 100000 in
set_option maxHeartbeats 4000000 in
theorem dsame_true {w : World} {a b a' b' : Option Addr} {n c m d n' c' m' d' : Nat} {l k : List Nat} {s : Bool} (ha : Rd w a n c l) (hb : Rd w b m d k) (ha' : Rd w a' n' c' l) (hb' : Rd w b' m' d' k) :
    Calls Try.prog 25 #[.agg #[.bool s, .slice a n c, .slice b m d], .agg #[.bool s, .slice a' n' c', .slice b' m' d']] w (fun e w' => e = .returned (.bool true) ∧ Below w.heap.size w w') := by
  have hss : (s == s) = true := beq_self_eq_true s
  have hent := ent2 w #[Value.bool s, Value.slice a n c, Value.slice b m d] #[Value.bool s, Value.slice a' n' c', Value.slice b' m' d'] 29 29
  go_enter Try.func25, Try.ntmps25
  go_wp2_with fail
  generalize ((w.alloc (.cells #[Value.bool s, Value.slice a n c, Value.slice b m d] 29)).alloc (.cells #[Value.bool s, Value.slice a' n' c', Value.slice b' m' d'] 29)) = W0 at hent ⊢
  obtain ⟨X_0, Y_0, hbel_0, hsz_0⟩ := hent
  have cX_0_0 : _ = some (Value.bool s) := X_0.cell 0
  have cX_0_1 : _ = some (Value.slice a n c) := X_0.cell 1
  have cX_0_2 : _ = some (Value.slice b m d) := X_0.cell 2
  have cY_0_0 : _ = some (Value.bool s) := Y_0.cell 0
  have cY_0_1 : _ = some (Value.slice a' n' c') := Y_0.cell 1
  have cY_0_2 : _ = some (Value.slice b' m' d') := Y_0.cell 2
  have ha_0 := ha.below hbel_0
  clear ha
  have hb_0 := hb.below hbel_0
  clear hb
  have ha'_0 := ha'.below hbel_0
  clear ha'
  have hb'_0 := hb'.below hbel_0
  clear hb'
  go_wp2_with fail
  refine (same_b ha_0 ha'_0).mono ?_
  rintro e w1 ⟨rfl, hB⟩
  have hB_1 : Below W0.heap.size W0 w1 := (bl.next hB)
  have X_1 := X_0.next hB_1
  have cX_1_0 : _ = some (Value.bool s) := X_1.cell 0
  have cX_1_1 : _ = some (Value.slice a n c) := X_1.cell 1
  have cX_1_2 : _ = some (Value.slice b m d) := X_1.cell 2
  have Y_1 := Y_0.next hB_1
  have cY_1_0 : _ = some (Value.bool s) := Y_1.cell 0
  have cY_1_1 : _ = some (Value.slice a' n' c') := Y_1.cell 1
  have cY_1_2 : _ = some (Value.slice b' m' d') := Y_1.cell 2
  have ha_1 := ha_0.below hB_1
  have hb_1 := hb_0.below hB_1
  have ha'_1 := ha'_0.below hB_1
  have hb'_1 := hb'_0.below hB_1
  have hbel_1 := hbel_0.next hB_1
  have hsz_1 := hB_1.size
  clear X_0 cX_0_0 cX_0_1 cX_0_2 Y_0 cY_0_0 cY_0_1 cY_0_2 ha_0 hb_0 ha'_0 hb'_0 hbel_0 hB_1
  try clear hB
  go_wp2_with fail
  refine (same_b hb_1 hb'_1).mono ?_
  rintro e w2 ⟨rfl, hB⟩
  have hB_2 : Below w1.heap.size w1 w2 := (bl.next hB)
  have X_2 := X_1.next hB_2
  have cX_2_0 : _ = some (Value.bool s) := X_2.cell 0
  have cX_2_1 : _ = some (Value.slice a n c) := X_2.cell 1
  have cX_2_2 : _ = some (Value.slice b m d) := X_2.cell 2
  have Y_2 := Y_1.next hB_2
  have cY_2_0 : _ = some (Value.bool s) := Y_2.cell 0
  have cY_2_1 : _ = some (Value.slice a' n' c') := Y_2.cell 1
  have cY_2_2 : _ = some (Value.slice b' m' d') := Y_2.cell 2
  have ha_2 := ha_1.below hB_2
  have hb_2 := hb_1.below hB_2
  have ha'_2 := ha'_1.below hB_2
  have hb'_2 := hb'_1.below hB_2
  have hbel_2 := hbel_1.next hB_2
  have hsz_2 := hB_2.size
  clear X_1 cX_1_0 cX_1_1 cX_1_2 Y_1 cY_1_0 cY_1_1 cY_1_2 ha_1 hb_1 ha'_1 hb'_1 hbel_1 hB_2
  try clear hB
  go_wp2
  go_ret
  exact ⟨rfl, hbel_2⟩

set_option maxRecDepth 100000 in
set_option maxHeartbeats 8000000 in
theorem dparse_law0 {w : World} (s : ByteArray) (hs : s.size ≤ 9223372036854775807) (hcase : ¬ 400 < s.size) :
    Calls Try.prog 5 #[.string s] w (fun e w' => e = .returned (.bool true) ∧ Below w.heap.size w w') := by
  have hdc : decide (400 < s.size) = false := decide_eq_false hcase
  obtain ⟨u, hu⟩ : ∃ u, s = u := ⟨_, rfl⟩
  have hus : u.size ≤ 400 := by rw [← hu]; omega
  obtain ⟨K, hK⟩ : ∃ K, K = 400 := ⟨_, rfl⟩
  have hqs := dc_sz (l := by' u) (K := K) (by rw [by_len]; omega)
  have HP := hid (fun w => dparse (w := w) u (by omega))
  have HR := hid (fun w => rparse4 (w := w) u (by omega))
  generalize dcQ (by' u) = q at *
  generalize dcE (by' u) = er at *
  have hee : (er != er) = false := by simp
  have hL1 := qnl_len (er := er) hqs
  have hL2 := qdl_len (er := er) hqs
  clear hqs
  subst hu
  go_enter Try.func5, Try.ntmps5
  have hbel_0 : Below w.heap.size w w := Below.refl _ _
  go_wp2_with fail
  go_wp2_with fail
  refine (HR.out _).mono ?_
  rintro e w1 ⟨oa, on, oc, ob, om, od, rfl, hO, hO', hDo, hB⟩
  have hB_1 : Below w.heap.size w w1 := (bl.next hB)
  have hbel_1 := hbel_0.next hB_1
  have hsz_1 := hB_1.size
  clear hbel_0 hB_1
  have Oo_1 := hO
  have ltOo := hO.ltB
  have Po_1 := hO'
  have ltPo := hO'.ltB
  clear hO hO'
  try clear hB
  have hbx := blk_new w1 #[Value.bool (qsg q er), Value.slice oa on oc, Value.slice ob om od] 29
  have hbB := (Below.refl w1.heap.size w1).alloc (Nat.le_refl _) (.cells #[Value.bool (qsg q er), Value.slice oa on oc, Value.slice ob om od] 29)
  have hltV := hbx.lt
  have hB_2 : Below w1.heap.size w1 (w1.alloc (.cells #[Value.bool (qsg q er), Value.slice oa on oc, Value.slice ob om od] 29)) := hbB
  have Oo_2 := Oo_1.below hB_2
  have Po_2 := Po_1.below hB_2
  have hbel_2 := hbel_1.next hB_2
  have hsz_2 := hB_2.size
  clear hB_2
  have V_2 := hbx
  clear hbx hbB
  have cV_2_0 : _ = some (Value.bool (qsg q er)) := V_2.cell 0
  have cV_2_1 : _ = some (Value.slice oa on oc) := V_2.cell 1
  have cV_2_2 : _ = some (Value.slice ob om od) := V_2.cell 2
  go_wp2_with fail
  clear Oo_1 Po_1 hbel_1
  generalize (w1.alloc (.cells #[Value.bool (qsg q er), Value.slice oa on oc, Value.slice ob om od] 29)) = v2 at *
  go_wp2_with fail
  refine (HP.out _).mono ?_
  rintro e w3 ⟨xa, xn, xc, xb, xm, xd, rfl, hO, hO', hDx, hB⟩
  have hB_3 : Below v2.heap.size v2 w3 := (bl.next hB)
  have V_3 := V_2.next hB_3
  have cV_3_0 : _ = some (Value.bool (qsg q er)) := V_3.cell 0
  have cV_3_1 : _ = some (Value.slice oa on oc) := V_3.cell 1
  have cV_3_2 : _ = some (Value.slice ob om od) := V_3.cell 2
  have Oo_3 := Oo_2.below hB_3
  have Po_3 := Po_2.below hB_3
  have hbel_3 := hbel_2.next hB_3
  have hsz_3 := hB_3.size
  clear V_2 cV_2_0 cV_2_1 cV_2_2 Oo_2 Po_2 hbel_2 hB_3
  have Ox_3 := hO
  have ltOx := hO.ltB
  have Px_3 := hO'
  have ltPx := hO'.ltB
  clear hO hO'
  try clear hB
  have hbx := blk_new w3 #[Value.bool (qsg q er), Value.slice xa xn xc, Value.slice xb xm xd] 29
  have hbB := (Below.refl w3.heap.size w3).alloc (Nat.le_refl _) (.cells #[Value.bool (qsg q er), Value.slice xa xn xc, Value.slice xb xm xd] 29)
  have hltA := hbx.lt
  have hB_4 : Below w3.heap.size w3 (w3.alloc (.cells #[Value.bool (qsg q er), Value.slice xa xn xc, Value.slice xb xm xd] 29)) := hbB
  have V_4 := V_3.next hB_4
  have cV_4_0 : _ = some (Value.bool (qsg q er)) := V_4.cell 0
  have cV_4_1 : _ = some (Value.slice oa on oc) := V_4.cell 1
  have cV_4_2 : _ = some (Value.slice ob om od) := V_4.cell 2
  have Oo_4 := Oo_3.below hB_4
  have Po_4 := Po_3.below hB_4
  have Ox_4 := Ox_3.below hB_4
  have Px_4 := Px_3.below hB_4
  have hbel_4 := hbel_3.next hB_4
  have hsz_4 := hB_4.size
  clear hB_4
  have A_4 := hbx
  clear hbx hbB
  have cA_4_0 : _ = some (Value.bool (qsg q er)) := A_4.cell 0
  have cA_4_1 : _ = some (Value.slice xa xn xc) := A_4.cell 1
  have cA_4_2 : _ = some (Value.slice xb xm xd) := A_4.cell 2
  go_wp2_with fail
  clear V_3 cV_3_0 cV_3_1 cV_3_2 Oo_3 Po_3 Ox_3 Px_3 hbel_3
  generalize (w3.alloc (.cells #[Value.bool (qsg q er), Value.slice xa xn xc, Value.slice xb xm xd] 29)) = v4 at *
  go_wp2_with fail
  refine (HP.out _).mono ?_
  rintro e w5 ⟨za, zn, zc, zb, zm, zd, rfl, hO, hO', hDz, hB⟩
  have hB_5 : Below v4.heap.size v4 w5 := (bl.next hB)
  have V_5 := V_4.next hB_5
  have cV_5_0 : _ = some (Value.bool (qsg q er)) := V_5.cell 0
  have cV_5_1 : _ = some (Value.slice oa on oc) := V_5.cell 1
  have cV_5_2 : _ = some (Value.slice ob om od) := V_5.cell 2
  have A_5 := A_4.next hB_5
  have cA_5_0 : _ = some (Value.bool (qsg q er)) := A_5.cell 0
  have cA_5_1 : _ = some (Value.slice xa xn xc) := A_5.cell 1
  have cA_5_2 : _ = some (Value.slice xb xm xd) := A_5.cell 2
  have Oo_5 := Oo_4.below hB_5
  have Po_5 := Po_4.below hB_5
  have Ox_5 := Ox_4.below hB_5
  have Px_5 := Px_4.below hB_5
  have hbel_5 := hbel_4.next hB_5
  have hsz_5 := hB_5.size
  clear V_4 cV_4_0 cV_4_1 cV_4_2 A_4 cA_4_0 cA_4_1 cA_4_2 Oo_4 Po_4 Ox_4 Px_4 hbel_4 hB_5
  have Oz_5 := hO
  have ltOz := hO.ltB
  have Pz_5 := hO'
  have ltPz := hO'.ltB
  clear hO hO'
  try clear hB
  have hbx := blk_new w5 #[Value.bool (qsg q er), Value.slice za zn zc, Value.slice zb zm zd] 29
  have hbB := (Below.refl w5.heap.size w5).alloc (Nat.le_refl _) (.cells #[Value.bool (qsg q er), Value.slice za zn zc, Value.slice zb zm zd] 29)
  have hltB := hbx.lt
  have hB_6 : Below w5.heap.size w5 (w5.alloc (.cells #[Value.bool (qsg q er), Value.slice za zn zc, Value.slice zb zm zd] 29)) := hbB
  have V_6 := V_5.next hB_6
  have cV_6_0 : _ = some (Value.bool (qsg q er)) := V_6.cell 0
  have cV_6_1 : _ = some (Value.slice oa on oc) := V_6.cell 1
  have cV_6_2 : _ = some (Value.slice ob om od) := V_6.cell 2
  have A_6 := A_5.next hB_6
  have cA_6_0 : _ = some (Value.bool (qsg q er)) := A_6.cell 0
  have cA_6_1 : _ = some (Value.slice xa xn xc) := A_6.cell 1
  have cA_6_2 : _ = some (Value.slice xb xm xd) := A_6.cell 2
  have Oo_6 := Oo_5.below hB_6
  have Po_6 := Po_5.below hB_6
  have Ox_6 := Ox_5.below hB_6
  have Px_6 := Px_5.below hB_6
  have Oz_6 := Oz_5.below hB_6
  have Pz_6 := Pz_5.below hB_6
  have hbel_6 := hbel_5.next hB_6
  have hsz_6 := hB_6.size
  clear hB_6
  have B_6 := hbx
  clear hbx hbB
  have cB_6_0 : _ = some (Value.bool (qsg q er)) := B_6.cell 0
  have cB_6_1 : _ = some (Value.slice za zn zc) := B_6.cell 1
  have cB_6_2 : _ = some (Value.slice zb zm zd) := B_6.cell 2
  go_wp2_with fail
  clear V_5 cV_5_0 cV_5_1 cV_5_2 A_5 cA_5_0 cA_5_1 cA_5_2 Oo_5 Po_5 Ox_5 Px_5 Oz_5 Pz_5 hbel_5
  generalize (w5.alloc (.cells #[Value.bool (qsg q er), Value.slice za zn zc, Value.slice zb zm zd] 29)) = v6 at *
  go_wp2_with fail
  refine (dsame_true Ox_6.rd Px_6.rd Oo_6.rd Po_6.rd).mono ?_
  rintro e w7 ⟨rfl, hB⟩
  have hB_7 : Below v6.heap.size v6 w7 := (bl.next hB)
  have V_7 := V_6.next hB_7
  have cV_7_0 : _ = some (Value.bool (qsg q er)) := V_7.cell 0
  have cV_7_1 : _ = some (Value.slice oa on oc) := V_7.cell 1
  have cV_7_2 : _ = some (Value.slice ob om od) := V_7.cell 2
  have A_7 := A_6.next hB_7
  have cA_7_0 : _ = some (Value.bool (qsg q er)) := A_7.cell 0
  have cA_7_1 : _ = some (Value.slice xa xn xc) := A_7.cell 1
  have cA_7_2 : _ = some (Value.slice xb xm xd) := A_7.cell 2
  have B_7 := B_6.next hB_7
  have cB_7_0 : _ = some (Value.bool (qsg q er)) := B_7.cell 0
  have cB_7_1 : _ = some (Value.slice za zn zc) := B_7.cell 1
  have cB_7_2 : _ = some (Value.slice zb zm zd) := B_7.cell 2
  have Oo_7 := Oo_6.below hB_7
  have Po_7 := Po_6.below hB_7
  have Ox_7 := Ox_6.below hB_7
  have Px_7 := Px_6.below hB_7
  have Oz_7 := Oz_6.below hB_7
  have Pz_7 := Pz_6.below hB_7
  have hbel_7 := hbel_6.next hB_7
  have hsz_7 := hB_7.size
  clear V_6 cV_6_0 cV_6_1 cV_6_2 A_6 cA_6_0 cA_6_1 cA_6_2 B_6 cB_6_0 cB_6_1 cB_6_2 Oo_6 Po_6 Ox_6 Px_6 Oz_6 Pz_6 hbel_6 hB_7
  try clear hB
  go_wp2_with fail
  refine (dsame_true Oz_7.rd Pz_7.rd Oo_7.rd Po_7.rd).mono ?_
  rintro e w8 ⟨rfl, hB⟩
  have hB_8 : Below w7.heap.size w7 w8 := (bl.next hB)
  have V_8 := V_7.next hB_8
  have cV_8_0 : _ = some (Value.bool (qsg q er)) := V_8.cell 0
  have cV_8_1 : _ = some (Value.slice oa on oc) := V_8.cell 1
  have cV_8_2 : _ = some (Value.slice ob om od) := V_8.cell 2
  have A_8 := A_7.next hB_8
  have cA_8_0 : _ = some (Value.bool (qsg q er)) := A_8.cell 0
  have cA_8_1 : _ = some (Value.slice xa xn xc) := A_8.cell 1
  have cA_8_2 : _ = some (Value.slice xb xm xd) := A_8.cell 2
  have B_8 := B_7.next hB_8
  have cB_8_0 : _ = some (Value.bool (qsg q er)) := B_8.cell 0
  have cB_8_1 : _ = some (Value.slice za zn zc) := B_8.cell 1
  have cB_8_2 : _ = some (Value.slice zb zm zd) := B_8.cell 2
  have Oo_8 := Oo_7.below hB_8
  have Po_8 := Po_7.below hB_8
  have Ox_8 := Ox_7.below hB_8
  have Px_8 := Px_7.below hB_8
  have Oz_8 := Oz_7.below hB_8
  have Pz_8 := Pz_7.below hB_8
  have hbel_8 := hbel_7.next hB_8
  have hsz_8 := hB_8.size
  clear V_7 cV_7_0 cV_7_1 cV_7_2 A_7 cA_7_0 cA_7_1 cA_7_2 B_7 cB_7_0 cB_7_1 cB_7_2 Oo_7 Po_7 Ox_7 Px_7 Oz_7 Pz_7 hbel_7 hB_8
  try clear hB
  clear hdc hcase HP HR
  obtain ⟨wm, hwm⟩ : ∃ y : World, y = w8 := ⟨_, rfl⟩
  subst hwm
  have hxlen := Ox_8.len
  have hxlen' := Px_8.len
  have hbx := Ox_8.bnd
  have hbx' := Px_8.bnd
  obtain ⟨L, hLe⟩ : ∃ y, qnl q er = y := ⟨_, rfl⟩
  obtain ⟨M, hMe⟩ : ∃ y, qdl q er = y := ⟨_, rfl⟩
  rw [hLe] at Ox_8 Oz_8 Oo_8 hL1 hxlen
  rw [hMe] at Px_8 Pz_8 Po_8 hL2 hxlen'
  clear hLe hMe
  have nA : ¬ PPb xa xb (w3.heap.size) := fun h => h.elim (fun e => by have := ltOx _ e; omega) (fun e => by have := ltPx _ e; omega)
  have nV : ¬ PPb xa xb (w1.heap.size) := fun h => h.elim (fun e => by have := (Ox_8.lt' _ e).1; omega) (fun e => by have := (Px_8.lt' _ e).1; omega)
  have nB : ¬ PPb xa xb (w5.heap.size) := fun h => h.elim (fun e => by have := ltOx _ e; omega) (fun e => by have := ltPx _ e; omega)
  have nOo : ∀ b o, oa = some ⟨b, o, none⟩ → ¬ PPb xa xb b := fun b o e h => by
    rcases Oo_8.cases with ⟨h0, _⟩ | ⟨b', h0, _⟩
    · rw [h0] at e; cases e
    · rw [h0] at e; cases e; exact h.elim (fun e2 => by have h1 := ltOo _ h0; have h2 := (Ox_8.lt' _ e2).1; omega) (fun e2 => by have h1 := ltOo _ h0; have h2 := (Px_8.lt' _ e2).1; omega)
  have nPo : ∀ b o, ob = some ⟨b, o, none⟩ → ¬ PPb xa xb b := fun b o e h => by
    rcases Po_8.cases with ⟨h0, _⟩ | ⟨b', h0, _⟩
    · rw [h0] at e; cases e
    · rw [h0] at e; cases e; exact h.elim (fun e2 => by have h1 := ltPo _ h0; have h2 := (Ox_8.lt' _ e2).1; omega) (fun e2 => by have h1 := ltPo _ h0; have h2 := (Px_8.lt' _ e2).1; omega)
  have nOz : ∀ b o, za = some ⟨b, o, none⟩ → ¬ PPb xa xb b := fun b o e h => by
    rcases Oz_8.cases with ⟨h0, _⟩ | ⟨b', h0, _⟩
    · rw [h0] at e; cases e
    · rw [h0] at e; cases e; exact h.elim (fun e2 => by have h1 := ltOx _ e2; have h2 := (Oz_8.lt' _ h0).1; omega) (fun e2 => by have h1 := ltPx _ e2; have h2 := (Oz_8.lt' _ h0).1; omega)
  have nPz : ∀ b o, zb = some ⟨b, o, none⟩ → ¬ PPb xa xb b := fun b o e h => by
    rcases Pz_8.cases with ⟨h0, _⟩ | ⟨b', h0, _⟩
    · rw [h0] at e; cases e
    · rw [h0] at e; cases e; exact h.elim (fun e2 => by have h1 := ltOx _ e2; have h2 := (Pz_8.lt' _ h0).1; omega) (fun e2 => by have h1 := ltPx _ e2; have h2 := (Pz_8.lt' _ h0).1; omega)
  have HA : Hid (∀ wr, Kp (PPb xa xb) wm wr → Blk wr (w3.heap.size) #[Value.bool (qsg q er), Value.slice xa xn xc, Value.slice xb xm xd]) := fun wr hk => A_8.kp hk nA
  have HE : Hid (∀ wr, Kp (PPb xa xb) wm wr → Blk wr (w5.heap.size) #[Value.bool (qsg q er), Value.slice za zn zc, Value.slice zb zm zd] ∧ Blk wr (w1.heap.size) #[Value.bool (qsg q er), Value.slice oa on oc, Value.slice ob om od] ∧ Rd wr za zn zc L ∧ Rd wr zb zm zd M ∧ Rd wr oa on oc L ∧ Rd wr ob om od M ∧ Below w.heap.size w wr) := fun wr hk => ⟨B_8.kp hk nB, V_8.kp hk nV, Oz_8.rd.kp hk nOz, Pz_8.rd.kp hk nPz, Oo_8.rd.kp hk nOo, Po_8.rd.kp hk nPo, hbel_8.kp hk hbel_8.size (fun j hj h => h.elim (fun e => by have := (Ox_8.lt' _ e).1; omega) (fun e => by have := (Px_8.lt' _ e).1; omega))⟩
  have hOx := hid (Ox_8.mono (Nat.zero_le _))
  have hPx := hid (Px_8.mono (Nat.zero_le _))
  have hDx2 : Hid (Diff xa xb) := hDx
  have ltP : Hid (LtB xb wm.heap.size) := fun g e => by have := ltPx g e; omega
  have hkp0 : Hid (Kp (PPb xa xb) wm wm) := Kp.refl _ _
  obtain ⟨gA, hgA⟩ : ∃ y, y = w3.heap.size := ⟨_, rfl⟩
  obtain ⟨gB, hgB⟩ : ∃ y, y = w5.heap.size := ⟨_, rfl⟩
  obtain ⟨gV, hgV⟩ : ∃ y, y = w1.heap.size := ⟨_, rfl⟩
  have cA_0 := (HA.out wm (Kp.refl _ _)).cell 1
  have cA_1 := (HA.out wm (Kp.refl _ _)).cell 2
  clear nA nV nB nOo nPo nOz nPz hDx hDo hDz ltOx ltPx ltOo ltPo ltOz ltPz Ox_8 Px_8 Oz_8 Pz_8 Oo_8 Po_8 A_8 B_8 V_8 hbel_8
  clear cV_8_0 cV_8_1 cV_8_2 cA_8_0 cA_8_1 cA_8_2 cB_8_0 cB_8_1 cB_8_2
  go_wp2
  go_loopw [9] (fun i wr => ∃ k : Nat, k ≤ xn ∧ i = .int .i64 k ∧ Hid (Own 0 wr xa xn xc (fil L k 7)) ∧ Hid (Own 0 wr xb xm xd M) ∧ Hid (Kp (PPb xa xb) wm wr)) (fun i _ => xn - (intOf i).toNat)
  case atStart => exact ⟨0, by omega, rfl, by rw [fil_zero]; exact hOx, hPx, hkp0⟩
  case round =>
    clear hOx hPx hkp0 cA_0 cA_1
    obtain ⟨k, hk, rfl, hO, hP, hKp⟩ := hrel
    have hcA : _ = some (Value.slice xa xn xc) := (HA.out _ hKp.out).cell 1
    by_cases hlt : k < xn
    · rcases hO.out.cases with ⟨_, h, _⟩ | ⟨g, rfl, _⟩
      · omega
      have hcc := hO.out.cell hlt
      have hff := hO.out.free k
      have hO2 : Hid (Own 0 (wr.setCell ⟨g, k, none⟩ (.int .u32 7)) (some ⟨g, 0, none⟩) xn xc (fil L (k + 1) 7)) := by
        rw [← fil_set 7 (by omega)]; exact hO.out.set k 7 (by decide)
      have hP2 : Hid (Own 0 (wr.setCell ⟨g, k, none⟩ (.int .u32 7)) xb xm xd M) := hP.out.set_other _ fun g' e e2 => hDx2.out g rfl (e2 ▸ e)
      have hK2 : Hid (Kp (PPb (some ⟨g, 0, none⟩) xb) wm (wr.setCell ⟨g, k, none⟩ (.int .u32 7))) := hKp.out.setCell (.inl rfl) _
      clear hO hP hKp
      go_wp2
      go_roundw
      case rel => exact ⟨k + 1, by omega, by go_num, hO2, hP2, hK2⟩
      case measure => simp [intOf]; omega
    · obtain rfl : k = xn := by omega
      have hO2 : Hid (Own 0 wr xa k xc (List.replicate k 7)) := by have := hO.out; rwa [fil_all 7 hxlen] at this
      have hP2 := hP
      have hK2 := hKp
      have hcB : _ = some (Value.slice xb xm xd) := (HA.out _ hKp.out).cell 2
      clear hO hP hKp
      go_wp2
      go_loopw [10] (fun i wr => ∃ k2 : Nat, k2 ≤ xm ∧ i = .int .i64 k2 ∧ Hid (Own 0 wr xa k xc (List.replicate k 7)) ∧ Hid (Own 0 wr xb xm xd (fil M k2 9)) ∧ Hid (Kp (PPb xa xb) wm wr)) (fun i _ => xm - (intOf i).toNat)
      case atStart => exact ⟨0, by omega, rfl, hO2, by rw [fil_zero]; exact hP2, hK2⟩
      case round =>
        clear hO2 hP2 hK2 hcA hcB
        obtain ⟨k2, hk2, rfl, hO, hP, hKp⟩ := hrel
        have hcB : _ = some (Value.slice xb xm xd) := (HA.out _ hKp.out).cell 2
        by_cases hlt : k2 < xm
        · rcases hP.out.cases with ⟨_, h, _⟩ | ⟨g, rfl, _⟩
          · omega
          have hcc := hP.out.cell hlt
          have hff := hP.out.free k2
          have hP2 : Hid (Own 0 (wr.setCell ⟨g, k2, none⟩ (.int .u32 9)) (some ⟨g, 0, none⟩) xm xd (fil M (k2 + 1) 9)) := by
            rw [← fil_set 9 (by omega)]; exact hP.out.set k2 9 (by decide)
          have hO2 : Hid (Own 0 (wr.setCell ⟨g, k2, none⟩ (.int .u32 9)) xa k xc (List.replicate k 7)) := hO.out.set_other _ fun g' e e2 => hDx2.out g (e2 ▸ e) rfl
          have hK2 : Hid (Kp (PPb xa (some ⟨g, 0, none⟩)) wm (wr.setCell ⟨g, k2, none⟩ (.int .u32 9))) := hKp.out.setCell (.inr rfl) _
          clear hO hP hKp
          go_wp2
          go_roundw
          case rel => exact ⟨k2 + 1, by omega, by go_num, hO2, hP2, hK2⟩
          case measure => simp [intOf]; omega
        · obtain rfl : k2 = xm := by omega
          have hP2 : Hid (Own 0 wr xb k2 xd (List.replicate k2 9)) := by have := hP.out; rwa [fil_all 9 hxlen'] at this
          have hO2 := hO
          have hK2 := hKp
          have hcA : _ = some (Value.slice xa k xc) := (HA.out _ hKp.out).cell 1
          have hkx : k ≤ 2000 := by omega
          have hkx2 : k2 ≤ 2000 := by omega
          clear hO hP hKp hxlen hxlen'
          go_wp2
          obtain ⟨w5, hw5⟩ : ∃ y : World, y = wr := ⟨_, rfl⟩
          subst hw5
          go_loopw [11] (fun i wr => ∃ t : Nat, t ≤ k ∧ i = .int .i64 t ∧ wr = w5) (fun i _ => k - (intOf i).toNat)
          case atStart => exact ⟨0, by omega, rfl, rfl⟩
          case round =>
            obtain ⟨t, ht, rfl, hwr⟩ := hrel
            subst hwr
            by_cases hlt : t < k
            · rcases hO2.out.cases with ⟨_, h, _⟩ | ⟨g, rfl, _⟩
              · omega
              have hcc := hO2.out.cell hlt
              rw [rep_get 7 hlt] at hcc
              go_wp2
              go_roundw
              case rel => exact ⟨t + 1, by omega, by go_num, by first | trivial | rfl⟩
              case measure => simp [intOf]; omega
            · obtain rfl : k = t := by omega
              obtain ⟨w5, hw5⟩ : ∃ y : World, y = wr := ⟨_, rfl⟩
              subst hw5
              have hApp := hid (App.start hO2.out hP2.out)
              have hkm : Hid (Kp (PPb xa xb) wm w5) := hK2
              have ltP5 : Hid (LtB xb w5.heap.size) := fun g e => by have := hP2.out.ltB g e; omega
              clear hO2 hP2 hK2
              go_wp2
              go_loopw [12, 14] (fun v i wr => ∃ (t mm cl : Nat) (al : Option Addr), t ≤ 9 ∧ v = .slice al mm cl ∧ i = .int .i64 t ∧ mm ≤ k + t ∧ k + t ≤ mm ∧ Hid (App w5 xa xb al mm cl (List.replicate k 7 ++ List.replicate t 5) k2 xd (List.replicate k2 9) wr)) (fun _ i _ => 9 - (intOf i).toNat)
              case atStart => exact ⟨0, k, xc, xa, by omega, rfl, rfl, by omega, by omega, by simpa using hApp⟩
              case round =>
                clear hApp hcA hcB
                obtain ⟨t, mm, cl, al, ht, rfl, rfl, hm1, hm2, hA⟩ := hrel
                by_cases hlt : t < 9
                · have hcb := hA.out.own.bnd
                  go_wp2_with (at_builtin; refine wpList_app1 (y := 5) rfl _ _ rfl rfl (hA.out.own.alloc _) _ 1 rfl (by omega) (by go_simp) (Nat.zero_le _) (by omega) ?_; intro a2 c2 w2 hO2 hK2 hf2)
                  have hA2 := hid (hA.out.step hDx2.out ltP5.out hO2 hK2 hf2)
                  rw [rep2_snoc] at hA2
                  clear hA hO2 hK2 hf2
                  go_roundw
                  case rel => exact ⟨t + 1, mm + 1, c2, a2, by omega, rfl, by go_num, by omega, by omega, hA2⟩
                  case measure => simp [intOf]; omega
                · obtain rfl : 9 = t := by omega
                  obtain rfl : k + 9 = mm := by omega
                  have hD5 : Hid (Diff xb al) := hA.out.ne hDx2.out ltP5.out
                  have hk5 : Hid (Kp (PPb xa xb) wm wr) := hkm.out.kp hA.out.kp fun j _ e => .inl (.inl e)
                  have hApp : Hid (App wr xb al xb k2 xd (List.replicate k2 9) (k + 9) cl (List.replicate k 7 ++ List.replicate 9 5) wr) := App.start hA.out.oth hA.out.own
                  have ltA5 : Hid (LtB al wr.heap.size) := fun g e => by have := hA.out.own.ltB g e; omega
                  obtain ⟨w6, hw6⟩ : ∃ y : World, y = wr := ⟨_, rfl⟩
                  subst hw6
                  clear hA
                  go_wp2
                  go_loopw [13, 15] (fun v i wr => ∃ (t mm cl2 : Nat) (al2 : Option Addr), t ≤ 9 ∧ v = .slice al2 mm cl2 ∧ i = .int .i64 t ∧ mm ≤ k2 + t ∧ k2 + t ≤ mm ∧ Hid (App w6 xb al al2 mm cl2 (List.replicate k2 9 ++ List.replicate t 6) (k + 9) cl (List.replicate k 7 ++ List.replicate 9 5) wr)) (fun _ i _ => 9 - (intOf i).toNat)
                  case atStart => exact ⟨0, k2, xd, xb, by omega, rfl, rfl, by omega, by omega, by simpa using hApp⟩
                  case round =>
                    clear hApp
                    obtain ⟨t, mm, cl2, al2, ht, rfl, rfl, hm1, hm2, hA⟩ := hrel
                    by_cases hlt : t < 9
                    · have hcb := hA.out.own.bnd
                      go_wp2_with (at_builtin; refine wpList_app1 (y := 6) rfl _ _ rfl rfl (hA.out.own.alloc _) _ 1 rfl (by omega) (by go_simp) (Nat.zero_le _) (by omega) ?_; intro a2 c2 w2 hO2 hK2 hf2)
                      have hA2 := hid (hA.out.step hD5.out ltA5.out hO2 hK2 hf2)
                      rw [rep2_snoc] at hA2
                      clear hA hO2 hK2 hf2
                      go_roundw
                      case rel => exact ⟨_, _, _, _, _, _, _, _, _, ⟨t + 1, mm + 1, c2, a2, by omega, rfl, by go_num, by omega, by omega, hA2⟩, rfl⟩
                      case measure => simp [intOf]; omega
                    · obtain rfl : 9 = t := by omega
                      obtain rfl : k2 + 9 = mm := by omega
                      have hk6 : Hid (Kp (PPb xa xb) wm wr) := hk5.out.kp hA.out.kp fun j _ e => .inl (.inr e)
                      have hOv := hid hA.out.oth
                      have hUn := hid hA.out.own
                      obtain ⟨w7, hw7⟩ : ∃ y : World, y = wr := ⟨_, rfl⟩
                      subst hw7
                      clear hA hkm hk5 hD5 ltA5 ltP5 ltP hDx2
                      have hcA := (HA.out _ hk6.out).cell 1
                      have hcB := (HA.out _ hk6.out).cell 2
                      go_wp2
                      go_loopw [16] (fun i wr => ∃ t : Nat, t ≤ 9 ∧ i = .int .i64 t ∧ wr = w7) (fun i _ => 9 - (intOf i).toNat)
                      case atStart => exact ⟨0, by omega, rfl, rfl⟩
                      case round =>
                        obtain ⟨t, ht, rfl, hwr⟩ := hrel
                        subst hwr
                        by_cases hlt : t < 9
                        · rcases hOv.out.cases with ⟨_, h, _⟩ | ⟨g, rfl, _⟩
                          · omega
                          rcases hUn.out.cases with ⟨_, h, _⟩ | ⟨g2, rfl, _⟩
                          · omega
                          have hcc := hOv.out.cell (show k + t < k + 9 by omega)
                          have hcd := hUn.out.cell (show k2 + t < k2 + 9 by omega)
                          rw [rep2_get 7 5 hlt] at hcc
                          rw [rep2_get 9 6 hlt] at hcd
                          go_wp2
                          go_roundw
                          case rel => exact ⟨t + 1, by omega, by go_num, by first | trivial | rfl⟩
                          case measure => simp [intOf]; omega
                        · obtain rfl : 9 = t := by omega
                          obtain ⟨hB, hV, hz1, hz2, ho1, ho2, hbel⟩ := HE.out _ hk6.out
                          have b0 := hB.cell 0
                          have b1 := hB.cell 1
                          have b2 := hB.cell 2
                          have v0 := hV.cell 0
                          have v1 := hV.cell 1
                          have v2 := hV.cell 2
                          clear hcA hcB hOv hUn
                          go_wp2_with fail
                          refine (dsame_true hz1 hz2 ho1 ho2).mono ?_
                          rintro e w8 ⟨rfl, hB8⟩
                          go_wp2
                          go_ret
                          exact ⟨rfl, hbel.next hB8⟩

set_option maxRecDepth 100000 in
set_option maxHeartbeats 8000000 in
theorem dparse_law1 {w : World} (s : ByteArray) (hs : s.size ≤ 9223372036854775807) (hcase : 400 < s.size) :
    Calls Try.prog 5 #[.string s] w (fun e w' => e = .returned (.bool true) ∧ Below w.heap.size w w') := by
  have hdc : decide (400 < s.size) = true := decide_eq_true hcase
  obtain ⟨u, hu⟩ : ∃ u, (s.extract 0 400) = u := ⟨_, rfl⟩
  have hus : u.size ≤ 400 := by rw [← hu]; rw [ByteArray.size_extract]; omega
  obtain ⟨K, hK⟩ : ∃ K, K = 400 := ⟨_, rfl⟩
  have hqs := dc_sz (l := by' u) (K := K) (by rw [by_len]; omega)
  have HP := hid (fun w => dparse (w := w) u (by omega))
  have HR := hid (fun w => rparse4 (w := w) u (by omega))
  generalize dcQ (by' u) = q at *
  generalize dcE (by' u) = er at *
  have hee : (er != er) = false := by simp
  have hL1 := qnl_len (er := er) hqs
  have hL2 := qdl_len (er := er) hqs
  clear hqs
  go_enter Try.func5, Try.ntmps5
  have hbel_0 : Below w.heap.size w w := Below.refl _ _
  go_wp2_with fail
  try rw [hu]
  clear hu
  go_wp2_with fail
  refine (HR.out _).mono ?_
  rintro e w1 ⟨oa, on, oc, ob, om, od, rfl, hO, hO', hDo, hB⟩
  have hB_1 : Below w.heap.size w w1 := (bl.next hB)
  have hbel_1 := hbel_0.next hB_1
  have hsz_1 := hB_1.size
  clear hbel_0 hB_1
  have Oo_1 := hO
  have ltOo := hO.ltB
  have Po_1 := hO'
  have ltPo := hO'.ltB
  clear hO hO'
  try clear hB
  have hbx := blk_new w1 #[Value.bool (qsg q er), Value.slice oa on oc, Value.slice ob om od] 29
  have hbB := (Below.refl w1.heap.size w1).alloc (Nat.le_refl _) (.cells #[Value.bool (qsg q er), Value.slice oa on oc, Value.slice ob om od] 29)
  have hltV := hbx.lt
  have hB_2 : Below w1.heap.size w1 (w1.alloc (.cells #[Value.bool (qsg q er), Value.slice oa on oc, Value.slice ob om od] 29)) := hbB
  have Oo_2 := Oo_1.below hB_2
  have Po_2 := Po_1.below hB_2
  have hbel_2 := hbel_1.next hB_2
  have hsz_2 := hB_2.size
  clear hB_2
  have V_2 := hbx
  clear hbx hbB
  have cV_2_0 : _ = some (Value.bool (qsg q er)) := V_2.cell 0
  have cV_2_1 : _ = some (Value.slice oa on oc) := V_2.cell 1
  have cV_2_2 : _ = some (Value.slice ob om od) := V_2.cell 2
  go_wp2_with fail
  clear Oo_1 Po_1 hbel_1
  generalize (w1.alloc (.cells #[Value.bool (qsg q er), Value.slice oa on oc, Value.slice ob om od] 29)) = v2 at *
  go_wp2_with fail
  refine (HP.out _).mono ?_
  rintro e w3 ⟨xa, xn, xc, xb, xm, xd, rfl, hO, hO', hDx, hB⟩
  have hB_3 : Below v2.heap.size v2 w3 := (bl.next hB)
  have V_3 := V_2.next hB_3
  have cV_3_0 : _ = some (Value.bool (qsg q er)) := V_3.cell 0
  have cV_3_1 : _ = some (Value.slice oa on oc) := V_3.cell 1
  have cV_3_2 : _ = some (Value.slice ob om od) := V_3.cell 2
  have Oo_3 := Oo_2.below hB_3
  have Po_3 := Po_2.below hB_3
  have hbel_3 := hbel_2.next hB_3
  have hsz_3 := hB_3.size
  clear V_2 cV_2_0 cV_2_1 cV_2_2 Oo_2 Po_2 hbel_2 hB_3
  have Ox_3 := hO
  have ltOx := hO.ltB
  have Px_3 := hO'
  have ltPx := hO'.ltB
  clear hO hO'
  try clear hB
  have hbx := blk_new w3 #[Value.bool (qsg q er), Value.slice xa xn xc, Value.slice xb xm xd] 29
  have hbB := (Below.refl w3.heap.size w3).alloc (Nat.le_refl _) (.cells #[Value.bool (qsg q er), Value.slice xa xn xc, Value.slice xb xm xd] 29)
  have hltA := hbx.lt
  have hB_4 : Below w3.heap.size w3 (w3.alloc (.cells #[Value.bool (qsg q er), Value.slice xa xn xc, Value.slice xb xm xd] 29)) := hbB
  have V_4 := V_3.next hB_4
  have cV_4_0 : _ = some (Value.bool (qsg q er)) := V_4.cell 0
  have cV_4_1 : _ = some (Value.slice oa on oc) := V_4.cell 1
  have cV_4_2 : _ = some (Value.slice ob om od) := V_4.cell 2
  have Oo_4 := Oo_3.below hB_4
  have Po_4 := Po_3.below hB_4
  have Ox_4 := Ox_3.below hB_4
  have Px_4 := Px_3.below hB_4
  have hbel_4 := hbel_3.next hB_4
  have hsz_4 := hB_4.size
  clear hB_4
  have A_4 := hbx
  clear hbx hbB
  have cA_4_0 : _ = some (Value.bool (qsg q er)) := A_4.cell 0
  have cA_4_1 : _ = some (Value.slice xa xn xc) := A_4.cell 1
  have cA_4_2 : _ = some (Value.slice xb xm xd) := A_4.cell 2
  go_wp2_with fail
  clear V_3 cV_3_0 cV_3_1 cV_3_2 Oo_3 Po_3 Ox_3 Px_3 hbel_3
  generalize (w3.alloc (.cells #[Value.bool (qsg q er), Value.slice xa xn xc, Value.slice xb xm xd] 29)) = v4 at *
  go_wp2_with fail
  refine (HP.out _).mono ?_
  rintro e w5 ⟨za, zn, zc, zb, zm, zd, rfl, hO, hO', hDz, hB⟩
  have hB_5 : Below v4.heap.size v4 w5 := (bl.next hB)
  have V_5 := V_4.next hB_5
  have cV_5_0 : _ = some (Value.bool (qsg q er)) := V_5.cell 0
  have cV_5_1 : _ = some (Value.slice oa on oc) := V_5.cell 1
  have cV_5_2 : _ = some (Value.slice ob om od) := V_5.cell 2
  have A_5 := A_4.next hB_5
  have cA_5_0 : _ = some (Value.bool (qsg q er)) := A_5.cell 0
  have cA_5_1 : _ = some (Value.slice xa xn xc) := A_5.cell 1
  have cA_5_2 : _ = some (Value.slice xb xm xd) := A_5.cell 2
  have Oo_5 := Oo_4.below hB_5
  have Po_5 := Po_4.below hB_5
  have Ox_5 := Ox_4.below hB_5
  have Px_5 := Px_4.below hB_5
  have hbel_5 := hbel_4.next hB_5
  have hsz_5 := hB_5.size
  clear V_4 cV_4_0 cV_4_1 cV_4_2 A_4 cA_4_0 cA_4_1 cA_4_2 Oo_4 Po_4 Ox_4 Px_4 hbel_4 hB_5
  have Oz_5 := hO
  have ltOz := hO.ltB
  have Pz_5 := hO'
  have ltPz := hO'.ltB
  clear hO hO'
  try clear hB
  have hbx := blk_new w5 #[Value.bool (qsg q er), Value.slice za zn zc, Value.slice zb zm zd] 29
  have hbB := (Below.refl w5.heap.size w5).alloc (Nat.le_refl _) (.cells #[Value.bool (qsg q er), Value.slice za zn zc, Value.slice zb zm zd] 29)
  have hltB := hbx.lt
  have hB_6 : Below w5.heap.size w5 (w5.alloc (.cells #[Value.bool (qsg q er), Value.slice za zn zc, Value.slice zb zm zd] 29)) := hbB
  have V_6 := V_5.next hB_6
  have cV_6_0 : _ = some (Value.bool (qsg q er)) := V_6.cell 0
  have cV_6_1 : _ = some (Value.slice oa on oc) := V_6.cell 1
  have cV_6_2 : _ = some (Value.slice ob om od) := V_6.cell 2
  have A_6 := A_5.next hB_6
  have cA_6_0 : _ = some (Value.bool (qsg q er)) := A_6.cell 0
  have cA_6_1 : _ = some (Value.slice xa xn xc) := A_6.cell 1
  have cA_6_2 : _ = some (Value.slice xb xm xd) := A_6.cell 2
  have Oo_6 := Oo_5.below hB_6
  have Po_6 := Po_5.below hB_6
  have Ox_6 := Ox_5.below hB_6
  have Px_6 := Px_5.below hB_6
  have Oz_6 := Oz_5.below hB_6
  have Pz_6 := Pz_5.below hB_6
  have hbel_6 := hbel_5.next hB_6
  have hsz_6 := hB_6.size
  clear hB_6
  have B_6 := hbx
  clear hbx hbB
  have cB_6_0 : _ = some (Value.bool (qsg q er)) := B_6.cell 0
  have cB_6_1 : _ = some (Value.slice za zn zc) := B_6.cell 1
  have cB_6_2 : _ = some (Value.slice zb zm zd) := B_6.cell 2
  go_wp2_with fail
  clear V_5 cV_5_0 cV_5_1 cV_5_2 A_5 cA_5_0 cA_5_1 cA_5_2 Oo_5 Po_5 Ox_5 Px_5 Oz_5 Pz_5 hbel_5
  generalize (w5.alloc (.cells #[Value.bool (qsg q er), Value.slice za zn zc, Value.slice zb zm zd] 29)) = v6 at *
  go_wp2_with fail
  refine (dsame_true Ox_6.rd Px_6.rd Oo_6.rd Po_6.rd).mono ?_
  rintro e w7 ⟨rfl, hB⟩
  have hB_7 : Below v6.heap.size v6 w7 := (bl.next hB)
  have V_7 := V_6.next hB_7
  have cV_7_0 : _ = some (Value.bool (qsg q er)) := V_7.cell 0
  have cV_7_1 : _ = some (Value.slice oa on oc) := V_7.cell 1
  have cV_7_2 : _ = some (Value.slice ob om od) := V_7.cell 2
  have A_7 := A_6.next hB_7
  have cA_7_0 : _ = some (Value.bool (qsg q er)) := A_7.cell 0
  have cA_7_1 : _ = some (Value.slice xa xn xc) := A_7.cell 1
  have cA_7_2 : _ = some (Value.slice xb xm xd) := A_7.cell 2
  have B_7 := B_6.next hB_7
  have cB_7_0 : _ = some (Value.bool (qsg q er)) := B_7.cell 0
  have cB_7_1 : _ = some (Value.slice za zn zc) := B_7.cell 1
  have cB_7_2 : _ = some (Value.slice zb zm zd) := B_7.cell 2
  have Oo_7 := Oo_6.below hB_7
  have Po_7 := Po_6.below hB_7
  have Ox_7 := Ox_6.below hB_7
  have Px_7 := Px_6.below hB_7
  have Oz_7 := Oz_6.below hB_7
  have Pz_7 := Pz_6.below hB_7
  have hbel_7 := hbel_6.next hB_7
  have hsz_7 := hB_7.size
  clear V_6 cV_6_0 cV_6_1 cV_6_2 A_6 cA_6_0 cA_6_1 cA_6_2 B_6 cB_6_0 cB_6_1 cB_6_2 Oo_6 Po_6 Ox_6 Px_6 Oz_6 Pz_6 hbel_6 hB_7
  try clear hB
  go_wp2_with fail
  refine (dsame_true Oz_7.rd Pz_7.rd Oo_7.rd Po_7.rd).mono ?_
  rintro e w8 ⟨rfl, hB⟩
  have hB_8 : Below w7.heap.size w7 w8 := (bl.next hB)
  have V_8 := V_7.next hB_8
  have cV_8_0 : _ = some (Value.bool (qsg q er)) := V_8.cell 0
  have cV_8_1 : _ = some (Value.slice oa on oc) := V_8.cell 1
  have cV_8_2 : _ = some (Value.slice ob om od) := V_8.cell 2
  have A_8 := A_7.next hB_8
  have cA_8_0 : _ = some (Value.bool (qsg q er)) := A_8.cell 0
  have cA_8_1 : _ = some (Value.slice xa xn xc) := A_8.cell 1
  have cA_8_2 : _ = some (Value.slice xb xm xd) := A_8.cell 2
  have B_8 := B_7.next hB_8
  have cB_8_0 : _ = some (Value.bool (qsg q er)) := B_8.cell 0
  have cB_8_1 : _ = some (Value.slice za zn zc) := B_8.cell 1
  have cB_8_2 : _ = some (Value.slice zb zm zd) := B_8.cell 2
  have Oo_8 := Oo_7.below hB_8
  have Po_8 := Po_7.below hB_8
  have Ox_8 := Ox_7.below hB_8
  have Px_8 := Px_7.below hB_8
  have Oz_8 := Oz_7.below hB_8
  have Pz_8 := Pz_7.below hB_8
  have hbel_8 := hbel_7.next hB_8
  have hsz_8 := hB_8.size
  clear V_7 cV_7_0 cV_7_1 cV_7_2 A_7 cA_7_0 cA_7_1 cA_7_2 B_7 cB_7_0 cB_7_1 cB_7_2 Oo_7 Po_7 Ox_7 Px_7 Oz_7 Pz_7 hbel_7 hB_8
  try clear hB
  clear hdc hcase HP HR
  obtain ⟨wm, hwm⟩ : ∃ y : World, y = w8 := ⟨_, rfl⟩
  subst hwm
  have hxlen := Ox_8.len
  have hxlen' := Px_8.len
  have hbx := Ox_8.bnd
  have hbx' := Px_8.bnd
  obtain ⟨L, hLe⟩ : ∃ y, qnl q er = y := ⟨_, rfl⟩
  obtain ⟨M, hMe⟩ : ∃ y, qdl q er = y := ⟨_, rfl⟩
  rw [hLe] at Ox_8 Oz_8 Oo_8 hL1 hxlen
  rw [hMe] at Px_8 Pz_8 Po_8 hL2 hxlen'
  clear hLe hMe
  have nA : ¬ PPb xa xb (w3.heap.size) := fun h => h.elim (fun e => by have := ltOx _ e; omega) (fun e => by have := ltPx _ e; omega)
  have nV : ¬ PPb xa xb (w1.heap.size) := fun h => h.elim (fun e => by have := (Ox_8.lt' _ e).1; omega) (fun e => by have := (Px_8.lt' _ e).1; omega)
  have nB : ¬ PPb xa xb (w5.heap.size) := fun h => h.elim (fun e => by have := ltOx _ e; omega) (fun e => by have := ltPx _ e; omega)
  have nOo : ∀ b o, oa = some ⟨b, o, none⟩ → ¬ PPb xa xb b := fun b o e h => by
    rcases Oo_8.cases with ⟨h0, _⟩ | ⟨b', h0, _⟩
    · rw [h0] at e; cases e
    · rw [h0] at e; cases e; exact h.elim (fun e2 => by have h1 := ltOo _ h0; have h2 := (Ox_8.lt' _ e2).1; omega) (fun e2 => by have h1 := ltOo _ h0; have h2 := (Px_8.lt' _ e2).1; omega)
  have nPo : ∀ b o, ob = some ⟨b, o, none⟩ → ¬ PPb xa xb b := fun b o e h => by
    rcases Po_8.cases with ⟨h0, _⟩ | ⟨b', h0, _⟩
    · rw [h0] at e; cases e
    · rw [h0] at e; cases e; exact h.elim (fun e2 => by have h1 := ltPo _ h0; have h2 := (Ox_8.lt' _ e2).1; omega) (fun e2 => by have h1 := ltPo _ h0; have h2 := (Px_8.lt' _ e2).1; omega)
  have nOz : ∀ b o, za = some ⟨b, o, none⟩ → ¬ PPb xa xb b := fun b o e h => by
    rcases Oz_8.cases with ⟨h0, _⟩ | ⟨b', h0, _⟩
    · rw [h0] at e; cases e
    · rw [h0] at e; cases e; exact h.elim (fun e2 => by have h1 := ltOx _ e2; have h2 := (Oz_8.lt' _ h0).1; omega) (fun e2 => by have h1 := ltPx _ e2; have h2 := (Oz_8.lt' _ h0).1; omega)
  have nPz : ∀ b o, zb = some ⟨b, o, none⟩ → ¬ PPb xa xb b := fun b o e h => by
    rcases Pz_8.cases with ⟨h0, _⟩ | ⟨b', h0, _⟩
    · rw [h0] at e; cases e
    · rw [h0] at e; cases e; exact h.elim (fun e2 => by have h1 := ltOx _ e2; have h2 := (Pz_8.lt' _ h0).1; omega) (fun e2 => by have h1 := ltPx _ e2; have h2 := (Pz_8.lt' _ h0).1; omega)
  have HA : Hid (∀ wr, Kp (PPb xa xb) wm wr → Blk wr (w3.heap.size) #[Value.bool (qsg q er), Value.slice xa xn xc, Value.slice xb xm xd]) := fun wr hk => A_8.kp hk nA
  have HE : Hid (∀ wr, Kp (PPb xa xb) wm wr → Blk wr (w5.heap.size) #[Value.bool (qsg q er), Value.slice za zn zc, Value.slice zb zm zd] ∧ Blk wr (w1.heap.size) #[Value.bool (qsg q er), Value.slice oa on oc, Value.slice ob om od] ∧ Rd wr za zn zc L ∧ Rd wr zb zm zd M ∧ Rd wr oa on oc L ∧ Rd wr ob om od M ∧ Below w.heap.size w wr) := fun wr hk => ⟨B_8.kp hk nB, V_8.kp hk nV, Oz_8.rd.kp hk nOz, Pz_8.rd.kp hk nPz, Oo_8.rd.kp hk nOo, Po_8.rd.kp hk nPo, hbel_8.kp hk hbel_8.size (fun j hj h => h.elim (fun e => by have := (Ox_8.lt' _ e).1; omega) (fun e => by have := (Px_8.lt' _ e).1; omega))⟩
  have hOx := hid (Ox_8.mono (Nat.zero_le _))
  have hPx := hid (Px_8.mono (Nat.zero_le _))
  have hDx2 : Hid (Diff xa xb) := hDx
  have ltP : Hid (LtB xb wm.heap.size) := fun g e => by have := ltPx g e; omega
  have hkp0 : Hid (Kp (PPb xa xb) wm wm) := Kp.refl _ _
  obtain ⟨gA, hgA⟩ : ∃ y, y = w3.heap.size := ⟨_, rfl⟩
  obtain ⟨gB, hgB⟩ : ∃ y, y = w5.heap.size := ⟨_, rfl⟩
  obtain ⟨gV, hgV⟩ : ∃ y, y = w1.heap.size := ⟨_, rfl⟩
  have cA_0 := (HA.out wm (Kp.refl _ _)).cell 1
  have cA_1 := (HA.out wm (Kp.refl _ _)).cell 2
  clear nA nV nB nOo nPo nOz nPz hDx hDo hDz ltOx ltPx ltOo ltPo ltOz ltPz Ox_8 Px_8 Oz_8 Pz_8 Oo_8 Po_8 A_8 B_8 V_8 hbel_8
  clear cV_8_0 cV_8_1 cV_8_2 cA_8_0 cA_8_1 cA_8_2 cB_8_0 cB_8_1 cB_8_2
  go_wp2
  go_loopw [9] (fun i wr => ∃ k : Nat, k ≤ xn ∧ i = .int .i64 k ∧ Hid (Own 0 wr xa xn xc (fil L k 7)) ∧ Hid (Own 0 wr xb xm xd M) ∧ Hid (Kp (PPb xa xb) wm wr)) (fun i _ => xn - (intOf i).toNat)
  case atStart => exact ⟨0, by omega, rfl, by rw [fil_zero]; exact hOx, hPx, hkp0⟩
  case round =>
    clear hOx hPx hkp0 cA_0 cA_1
    obtain ⟨k, hk, rfl, hO, hP, hKp⟩ := hrel
    have hcA : _ = some (Value.slice xa xn xc) := (HA.out _ hKp.out).cell 1
    by_cases hlt : k < xn
    · rcases hO.out.cases with ⟨_, h, _⟩ | ⟨g, rfl, _⟩
      · omega
      have hcc := hO.out.cell hlt
      have hff := hO.out.free k
      have hO2 : Hid (Own 0 (wr.setCell ⟨g, k, none⟩ (.int .u32 7)) (some ⟨g, 0, none⟩) xn xc (fil L (k + 1) 7)) := by
        rw [← fil_set 7 (by omega)]; exact hO.out.set k 7 (by decide)
      have hP2 : Hid (Own 0 (wr.setCell ⟨g, k, none⟩ (.int .u32 7)) xb xm xd M) := hP.out.set_other _ fun g' e e2 => hDx2.out g rfl (e2 ▸ e)
      have hK2 : Hid (Kp (PPb (some ⟨g, 0, none⟩) xb) wm (wr.setCell ⟨g, k, none⟩ (.int .u32 7))) := hKp.out.setCell (.inl rfl) _
      clear hO hP hKp
      go_wp2
      go_roundw
      case rel => exact ⟨k + 1, by omega, by go_num, hO2, hP2, hK2⟩
      case measure => simp [intOf]; omega
    · obtain rfl : k = xn := by omega
      have hO2 : Hid (Own 0 wr xa k xc (List.replicate k 7)) := by have := hO.out; rwa [fil_all 7 hxlen] at this
      have hP2 := hP
      have hK2 := hKp
      have hcB : _ = some (Value.slice xb xm xd) := (HA.out _ hKp.out).cell 2
      clear hO hP hKp
      go_wp2
      go_loopw [10] (fun i wr => ∃ k2 : Nat, k2 ≤ xm ∧ i = .int .i64 k2 ∧ Hid (Own 0 wr xa k xc (List.replicate k 7)) ∧ Hid (Own 0 wr xb xm xd (fil M k2 9)) ∧ Hid (Kp (PPb xa xb) wm wr)) (fun i _ => xm - (intOf i).toNat)
      case atStart => exact ⟨0, by omega, rfl, hO2, by rw [fil_zero]; exact hP2, hK2⟩
      case round =>
        clear hO2 hP2 hK2 hcA hcB
        obtain ⟨k2, hk2, rfl, hO, hP, hKp⟩ := hrel
        have hcB : _ = some (Value.slice xb xm xd) := (HA.out _ hKp.out).cell 2
        by_cases hlt : k2 < xm
        · rcases hP.out.cases with ⟨_, h, _⟩ | ⟨g, rfl, _⟩
          · omega
          have hcc := hP.out.cell hlt
          have hff := hP.out.free k2
          have hP2 : Hid (Own 0 (wr.setCell ⟨g, k2, none⟩ (.int .u32 9)) (some ⟨g, 0, none⟩) xm xd (fil M (k2 + 1) 9)) := by
            rw [← fil_set 9 (by omega)]; exact hP.out.set k2 9 (by decide)
          have hO2 : Hid (Own 0 (wr.setCell ⟨g, k2, none⟩ (.int .u32 9)) xa k xc (List.replicate k 7)) := hO.out.set_other _ fun g' e e2 => hDx2.out g (e2 ▸ e) rfl
          have hK2 : Hid (Kp (PPb xa (some ⟨g, 0, none⟩)) wm (wr.setCell ⟨g, k2, none⟩ (.int .u32 9))) := hKp.out.setCell (.inr rfl) _
          clear hO hP hKp
          go_wp2
          go_roundw
          case rel => exact ⟨k2 + 1, by omega, by go_num, hO2, hP2, hK2⟩
          case measure => simp [intOf]; omega
        · obtain rfl : k2 = xm := by omega
          have hP2 : Hid (Own 0 wr xb k2 xd (List.replicate k2 9)) := by have := hP.out; rwa [fil_all 9 hxlen'] at this
          have hO2 := hO
          have hK2 := hKp
          have hcA : _ = some (Value.slice xa k xc) := (HA.out _ hKp.out).cell 1
          have hkx : k ≤ 2000 := by omega
          have hkx2 : k2 ≤ 2000 := by omega
          clear hO hP hKp hxlen hxlen'
          go_wp2
          obtain ⟨w5, hw5⟩ : ∃ y : World, y = wr := ⟨_, rfl⟩
          subst hw5
          go_loopw [11] (fun i wr => ∃ t : Nat, t ≤ k ∧ i = .int .i64 t ∧ wr = w5) (fun i _ => k - (intOf i).toNat)
          case atStart => exact ⟨0, by omega, rfl, rfl⟩
          case round =>
            obtain ⟨t, ht, rfl, hwr⟩ := hrel
            subst hwr
            by_cases hlt : t < k
            · rcases hO2.out.cases with ⟨_, h, _⟩ | ⟨g, rfl, _⟩
              · omega
              have hcc := hO2.out.cell hlt
              rw [rep_get 7 hlt] at hcc
              go_wp2
              go_roundw
              case rel => exact ⟨t + 1, by omega, by go_num, by first | trivial | rfl⟩
              case measure => simp [intOf]; omega
            · obtain rfl : k = t := by omega
              obtain ⟨w5, hw5⟩ : ∃ y : World, y = wr := ⟨_, rfl⟩
              subst hw5
              have hApp := hid (App.start hO2.out hP2.out)
              have hkm : Hid (Kp (PPb xa xb) wm w5) := hK2
              have ltP5 : Hid (LtB xb w5.heap.size) := fun g e => by have := hP2.out.ltB g e; omega
              clear hO2 hP2 hK2
              go_wp2
              go_loopw [12, 14] (fun v i wr => ∃ (t mm cl : Nat) (al : Option Addr), t ≤ 9 ∧ v = .slice al mm cl ∧ i = .int .i64 t ∧ mm ≤ k + t ∧ k + t ≤ mm ∧ Hid (App w5 xa xb al mm cl (List.replicate k 7 ++ List.replicate t 5) k2 xd (List.replicate k2 9) wr)) (fun _ i _ => 9 - (intOf i).toNat)
              case atStart => exact ⟨0, k, xc, xa, by omega, rfl, rfl, by omega, by omega, by simpa using hApp⟩
              case round =>
                clear hApp hcA hcB
                obtain ⟨t, mm, cl, al, ht, rfl, rfl, hm1, hm2, hA⟩ := hrel
                by_cases hlt : t < 9
                · have hcb := hA.out.own.bnd
                  go_wp2_with (at_builtin; refine wpList_app1 (y := 5) rfl _ _ rfl rfl (hA.out.own.alloc _) _ 1 rfl (by omega) (by go_simp) (Nat.zero_le _) (by omega) ?_; intro a2 c2 w2 hO2 hK2 hf2)
                  have hA2 := hid (hA.out.step hDx2.out ltP5.out hO2 hK2 hf2)
                  rw [rep2_snoc] at hA2
                  clear hA hO2 hK2 hf2
                  go_roundw
                  case rel => exact ⟨t + 1, mm + 1, c2, a2, by omega, rfl, by go_num, by omega, by omega, hA2⟩
                  case measure => simp [intOf]; omega
                · obtain rfl : 9 = t := by omega
                  obtain rfl : k + 9 = mm := by omega
                  have hD5 : Hid (Diff xb al) := hA.out.ne hDx2.out ltP5.out
                  have hk5 : Hid (Kp (PPb xa xb) wm wr) := hkm.out.kp hA.out.kp fun j _ e => .inl (.inl e)
                  have hApp : Hid (App wr xb al xb k2 xd (List.replicate k2 9) (k + 9) cl (List.replicate k 7 ++ List.replicate 9 5) wr) := App.start hA.out.oth hA.out.own
                  have ltA5 : Hid (LtB al wr.heap.size) := fun g e => by have := hA.out.own.ltB g e; omega
                  obtain ⟨w6, hw6⟩ : ∃ y : World, y = wr := ⟨_, rfl⟩
                  subst hw6
                  clear hA
                  go_wp2
                  go_loopw [13, 15] (fun v i wr => ∃ (t mm cl2 : Nat) (al2 : Option Addr), t ≤ 9 ∧ v = .slice al2 mm cl2 ∧ i = .int .i64 t ∧ mm ≤ k2 + t ∧ k2 + t ≤ mm ∧ Hid (App w6 xb al al2 mm cl2 (List.replicate k2 9 ++ List.replicate t 6) (k + 9) cl (List.replicate k 7 ++ List.replicate 9 5) wr)) (fun _ i _ => 9 - (intOf i).toNat)
                  case atStart => exact ⟨0, k2, xd, xb, by omega, rfl, rfl, by omega, by omega, by simpa using hApp⟩
                  case round =>
                    clear hApp
                    obtain ⟨t, mm, cl2, al2, ht, rfl, rfl, hm1, hm2, hA⟩ := hrel
                    by_cases hlt : t < 9
                    · have hcb := hA.out.own.bnd
                      go_wp2_with (at_builtin; refine wpList_app1 (y := 6) rfl _ _ rfl rfl (hA.out.own.alloc _) _ 1 rfl (by omega) (by go_simp) (Nat.zero_le _) (by omega) ?_; intro a2 c2 w2 hO2 hK2 hf2)
                      have hA2 := hid (hA.out.step hD5.out ltA5.out hO2 hK2 hf2)
                      rw [rep2_snoc] at hA2
                      clear hA hO2 hK2 hf2
                      go_roundw
                      case rel => exact ⟨_, _, _, _, _, _, _, _, _, ⟨t + 1, mm + 1, c2, a2, by omega, rfl, by go_num, by omega, by omega, hA2⟩, rfl⟩
                      case measure => simp [intOf]; omega
                    · obtain rfl : 9 = t := by omega
                      obtain rfl : k2 + 9 = mm := by omega
                      have hk6 : Hid (Kp (PPb xa xb) wm wr) := hk5.out.kp hA.out.kp fun j _ e => .inl (.inr e)
                      have hOv := hid hA.out.oth
                      have hUn := hid hA.out.own
                      obtain ⟨w7, hw7⟩ : ∃ y : World, y = wr := ⟨_, rfl⟩
                      subst hw7
                      clear hA hkm hk5 hD5 ltA5 ltP5 ltP hDx2
                      have hcA := (HA.out _ hk6.out).cell 1
                      have hcB := (HA.out _ hk6.out).cell 2
                      go_wp2
                      go_loopw [16] (fun i wr => ∃ t : Nat, t ≤ 9 ∧ i = .int .i64 t ∧ wr = w7) (fun i _ => 9 - (intOf i).toNat)
                      case atStart => exact ⟨0, by omega, rfl, rfl⟩
                      case round =>
                        obtain ⟨t, ht, rfl, hwr⟩ := hrel
                        subst hwr
                        by_cases hlt : t < 9
                        · rcases hOv.out.cases with ⟨_, h, _⟩ | ⟨g, rfl, _⟩
                          · omega
                          rcases hUn.out.cases with ⟨_, h, _⟩ | ⟨g2, rfl, _⟩
                          · omega
                          have hcc := hOv.out.cell (show k + t < k + 9 by omega)
                          have hcd := hUn.out.cell (show k2 + t < k2 + 9 by omega)
                          rw [rep2_get 7 5 hlt] at hcc
                          rw [rep2_get 9 6 hlt] at hcd
                          go_wp2
                          go_roundw
                          case rel => exact ⟨t + 1, by omega, by go_num, by first | trivial | rfl⟩
                          case measure => simp [intOf]; omega
                        · obtain rfl : 9 = t := by omega
                          obtain ⟨hB, hV, hz1, hz2, ho1, ho2, hbel⟩ := HE.out _ hk6.out
                          have b0 := hB.cell 0
                          have b1 := hB.cell 1
                          have b2 := hB.cell 2
                          have v0 := hV.cell 0
                          have v1 := hV.cell 1
                          have v2 := hV.cell 2
                          clear hcA hcB hOv hUn
                          go_wp2_with fail
                          refine (dsame_true hz1 hz2 ho1 ho2).mono ?_
                          rintro e w8 ⟨rfl, hB8⟩
                          go_wp2
                          go_ret
                          exact ⟨rfl, hbel.next hB8⟩

theorem decimalParse_walk {w : World} (s : ByteArray) (hs : s.size ≤ 9223372036854775807) : Calls Try.prog 5 #[.string s] w (fun e w' => e = .returned (.bool true) ∧ Below w.heap.size w w') := by
  by_cases h : 400 < s.size
  · exact dparse_law1 s hs h
  · exact dparse_law0 s hs h
end Go.Proofs.Ytnpkmlpmeeidbaa
