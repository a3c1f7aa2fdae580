/- THE WALK OF credencelaw05.NearOf: every float of 64 and 32 bits, of other names: its value; the first answer written over. -/
import Derived.Test.YtnbhfgpnjhbkaaaFw
namespace Go.Proofs.Ytnbhfgpnjhbkaaa
set_option linter.unusedVariables false
set_option linter.unusedSimpArgs false
open Go.ChangeShapes Go.WideShapes Go.ChangeAt Go.RowKit Go.NatP Go.FloatP

theorem flV_qs (s : Bool) {r : Nat} (h : r < 9218868437227405312) : QS (flV s r) 66 := QS.mk (two_ne E74) (by rw [zv_abs]; exact fg_sz h) e74_sz
theorem qs_zero66 : QS (0 : Rat) 66 := ⟨(sz_one (k := 66) (by omega)).mono (by decide) (Nat.le_refl _), sz_one (by omega)⟩
theorem fq_qs (x : Nat) : QS (fq x) 66 := by
  unfold fq
  split
  · rename_i h; exact flV_qs _ h
  · exact qs_zero66
theorem fq32_qs (s : Nat) : QS (fq32 s) 66 := by
  unfold fq32
  split
  · exact qs_zero66
  · exact fq_qs _

/-! ### limbs written over, and gone on with -/
def fil (l : List Nat) (k x : Nat) : List Nat := List.replicate k x ++ l.drop k
theorem fil_zero (l : List Nat) (x : Nat) : fil l 0 x = l := by simp [fil]
theorem fil_set {l : List Nat} {k : Nat} (x : Nat) (h : k < l.length) : (fil l k x).set k x = fil l (k + 1) x := by
  unfold fil
  rw [List.set_append_right _ _ (by simp), List.length_replicate, Nat.sub_self, List.drop_eq_getElem_cons h, List.set_cons_zero, List.replicate_succ', List.append_assoc]
  rfl
theorem fil_all {l : List Nat} {k : Nat} (x : Nat) (h : l.length = k) : fil l k x = List.replicate k x := by
  unfold fil
  rw [List.drop_eq_nil_of_le (by omega), List.append_nil]
theorem rep_get {k i : Nat} (x : Nat) (h : i < k) : (List.replicate k x).getD i 0 = x := by simp [List.getD_eq_getElem?_getD, h]
theorem rep2_get {k t i : Nat} (x y : Nat) (h : i < t) : (List.replicate k x ++ List.replicate t y).getD (k + i) 0 = y := by
  rw [List.getD_eq_getElem?_getD, List.getElem?_append_right (by simp), List.length_replicate, Nat.add_sub_cancel_left]
  simp [h]
theorem rep2_lo {k t i : Nat} (x y : Nat) (h : i < k) : (List.replicate k x ++ List.replicate t y).getD i 0 = x := by
  rw [List.getD_eq_getElem?_getD, List.getElem?_append_left (by simpa using h)]
  simp [h]
theorem rep2_snoc (k t x y : Nat) : List.replicate k x ++ List.replicate t y ++ [y] = List.replicate k x ++ List.replicate (t + 1) y := by rw [List.append_assoc, List.replicate_succ']
def PPb (a b : Option Addr) (j : Nat) : Prop := a = some ⟨j, 0, none⟩ ∨ b = some ⟨j, 0, none⟩

/-- limbs appended to: where they lay, or in a new block; the row itself, as long as it was, and other limbs stay -/
structure App (w0 : World) (aa ab al : Option Addr) (mm cl n c : Nat) (l L : List Nat) (am ad : Nat) (M : List Nat) (wr : World) : Prop where
  own : Own 0 wr al mm cl l
  pl : al = aa ∨ ∀ g, al = some ⟨g, 0, none⟩ → w0.heap.size ≤ g
  oth : Own 0 wr ab am ad M
  kp : Kp (fun j => aa = some ⟨j, 0, none⟩) w0 wr
  slf : Rd wr aa n c L
  pre : l.take n = L
  le : n ≤ mm
section
variable {w0 wr w2 : World} {aa ab al a2 : Option Addr} {mm cl c2 am ad B B' n c y : Nat} {l L M : List Nat}
theorem App.start (h : Own B w0 aa n c l) (h' : Own B' w0 ab am ad M) : App w0 aa ab aa n c n c l l am ad M w0 := ⟨h.mono (Nat.zero_le _), .inl rfl, h'.mono (Nat.zero_le _), Kp.refl _ _, h.rd, List.take_of_length_le (by have := h.len; omega), Nat.le_refl _⟩
theorem App.ne (hD : Diff aa ab) (hlt : LtB ab w0.heap.size) (h : App w0 aa ab al mm cl n c l L am ad M wr) : Diff ab al := by
  intro g e e2
  rcases h.pl with h2 | h2
  · exact hD g (h2 ▸ e2) e
  · have h3 := h2 g e2
    have h4 := hlt g e
    omega
theorem App.step (hD : Diff aa ab) (hlt : LtB ab w0.heap.size) (hla : ∀ b o, aa = some ⟨b, o, none⟩ → b < w0.heap.size) (h : App w0 aa ab al mm cl n c l L am ad M wr) {o : Obj} (hO2 : Own 0 w2 a2 (mm + 1) c2 (l ++ [y]))
    (hK2 : Kp (fun j => al = some ⟨j, 0, none⟩) (wr.alloc o) w2) (hf : a2 = al ∨ (∀ g, a2 = some ⟨g, 0, none⟩ → (wr.alloc o).heap.size ≤ g) ∧ Kp (fun _ => False) (wr.alloc o) w2) :
    App w0 aa ab a2 (mm + 1) c2 n c (l ++ [y]) L am ad M w2 := by
  have hsz := h.kp.size
  have hlen := h.own.len
  have hle := h.le
  have hpre : (l ++ [y]).take n = L := by rw [List.take_append_of_le_length (by omega)]; exact h.pre
  refine ⟨hO2, ?_, (h.oth.alloc o).kp hK2 fun g e e2 => h.ne hD hlt g e e2, (h.kp.alloc o).kp hK2 fun k hk e => ?_, ?_, hpre, by omega⟩
  · rcases hf with h2 | ⟨h2, _⟩
    · rw [h2]; exact h.pl
    · right; intro g e; have := h2 g e; simp at this; omega
  · rcases h.pl with h2 | h2
    · exact .inl (h2 ▸ e)
    · exact .inr (h2 k e)
  · rcases hf with h2 | ⟨_, h2⟩
    · rcases h.pl with h3 | h3
      · have h4 := (hO2.take (k := n) (by omega)).rd
        rw [hpre, h2, h3] at h4
        exact h4.cap h.slf.2.2.1 h.slf.2.2.2.1
      · refine (h.slf.alloc o).kp hK2 fun b o' e e2 => ?_
        have h4 := h3 b e2
        have h5 := hla b o' e
        omega
    · exact (h.slf.alloc o).kp h2 fun _ _ _ e => e
end

set_option maxRecDepth 100000 in
set_option maxHeartbeats 8000000 in
theorem nearof_law {w : World} (x : Nat) (hx : x < 18446744073709551616) (s : Nat) (cs : World → Nat) (ds : World → World) (hcv : ∀ w, (convert 23 22 (.float .f32 s)).run Try.prog w = .ok (.float .f64 (cs w)) (ds w)) (hdd : Hid (∀ w, Below w.heap.size w (ds w))) (hcl : ∀ w, cs w < 18446744073709551616) (hcq : ∀ w, fq (cs w) = fq32 s ∧ fe (cs w) = fe32 s) :
    Calls Try.prog 3 #[.float .f64 x, .float .f32 s] w (fun e w' => e = .returned (.bool true) ∧ Below w.heap.size w w') := by
  have hqs := fq_qs x
  have HP := hid (fun w => near64 (w := w) x hx)
  have HM := hid (fun w => nearM (w := w) x hx)
  have HR := hid (fun w => rof (w := w) x hx)
  have HN := hid (fun w => near32 (w := w) s)
  have HH := hid (fun w => nearH (w := w) s)
  have HS : Hid (∀ w v, Calls Try.prog 6 #[.float .f64 (cs v)] w (RetQE w (fq32 s) (fe32 s))) := fun w v => by have h := rof (w := w) (cs v) (hcl v); rwa [(hcq v).1, (hcq v).2] at h
  clear hcl hcq
  generalize fq x = q at *
  generalize fe x = er at *
  generalize fq32 s = q2 at *
  generalize fe32 s = er2 at *
  have hee : (er != er) = false := by simp
  have hee2 : (er2 != er2) = false := by simp
  have hL1 := qnl_len (er := er) hqs
  have hL2 := qdl_len (er := er) hqs
  clear hqs
  go_enter Try.func3, Try.ntmps3
  have hbel_0 : Below w.heap.size w w := Below.refl _ _
  go_wp2_with fail
  go_wp2_with fail
  refine (HR.out _).mono ?_
  rintro e w1 ⟨oa, on, oc, ob, om, od, rfl, hO, hO', hDo, hB⟩
  have hB_1 : Below w.heap.size w w1 := (bl.next hB)
  have hbel_1 := hbel_0.next hB_1
  have hsz_1 := hB_1.size
  clear hbel_0 hB_1
  have Oo_1 := hO
  have ltOo := hO.ltB
  have Po_1 := hO'
  have ltPo := hO'.ltB
  clear hO hO'
  try clear hB
  have hbx := blk_new w1 #[Value.bool (qsg q er), Value.slice oa on oc, Value.slice ob om od] 29
  have hbB := (Below.refl w1.heap.size w1).alloc (Nat.le_refl _) (.cells #[Value.bool (qsg q er), Value.slice oa on oc, Value.slice ob om od] 29)
  have hltV := hbx.lt
  have hB_2 : Below w1.heap.size w1 (w1.alloc (.cells #[Value.bool (qsg q er), Value.slice oa on oc, Value.slice ob om od] 29)) := hbB
  have Oo_2 := Oo_1.below hB_2
  have Po_2 := Po_1.below hB_2
  have hbel_2 := hbel_1.next hB_2
  have hsz_2 := hB_2.size
  clear hB_2
  have V_2 := hbx
  clear hbx hbB
  have cV_2_0 : _ = some (Value.bool (qsg q er)) := V_2.cell 0
  have cV_2_1 : _ = some (Value.slice oa on oc) := V_2.cell 1
  have cV_2_2 : _ = some (Value.slice ob om od) := V_2.cell 2
  go_wp2_with fail
  clear Oo_1 Po_1 hbel_1
  generalize (w1.alloc (.cells #[Value.bool (qsg q er), Value.slice oa on oc, Value.slice ob om od] 29)) = v2 at *
  have hB_3 : Below v2.heap.size v2 (ds v2) := hdd.out _
  have V_3 := V_2.next hB_3
  have cV_3_0 : _ = some (Value.bool (qsg q er)) := V_3.cell 0
  have cV_3_1 : _ = some (Value.slice oa on oc) := V_3.cell 1
  have cV_3_2 : _ = some (Value.slice ob om od) := V_3.cell 2
  have Oo_3 := Oo_2.below hB_3
  have Po_3 := Po_2.below hB_3
  have hbel_3 := hbel_2.next hB_3
  have hsz_3 := hB_3.size
  clear V_2 cV_2_0 cV_2_1 cV_2_2 Oo_2 Po_2 hbel_2 hB_3
  generalize (ds v2) = vds at *
  go_wp2_with fail
  refine (HS.out _ _).mono ?_
  rintro e w4 ⟨ua, un, uc, ub, um, ud, rfl, hO, hO', hDu, hB⟩
  have hB_4 : Below vds.heap.size vds w4 := (bl.next hB)
  have V_4 := V_3.next hB_4
  have cV_4_0 : _ = some (Value.bool (qsg q er)) := V_4.cell 0
  have cV_4_1 : _ = some (Value.slice oa on oc) := V_4.cell 1
  have cV_4_2 : _ = some (Value.slice ob om od) := V_4.cell 2
  have Oo_4 := Oo_3.below hB_4
  have Po_4 := Po_3.below hB_4
  have hbel_4 := hbel_3.next hB_4
  have hsz_4 := hB_4.size
  clear V_3 cV_3_0 cV_3_1 cV_3_2 Oo_3 Po_3 hbel_3 hB_4
  have Ou_4 := hO
  have ltOu := hO.ltB
  have Pu_4 := hO'
  have ltPu := hO'.ltB
  clear hO hO'
  try clear hB
  have hbx := blk_new w4 #[Value.bool (qsg q2 er2), Value.slice ua un uc, Value.slice ub um ud] 29
  have hbB := (Below.refl w4.heap.size w4).alloc (Nat.le_refl _) (.cells #[Value.bool (qsg q2 er2), Value.slice ua un uc, Value.slice ub um ud] 29)
  have hltU := hbx.lt
  have hB_5 : Below w4.heap.size w4 (w4.alloc (.cells #[Value.bool (qsg q2 er2), Value.slice ua un uc, Value.slice ub um ud] 29)) := hbB
  have V_5 := V_4.next hB_5
  have cV_5_0 : _ = some (Value.bool (qsg q er)) := V_5.cell 0
  have cV_5_1 : _ = some (Value.slice oa on oc) := V_5.cell 1
  have cV_5_2 : _ = some (Value.slice ob om od) := V_5.cell 2
  have Oo_5 := Oo_4.below hB_5
  have Po_5 := Po_4.below hB_5
  have Ou_5 := Ou_4.below hB_5
  have Pu_5 := Pu_4.below hB_5
  have hbel_5 := hbel_4.next hB_5
  have hsz_5 := hB_5.size
  clear hB_5
  have U_5 := hbx
  clear hbx hbB
  have cU_5_0 : _ = some (Value.bool (qsg q2 er2)) := U_5.cell 0
  have cU_5_1 : _ = some (Value.slice ua un uc) := U_5.cell 1
  have cU_5_2 : _ = some (Value.slice ub um ud) := U_5.cell 2
  go_wp2_with fail
  clear V_4 cV_4_0 cV_4_1 cV_4_2 Oo_4 Po_4 Ou_4 Pu_4 hbel_4
  generalize (w4.alloc (.cells #[Value.bool (qsg q2 er2), Value.slice ua un uc, Value.slice ub um ud] 29)) = v5 at *
  go_wp2_with fail
  refine (HP.out _).mono ?_
  rintro e w6 ⟨xa, xn, xc, xb, xm, xd, rfl, hO, hO', hDx, hB⟩
  have hB_6 : Below v5.heap.size v5 w6 := (bl.next hB)
  have V_6 := V_5.next hB_6
  have cV_6_0 : _ = some (Value.bool (qsg q er)) := V_6.cell 0
  have cV_6_1 : _ = some (Value.slice oa on oc) := V_6.cell 1
  have cV_6_2 : _ = some (Value.slice ob om od) := V_6.cell 2
  have U_6 := U_5.next hB_6
  have cU_6_0 : _ = some (Value.bool (qsg q2 er2)) := U_6.cell 0
  have cU_6_1 : _ = some (Value.slice ua un uc) := U_6.cell 1
  have cU_6_2 : _ = some (Value.slice ub um ud) := U_6.cell 2
  have Oo_6 := Oo_5.below hB_6
  have Po_6 := Po_5.below hB_6
  have Ou_6 := Ou_5.below hB_6
  have Pu_6 := Pu_5.below hB_6
  have hbel_6 := hbel_5.next hB_6
  have hsz_6 := hB_6.size
  clear V_5 cV_5_0 cV_5_1 cV_5_2 U_5 cU_5_0 cU_5_1 cU_5_2 Oo_5 Po_5 Ou_5 Pu_5 hbel_5 hB_6
  have Ox_6 := hO
  have ltOx := hO.ltB
  have Px_6 := hO'
  have ltPx := hO'.ltB
  clear hO hO'
  try clear hB
  have hbx := blk_new w6 #[Value.bool (qsg q er), Value.slice xa xn xc, Value.slice xb xm xd] 29
  have hbB := (Below.refl w6.heap.size w6).alloc (Nat.le_refl _) (.cells #[Value.bool (qsg q er), Value.slice xa xn xc, Value.slice xb xm xd] 29)
  have hltA := hbx.lt
  have hB_7 : Below w6.heap.size w6 (w6.alloc (.cells #[Value.bool (qsg q er), Value.slice xa xn xc, Value.slice xb xm xd] 29)) := hbB
  have V_7 := V_6.next hB_7
  have cV_7_0 : _ = some (Value.bool (qsg q er)) := V_7.cell 0
  have cV_7_1 : _ = some (Value.slice oa on oc) := V_7.cell 1
  have cV_7_2 : _ = some (Value.slice ob om od) := V_7.cell 2
  have U_7 := U_6.next hB_7
  have cU_7_0 : _ = some (Value.bool (qsg q2 er2)) := U_7.cell 0
  have cU_7_1 : _ = some (Value.slice ua un uc) := U_7.cell 1
  have cU_7_2 : _ = some (Value.slice ub um ud) := U_7.cell 2
  have Oo_7 := Oo_6.below hB_7
  have Po_7 := Po_6.below hB_7
  have Ou_7 := Ou_6.below hB_7
  have Pu_7 := Pu_6.below hB_7
  have Ox_7 := Ox_6.below hB_7
  have Px_7 := Px_6.below hB_7
  have hbel_7 := hbel_6.next hB_7
  have hsz_7 := hB_7.size
  clear hB_7
  have A_7 := hbx
  clear hbx hbB
  have cA_7_0 : _ = some (Value.bool (qsg q er)) := A_7.cell 0
  have cA_7_1 : _ = some (Value.slice xa xn xc) := A_7.cell 1
  have cA_7_2 : _ = some (Value.slice xb xm xd) := A_7.cell 2
  go_wp2_with fail
  clear V_6 cV_6_0 cV_6_1 cV_6_2 U_6 cU_6_0 cU_6_1 cU_6_2 Oo_6 Po_6 Ou_6 Pu_6 Ox_6 Px_6 hbel_6
  generalize (w6.alloc (.cells #[Value.bool (qsg q er), Value.slice xa xn xc, Value.slice xb xm xd] 29)) = v7 at *
  go_wp2_with fail
  refine (HM.out _).mono ?_
  rintro e w8 ⟨za, zn, zc, zb, zm, zd, rfl, hO, hO', hDz, hB⟩
  have hB_8 : Below v7.heap.size v7 w8 := (bl.next hB)
  have V_8 := V_7.next hB_8
  have cV_8_0 : _ = some (Value.bool (qsg q er)) := V_8.cell 0
  have cV_8_1 : _ = some (Value.slice oa on oc) := V_8.cell 1
  have cV_8_2 : _ = some (Value.slice ob om od) := V_8.cell 2
  have U_8 := U_7.next hB_8
  have cU_8_0 : _ = some (Value.bool (qsg q2 er2)) := U_8.cell 0
  have cU_8_1 : _ = some (Value.slice ua un uc) := U_8.cell 1
  have cU_8_2 : _ = some (Value.slice ub um ud) := U_8.cell 2
  have A_8 := A_7.next hB_8
  have cA_8_0 : _ = some (Value.bool (qsg q er)) := A_8.cell 0
  have cA_8_1 : _ = some (Value.slice xa xn xc) := A_8.cell 1
  have cA_8_2 : _ = some (Value.slice xb xm xd) := A_8.cell 2
  have Oo_8 := Oo_7.below hB_8
  have Po_8 := Po_7.below hB_8
  have Ou_8 := Ou_7.below hB_8
  have Pu_8 := Pu_7.below hB_8
  have Ox_8 := Ox_7.below hB_8
  have Px_8 := Px_7.below hB_8
  have hbel_8 := hbel_7.next hB_8
  have hsz_8 := hB_8.size
  clear V_7 cV_7_0 cV_7_1 cV_7_2 U_7 cU_7_0 cU_7_1 cU_7_2 A_7 cA_7_0 cA_7_1 cA_7_2 Oo_7 Po_7 Ou_7 Pu_7 Ox_7 Px_7 hbel_7 hB_8
  have Oz_8 := hO
  have ltOz := hO.ltB
  have Pz_8 := hO'
  have ltPz := hO'.ltB
  clear hO hO'
  try clear hB
  have hbx := blk_new w8 #[Value.bool (qsg q er), Value.slice za zn zc, Value.slice zb zm zd] 29
  have hbB := (Below.refl w8.heap.size w8).alloc (Nat.le_refl _) (.cells #[Value.bool (qsg q er), Value.slice za zn zc, Value.slice zb zm zd] 29)
  have hltB := hbx.lt
  have hB_9 : Below w8.heap.size w8 (w8.alloc (.cells #[Value.bool (qsg q er), Value.slice za zn zc, Value.slice zb zm zd] 29)) := hbB
  have V_9 := V_8.next hB_9
  have cV_9_0 : _ = some (Value.bool (qsg q er)) := V_9.cell 0
  have cV_9_1 : _ = some (Value.slice oa on oc) := V_9.cell 1
  have cV_9_2 : _ = some (Value.slice ob om od) := V_9.cell 2
  have U_9 := U_8.next hB_9
  have cU_9_0 : _ = some (Value.bool (qsg q2 er2)) := U_9.cell 0
  have cU_9_1 : _ = some (Value.slice ua un uc) := U_9.cell 1
  have cU_9_2 : _ = some (Value.slice ub um ud) := U_9.cell 2
  have A_9 := A_8.next hB_9
  have cA_9_0 : _ = some (Value.bool (qsg q er)) := A_9.cell 0
  have cA_9_1 : _ = some (Value.slice xa xn xc) := A_9.cell 1
  have cA_9_2 : _ = some (Value.slice xb xm xd) := A_9.cell 2
  have Oo_9 := Oo_8.below hB_9
  have Po_9 := Po_8.below hB_9
  have Ou_9 := Ou_8.below hB_9
  have Pu_9 := Pu_8.below hB_9
  have Ox_9 := Ox_8.below hB_9
  have Px_9 := Px_8.below hB_9
  have Oz_9 := Oz_8.below hB_9
  have Pz_9 := Pz_8.below hB_9
  have hbel_9 := hbel_8.next hB_9
  have hsz_9 := hB_9.size
  clear hB_9
  have B_9 := hbx
  clear hbx hbB
  have cB_9_0 : _ = some (Value.bool (qsg q er)) := B_9.cell 0
  have cB_9_1 : _ = some (Value.slice za zn zc) := B_9.cell 1
  have cB_9_2 : _ = some (Value.slice zb zm zd) := B_9.cell 2
  go_wp2_with fail
  clear V_8 cV_8_0 cV_8_1 cV_8_2 U_8 cU_8_0 cU_8_1 cU_8_2 A_8 cA_8_0 cA_8_1 cA_8_2 Oo_8 Po_8 Ou_8 Pu_8 Ox_8 Px_8 Oz_8 Pz_8 hbel_8
  generalize (w8.alloc (.cells #[Value.bool (qsg q er), Value.slice za zn zc, Value.slice zb zm zd] 29)) = v9 at *
  go_wp2_with fail
  refine (HN.out _).mono ?_
  rintro e w10 ⟨ya, yn, yc, yb, ym, yd, rfl, hO, hO', hDy, hB⟩
  have hB_10 : Below v9.heap.size v9 w10 := (bl.next hB)
  have V_10 := V_9.next hB_10
  have cV_10_0 : _ = some (Value.bool (qsg q er)) := V_10.cell 0
  have cV_10_1 : _ = some (Value.slice oa on oc) := V_10.cell 1
  have cV_10_2 : _ = some (Value.slice ob om od) := V_10.cell 2
  have U_10 := U_9.next hB_10
  have cU_10_0 : _ = some (Value.bool (qsg q2 er2)) := U_10.cell 0
  have cU_10_1 : _ = some (Value.slice ua un uc) := U_10.cell 1
  have cU_10_2 : _ = some (Value.slice ub um ud) := U_10.cell 2
  have A_10 := A_9.next hB_10
  have cA_10_0 : _ = some (Value.bool (qsg q er)) := A_10.cell 0
  have cA_10_1 : _ = some (Value.slice xa xn xc) := A_10.cell 1
  have cA_10_2 : _ = some (Value.slice xb xm xd) := A_10.cell 2
  have B_10 := B_9.next hB_10
  have cB_10_0 : _ = some (Value.bool (qsg q er)) := B_10.cell 0
  have cB_10_1 : _ = some (Value.slice za zn zc) := B_10.cell 1
  have cB_10_2 : _ = some (Value.slice zb zm zd) := B_10.cell 2
  have Oo_10 := Oo_9.below hB_10
  have Po_10 := Po_9.below hB_10
  have Ou_10 := Ou_9.below hB_10
  have Pu_10 := Pu_9.below hB_10
  have Ox_10 := Ox_9.below hB_10
  have Px_10 := Px_9.below hB_10
  have Oz_10 := Oz_9.below hB_10
  have Pz_10 := Pz_9.below hB_10
  have hbel_10 := hbel_9.next hB_10
  have hsz_10 := hB_10.size
  clear V_9 cV_9_0 cV_9_1 cV_9_2 U_9 cU_9_0 cU_9_1 cU_9_2 A_9 cA_9_0 cA_9_1 cA_9_2 B_9 cB_9_0 cB_9_1 cB_9_2 Oo_9 Po_9 Ou_9 Pu_9 Ox_9 Px_9 Oz_9 Pz_9 hbel_9 hB_10
  have Oy_10 := hO
  have ltOy := hO.ltB
  have Py_10 := hO'
  have ltPy := hO'.ltB
  clear hO hO'
  try clear hB
  have hbx := blk_new w10 #[Value.bool (qsg q2 er2), Value.slice ya yn yc, Value.slice yb ym yd] 29
  have hbB := (Below.refl w10.heap.size w10).alloc (Nat.le_refl _) (.cells #[Value.bool (qsg q2 er2), Value.slice ya yn yc, Value.slice yb ym yd] 29)
  have hltC := hbx.lt
  have hB_11 : Below w10.heap.size w10 (w10.alloc (.cells #[Value.bool (qsg q2 er2), Value.slice ya yn yc, Value.slice yb ym yd] 29)) := hbB
  have V_11 := V_10.next hB_11
  have cV_11_0 : _ = some (Value.bool (qsg q er)) := V_11.cell 0
  have cV_11_1 : _ = some (Value.slice oa on oc) := V_11.cell 1
  have cV_11_2 : _ = some (Value.slice ob om od) := V_11.cell 2
  have U_11 := U_10.next hB_11
  have cU_11_0 : _ = some (Value.bool (qsg q2 er2)) := U_11.cell 0
  have cU_11_1 : _ = some (Value.slice ua un uc) := U_11.cell 1
  have cU_11_2 : _ = some (Value.slice ub um ud) := U_11.cell 2
  have A_11 := A_10.next hB_11
  have cA_11_0 : _ = some (Value.bool (qsg q er)) := A_11.cell 0
  have cA_11_1 : _ = some (Value.slice xa xn xc) := A_11.cell 1
  have cA_11_2 : _ = some (Value.slice xb xm xd) := A_11.cell 2
  have B_11 := B_10.next hB_11
  have cB_11_0 : _ = some (Value.bool (qsg q er)) := B_11.cell 0
  have cB_11_1 : _ = some (Value.slice za zn zc) := B_11.cell 1
  have cB_11_2 : _ = some (Value.slice zb zm zd) := B_11.cell 2
  have Oo_11 := Oo_10.below hB_11
  have Po_11 := Po_10.below hB_11
  have Ou_11 := Ou_10.below hB_11
  have Pu_11 := Pu_10.below hB_11
  have Ox_11 := Ox_10.below hB_11
  have Px_11 := Px_10.below hB_11
  have Oz_11 := Oz_10.below hB_11
  have Pz_11 := Pz_10.below hB_11
  have Oy_11 := Oy_10.below hB_11
  have Py_11 := Py_10.below hB_11
  have hbel_11 := hbel_10.next hB_11
  have hsz_11 := hB_11.size
  clear hB_11
  have C_11 := hbx
  clear hbx hbB
  have cC_11_0 : _ = some (Value.bool (qsg q2 er2)) := C_11.cell 0
  have cC_11_1 : _ = some (Value.slice ya yn yc) := C_11.cell 1
  have cC_11_2 : _ = some (Value.slice yb ym yd) := C_11.cell 2
  go_wp2_with fail
  clear V_10 cV_10_0 cV_10_1 cV_10_2 U_10 cU_10_0 cU_10_1 cU_10_2 A_10 cA_10_0 cA_10_1 cA_10_2 B_10 cB_10_0 cB_10_1 cB_10_2 Oo_10 Po_10 Ou_10 Pu_10 Ox_10 Px_10 Oz_10 Pz_10 Oy_10 Py_10 hbel_10
  generalize (w10.alloc (.cells #[Value.bool (qsg q2 er2), Value.slice ya yn yc, Value.slice yb ym yd] 29)) = v11 at *
  go_wp2_with fail
  refine (HH.out _).mono ?_
  rintro e w12 ⟨ta, tn, tc, tb, tm, td, rfl, hO, hO', hDt, hB⟩
  have hB_12 : Below v11.heap.size v11 w12 := (bl.next hB)
  have V_12 := V_11.next hB_12
  have cV_12_0 : _ = some (Value.bool (qsg q er)) := V_12.cell 0
  have cV_12_1 : _ = some (Value.slice oa on oc) := V_12.cell 1
  have cV_12_2 : _ = some (Value.slice ob om od) := V_12.cell 2
  have U_12 := U_11.next hB_12
  have cU_12_0 : _ = some (Value.bool (qsg q2 er2)) := U_12.cell 0
  have cU_12_1 : _ = some (Value.slice ua un uc) := U_12.cell 1
  have cU_12_2 : _ = some (Value.slice ub um ud) := U_12.cell 2
  have A_12 := A_11.next hB_12
  have cA_12_0 : _ = some (Value.bool (qsg q er)) := A_12.cell 0
  have cA_12_1 : _ = some (Value.slice xa xn xc) := A_12.cell 1
  have cA_12_2 : _ = some (Value.slice xb xm xd) := A_12.cell 2
  have B_12 := B_11.next hB_12
  have cB_12_0 : _ = some (Value.bool (qsg q er)) := B_12.cell 0
  have cB_12_1 : _ = some (Value.slice za zn zc) := B_12.cell 1
  have cB_12_2 : _ = some (Value.slice zb zm zd) := B_12.cell 2
  have C_12 := C_11.next hB_12
  have cC_12_0 : _ = some (Value.bool (qsg q2 er2)) := C_12.cell 0
  have cC_12_1 : _ = some (Value.slice ya yn yc) := C_12.cell 1
  have cC_12_2 : _ = some (Value.slice yb ym yd) := C_12.cell 2
  have Oo_12 := Oo_11.below hB_12
  have Po_12 := Po_11.below hB_12
  have Ou_12 := Ou_11.below hB_12
  have Pu_12 := Pu_11.below hB_12
  have Ox_12 := Ox_11.below hB_12
  have Px_12 := Px_11.below hB_12
  have Oz_12 := Oz_11.below hB_12
  have Pz_12 := Pz_11.below hB_12
  have Oy_12 := Oy_11.below hB_12
  have Py_12 := Py_11.below hB_12
  have hbel_12 := hbel_11.next hB_12
  have hsz_12 := hB_12.size
  clear V_11 cV_11_0 cV_11_1 cV_11_2 U_11 cU_11_0 cU_11_1 cU_11_2 A_11 cA_11_0 cA_11_1 cA_11_2 B_11 cB_11_0 cB_11_1 cB_11_2 C_11 cC_11_0 cC_11_1 cC_11_2 Oo_11 Po_11 Ou_11 Pu_11 Ox_11 Px_11 Oz_11 Pz_11 Oy_11 Py_11 hbel_11 hB_12
  have Ot_12 := hO
  have ltOt := hO.ltB
  have Pt_12 := hO'
  have ltPt := hO'.ltB
  clear hO hO'
  try clear hB
  have hbx := blk_new w12 #[Value.bool (qsg q2 er2), Value.slice ta tn tc, Value.slice tb tm td] 29
  have hbB := (Below.refl w12.heap.size w12).alloc (Nat.le_refl _) (.cells #[Value.bool (qsg q2 er2), Value.slice ta tn tc, Value.slice tb tm td] 29)
  have hltE := hbx.lt
  have hB_13 : Below w12.heap.size w12 (w12.alloc (.cells #[Value.bool (qsg q2 er2), Value.slice ta tn tc, Value.slice tb tm td] 29)) := hbB
  have V_13 := V_12.next hB_13
  have cV_13_0 : _ = some (Value.bool (qsg q er)) := V_13.cell 0
  have cV_13_1 : _ = some (Value.slice oa on oc) := V_13.cell 1
  have cV_13_2 : _ = some (Value.slice ob om od) := V_13.cell 2
  have U_13 := U_12.next hB_13
  have cU_13_0 : _ = some (Value.bool (qsg q2 er2)) := U_13.cell 0
  have cU_13_1 : _ = some (Value.slice ua un uc) := U_13.cell 1
  have cU_13_2 : _ = some (Value.slice ub um ud) := U_13.cell 2
  have A_13 := A_12.next hB_13
  have cA_13_0 : _ = some (Value.bool (qsg q er)) := A_13.cell 0
  have cA_13_1 : _ = some (Value.slice xa xn xc) := A_13.cell 1
  have cA_13_2 : _ = some (Value.slice xb xm xd) := A_13.cell 2
  have B_13 := B_12.next hB_13
  have cB_13_0 : _ = some (Value.bool (qsg q er)) := B_13.cell 0
  have cB_13_1 : _ = some (Value.slice za zn zc) := B_13.cell 1
  have cB_13_2 : _ = some (Value.slice zb zm zd) := B_13.cell 2
  have C_13 := C_12.next hB_13
  have cC_13_0 : _ = some (Value.bool (qsg q2 er2)) := C_13.cell 0
  have cC_13_1 : _ = some (Value.slice ya yn yc) := C_13.cell 1
  have cC_13_2 : _ = some (Value.slice yb ym yd) := C_13.cell 2
  have Oo_13 := Oo_12.below hB_13
  have Po_13 := Po_12.below hB_13
  have Ou_13 := Ou_12.below hB_13
  have Pu_13 := Pu_12.below hB_13
  have Ox_13 := Ox_12.below hB_13
  have Px_13 := Px_12.below hB_13
  have Oz_13 := Oz_12.below hB_13
  have Pz_13 := Pz_12.below hB_13
  have Oy_13 := Oy_12.below hB_13
  have Py_13 := Py_12.below hB_13
  have Ot_13 := Ot_12.below hB_13
  have Pt_13 := Pt_12.below hB_13
  have hbel_13 := hbel_12.next hB_13
  have hsz_13 := hB_13.size
  clear hB_13
  have E_13 := hbx
  clear hbx hbB
  have cE_13_0 : _ = some (Value.bool (qsg q2 er2)) := E_13.cell 0
  have cE_13_1 : _ = some (Value.slice ta tn tc) := E_13.cell 1
  have cE_13_2 : _ = some (Value.slice tb tm td) := E_13.cell 2
  go_wp2_with fail
  clear V_12 cV_12_0 cV_12_1 cV_12_2 U_12 cU_12_0 cU_12_1 cU_12_2 A_12 cA_12_0 cA_12_1 cA_12_2 B_12 cB_12_0 cB_12_1 cB_12_2 C_12 cC_12_0 cC_12_1 cC_12_2 Oo_12 Po_12 Ou_12 Pu_12 Ox_12 Px_12 Oz_12 Pz_12 Oy_12 Py_12 Ot_12 Pt_12 hbel_12
  generalize (w12.alloc (.cells #[Value.bool (qsg q2 er2), Value.slice ta tn tc, Value.slice tb tm td] 29)) = v13 at *
  go_wp2_with fail
  refine (fsame_true Ox_13.rd Px_13.rd Oo_13.rd Po_13.rd).mono ?_
  rintro e w14 ⟨rfl, hB⟩
  have hB_14 : Below v13.heap.size v13 w14 := (bl.next hB)
  have V_14 := V_13.next hB_14
  have cV_14_0 : _ = some (Value.bool (qsg q er)) := V_14.cell 0
  have cV_14_1 : _ = some (Value.slice oa on oc) := V_14.cell 1
  have cV_14_2 : _ = some (Value.slice ob om od) := V_14.cell 2
  have U_14 := U_13.next hB_14
  have cU_14_0 : _ = some (Value.bool (qsg q2 er2)) := U_14.cell 0
  have cU_14_1 : _ = some (Value.slice ua un uc) := U_14.cell 1
  have cU_14_2 : _ = some (Value.slice ub um ud) := U_14.cell 2
  have A_14 := A_13.next hB_14
  have cA_14_0 : _ = some (Value.bool (qsg q er)) := A_14.cell 0
  have cA_14_1 : _ = some (Value.slice xa xn xc) := A_14.cell 1
  have cA_14_2 : _ = some (Value.slice xb xm xd) := A_14.cell 2
  have B_14 := B_13.next hB_14
  have cB_14_0 : _ = some (Value.bool (qsg q er)) := B_14.cell 0
  have cB_14_1 : _ = some (Value.slice za zn zc) := B_14.cell 1
  have cB_14_2 : _ = some (Value.slice zb zm zd) := B_14.cell 2
  have C_14 := C_13.next hB_14
  have cC_14_0 : _ = some (Value.bool (qsg q2 er2)) := C_14.cell 0
  have cC_14_1 : _ = some (Value.slice ya yn yc) := C_14.cell 1
  have cC_14_2 : _ = some (Value.slice yb ym yd) := C_14.cell 2
  have E_14 := E_13.next hB_14
  have cE_14_0 : _ = some (Value.bool (qsg q2 er2)) := E_14.cell 0
  have cE_14_1 : _ = some (Value.slice ta tn tc) := E_14.cell 1
  have cE_14_2 : _ = some (Value.slice tb tm td) := E_14.cell 2
  have Oo_14 := Oo_13.below hB_14
  have Po_14 := Po_13.below hB_14
  have Ou_14 := Ou_13.below hB_14
  have Pu_14 := Pu_13.below hB_14
  have Ox_14 := Ox_13.below hB_14
  have Px_14 := Px_13.below hB_14
  have Oz_14 := Oz_13.below hB_14
  have Pz_14 := Pz_13.below hB_14
  have Oy_14 := Oy_13.below hB_14
  have Py_14 := Py_13.below hB_14
  have Ot_14 := Ot_13.below hB_14
  have Pt_14 := Pt_13.below hB_14
  have hbel_14 := hbel_13.next hB_14
  have hsz_14 := hB_14.size
  clear V_13 cV_13_0 cV_13_1 cV_13_2 U_13 cU_13_0 cU_13_1 cU_13_2 A_13 cA_13_0 cA_13_1 cA_13_2 B_13 cB_13_0 cB_13_1 cB_13_2 C_13 cC_13_0 cC_13_1 cC_13_2 E_13 cE_13_0 cE_13_1 cE_13_2 Oo_13 Po_13 Ou_13 Pu_13 Ox_13 Px_13 Oz_13 Pz_13 Oy_13 Py_13 Ot_13 Pt_13 hbel_13 hB_14
  try clear hB
  go_wp2_with fail
  refine (fsame_true Oz_14.rd Pz_14.rd Oo_14.rd Po_14.rd).mono ?_
  rintro e w15 ⟨rfl, hB⟩
  have hB_15 : Below w14.heap.size w14 w15 := (bl.next hB)
  have V_15 := V_14.next hB_15
  have cV_15_0 : _ = some (Value.bool (qsg q er)) := V_15.cell 0
  have cV_15_1 : _ = some (Value.slice oa on oc) := V_15.cell 1
  have cV_15_2 : _ = some (Value.slice ob om od) := V_15.cell 2
  have U_15 := U_14.next hB_15
  have cU_15_0 : _ = some (Value.bool (qsg q2 er2)) := U_15.cell 0
  have cU_15_1 : _ = some (Value.slice ua un uc) := U_15.cell 1
  have cU_15_2 : _ = some (Value.slice ub um ud) := U_15.cell 2
  have A_15 := A_14.next hB_15
  have cA_15_0 : _ = some (Value.bool (qsg q er)) := A_15.cell 0
  have cA_15_1 : _ = some (Value.slice xa xn xc) := A_15.cell 1
  have cA_15_2 : _ = some (Value.slice xb xm xd) := A_15.cell 2
  have B_15 := B_14.next hB_15
  have cB_15_0 : _ = some (Value.bool (qsg q er)) := B_15.cell 0
  have cB_15_1 : _ = some (Value.slice za zn zc) := B_15.cell 1
  have cB_15_2 : _ = some (Value.slice zb zm zd) := B_15.cell 2
  have C_15 := C_14.next hB_15
  have cC_15_0 : _ = some (Value.bool (qsg q2 er2)) := C_15.cell 0
  have cC_15_1 : _ = some (Value.slice ya yn yc) := C_15.cell 1
  have cC_15_2 : _ = some (Value.slice yb ym yd) := C_15.cell 2
  have E_15 := E_14.next hB_15
  have cE_15_0 : _ = some (Value.bool (qsg q2 er2)) := E_15.cell 0
  have cE_15_1 : _ = some (Value.slice ta tn tc) := E_15.cell 1
  have cE_15_2 : _ = some (Value.slice tb tm td) := E_15.cell 2
  have Oo_15 := Oo_14.below hB_15
  have Po_15 := Po_14.below hB_15
  have Ou_15 := Ou_14.below hB_15
  have Pu_15 := Pu_14.below hB_15
  have Ox_15 := Ox_14.below hB_15
  have Px_15 := Px_14.below hB_15
  have Oz_15 := Oz_14.below hB_15
  have Pz_15 := Pz_14.below hB_15
  have Oy_15 := Oy_14.below hB_15
  have Py_15 := Py_14.below hB_15
  have Ot_15 := Ot_14.below hB_15
  have Pt_15 := Pt_14.below hB_15
  have hbel_15 := hbel_14.next hB_15
  have hsz_15 := hB_15.size
  clear V_14 cV_14_0 cV_14_1 cV_14_2 U_14 cU_14_0 cU_14_1 cU_14_2 A_14 cA_14_0 cA_14_1 cA_14_2 B_14 cB_14_0 cB_14_1 cB_14_2 C_14 cC_14_0 cC_14_1 cC_14_2 E_14 cE_14_0 cE_14_1 cE_14_2 Oo_14 Po_14 Ou_14 Pu_14 Ox_14 Px_14 Oz_14 Pz_14 Oy_14 Py_14 Ot_14 Pt_14 hbel_14 hB_15
  try clear hB
  go_wp2_with fail
  refine (fsame_true Oy_15.rd Py_15.rd Ou_15.rd Pu_15.rd).mono ?_
  rintro e w16 ⟨rfl, hB⟩
  have hB_16 : Below w15.heap.size w15 w16 := (bl.next hB)
  have V_16 := V_15.next hB_16
  have cV_16_0 : _ = some (Value.bool (qsg q er)) := V_16.cell 0
  have cV_16_1 : _ = some (Value.slice oa on oc) := V_16.cell 1
  have cV_16_2 : _ = some (Value.slice ob om od) := V_16.cell 2
  have U_16 := U_15.next hB_16
  have cU_16_0 : _ = some (Value.bool (qsg q2 er2)) := U_16.cell 0
  have cU_16_1 : _ = some (Value.slice ua un uc) := U_16.cell 1
  have cU_16_2 : _ = some (Value.slice ub um ud) := U_16.cell 2
  have A_16 := A_15.next hB_16
  have cA_16_0 : _ = some (Value.bool (qsg q er)) := A_16.cell 0
  have cA_16_1 : _ = some (Value.slice xa xn xc) := A_16.cell 1
  have cA_16_2 : _ = some (Value.slice xb xm xd) := A_16.cell 2
  have B_16 := B_15.next hB_16
  have cB_16_0 : _ = some (Value.bool (qsg q er)) := B_16.cell 0
  have cB_16_1 : _ = some (Value.slice za zn zc) := B_16.cell 1
  have cB_16_2 : _ = some (Value.slice zb zm zd) := B_16.cell 2
  have C_16 := C_15.next hB_16
  have cC_16_0 : _ = some (Value.bool (qsg q2 er2)) := C_16.cell 0
  have cC_16_1 : _ = some (Value.slice ya yn yc) := C_16.cell 1
  have cC_16_2 : _ = some (Value.slice yb ym yd) := C_16.cell 2
  have E_16 := E_15.next hB_16
  have cE_16_0 : _ = some (Value.bool (qsg q2 er2)) := E_16.cell 0
  have cE_16_1 : _ = some (Value.slice ta tn tc) := E_16.cell 1
  have cE_16_2 : _ = some (Value.slice tb tm td) := E_16.cell 2
  have Oo_16 := Oo_15.below hB_16
  have Po_16 := Po_15.below hB_16
  have Ou_16 := Ou_15.below hB_16
  have Pu_16 := Pu_15.below hB_16
  have Ox_16 := Ox_15.below hB_16
  have Px_16 := Px_15.below hB_16
  have Oz_16 := Oz_15.below hB_16
  have Pz_16 := Pz_15.below hB_16
  have Oy_16 := Oy_15.below hB_16
  have Py_16 := Py_15.below hB_16
  have Ot_16 := Ot_15.below hB_16
  have Pt_16 := Pt_15.below hB_16
  have hbel_16 := hbel_15.next hB_16
  have hsz_16 := hB_16.size
  clear V_15 cV_15_0 cV_15_1 cV_15_2 U_15 cU_15_0 cU_15_1 cU_15_2 A_15 cA_15_0 cA_15_1 cA_15_2 B_15 cB_15_0 cB_15_1 cB_15_2 C_15 cC_15_0 cC_15_1 cC_15_2 E_15 cE_15_0 cE_15_1 cE_15_2 Oo_15 Po_15 Ou_15 Pu_15 Ox_15 Px_15 Oz_15 Pz_15 Oy_15 Py_15 Ot_15 Pt_15 hbel_15 hB_16
  try clear hB
  go_wp2_with fail
  refine (fsame_true Ot_16.rd Pt_16.rd Ou_16.rd Pu_16.rd).mono ?_
  rintro e w17 ⟨rfl, hB⟩
  have hB_17 : Below w16.heap.size w16 w17 := (bl.next hB)
  have V_17 := V_16.next hB_17
  have cV_17_0 : _ = some (Value.bool (qsg q er)) := V_17.cell 0
  have cV_17_1 : _ = some (Value.slice oa on oc) := V_17.cell 1
  have cV_17_2 : _ = some (Value.slice ob om od) := V_17.cell 2
  have U_17 := U_16.next hB_17
  have cU_17_0 : _ = some (Value.bool (qsg q2 er2)) := U_17.cell 0
  have cU_17_1 : _ = some (Value.slice ua un uc) := U_17.cell 1
  have cU_17_2 : _ = some (Value.slice ub um ud) := U_17.cell 2
  have A_17 := A_16.next hB_17
  have cA_17_0 : _ = some (Value.bool (qsg q er)) := A_17.cell 0
  have cA_17_1 : _ = some (Value.slice xa xn xc) := A_17.cell 1
  have cA_17_2 : _ = some (Value.slice xb xm xd) := A_17.cell 2
  have B_17 := B_16.next hB_17
  have cB_17_0 : _ = some (Value.bool (qsg q er)) := B_17.cell 0
  have cB_17_1 : _ = some (Value.slice za zn zc) := B_17.cell 1
  have cB_17_2 : _ = some (Value.slice zb zm zd) := B_17.cell 2
  have C_17 := C_16.next hB_17
  have cC_17_0 : _ = some (Value.bool (qsg q2 er2)) := C_17.cell 0
  have cC_17_1 : _ = some (Value.slice ya yn yc) := C_17.cell 1
  have cC_17_2 : _ = some (Value.slice yb ym yd) := C_17.cell 2
  have E_17 := E_16.next hB_17
  have cE_17_0 : _ = some (Value.bool (qsg q2 er2)) := E_17.cell 0
  have cE_17_1 : _ = some (Value.slice ta tn tc) := E_17.cell 1
  have cE_17_2 : _ = some (Value.slice tb tm td) := E_17.cell 2
  have Oo_17 := Oo_16.below hB_17
  have Po_17 := Po_16.below hB_17
  have Ou_17 := Ou_16.below hB_17
  have Pu_17 := Pu_16.below hB_17
  have Ox_17 := Ox_16.below hB_17
  have Px_17 := Px_16.below hB_17
  have Oz_17 := Oz_16.below hB_17
  have Pz_17 := Pz_16.below hB_17
  have Oy_17 := Oy_16.below hB_17
  have Py_17 := Py_16.below hB_17
  have Ot_17 := Ot_16.below hB_17
  have Pt_17 := Pt_16.below hB_17
  have hbel_17 := hbel_16.next hB_17
  have hsz_17 := hB_17.size
  clear V_16 cV_16_0 cV_16_1 cV_16_2 U_16 cU_16_0 cU_16_1 cU_16_2 A_16 cA_16_0 cA_16_1 cA_16_2 B_16 cB_16_0 cB_16_1 cB_16_2 C_16 cC_16_0 cC_16_1 cC_16_2 E_16 cE_16_0 cE_16_1 cE_16_2 Oo_16 Po_16 Ou_16 Pu_16 Ox_16 Px_16 Oz_16 Pz_16 Oy_16 Py_16 Ot_16 Pt_16 hbel_16 hB_17
  try clear hB
  clear HM HR HN HH HS hdd hcv hee2
  obtain ⟨wm, hwm⟩ : ∃ y : World, y = w17 := ⟨_, rfl⟩
  subst hwm
  have hxlen := Ox_17.len
  have hxlen' := Px_17.len
  have hbx := Ox_17.bnd
  have hbx' := Px_17.bnd
  have hqL := hid (show qnl q er = qnl q er from rfl)
  obtain ⟨L, hLe⟩ : ∃ y, qnl q er = y := ⟨_, rfl⟩
  obtain ⟨M, hMe⟩ : ∃ y, qdl q er = y := ⟨_, rfl⟩
  rw [hLe] at Ox_17 Oz_17 Oo_17 hL1 hxlen
  rw [hMe] at Px_17 Pz_17 Po_17 hL2 hxlen'
  have hLh := hid hLe
  have hMh := hid hMe
  clear hLe hMe hqL
  have nA : ¬ PPb xa xb (w6.heap.size) := fun h => h.elim (fun e => by have := ltOx _ e; omega) (fun e => by have := ltPx _ e; omega)
  have nV : ¬ PPb xa xb (w1.heap.size) := fun h => h.elim (fun e => by have := (Ox_17.lt' _ e).1; omega) (fun e => by have := (Px_17.lt' _ e).1; omega)
  have nB : ¬ PPb xa xb (w8.heap.size) := fun h => h.elim (fun e => by have := ltOx _ e; omega) (fun e => by have := ltPx _ e; omega)
  have nOo : ∀ b o, oa = some ⟨b, o, none⟩ → ¬ PPb xa xb b := fun b o e h => by
    rcases Oo_17.cases with ⟨h0, _⟩ | ⟨b', h0, _⟩
    · rw [h0] at e; cases e
    · rw [h0] at e; cases e; exact h.elim (fun e2 => by have h1 := ltOo _ h0; have h2 := (Ox_17.lt' _ e2).1; omega) (fun e2 => by have h1 := ltOo _ h0; have h2 := (Px_17.lt' _ e2).1; omega)
  have nPo : ∀ b o, ob = some ⟨b, o, none⟩ → ¬ PPb xa xb b := fun b o e h => by
    rcases Po_17.cases with ⟨h0, _⟩ | ⟨b', h0, _⟩
    · rw [h0] at e; cases e
    · rw [h0] at e; cases e; exact h.elim (fun e2 => by have h1 := ltPo _ h0; have h2 := (Ox_17.lt' _ e2).1; omega) (fun e2 => by have h1 := ltPo _ h0; have h2 := (Px_17.lt' _ e2).1; omega)
  have nOz : ∀ b o, za = some ⟨b, o, none⟩ → ¬ PPb xa xb b := fun b o e h => by
    rcases Oz_17.cases with ⟨h0, _⟩ | ⟨b', h0, _⟩
    · rw [h0] at e; cases e
    · rw [h0] at e; cases e; exact h.elim (fun e2 => by have h1 := ltOx _ e2; have h2 := (Oz_17.lt' _ h0).1; omega) (fun e2 => by have h1 := ltPx _ e2; have h2 := (Oz_17.lt' _ h0).1; omega)
  have nPz : ∀ b o, zb = some ⟨b, o, none⟩ → ¬ PPb xa xb b := fun b o e h => by
    rcases Pz_17.cases with ⟨h0, _⟩ | ⟨b', h0, _⟩
    · rw [h0] at e; cases e
    · rw [h0] at e; cases e; exact h.elim (fun e2 => by have h1 := ltOx _ e2; have h2 := (Pz_17.lt' _ h0).1; omega) (fun e2 => by have h1 := ltPx _ e2; have h2 := (Pz_17.lt' _ h0).1; omega)
  have HA : Hid (∀ wr, Kp (PPb xa xb) wm wr → Blk wr (w6.heap.size) #[Value.bool (qsg q er), Value.slice xa xn xc, Value.slice xb xm xd]) := fun wr hk => A_17.kp hk nA
  have HE : Hid (∀ wr, Kp (PPb xa xb) wm wr → Blk wr (w8.heap.size) #[Value.bool (qsg q er), Value.slice za zn zc, Value.slice zb zm zd] ∧ Blk wr (w1.heap.size) #[Value.bool (qsg q er), Value.slice oa on oc, Value.slice ob om od] ∧ Rd wr za zn zc L ∧ Rd wr zb zm zd M ∧ Rd wr oa on oc L ∧ Rd wr ob om od M ∧ Below w.heap.size w wr) := fun wr hk => ⟨B_17.kp hk nB, V_17.kp hk nV, Oz_17.rd.kp hk nOz, Pz_17.rd.kp hk nPz, Oo_17.rd.kp hk nOo, Po_17.rd.kp hk nPo, hbel_17.kp hk hbel_17.size (fun j hj h => h.elim (fun e => by have := (Ox_17.lt' _ e).1; omega) (fun e => by have := (Px_17.lt' _ e).1; omega))⟩
  have hOx := hid (Ox_17.mono (Nat.zero_le _))
  have hPx := hid (Px_17.mono (Nat.zero_le _))
  have hDx2 : Hid (Diff xa xb) := hDx
  have ltP : Hid (LtB xb wm.heap.size) := fun g e => by have := ltPx g e; omega
  have hkp0 : Hid (Kp (PPb xa xb) wm wm) := Kp.refl _ _
  obtain ⟨gA, hgA⟩ : ∃ y, y = w6.heap.size := ⟨_, rfl⟩
  obtain ⟨gB, hgB⟩ : ∃ y, y = w8.heap.size := ⟨_, rfl⟩
  obtain ⟨gV, hgV⟩ : ∃ y, y = w1.heap.size := ⟨_, rfl⟩
  have cA_0 := (HA.out wm (Kp.refl _ _)).cell 1
  have cA_1 := (HA.out wm (Kp.refl _ _)).cell 2
  clear nA nV nB nOo nPo nOz nPz hDo hDu hDx hDz hDy hDt ltOo ltPo ltOu ltPu ltOx ltPx ltOz ltPz ltOy ltPy ltOt ltPt Oo_17 Po_17 Ou_17 Pu_17 Ox_17 Px_17 Oz_17 Pz_17 Oy_17 Py_17 Ot_17 Pt_17 V_17 U_17 A_17 B_17 C_17 E_17 hbel_17
  clear cV_17_0 cV_17_1 cV_17_2 cU_17_0 cU_17_1 cU_17_2 cA_17_0 cA_17_1 cA_17_2 cB_17_0 cB_17_1 cB_17_2 cC_17_0 cC_17_1 cC_17_2 cE_17_0 cE_17_1 cE_17_2
  go_wp2
  go_loopw [17] (fun i wr => ∃ k : Nat, k ≤ xn ∧ i = .int .i64 k ∧ Hid (Own 0 wr xa xn xc (fil L k 71)) ∧ Hid (Own 0 wr xb xm xd M) ∧ Hid (Kp (PPb xa xb) wm wr)) (fun i _ => xn - (intOf i).toNat)
  case atStart => exact ⟨0, by omega, rfl, by rw [fil_zero]; exact hOx, hPx, hkp0⟩
  case round =>
    clear hOx hPx hkp0 cA_0 cA_1
    obtain ⟨k, hk, rfl, hO, hP, hKp⟩ := hrel
    have hcA : _ = some (Value.slice xa xn xc) := (HA.out _ hKp.out).cell 1
    by_cases hlt : k < xn
    · rcases hO.out.cases with ⟨_, h, _⟩ | ⟨g, rfl, _⟩
      · omega
      have hcc := hO.out.cell hlt
      have hff := hO.out.free k
      have hO2 : Hid (Own 0 (wr.setCell ⟨g, k, none⟩ (.int .u32 71)) (some ⟨g, 0, none⟩) xn xc (fil L (k + 1) 71)) := by
        rw [← fil_set 71 (by omega)]; exact hO.out.set k 71 (by decide)
      have hP2 : Hid (Own 0 (wr.setCell ⟨g, k, none⟩ (.int .u32 71)) xb xm xd M) := hP.out.set_other _ fun g' e e2 => hDx2.out g rfl (e2 ▸ e)
      have hK2 : Hid (Kp (PPb (some ⟨g, 0, none⟩) xb) wm (wr.setCell ⟨g, k, none⟩ (.int .u32 71))) := hKp.out.setCell (.inl rfl) _
      clear hO hP hKp
      go_wp2
      go_roundw
      case rel => exact ⟨k + 1, by omega, by go_num, hO2, hP2, hK2⟩
      case measure => simp [intOf]; omega
    · obtain rfl : k = xn := by omega
      have hO2 : Hid (Own 0 wr xa k xc (List.replicate k 71)) := by have := hO.out; rwa [fil_all 71 hxlen] at this
      have hP2 := hP
      have hK2 := hKp
      have hcB : _ = some (Value.slice xb xm xd) := (HA.out _ hKp.out).cell 2
      clear hO hP hKp
      go_wp2
      go_loopw [18] (fun i wr => ∃ k2 : Nat, k2 ≤ xm ∧ i = .int .i64 k2 ∧ Hid (Own 0 wr xa k xc (List.replicate k 71)) ∧ Hid (Own 0 wr xb xm xd (fil M k2 72)) ∧ Hid (Kp (PPb xa xb) wm wr)) (fun i _ => xm - (intOf i).toNat)
      case atStart => exact ⟨0, by omega, rfl, hO2, by rw [fil_zero]; exact hP2, hK2⟩
      case round =>
        clear hO2 hP2 hK2 hcA hcB
        obtain ⟨k2, hk2, rfl, hO, hP, hKp⟩ := hrel
        have hcB : _ = some (Value.slice xb xm xd) := (HA.out _ hKp.out).cell 2
        by_cases hlt : k2 < xm
        · rcases hP.out.cases with ⟨_, h, _⟩ | ⟨g, rfl, _⟩
          · omega
          have hcc := hP.out.cell hlt
          have hff := hP.out.free k2
          have hP2 : Hid (Own 0 (wr.setCell ⟨g, k2, none⟩ (.int .u32 72)) (some ⟨g, 0, none⟩) xm xd (fil M (k2 + 1) 72)) := by
            rw [← fil_set 72 (by omega)]; exact hP.out.set k2 72 (by decide)
          have hO2 : Hid (Own 0 (wr.setCell ⟨g, k2, none⟩ (.int .u32 72)) xa k xc (List.replicate k 71)) := hO.out.set_other _ fun g' e e2 => hDx2.out g (e2 ▸ e) rfl
          have hK2 : Hid (Kp (PPb xa (some ⟨g, 0, none⟩)) wm (wr.setCell ⟨g, k2, none⟩ (.int .u32 72))) := hKp.out.setCell (.inr rfl) _
          clear hO hP hKp
          go_wp2
          go_roundw
          case rel => exact ⟨k2 + 1, by omega, by go_num, hO2, hP2, hK2⟩
          case measure => simp [intOf]; omega
        · obtain rfl : k2 = xm := by omega
          have hP2 : Hid (Own 0 wr xb k2 xd (List.replicate k2 72)) := by have := hP.out; rwa [fil_all 72 hxlen'] at this
          have hO2 := hO
          have hK2 := hKp
          have hcA : _ = some (Value.slice xa k xc) := (HA.out _ hKp.out).cell 1
          have hkx : k ≤ 2000 := by omega
          have hkx2 : k2 ≤ 2000 := by omega
          clear hO hP hKp hxlen hxlen'
          obtain ⟨w5, hw5⟩ : ∃ y : World, y = wr := ⟨_, rfl⟩
          subst hw5
          have hApp := hid (App.start hO2.out hP2.out)
          have hkm : Hid (Kp (PPb xa xb) wm w5) := hK2
          have ltP5 : Hid (LtB xb w5.heap.size) := fun g e => by have := hP2.out.ltB g e; omega
          have hla5 : Hid (∀ b o, xa = some ⟨b, o, none⟩ → b < w5.heap.size) := fun b o e => by
            rcases hO2.out.cases with ⟨h0, _⟩ | ⟨b', h0, _, h1⟩
            · rw [h0] at e; cases e
            · rw [h0] at e; cases e; exact h1
          have hla6 : Hid (∀ b o, xb = some ⟨b, o, none⟩ → b < w5.heap.size) := fun b o e => by
            rcases hP2.out.cases with ⟨h0, _⟩ | ⟨b', h0, _, h1⟩
            · rw [h0] at e; cases e
            · rw [h0] at e; cases e; exact h1
          have hz0 : Hid (∀ b o, xa = some ⟨b, o, none⟩ → xa = some ⟨b, 0, none⟩) := fun b o e => by
            rcases hO2.out.cases with ⟨h0, _⟩ | ⟨b', h0, _⟩
            · rw [h0] at e; cases e
            · rw [h0] at e ⊢; cases e; rfl
          clear hO2 hP2 hK2
          go_wp2
          go_loopw [19, 21] (fun v i wr => ∃ (t mm cl : Nat) (al : Option Addr), t ≤ 80 ∧ v = .slice al mm cl ∧ i = .int .i64 t ∧ mm ≤ k + t ∧ k + t ≤ mm ∧ Hid (App w5 xa xb al mm cl k xc (List.replicate k 71 ++ List.replicate t 73) (List.replicate k 71) k2 xd (List.replicate k2 72) wr)) (fun _ i _ => 80 - (intOf i).toNat)
          case atStart => exact ⟨0, k, xc, xa, by omega, rfl, rfl, by omega, by omega, by simpa using hApp⟩
          case round =>
            clear hApp hcA hcB
            obtain ⟨t, mm, cl, al, ht, rfl, rfl, hm1, hm2, hA⟩ := hrel
            by_cases hlt : t < 80
            · have hcb := hA.out.own.bnd
              go_wp2_with (at_builtin; refine wpList_app1 (y := 73) rfl _ _ rfl rfl (hA.out.own.alloc _) _ 1 rfl (by omega) (by go_simp) (Nat.zero_le _) (by omega) ?_; intro a2 c2 w2 hO2 hK2 hf2)
              have hA2 := hid (hA.out.step hDx2.out ltP5.out hla5.out hO2 hK2 hf2)
              rw [rep2_snoc] at hA2
              clear hA hO2 hK2 hf2
              go_roundw
              case rel => exact ⟨t + 1, mm + 1, c2, a2, by omega, rfl, by go_num, by omega, by omega, hA2⟩
              case measure => simp [intOf]; omega
            · obtain rfl : 80 = t := by omega
              obtain rfl : k + 80 = mm := by omega
              have hD5 : Hid (Diff xb al) := hA.out.ne hDx2.out ltP5.out
              have hk5 : Hid (Kp (PPb xa xb) wm wr) := hkm.out.kp hA.out.kp fun j _ e => .inl (.inl e)
              have hApp : Hid (App wr xb al xb k2 xd k2 xd (List.replicate k2 72) (List.replicate k2 72) (k + 80) cl (List.replicate k 71 ++ List.replicate 80 73) wr) := App.start hA.out.oth hA.out.own
              have ltA5 : Hid (LtB al wr.heap.size) := fun g e => by have := hA.out.own.ltB g e; omega
              have hsl : Hid (Rd wr xa k xc (List.replicate k 71)) := hA.out.slf
              have hla7 : Hid (∀ b o, xb = some ⟨b, o, none⟩ → b < wr.heap.size) := fun b o e => by have h1 := hla6.out b o e; have h2 := hA.out.kp.size; omega
              have hDr : Hid (∀ b o, xa = some ⟨b, o, none⟩ → ¬ xb = some ⟨b, 0, none⟩) := fun b o e e2 => hDx2.out b (hz0.out b o e) e2
              obtain ⟨w6, hw6⟩ : ∃ y : World, y = wr := ⟨_, rfl⟩
              subst hw6
              clear hA
              go_wp2
              go_loopw [20, 22] (fun v i wr => ∃ (t mm cl2 : Nat) (al2 : Option Addr), t ≤ 80 ∧ v = .slice al2 mm cl2 ∧ i = .int .i64 t ∧ mm ≤ k2 + t ∧ k2 + t ≤ mm ∧ Hid (App w6 xb al al2 mm cl2 k2 xd (List.replicate k2 72 ++ List.replicate t 74) (List.replicate k2 72) (k + 80) cl (List.replicate k 71 ++ List.replicate 80 73) wr)) (fun _ i _ => 80 - (intOf i).toNat)
              case atStart => exact ⟨0, k2, xd, xb, by omega, rfl, rfl, by omega, by omega, by simpa using hApp⟩
              case round =>
                clear hApp
                obtain ⟨t, mm, cl2, al2, ht, rfl, rfl, hm1, hm2, hA⟩ := hrel
                by_cases hlt : t < 80
                · have hcb := hA.out.own.bnd
                  go_wp2_with (at_builtin; refine wpList_app1 (y := 74) rfl _ _ rfl rfl (hA.out.own.alloc _) _ 1 rfl (by omega) (by go_simp) (Nat.zero_le _) (by omega) ?_; intro a2 c2 w2 hO2 hK2 hf2)
                  have hA2 := hid (hA.out.step hD5.out ltA5.out hla7.out hO2 hK2 hf2)
                  rw [rep2_snoc] at hA2
                  clear hA hO2 hK2 hf2
                  go_roundw
                  case rel => exact ⟨_, _, _, _, _, _, _, _, _, ⟨t + 1, mm + 1, c2, a2, by omega, rfl, by go_num, by omega, by omega, hA2⟩, rfl⟩
                  case measure => simp [intOf]; omega
                · obtain rfl : 80 = t := by omega
                  obtain ⟨K1, hK1⟩ : ∃ y, k + 80 = y := ⟨_, rfl⟩
                  have hk6 : Hid (Kp (PPb xa xb) wm wr) := hk5.out.kp hA.out.kp fun j _ e => .inl (.inr e)
                  have hRa : Hid (Rd wr xa k xc (List.replicate k 71)) := hsl.out.kp hA.out.kp fun b o e => hDr.out b o e
                  have hRb : Hid (Rd wr xb k2 xd (List.replicate k2 72)) := hA.out.slf
                  have hpm : (0 : Int) < (mm : Int) := by omega
                  have hpk : (0 : Int) < (K1 : Int) := by omega
                  have hpd : decide ((0 : Int) < (mm : Int)) = true := decide_eq_true hpm
                  have hpe : decide ((0 : Int) < (K1 : Int)) = true := decide_eq_true hpk
                  obtain ⟨w7, hw7⟩ : ∃ y : World, y = wr := ⟨_, rfl⟩
                  subst hw7
                  clear hA hkm hk5 hD5 ltA5 ltP5 ltP hDx2 hsl hDr hla5 hla6 hla7 hz0
                  rw [hK1]
                  have hcA : _ = some (Value.slice xa k xc) := (HA.out _ hk6.out).cell 1
                  have hcB : _ = some (Value.slice xb k2 xd) := (HA.out _ hk6.out).cell 2
                  go_wp2
                  go_loopw [23] (fun i wr => ∃ t : Nat, t ≤ k ∧ i = .int .i64 t ∧ wr = w7) (fun i _ => k - (intOf i).toNat)
                  case atStart => exact ⟨0, by omega, rfl, rfl⟩
                  case round =>
                    obtain ⟨t, ht, rfl, hwr⟩ := hrel
                    subst hwr
                    by_cases hlt : t < k
                    · obtain ⟨b, o, rfl, hcc⟩ := hRa.out.get hlt
                      rw [rep_get 71 hlt] at hcc
                      go_wp2
                      go_roundw
                      case rel => exact ⟨t + 1, by omega, by go_num, by first | trivial | rfl⟩
                      case measure => simp [intOf]; omega
                    · obtain rfl : k = t := by omega
                      obtain ⟨w7, hw7⟩ : ∃ y : World, y = wr := ⟨_, rfl⟩
                      subst hw7
                      go_wp2
                      go_loopw [24] (fun i wr => ∃ t : Nat, t ≤ k2 ∧ i = .int .i64 t ∧ wr = w7) (fun i _ => k2 - (intOf i).toNat)
                      case atStart => exact ⟨0, by omega, rfl, rfl⟩
                      case round =>
                        obtain ⟨t, ht, rfl, hwr⟩ := hrel
                        subst hwr
                        by_cases hlt : t < k2
                        · obtain ⟨b, o, rfl, hcc⟩ := hRb.out.get hlt
                          rw [rep_get 72 hlt] at hcc
                          go_wp2
                          go_roundw
                          case rel => exact ⟨t + 1, by omega, by go_num, by first | trivial | rfl⟩
                          case measure => simp [intOf]; omega
                        · obtain rfl : k2 = t := by omega
                          obtain ⟨hB, hV, hz1, hz2, ho1, ho2, hbel⟩ := HE.out _ hk6.out
                          clear hcA hRa hRb HA HE hk6
                          go_wp2_with fail
                          clear hcB
                          refine (HP.out _).mono ?_
                          rintro e w8 ⟨ea, en, ec, eb, em, ed, rfl, hO, hO', hDe, hB8⟩
                          rw [hLh.out] at hO
                          rw [hMh.out] at hO'
                          have hB9 : Below wr.heap.size wr (w8.alloc (.cells #[Value.bool (qsg q er), Value.slice ea en ec, Value.slice eb em ed] 29)) := hB8.alloc (by have := hB8.size; omega) _
                          have hBB := hB.next hB9
                          have hVV := hV.next hB9
                          have hNN := blk_new w8 #[Value.bool (qsg q er), Value.slice ea en ec, Value.slice eb em ed] 29
                          have b0 := hBB.cell 0
                          have b1 := hBB.cell 1
                          have b2 := hBB.cell 2
                          have v0 := hVV.cell 0
                          have v1 := hVV.cell 1
                          have v2 := hVV.cell 2
                          have e0 := hNN.cell 0
                          have e1 := hNN.cell 1
                          have e2 := hNN.cell 2
                          have hz1' := hz1.below hB9
                          have hz2' := hz2.below hB9
                          have ho1' := ho1.below hB9
                          have ho2' := ho2.below hB9
                          have hO9 := hO.alloc (.cells #[Value.bool (qsg q er), Value.slice ea en ec, Value.slice eb em ed] 29)
                          have hP9 := hO'.alloc (.cells #[Value.bool (qsg q er), Value.slice ea en ec, Value.slice eb em ed] 29)
                          have hbel9 := hbel.next hB9
                          clear hB hV hz1 hz2 ho1 ho2 hO hO' hB8 hB9 hbel HP
                          go_wp2_with fail
                          generalize (w8.alloc (.cells #[Value.bool (qsg q er), Value.slice ea en ec, Value.slice eb em ed] 29)) = w9 at *
                          refine (fsame_true hz1' hz2' ho1' ho2').mono ?_
                          rintro e wa ⟨rfl, hBa⟩
                          have n0 := (hNN.next hBa).cell 0
                          have n1 := (hNN.next hBa).cell 1
                          have n2 := (hNN.next hBa).cell 2
                          have u0 := (hVV.next hBa).cell 0
                          have u1 := (hVV.next hBa).cell 1
                          have u2 := (hVV.next hBa).cell 2
                          clear b0 b1 b2 v0 v1 v2 e0 e1 e2
                          go_wp2_with fail
                          refine (fsame_true (hO9.rd.below hBa) (hP9.rd.below hBa) (ho1'.below hBa) (ho2'.below hBa)).mono ?_
                          rintro e wb ⟨rfl, hBb⟩
                          go_wp2
                          go_ret
                          exact ⟨rfl, (hbel9.next hBa).next hBb⟩

set_option maxRecDepth 100000 in
theorem conv_q (s : Nat) : ∃ (cs : World → Nat) (ds : World → World), (∀ w, (convert 23 22 (.float .f32 s)).run Try.prog w = .ok (.float .f64 (cs w)) (ds w)) ∧ (∀ w, Below w.heap.size w (ds w)) ∧ (∀ w, cs w < 18446744073709551616) ∧ (∀ w, fq (cs w) = fq32 s ∧ fe (cs w) = fe32 s) := by
  cases hn : nan32 s
  · refine ⟨fun _ => c32 s, fun w => w, fun w => run_convert_float_float w _ _ .f32 .f64 s _ rfl rfl (conv32 hn), fun w => Below.refl _ _, fun w => c32_lt s, fun w => ?_⟩
    unfold fq32 fe32; rw [hn]; exact ⟨rfl, rfl⟩
  · refine ⟨cN s, World.drew, run_conv_nan s hn rfl rfl, fun w => (Below.refl _ _).drew, fun w => (cN_nan s w).2, fun w => ?_⟩
    unfold fq32 fe32; rw [hn]; exact f_nan (cN_nan s w).1
theorem wf64 {b : Nat} (h : (Lit.float .f64 b).wf = true) : b < 18446744073709551616 := by
  simpa [Lit.wf] using h
theorem nearOf_walk {w : World} (x : Nat) (hx : x < 18446744073709551616) (s : Nat) : Calls Try.prog 3 #[.float .f64 x, .float .f32 s] w (fun e w' => e = .returned (.bool true) ∧ Below w.heap.size w w') := by
  obtain ⟨cs, ds, h1, h2, h3, h4⟩ := conv_q s
  exact nearof_law x hx s cs ds h1 h2 h3 h4
end Go.Proofs.Ytnbhfgpnjhbkaaa
