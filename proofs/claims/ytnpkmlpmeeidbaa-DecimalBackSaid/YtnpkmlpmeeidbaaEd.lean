/- WALKS OF DECIMALS, 9: decimal numbers read by the program. -/
import Derived.Test.YtnpkmlpmeeidbaaEb
import Derived.Test.YtnpkmlpmeeidbaaQ1
import Derived.BigQuiet
import Derived.Test.YtnpkmlpmeeidbaaEc
import Derived.Deep.DeepCutAuto
namespace Go.Proofs.Ytnpkmlpmeeidbaa
set_option linter.unusedVariables false
set_option linter.unusedSimpArgs false
open Go.ChangeShapes Go.WideShapes Go.ChangeAt Go.RowKit Go.NatP

theorem exP_bd {l : List Nat} {e : Int} (h : exP l = some e) : -1000 ≤ e ∧ e ≤ 1000 := by
  cases l with
  | nil => cases h; omega
  | cons c t =>
    by_cases hc : c = 101 ∨ c = 69
    · rw [exP_e t hc] at h
      unfold exT at h
      split at h
      · rename_i hh
        cases h
        unfold exV
        split <;> omega
      · cases h
    · rw [exP_no t hc] at h; cases h
theorem sgS_by (s : ByteArray) : sgS (by' s) = (pzB s, by' (pzR s)) := by
  by_cases h0 : 0 < s.size
  · have e1 := be_cons h0
    have e2 : pzB s = decide (s[0].toNat = 45) := pfB_cons (b := 45) h0
    unfold pzR
    rw [e2, e1]
    by_cases h : s[0].toNat = 45
    · rw [decide_eq_true h]
      exact if_pos h
    · rw [decide_eq_false h]
      show _ = (false, by' s)
      rw [e1]
      exact if_neg h
  · have e : s = ⟨#[]⟩ := be_nil (by omega)
    subst e
    rfl
theorem dcU_pt {s t : List Nat} (h : dgB s = 46 :: t) : dcU s = if dgA t = [] then none else dcG (dgA s) (dgA t) (dgB t) := by unfold dcU; rw [h]; exact if_pos rfl
theorem dcU_no {s : List Nat} (h : ∀ t, dgB s ≠ 46 :: t) : dcU s = dcG (dgA s) [] (dgB s) := by
  unfold dcU
  cases he : dgB s with
  | nil => rfl
  | cons c t => exact if_neg fun e => h t (by rw [he, e])
theorem dc_some {l D : List Nat} {b : Bool} {e : Int} (h : dcP l = some (b, D, e)) : dcQ l = dcV (b, D, e) ∧ dcE l = 0 := by unfold dcQ dcE; rw [h]; exact ⟨rfl, rfl⟩
theorem dc_none {l : List Nat} (h : dcP l = none) : dcE l = 22 := by unfold dcE; rw [h]
theorem dcP_of {s : ByteArray} {o : Option (List Nat × Int)} (h : dcU (by' (pzR s)) = o) : dcP (by' s) = o.map fun p => (pzB s, p) := by
  unfold dcP; rw [sgS_by]; simp only [h]

/-! the ways: a point or none, digits or none, an exponent that is fine or none -/
set_option maxRecDepth 100000 in
set_option maxHeartbeats 4000000 in
theorem dpa0n0 {w : World} (s r D0 S1 : ByteArray) (b : Bool) (N : Nat) (hs : s.size ≤ 4096) (HC : Hid (∀ w, Calls Try.prog 96 #[.string s, .string ⟨#[45]⟩] w (RetCutP w r b)))
    (hrl : r.size ≤ 4096) (hN : N ≤ r.size) (HR : Hid (∀ w, Calls Try.prog 97 #[.string r] w (fun e w' => e = .returned (.int .i64 (N : Nat)) ∧ Below w.heap.size w w')))
    (hD0 : r.extract 0 N = D0) (hS1 : r.extract N r.size = S1) (hD0s : D0.size = N) (hS1s : S1.size + N = r.size)
    (HH : Hid (∀ w, Calls Try.prog 98 #[.string S1, .string ⟨#[46]⟩] w (RetS2 w false)))
    (D S : ByteArray) (hDe : D0 = D) (hSe : S1 = S) (hDs : D.size = N) (hSs : S.size ≤ S1.size)
    (ev : Int) (eb : Bool) (HE : Hid (∀ w, Calls Try.prog 99 #[.string S] w (fun e w' => e = .returned (.tuple #[.int .i64 ev, .bool eb]) ∧ Below w.heap.size w w')))
    (hn0 : N = 0) :
    Calls Try.prog 24 #[.string s] w (fun e w' => ∀ Q : Rat, RetQE w Q 22 e w') := by
  subst hn0
  subst hDe hSe
  have hent := ent1 w #[Value.bool false, Value.slice none 0 0, Value.slice none 0 0] 29
  go_enter Try.func24, Try.ntmps24
  go_wp2_with fail
  generalize (w.alloc (.cells #[Value.bool false, Value.slice none 0 0, Value.slice none 0 0] 29)) = W0 at hent ⊢
  obtain ⟨R0_0, hbel_0, hsz_0⟩ := hent
  have cR0_0_0 : _ = some (Value.bool false) := R0_0.cell 0
  have fR0_0_0 := R0_0.free 0
  have cR0_0_1 : _ = some (Value.slice none 0 0) := R0_0.cell 1
  have fR0_0_1 := R0_0.free 1
  have cR0_0_2 : _ = some (Value.slice none 0 0) := R0_0.cell 2
  have fR0_0_2 := R0_0.free 2
  go_wp2_with fail
  refine (HC.out _).mono ?_
  rintro e wc ⟨rfl, rfl⟩
  go_wp2_with fail
  refine (HR.out _).mono ?_
  rintro e w1 ⟨rfl, hB⟩
  have hB_1 : Below W0.heap.size W0 w1 := (bl.next hB)
  have R0_1 := R0_0.next hB_1
  have cR0_1_0 : _ = some (Value.bool false) := R0_1.cell 0
  have fR0_1_0 := R0_1.free 0
  have cR0_1_1 : _ = some (Value.slice none 0 0) := R0_1.cell 1
  have fR0_1_1 := R0_1.free 1
  have cR0_1_2 : _ = some (Value.slice none 0 0) := R0_1.cell 2
  have fR0_1_2 := R0_1.free 2
  have hbel_1 := hbel_0.next hB_1
  have hsz_1 := hB_1.size
  clear R0_0 cR0_0_0 fR0_0_0 cR0_0_1 fR0_0_1 cR0_0_2 fR0_0_2 hbel_0 hB_1
  try clear hB
  go_wp2_with fail
  go_quiet (fail)
  have hB_2 : Below w1.heap.size w1 (w1.drewN nq) := (show Below w1.heap.size w1 (w1.drewN nq) from ⟨rfl, rfl, rfl, Nat.le_refl _, fun _ _ => rfl⟩)
  have R0_2 := R0_1.next hB_2
  have cR0_2_0 : _ = some (Value.bool false) := R0_2.cell 0
  have fR0_2_0 := R0_2.free 0
  have cR0_2_1 : _ = some (Value.slice none 0 0) := R0_2.cell 1
  have fR0_2_1 := R0_2.free 1
  have cR0_2_2 : _ = some (Value.slice none 0 0) := R0_2.cell 2
  have fR0_2_2 := R0_2.free 2
  have hbel_2 := hbel_1.next hB_2
  have hsz_2 := hB_2.size
  clear R0_1 cR0_1_0 fR0_1_0 cR0_1_1 fR0_1_1 cR0_1_2 fR0_1_2 hbel_1 hB_2
  generalize (w1.drewN nq) = va at *
  go_wp2_with fail
  refine (HH.out _).mono ?_
  rintro e wc ⟨rfl, rfl⟩
  go_wp2_with fail
  refine (HE.out _).mono ?_
  rintro e w3 ⟨rfl, hB⟩
  have hB_3 : Below va.heap.size va w3 := (bl.next hB)
  have R0_3 := R0_2.next hB_3
  have cR0_3_0 : _ = some (Value.bool false) := R0_3.cell 0
  have fR0_3_0 := R0_3.free 0
  have cR0_3_1 : _ = some (Value.slice none 0 0) := R0_3.cell 1
  have fR0_3_1 := R0_3.free 1
  have cR0_3_2 : _ = some (Value.slice none 0 0) := R0_3.cell 2
  have fR0_3_2 := R0_3.free 2
  have hbel_3 := hbel_2.next hB_3
  have hsz_3 := hB_3.size
  clear R0_2 cR0_2_0 fR0_2_0 cR0_2_1 fR0_2_1 cR0_2_2 fR0_2_2 hbel_2 hB_3
  try clear hB
  go_wp2
  refine bodyPost_ret (v := .tuple #[.agg #[.bool false, .slice none 0 0, .slice none 0 0], .int .i64 22]) (by simp [results, Try.results24, go_sem, cR0_3_0, cR0_3_1, cR0_3_2]) rfl ?_
  exact fun Q => retqe_nil (by decide) hbel_3 (by omega)

set_option maxRecDepth 100000 in
set_option maxHeartbeats 4000000 in
theorem dpa0eb {w : World} (s r D0 S1 : ByteArray) (b : Bool) (N : Nat) (hs : s.size ≤ 4096) (HC : Hid (∀ w, Calls Try.prog 96 #[.string s, .string ⟨#[45]⟩] w (RetCutP w r b)))
    (hrl : r.size ≤ 4096) (hN : N ≤ r.size) (HR : Hid (∀ w, Calls Try.prog 97 #[.string r] w (fun e w' => e = .returned (.int .i64 (N : Nat)) ∧ Below w.heap.size w w')))
    (hD0 : r.extract 0 N = D0) (hS1 : r.extract N r.size = S1) (hD0s : D0.size = N) (hS1s : S1.size + N = r.size)
    (HH : Hid (∀ w, Calls Try.prog 98 #[.string S1, .string ⟨#[46]⟩] w (RetS2 w false)))
    (D S : ByteArray) (hDe : D0 = D) (hSe : S1 = S) (hDs : D.size = N) (hSs : S.size ≤ S1.size)
    (ev : Int) (eb : Bool) (HE : Hid (∀ w, Calls Try.prog 99 #[.string S] w (fun e w' => e = .returned (.tuple #[.int .i64 ev, .bool eb]) ∧ Below w.heap.size w w')))
    (hn0 : 1 ≤ N)
    (heb : eb = false) :
    Calls Try.prog 24 #[.string s] w (fun e w' => ∀ Q : Rat, RetQE w Q 22 e w') := by
  subst heb
  subst hDe hSe
  have hent := ent1 w #[Value.bool false, Value.slice none 0 0, Value.slice none 0 0] 29
  go_enter Try.func24, Try.ntmps24
  go_wp2_with fail
  generalize (w.alloc (.cells #[Value.bool false, Value.slice none 0 0, Value.slice none 0 0] 29)) = W0 at hent ⊢
  obtain ⟨R0_0, hbel_0, hsz_0⟩ := hent
  have cR0_0_0 : _ = some (Value.bool false) := R0_0.cell 0
  have fR0_0_0 := R0_0.free 0
  have cR0_0_1 : _ = some (Value.slice none 0 0) := R0_0.cell 1
  have fR0_0_1 := R0_0.free 1
  have cR0_0_2 : _ = some (Value.slice none 0 0) := R0_0.cell 2
  have fR0_0_2 := R0_0.free 2
  go_wp2_with fail
  refine (HC.out _).mono ?_
  rintro e wc ⟨rfl, rfl⟩
  go_wp2_with fail
  refine (HR.out _).mono ?_
  rintro e w1 ⟨rfl, hB⟩
  have hB_1 : Below W0.heap.size W0 w1 := (bl.next hB)
  have R0_1 := R0_0.next hB_1
  have cR0_1_0 : _ = some (Value.bool false) := R0_1.cell 0
  have fR0_1_0 := R0_1.free 0
  have cR0_1_1 : _ = some (Value.slice none 0 0) := R0_1.cell 1
  have fR0_1_1 := R0_1.free 1
  have cR0_1_2 : _ = some (Value.slice none 0 0) := R0_1.cell 2
  have fR0_1_2 := R0_1.free 2
  have hbel_1 := hbel_0.next hB_1
  have hsz_1 := hB_1.size
  clear R0_0 cR0_0_0 fR0_0_0 cR0_0_1 fR0_0_1 cR0_0_2 fR0_0_2 hbel_0 hB_1
  try clear hB
  go_wp2_with fail
  go_quiet (fail)
  have hB_2 : Below w1.heap.size w1 (w1.drewN nq) := (show Below w1.heap.size w1 (w1.drewN nq) from ⟨rfl, rfl, rfl, Nat.le_refl _, fun _ _ => rfl⟩)
  have R0_2 := R0_1.next hB_2
  have cR0_2_0 : _ = some (Value.bool false) := R0_2.cell 0
  have fR0_2_0 := R0_2.free 0
  have cR0_2_1 : _ = some (Value.slice none 0 0) := R0_2.cell 1
  have fR0_2_1 := R0_2.free 1
  have cR0_2_2 : _ = some (Value.slice none 0 0) := R0_2.cell 2
  have fR0_2_2 := R0_2.free 2
  have hbel_2 := hbel_1.next hB_2
  have hsz_2 := hB_2.size
  clear R0_1 cR0_1_0 fR0_1_0 cR0_1_1 fR0_1_1 cR0_1_2 fR0_1_2 hbel_1 hB_2
  generalize (w1.drewN nq) = va at *
  go_wp2_with fail
  refine (HH.out _).mono ?_
  rintro e wc ⟨rfl, rfl⟩
  go_wp2_with fail
  refine (HE.out _).mono ?_
  rintro e w3 ⟨rfl, hB⟩
  have hB_3 : Below va.heap.size va w3 := (bl.next hB)
  have R0_3 := R0_2.next hB_3
  have cR0_3_0 : _ = some (Value.bool false) := R0_3.cell 0
  have fR0_3_0 := R0_3.free 0
  have cR0_3_1 : _ = some (Value.slice none 0 0) := R0_3.cell 1
  have fR0_3_1 := R0_3.free 1
  have cR0_3_2 : _ = some (Value.slice none 0 0) := R0_3.cell 2
  have fR0_3_2 := R0_3.free 2
  have hbel_3 := hbel_2.next hB_3
  have hsz_3 := hB_3.size
  clear R0_2 cR0_2_0 fR0_2_0 cR0_2_1 fR0_2_1 cR0_2_2 fR0_2_2 hbel_2 hB_3
  try clear hB
  go_wp2
  refine bodyPost_ret (v := .tuple #[.agg #[.bool false, .slice none 0 0, .slice none 0 0], .int .i64 22]) (by simp [results, Try.results24, go_sem, cR0_3_0, cR0_3_1, cR0_3_2]) rfl ?_
  exact fun Q => retqe_nil (by decide) hbel_3 (by omega)

set_option maxRecDepth 100000 in
set_option maxHeartbeats 4000000 in
theorem dpa0up {w : World} (s r D0 S1 : ByteArray) (b : Bool) (N : Nat) (hs : s.size ≤ 4096) (HC : Hid (∀ w, Calls Try.prog 96 #[.string s, .string ⟨#[45]⟩] w (RetCutP w r b)))
    (hrl : r.size ≤ 4096) (hN : N ≤ r.size) (HR : Hid (∀ w, Calls Try.prog 97 #[.string r] w (fun e w' => e = .returned (.int .i64 (N : Nat)) ∧ Below w.heap.size w w')))
    (hD0 : r.extract 0 N = D0) (hS1 : r.extract N r.size = S1) (hD0s : D0.size = N) (hS1s : S1.size + N = r.size)
    (HH : Hid (∀ w, Calls Try.prog 98 #[.string S1, .string ⟨#[46]⟩] w (RetS2 w false)))
    (D S : ByteArray) (hDe : D0 = D) (hSe : S1 = S) (hDs : D.size = N) (hSs : S.size ≤ S1.size)
    (ev : Int) (eb : Bool) (HE : Hid (∀ w, Calls Try.prog 99 #[.string S] w (fun e w' => e = .returned (.tuple #[.int .i64 ev, .bool eb]) ∧ Below w.heap.size w w')))
    (hn0 : 1 ≤ N)
    (heb : eb = true) (v : Nat) (HV : Hid (∀ w, Calls Try.prog 100 #[.string D] w (RetE w (lm v) 0))) (hsv : Hid (Sz v 4096)) (hev1 : -1000 ≤ ev) (hev2 : ev ≤ 1000)
    (E : Nat) (hE : ev - 0 = (E : Int)) (q : Rat) (hq : Hid (Rat.divInt (zv b (v * 10 ^ E)) ((1 : Nat) : Int) = q)) :
    Calls Try.prog 24 #[.string s] w (RetQE w q 0) := by
  subst heb
  subst hDe hSe
  obtain ⟨K4, hK4, hK5⟩ : ∃ K, 14000 ≤ K ∧ K ≤ 20000 := ⟨14000, by omega, by omega⟩
  have hsv0 := hsv.out
  have hEb : E ≤ 6000 := by omega
  have hsT := szTen E
  have HT := hid (fun w => dten (w := w) E (by omega))
  have hsM := hid ((hsv0.mul hsT).mono (Nat.le_refl _) (show 4096 + (E + 1) ≤ K4 by omega))
  have hsTh := hid (hsT.mono (Nat.le_refl _) (show E + 1 ≤ K4 by omega))
  have hsvh := hid (hsv0.mono (Nat.le_refl _) (show 4096 ≤ K4 by omega))
  clear hsT hsv0 hsv
  obtain ⟨T, hT⟩ : ∃ T, 10 ^ E = T := ⟨_, rfl⟩
  have hT0 := hid (show T ≠ 0 by rw [← hT]; exact Nat.pos_iff_ne_zero.1 (Nat.pow_pos (by decide)))
  rw [hT] at HT hsTh hq hsM
  clear hT
  have hent := ent1 w #[Value.bool false, Value.slice none 0 0, Value.slice none 0 0] 29
  go_enter Try.func24, Try.ntmps24
  go_wp2_with fail
  generalize (w.alloc (.cells #[Value.bool false, Value.slice none 0 0, Value.slice none 0 0] 29)) = W0 at hent ⊢
  obtain ⟨R0_0, hbel_0, hsz_0⟩ := hent
  have cR0_0_0 : _ = some (Value.bool false) := R0_0.cell 0
  have fR0_0_0 := R0_0.free 0
  have cR0_0_1 : _ = some (Value.slice none 0 0) := R0_0.cell 1
  have fR0_0_1 := R0_0.free 1
  have cR0_0_2 : _ = some (Value.slice none 0 0) := R0_0.cell 2
  have fR0_0_2 := R0_0.free 2
  go_wp2_with fail
  refine (HC.out _).mono ?_
  rintro e wc ⟨rfl, rfl⟩
  go_wp2_with fail
  refine (HR.out _).mono ?_
  rintro e w1 ⟨rfl, hB⟩
  have hB_1 : Below W0.heap.size W0 w1 := (bl.next hB)
  have R0_1 := R0_0.next hB_1
  have cR0_1_0 : _ = some (Value.bool false) := R0_1.cell 0
  have fR0_1_0 := R0_1.free 0
  have cR0_1_1 : _ = some (Value.slice none 0 0) := R0_1.cell 1
  have fR0_1_1 := R0_1.free 1
  have cR0_1_2 : _ = some (Value.slice none 0 0) := R0_1.cell 2
  have fR0_1_2 := R0_1.free 2
  have hbel_1 := hbel_0.next hB_1
  have hsz_1 := hB_1.size
  clear R0_0 cR0_0_0 fR0_0_0 cR0_0_1 fR0_0_1 cR0_0_2 fR0_0_2 hbel_0 hB_1
  try clear hB
  go_wp2_with fail
  go_quiet (fail)
  have hB_2 : Below w1.heap.size w1 (w1.drewN nq) := (show Below w1.heap.size w1 (w1.drewN nq) from ⟨rfl, rfl, rfl, Nat.le_refl _, fun _ _ => rfl⟩)
  have R0_2 := R0_1.next hB_2
  have cR0_2_0 : _ = some (Value.bool false) := R0_2.cell 0
  have fR0_2_0 := R0_2.free 0
  have cR0_2_1 : _ = some (Value.slice none 0 0) := R0_2.cell 1
  have fR0_2_1 := R0_2.free 1
  have cR0_2_2 : _ = some (Value.slice none 0 0) := R0_2.cell 2
  have fR0_2_2 := R0_2.free 2
  have hbel_2 := hbel_1.next hB_2
  have hsz_2 := hB_2.size
  clear R0_1 cR0_1_0 fR0_1_0 cR0_1_1 fR0_1_1 cR0_1_2 fR0_1_2 hbel_1 hB_2
  generalize (w1.drewN nq) = va at *
  go_wp2_with fail
  refine (HH.out _).mono ?_
  rintro e wc ⟨rfl, rfl⟩
  go_wp2_with fail
  refine (HE.out _).mono ?_
  rintro e w3 ⟨rfl, hB⟩
  have hB_3 : Below va.heap.size va w3 := (bl.next hB)
  have R0_3 := R0_2.next hB_3
  have cR0_3_0 : _ = some (Value.bool false) := R0_3.cell 0
  have fR0_3_0 := R0_3.free 0
  have cR0_3_1 : _ = some (Value.slice none 0 0) := R0_3.cell 1
  have fR0_3_1 := R0_3.free 1
  have cR0_3_2 : _ = some (Value.slice none 0 0) := R0_3.cell 2
  have fR0_3_2 := R0_3.free 2
  have hbel_3 := hbel_2.next hB_3
  have hsz_3 := hB_3.size
  clear R0_2 cR0_2_0 fR0_2_0 cR0_2_1 fR0_2_1 cR0_2_2 fR0_2_2 hbel_2 hB_3
  try clear hB
  go_wp2_with fail
  refine (HV.out _).mono ?_
  rintro e w4 ⟨na, nn, nc, rfl, hO, hB⟩
  have hB_4 : Below w3.heap.size w3 w4 := (bl.next hB)
  have R0_4 := R0_3.next hB_4
  have cR0_4_0 : _ = some (Value.bool false) := R0_4.cell 0
  have fR0_4_0 := R0_4.free 0
  have cR0_4_1 : _ = some (Value.slice none 0 0) := R0_4.cell 1
  have fR0_4_1 := R0_4.free 1
  have cR0_4_2 : _ = some (Value.slice none 0 0) := R0_4.cell 2
  have fR0_4_2 := R0_4.free 2
  have hbel_4 := hbel_3.next hB_4
  have hsz_4 := hB_4.size
  clear R0_3 cR0_3_0 fR0_3_0 cR0_3_1 fR0_3_1 cR0_3_2 fR0_3_2 hbel_3 hB_4
  have V_4 := hO.rdN hsvh.out
  clear hO
  try clear hB
  go_wp2_with fail
  refine (of_any 1 (by omega) (by omega)).mono ?_
  rintro e w5 ⟨ua, un, uc, rfl, hO, hB⟩
  have hB_5 : Below w4.heap.size w4 w5 := (bl.next hB)
  have R0_5 := R0_4.next hB_5
  have cR0_5_0 : _ = some (Value.bool false) := R0_5.cell 0
  have fR0_5_0 := R0_5.free 0
  have cR0_5_1 : _ = some (Value.slice none 0 0) := R0_5.cell 1
  have fR0_5_1 := R0_5.free 1
  have cR0_5_2 : _ = some (Value.slice none 0 0) := R0_5.cell 2
  have fR0_5_2 := R0_5.free 2
  have V_5 := V_4.below hB_5
  have hbel_5 := hbel_4.next hB_5
  have hsz_5 := hB_5.size
  clear R0_4 cR0_4_0 fR0_4_0 cR0_4_1 fR0_4_1 cR0_4_2 fR0_4_2 V_4 hbel_4 hB_5
  have U1_5 := hO.rdN (v := 1) (k := 1) (sz_one (Nat.le_refl _))
  clear hO
  try clear hB
  go_wp2_with fail
  refine (HT.out _).mono ?_
  rintro e w6 ⟨ta, tn, tc, rfl, hO, hB⟩
  have hB_6 : Below w5.heap.size w5 w6 := (bl.next hB)
  have R0_6 := R0_5.next hB_6
  have cR0_6_0 : _ = some (Value.bool false) := R0_6.cell 0
  have fR0_6_0 := R0_6.free 0
  have cR0_6_1 : _ = some (Value.slice none 0 0) := R0_6.cell 1
  have fR0_6_1 := R0_6.free 1
  have cR0_6_2 : _ = some (Value.slice none 0 0) := R0_6.cell 2
  have fR0_6_2 := R0_6.free 2
  have V_6 := V_5.below hB_6
  have U1_6 := U1_5.below hB_6
  have hbel_6 := hbel_5.next hB_6
  have hsz_6 := hB_6.size
  clear R0_5 cR0_5_0 fR0_5_0 cR0_5_1 fR0_5_1 cR0_5_2 fR0_5_2 V_5 U1_5 hbel_5 hB_6
  have TT_6 := hO.rdN hsTh.out
  clear hO
  try clear hB
  go_wp2_with fail
  refine (nmulR V_6 TT_6 (by omega) (by omega)).mono ?_
  rintro e w7 ⟨ma, mn, mc, rfl, hO, hB⟩
  have hB_7 : Below w6.heap.size w6 w7 := (bl.next hB)
  have R0_7 := R0_6.next hB_7
  have cR0_7_0 : _ = some (Value.bool false) := R0_7.cell 0
  have fR0_7_0 := R0_7.free 0
  have cR0_7_1 : _ = some (Value.slice none 0 0) := R0_7.cell 1
  have fR0_7_1 := R0_7.free 1
  have cR0_7_2 : _ = some (Value.slice none 0 0) := R0_7.cell 2
  have fR0_7_2 := R0_7.free 2
  have V_7 := V_6.below hB_7
  have U1_7 := U1_6.below hB_7
  have TT_7 := TT_6.below hB_7
  have hbel_7 := hbel_6.next hB_7
  have hsz_7 := hB_7.size
  clear R0_6 cR0_6_0 fR0_6_0 cR0_6_1 fR0_6_1 cR0_6_2 fR0_6_2 V_6 U1_6 TT_6 hbel_6 hB_7
  have M_7 := hO.rdN hsM.out
  clear hO
  try clear hB
  go_wp2_with fail
  refine (qnew ((M_7.mono (by omega)).toZ (s := b)) ((U1_7.mono (by omega)).toI)).mono ?_
  rw [hq.out, zE_pos (show ((1 : Nat) : Int) ≠ 0 by decide)]
  rintro e w8 ⟨qa, qn, qc, da, dn, dc, rfl, hO, hO', hD9, hB⟩
  have hB_8 : Below w7.heap.size w7 w8 := (bl.next hB)
  have R0_8 := R0_7.next hB_8
  have cR0_8_0 : _ = some (Value.bool false) := R0_8.cell 0
  have fR0_8_0 := R0_8.free 0
  have cR0_8_1 : _ = some (Value.slice none 0 0) := R0_8.cell 1
  have fR0_8_1 := R0_8.free 1
  have cR0_8_2 : _ = some (Value.slice none 0 0) := R0_8.cell 2
  have fR0_8_2 := R0_8.free 2
  have V_8 := V_7.below hB_8
  have U1_8 := U1_7.below hB_8
  have TT_8 := TT_7.below hB_8
  have M_8 := M_7.below hB_8
  have hbel_8 := hbel_7.next hB_8
  have hsz_8 := hB_8.size
  clear R0_7 cR0_7_0 fR0_7_0 cR0_7_1 fR0_7_1 cR0_7_2 fR0_7_2 V_7 U1_7 TT_7 M_7 hbel_7 hB_8
  have OQ_8 := hO
  have ltOQ := hO.ltB
  have OD_8 := hO'
  have ltOD := hO'.ltB
  clear hO hO'
  try clear hB
  go_wp2
  refine bodyPost_ret (v := .tuple #[.agg #[.bool (qsg q 0), .slice qa qn qc, .slice da dn dc], .int .i64 0]) (by simp [results, Try.results24, go_sem, cR0_8_0, cR0_8_1, cR0_8_2]) rfl ?_
  exact retqe_set (er := 0) OQ_8 OD_8 hD9 hbel_8 (by omega) (by omega)

set_option maxRecDepth 100000 in
set_option maxHeartbeats 4000000 in
theorem dpa0dn {w : World} (s r D0 S1 : ByteArray) (b : Bool) (N : Nat) (hs : s.size ≤ 4096) (HC : Hid (∀ w, Calls Try.prog 96 #[.string s, .string ⟨#[45]⟩] w (RetCutP w r b)))
    (hrl : r.size ≤ 4096) (hN : N ≤ r.size) (HR : Hid (∀ w, Calls Try.prog 97 #[.string r] w (fun e w' => e = .returned (.int .i64 (N : Nat)) ∧ Below w.heap.size w w')))
    (hD0 : r.extract 0 N = D0) (hS1 : r.extract N r.size = S1) (hD0s : D0.size = N) (hS1s : S1.size + N = r.size)
    (HH : Hid (∀ w, Calls Try.prog 98 #[.string S1, .string ⟨#[46]⟩] w (RetS2 w false)))
    (D S : ByteArray) (hDe : D0 = D) (hSe : S1 = S) (hDs : D.size = N) (hSs : S.size ≤ S1.size)
    (ev : Int) (eb : Bool) (HE : Hid (∀ w, Calls Try.prog 99 #[.string S] w (fun e w' => e = .returned (.tuple #[.int .i64 ev, .bool eb]) ∧ Below w.heap.size w w')))
    (hn0 : 1 ≤ N)
    (heb : eb = true) (v : Nat) (HV : Hid (∀ w, Calls Try.prog 100 #[.string D] w (RetE w (lm v) 0))) (hsv : Hid (Sz v 4096)) (hev1 : -1000 ≤ ev) (hev2 : ev ≤ 1000)
    (E : Nat) (hE : ev - 0 = -(E : Int)) (hE1 : 1 ≤ E) (q : Rat) (hq : Hid (Rat.divInt (zv b v) ((10 ^ E : Nat) : Int) = q)) :
    Calls Try.prog 24 #[.string s] w (RetQE w q 0) := by
  subst heb
  subst hDe hSe
  obtain ⟨K4, hK4, hK5⟩ : ∃ K, 14000 ≤ K ∧ K ≤ 20000 := ⟨14000, by omega, by omega⟩
  have hsv0 := hsv.out
  have hEb : E ≤ 6000 := by omega
  have hsT := szTen E
  have HT := hid (fun w => dten (w := w) E (by omega))
  have hsTh := hid (hsT.mono (Nat.le_refl _) (show E + 1 ≤ K4 by omega))
  have hsvh := hid (hsv0.mono (Nat.le_refl _) (show 4096 ≤ K4 by omega))
  clear hsT hsv0 hsv
  obtain ⟨T, hT⟩ : ∃ T, 10 ^ E = T := ⟨_, rfl⟩
  have hT0 := hid (show T ≠ 0 by rw [← hT]; exact Nat.pos_iff_ne_zero.1 (Nat.pow_pos (by decide)))
  rw [hT] at HT hsTh hq
  clear hT
  have hent := ent1 w #[Value.bool false, Value.slice none 0 0, Value.slice none 0 0] 29
  go_enter Try.func24, Try.ntmps24
  go_wp2_with fail
  generalize (w.alloc (.cells #[Value.bool false, Value.slice none 0 0, Value.slice none 0 0] 29)) = W0 at hent ⊢
  obtain ⟨R0_0, hbel_0, hsz_0⟩ := hent
  have cR0_0_0 : _ = some (Value.bool false) := R0_0.cell 0
  have fR0_0_0 := R0_0.free 0
  have cR0_0_1 : _ = some (Value.slice none 0 0) := R0_0.cell 1
  have fR0_0_1 := R0_0.free 1
  have cR0_0_2 : _ = some (Value.slice none 0 0) := R0_0.cell 2
  have fR0_0_2 := R0_0.free 2
  go_wp2_with fail
  refine (HC.out _).mono ?_
  rintro e wc ⟨rfl, rfl⟩
  go_wp2_with fail
  refine (HR.out _).mono ?_
  rintro e w1 ⟨rfl, hB⟩
  have hB_1 : Below W0.heap.size W0 w1 := (bl.next hB)
  have R0_1 := R0_0.next hB_1
  have cR0_1_0 : _ = some (Value.bool false) := R0_1.cell 0
  have fR0_1_0 := R0_1.free 0
  have cR0_1_1 : _ = some (Value.slice none 0 0) := R0_1.cell 1
  have fR0_1_1 := R0_1.free 1
  have cR0_1_2 : _ = some (Value.slice none 0 0) := R0_1.cell 2
  have fR0_1_2 := R0_1.free 2
  have hbel_1 := hbel_0.next hB_1
  have hsz_1 := hB_1.size
  clear R0_0 cR0_0_0 fR0_0_0 cR0_0_1 fR0_0_1 cR0_0_2 fR0_0_2 hbel_0 hB_1
  try clear hB
  go_wp2_with fail
  go_quiet (fail)
  have hB_2 : Below w1.heap.size w1 (w1.drewN nq) := (show Below w1.heap.size w1 (w1.drewN nq) from ⟨rfl, rfl, rfl, Nat.le_refl _, fun _ _ => rfl⟩)
  have R0_2 := R0_1.next hB_2
  have cR0_2_0 : _ = some (Value.bool false) := R0_2.cell 0
  have fR0_2_0 := R0_2.free 0
  have cR0_2_1 : _ = some (Value.slice none 0 0) := R0_2.cell 1
  have fR0_2_1 := R0_2.free 1
  have cR0_2_2 : _ = some (Value.slice none 0 0) := R0_2.cell 2
  have fR0_2_2 := R0_2.free 2
  have hbel_2 := hbel_1.next hB_2
  have hsz_2 := hB_2.size
  clear R0_1 cR0_1_0 fR0_1_0 cR0_1_1 fR0_1_1 cR0_1_2 fR0_1_2 hbel_1 hB_2
  generalize (w1.drewN nq) = va at *
  go_wp2_with fail
  refine (HH.out _).mono ?_
  rintro e wc ⟨rfl, rfl⟩
  go_wp2_with fail
  refine (HE.out _).mono ?_
  rintro e w3 ⟨rfl, hB⟩
  have hB_3 : Below va.heap.size va w3 := (bl.next hB)
  have R0_3 := R0_2.next hB_3
  have cR0_3_0 : _ = some (Value.bool false) := R0_3.cell 0
  have fR0_3_0 := R0_3.free 0
  have cR0_3_1 : _ = some (Value.slice none 0 0) := R0_3.cell 1
  have fR0_3_1 := R0_3.free 1
  have cR0_3_2 : _ = some (Value.slice none 0 0) := R0_3.cell 2
  have fR0_3_2 := R0_3.free 2
  have hbel_3 := hbel_2.next hB_3
  have hsz_3 := hB_3.size
  clear R0_2 cR0_2_0 fR0_2_0 cR0_2_1 fR0_2_1 cR0_2_2 fR0_2_2 hbel_2 hB_3
  try clear hB
  go_wp2_with fail
  refine (HV.out _).mono ?_
  rintro e w4 ⟨na, nn, nc, rfl, hO, hB⟩
  have hB_4 : Below w3.heap.size w3 w4 := (bl.next hB)
  have R0_4 := R0_3.next hB_4
  have cR0_4_0 : _ = some (Value.bool false) := R0_4.cell 0
  have fR0_4_0 := R0_4.free 0
  have cR0_4_1 : _ = some (Value.slice none 0 0) := R0_4.cell 1
  have fR0_4_1 := R0_4.free 1
  have cR0_4_2 : _ = some (Value.slice none 0 0) := R0_4.cell 2
  have fR0_4_2 := R0_4.free 2
  have hbel_4 := hbel_3.next hB_4
  have hsz_4 := hB_4.size
  clear R0_3 cR0_3_0 fR0_3_0 cR0_3_1 fR0_3_1 cR0_3_2 fR0_3_2 hbel_3 hB_4
  have V_4 := hO.rdN hsvh.out
  clear hO
  try clear hB
  go_wp2_with fail
  refine (of_any 1 (by omega) (by omega)).mono ?_
  rintro e w5 ⟨ua, un, uc, rfl, hO, hB⟩
  have hB_5 : Below w4.heap.size w4 w5 := (bl.next hB)
  have R0_5 := R0_4.next hB_5
  have cR0_5_0 : _ = some (Value.bool false) := R0_5.cell 0
  have fR0_5_0 := R0_5.free 0
  have cR0_5_1 : _ = some (Value.slice none 0 0) := R0_5.cell 1
  have fR0_5_1 := R0_5.free 1
  have cR0_5_2 : _ = some (Value.slice none 0 0) := R0_5.cell 2
  have fR0_5_2 := R0_5.free 2
  have V_5 := V_4.below hB_5
  have hbel_5 := hbel_4.next hB_5
  have hsz_5 := hB_5.size
  clear R0_4 cR0_4_0 fR0_4_0 cR0_4_1 fR0_4_1 cR0_4_2 fR0_4_2 V_4 hbel_4 hB_5
  have U1_5 := hO.rdN (v := 1) (k := 1) (sz_one (Nat.le_refl _))
  clear hO
  try clear hB
  go_wp2_with fail
  refine (HT.out _).mono ?_
  rintro e w6 ⟨ta, tn, tc, rfl, hO, hB⟩
  have hB_6 : Below w5.heap.size w5 w6 := (bl.next hB)
  have R0_6 := R0_5.next hB_6
  have cR0_6_0 : _ = some (Value.bool false) := R0_6.cell 0
  have fR0_6_0 := R0_6.free 0
  have cR0_6_1 : _ = some (Value.slice none 0 0) := R0_6.cell 1
  have fR0_6_1 := R0_6.free 1
  have cR0_6_2 : _ = some (Value.slice none 0 0) := R0_6.cell 2
  have fR0_6_2 := R0_6.free 2
  have V_6 := V_5.below hB_6
  have U1_6 := U1_5.below hB_6
  have hbel_6 := hbel_5.next hB_6
  have hsz_6 := hB_6.size
  clear R0_5 cR0_5_0 fR0_5_0 cR0_5_1 fR0_5_1 cR0_5_2 fR0_5_2 V_5 U1_5 hbel_5 hB_6
  have TT_6 := hO.rdN hsTh.out
  clear hO
  try clear hB
  go_wp2_with fail
  refine (qnew ((V_6.mono (by omega)).toZ (s := b)) ((TT_6.mono (by omega)).toI)).mono ?_
  rw [hq.out, zE_pos (show ((T : Nat) : Int) ≠ 0 by have := hT0.out; omega)]
  rintro e w7 ⟨qa, qn, qc, da, dn, dc, rfl, hO, hO', hD9, hB⟩
  have hB_7 : Below w6.heap.size w6 w7 := (bl.next hB)
  have R0_7 := R0_6.next hB_7
  have cR0_7_0 : _ = some (Value.bool false) := R0_7.cell 0
  have fR0_7_0 := R0_7.free 0
  have cR0_7_1 : _ = some (Value.slice none 0 0) := R0_7.cell 1
  have fR0_7_1 := R0_7.free 1
  have cR0_7_2 : _ = some (Value.slice none 0 0) := R0_7.cell 2
  have fR0_7_2 := R0_7.free 2
  have V_7 := V_6.below hB_7
  have U1_7 := U1_6.below hB_7
  have TT_7 := TT_6.below hB_7
  have hbel_7 := hbel_6.next hB_7
  have hsz_7 := hB_7.size
  clear R0_6 cR0_6_0 fR0_6_0 cR0_6_1 fR0_6_1 cR0_6_2 fR0_6_2 V_6 U1_6 TT_6 hbel_6 hB_7
  have OQ_7 := hO
  have ltOQ := hO.ltB
  have OD_7 := hO'
  have ltOD := hO'.ltB
  clear hO hO'
  try clear hB
  go_wp2
  refine bodyPost_ret (v := .tuple #[.agg #[.bool (qsg q 0), .slice qa qn qc, .slice da dn dc], .int .i64 0]) (by simp [results, Try.results24, go_sem, cR0_7_0, cR0_7_1, cR0_7_2]) rfl ?_
  exact retqe_set (er := 0) OQ_7 OD_7 hD9 hbel_7 (by omega) (by omega)

set_option maxRecDepth 100000 in
set_option maxHeartbeats 4000000 in
theorem dpa1k0 {w : World} (s r D0 S1 : ByteArray) (b : Bool) (N : Nat) (hs : s.size ≤ 4096) (HC : Hid (∀ w, Calls Try.prog 96 #[.string s, .string ⟨#[45]⟩] w (RetCutP w r b)))
    (hrl : r.size ≤ 4096) (hN : N ≤ r.size) (HR : Hid (∀ w, Calls Try.prog 97 #[.string r] w (fun e w' => e = .returned (.int .i64 (N : Nat)) ∧ Below w.heap.size w w')))
    (hD0 : r.extract 0 N = D0) (hS1 : r.extract N r.size = S1) (hD0s : D0.size = N) (hS1s : S1.size + N = r.size)
    (HH : Hid (∀ w, Calls Try.prog 98 #[.string S1, .string ⟨#[46]⟩] w (RetS2 w true)))
    (U : ByteArray) (k : Nat) (h1S : 1 ≤ S1.size) (hU : S1.extract 1 S1.size = U) (hUs : U.size + 1 = S1.size) (hK : k ≤ U.size) (HU : Hid (∀ w, Calls Try.prog 97 #[.string U] w (fun e w' => e = .returned (.int .i64 (k : Nat)) ∧ Below w.heap.size w w')))
    (hk0 : k = 0) :
    Calls Try.prog 24 #[.string s] w (fun e w' => ∀ Q : Rat, RetQE w Q 22 e w') := by
  subst hk0
  have hent := ent1 w #[Value.bool false, Value.slice none 0 0, Value.slice none 0 0] 29
  go_enter Try.func24, Try.ntmps24
  go_wp2_with fail
  generalize (w.alloc (.cells #[Value.bool false, Value.slice none 0 0, Value.slice none 0 0] 29)) = W0 at hent ⊢
  obtain ⟨R0_0, hbel_0, hsz_0⟩ := hent
  have cR0_0_0 : _ = some (Value.bool false) := R0_0.cell 0
  have fR0_0_0 := R0_0.free 0
  have cR0_0_1 : _ = some (Value.slice none 0 0) := R0_0.cell 1
  have fR0_0_1 := R0_0.free 1
  have cR0_0_2 : _ = some (Value.slice none 0 0) := R0_0.cell 2
  have fR0_0_2 := R0_0.free 2
  go_wp2_with fail
  refine (HC.out _).mono ?_
  rintro e wc ⟨rfl, rfl⟩
  go_wp2_with fail
  refine (HR.out _).mono ?_
  rintro e w1 ⟨rfl, hB⟩
  have hB_1 : Below W0.heap.size W0 w1 := (bl.next hB)
  have R0_1 := R0_0.next hB_1
  have cR0_1_0 : _ = some (Value.bool false) := R0_1.cell 0
  have fR0_1_0 := R0_1.free 0
  have cR0_1_1 : _ = some (Value.slice none 0 0) := R0_1.cell 1
  have fR0_1_1 := R0_1.free 1
  have cR0_1_2 : _ = some (Value.slice none 0 0) := R0_1.cell 2
  have fR0_1_2 := R0_1.free 2
  have hbel_1 := hbel_0.next hB_1
  have hsz_1 := hB_1.size
  clear R0_0 cR0_0_0 fR0_0_0 cR0_0_1 fR0_0_1 cR0_0_2 fR0_0_2 hbel_0 hB_1
  try clear hB
  go_wp2_with fail
  go_quiet (fail)
  have hB_2 : Below w1.heap.size w1 (w1.drewN nq) := (show Below w1.heap.size w1 (w1.drewN nq) from ⟨rfl, rfl, rfl, Nat.le_refl _, fun _ _ => rfl⟩)
  have R0_2 := R0_1.next hB_2
  have cR0_2_0 : _ = some (Value.bool false) := R0_2.cell 0
  have fR0_2_0 := R0_2.free 0
  have cR0_2_1 : _ = some (Value.slice none 0 0) := R0_2.cell 1
  have fR0_2_1 := R0_2.free 1
  have cR0_2_2 : _ = some (Value.slice none 0 0) := R0_2.cell 2
  have fR0_2_2 := R0_2.free 2
  have hbel_2 := hbel_1.next hB_2
  have hsz_2 := hB_2.size
  clear R0_1 cR0_1_0 fR0_1_0 cR0_1_1 fR0_1_1 cR0_1_2 fR0_1_2 hbel_1 hB_2
  generalize (w1.drewN nq) = va at *
  go_wp2_with fail
  refine (HH.out _).mono ?_
  rintro e wc ⟨rfl, rfl⟩
  go_wp2_with fail
  refine (HU.out _).mono ?_
  rintro e w3 ⟨rfl, hB⟩
  have hB_3 : Below va.heap.size va w3 := (bl.next hB)
  have R0_3 := R0_2.next hB_3
  have cR0_3_0 : _ = some (Value.bool false) := R0_3.cell 0
  have fR0_3_0 := R0_3.free 0
  have cR0_3_1 : _ = some (Value.slice none 0 0) := R0_3.cell 1
  have fR0_3_1 := R0_3.free 1
  have cR0_3_2 : _ = some (Value.slice none 0 0) := R0_3.cell 2
  have fR0_3_2 := R0_3.free 2
  have hbel_3 := hbel_2.next hB_3
  have hsz_3 := hB_3.size
  clear R0_2 cR0_2_0 fR0_2_0 cR0_2_1 fR0_2_1 cR0_2_2 fR0_2_2 hbel_2 hB_3
  try clear hB
  go_wp2
  refine bodyPost_ret (v := .tuple #[.agg #[.bool false, .slice none 0 0, .slice none 0 0], .int .i64 22]) (by simp [results, Try.results24, go_sem, cR0_3_0, cR0_3_1, cR0_3_2]) rfl ?_
  exact fun Q => retqe_nil (by decide) hbel_3 (by omega)

set_option maxRecDepth 100000 in
set_option maxHeartbeats 4000000 in
theorem dpa1n0 {w : World} (s r D0 S1 : ByteArray) (b : Bool) (N : Nat) (hs : s.size ≤ 4096) (HC : Hid (∀ w, Calls Try.prog 96 #[.string s, .string ⟨#[45]⟩] w (RetCutP w r b)))
    (hrl : r.size ≤ 4096) (hN : N ≤ r.size) (HR : Hid (∀ w, Calls Try.prog 97 #[.string r] w (fun e w' => e = .returned (.int .i64 (N : Nat)) ∧ Below w.heap.size w w')))
    (hD0 : r.extract 0 N = D0) (hS1 : r.extract N r.size = S1) (hD0s : D0.size = N) (hS1s : S1.size + N = r.size)
    (HH : Hid (∀ w, Calls Try.prog 98 #[.string S1, .string ⟨#[46]⟩] w (RetS2 w true)))
    (U : ByteArray) (k : Nat) (h1S : 1 ≤ S1.size) (hU : S1.extract 1 S1.size = U) (hUs : U.size + 1 = S1.size) (hK : k ≤ U.size) (HU : Hid (∀ w, Calls Try.prog 97 #[.string U] w (fun e w' => e = .returned (.int .i64 (k : Nat)) ∧ Below w.heap.size w w')))
    (hk0 : 1 ≤ k) (B9 D S : ByteArray) (hB9 : S1.extract 1 (k + 1) = B9) (hD : D0 ++ B9 = D) (hS : S1.extract (k + 1) S1.size = S) (hDs : D.size = N + k) (hSs : S.size ≤ S1.size) (hB9s : B9.size = k)
    (ev : Int) (eb : Bool) (HE : Hid (∀ w, Calls Try.prog 99 #[.string S] w (fun e w' => e = .returned (.tuple #[.int .i64 ev, .bool eb]) ∧ Below w.heap.size w w')))
    (hn0 : N = 0) :
    Calls Try.prog 24 #[.string s] w (fun e w' => ∀ Q : Rat, RetQE w Q 22 e w') := by
  subst hn0
  have hk9 : k + 1 ≤ S1.size := by omega
  have hk10 : (k : Int) + 1 ≤ (S1.size : Int) := by omega
  have hk11 : (1 : Int) ≤ (k : Int) + 1 := by omega
  have hk12 : k ≤ 4096 := by omega
  have hk13 : S1.size ≤ 4096 := by omega
  have hk14 : IntKind.i64.wrap ((k : Int) + 1) = ((k + 1 : Nat) : Int) := by rw [IntKind.wrap_i64]; omega
  have hent := ent1 w #[Value.bool false, Value.slice none 0 0, Value.slice none 0 0] 29
  go_enter Try.func24, Try.ntmps24
  go_wp2_with fail
  generalize (w.alloc (.cells #[Value.bool false, Value.slice none 0 0, Value.slice none 0 0] 29)) = W0 at hent ⊢
  obtain ⟨R0_0, hbel_0, hsz_0⟩ := hent
  have cR0_0_0 : _ = some (Value.bool false) := R0_0.cell 0
  have fR0_0_0 := R0_0.free 0
  have cR0_0_1 : _ = some (Value.slice none 0 0) := R0_0.cell 1
  have fR0_0_1 := R0_0.free 1
  have cR0_0_2 : _ = some (Value.slice none 0 0) := R0_0.cell 2
  have fR0_0_2 := R0_0.free 2
  go_wp2_with fail
  refine (HC.out _).mono ?_
  rintro e wc ⟨rfl, rfl⟩
  go_wp2_with fail
  refine (HR.out _).mono ?_
  rintro e w1 ⟨rfl, hB⟩
  have hB_1 : Below W0.heap.size W0 w1 := (bl.next hB)
  have R0_1 := R0_0.next hB_1
  have cR0_1_0 : _ = some (Value.bool false) := R0_1.cell 0
  have fR0_1_0 := R0_1.free 0
  have cR0_1_1 : _ = some (Value.slice none 0 0) := R0_1.cell 1
  have fR0_1_1 := R0_1.free 1
  have cR0_1_2 : _ = some (Value.slice none 0 0) := R0_1.cell 2
  have fR0_1_2 := R0_1.free 2
  have hbel_1 := hbel_0.next hB_1
  have hsz_1 := hB_1.size
  clear R0_0 cR0_0_0 fR0_0_0 cR0_0_1 fR0_0_1 cR0_0_2 fR0_0_2 hbel_0 hB_1
  try clear hB
  go_wp2_with fail
  go_quiet (fail)
  have hB_2 : Below w1.heap.size w1 (w1.drewN nq) := (show Below w1.heap.size w1 (w1.drewN nq) from ⟨rfl, rfl, rfl, Nat.le_refl _, fun _ _ => rfl⟩)
  have R0_2 := R0_1.next hB_2
  have cR0_2_0 : _ = some (Value.bool false) := R0_2.cell 0
  have fR0_2_0 := R0_2.free 0
  have cR0_2_1 : _ = some (Value.slice none 0 0) := R0_2.cell 1
  have fR0_2_1 := R0_2.free 1
  have cR0_2_2 : _ = some (Value.slice none 0 0) := R0_2.cell 2
  have fR0_2_2 := R0_2.free 2
  have hbel_2 := hbel_1.next hB_2
  have hsz_2 := hB_2.size
  clear R0_1 cR0_1_0 fR0_1_0 cR0_1_1 fR0_1_1 cR0_1_2 fR0_1_2 hbel_1 hB_2
  generalize (w1.drewN nq) = va at *
  go_wp2_with fail
  refine (HH.out _).mono ?_
  rintro e wc ⟨rfl, rfl⟩
  go_wp2_with fail
  refine (HU.out _).mono ?_
  rintro e w3 ⟨rfl, hB⟩
  have hB_3 : Below va.heap.size va w3 := (bl.next hB)
  have R0_3 := R0_2.next hB_3
  have cR0_3_0 : _ = some (Value.bool false) := R0_3.cell 0
  have fR0_3_0 := R0_3.free 0
  have cR0_3_1 : _ = some (Value.slice none 0 0) := R0_3.cell 1
  have fR0_3_1 := R0_3.free 1
  have cR0_3_2 : _ = some (Value.slice none 0 0) := R0_3.cell 2
  have fR0_3_2 := R0_3.free 2
  have hbel_3 := hbel_2.next hB_3
  have hsz_3 := hB_3.size
  clear R0_2 cR0_2_0 fR0_2_0 cR0_2_1 fR0_2_1 cR0_2_2 fR0_2_2 hbel_2 hB_3
  try clear hB
  go_wp2_with fail
  go_quiet (fail)
  have hB_4 : Below w3.heap.size w3 (w3.drewN nq) := (show Below w3.heap.size w3 (w3.drewN nq) from ⟨rfl, rfl, rfl, Nat.le_refl _, fun _ _ => rfl⟩)
  have R0_4 := R0_3.next hB_4
  have cR0_4_0 : _ = some (Value.bool false) := R0_4.cell 0
  have fR0_4_0 := R0_4.free 0
  have cR0_4_1 : _ = some (Value.slice none 0 0) := R0_4.cell 1
  have fR0_4_1 := R0_4.free 1
  have cR0_4_2 : _ = some (Value.slice none 0 0) := R0_4.cell 2
  have fR0_4_2 := R0_4.free 2
  have hbel_4 := hbel_3.next hB_4
  have hsz_4 := hB_4.size
  clear R0_3 cR0_3_0 fR0_3_0 cR0_3_1 fR0_3_1 cR0_3_2 fR0_3_2 hbel_3 hB_4
  generalize (w3.drewN nq) = vb at *
  go_wp2_with fail
  refine (HE.out _).mono ?_
  rintro e w5 ⟨rfl, hB⟩
  have hB_5 : Below vb.heap.size vb w5 := (bl.next hB)
  have R0_5 := R0_4.next hB_5
  have cR0_5_0 : _ = some (Value.bool false) := R0_5.cell 0
  have fR0_5_0 := R0_5.free 0
  have cR0_5_1 : _ = some (Value.slice none 0 0) := R0_5.cell 1
  have fR0_5_1 := R0_5.free 1
  have cR0_5_2 : _ = some (Value.slice none 0 0) := R0_5.cell 2
  have fR0_5_2 := R0_5.free 2
  have hbel_5 := hbel_4.next hB_5
  have hsz_5 := hB_5.size
  clear R0_4 cR0_4_0 fR0_4_0 cR0_4_1 fR0_4_1 cR0_4_2 fR0_4_2 hbel_4 hB_5
  try clear hB
  go_wp2
  refine bodyPost_ret (v := .tuple #[.agg #[.bool false, .slice none 0 0, .slice none 0 0], .int .i64 22]) (by simp [results, Try.results24, go_sem, cR0_5_0, cR0_5_1, cR0_5_2]) rfl ?_
  exact fun Q => retqe_nil (by decide) hbel_5 (by omega)

set_option maxRecDepth 100000 in
set_option maxHeartbeats 4000000 in
theorem dpa1eb {w : World} (s r D0 S1 : ByteArray) (b : Bool) (N : Nat) (hs : s.size ≤ 4096) (HC : Hid (∀ w, Calls Try.prog 96 #[.string s, .string ⟨#[45]⟩] w (RetCutP w r b)))
    (hrl : r.size ≤ 4096) (hN : N ≤ r.size) (HR : Hid (∀ w, Calls Try.prog 97 #[.string r] w (fun e w' => e = .returned (.int .i64 (N : Nat)) ∧ Below w.heap.size w w')))
    (hD0 : r.extract 0 N = D0) (hS1 : r.extract N r.size = S1) (hD0s : D0.size = N) (hS1s : S1.size + N = r.size)
    (HH : Hid (∀ w, Calls Try.prog 98 #[.string S1, .string ⟨#[46]⟩] w (RetS2 w true)))
    (U : ByteArray) (k : Nat) (h1S : 1 ≤ S1.size) (hU : S1.extract 1 S1.size = U) (hUs : U.size + 1 = S1.size) (hK : k ≤ U.size) (HU : Hid (∀ w, Calls Try.prog 97 #[.string U] w (fun e w' => e = .returned (.int .i64 (k : Nat)) ∧ Below w.heap.size w w')))
    (hk0 : 1 ≤ k) (B9 D S : ByteArray) (hB9 : S1.extract 1 (k + 1) = B9) (hD : D0 ++ B9 = D) (hS : S1.extract (k + 1) S1.size = S) (hDs : D.size = N + k) (hSs : S.size ≤ S1.size) (hB9s : B9.size = k)
    (ev : Int) (eb : Bool) (HE : Hid (∀ w, Calls Try.prog 99 #[.string S] w (fun e w' => e = .returned (.tuple #[.int .i64 ev, .bool eb]) ∧ Below w.heap.size w w')))
    (hn0 : 1 ≤ N)
    (heb : eb = false) :
    Calls Try.prog 24 #[.string s] w (fun e w' => ∀ Q : Rat, RetQE w Q 22 e w') := by
  subst heb
  have hk9 : k + 1 ≤ S1.size := by omega
  have hk10 : (k : Int) + 1 ≤ (S1.size : Int) := by omega
  have hk11 : (1 : Int) ≤ (k : Int) + 1 := by omega
  have hk12 : k ≤ 4096 := by omega
  have hk13 : S1.size ≤ 4096 := by omega
  have hk14 : IntKind.i64.wrap ((k : Int) + 1) = ((k + 1 : Nat) : Int) := by rw [IntKind.wrap_i64]; omega
  have hent := ent1 w #[Value.bool false, Value.slice none 0 0, Value.slice none 0 0] 29
  go_enter Try.func24, Try.ntmps24
  go_wp2_with fail
  generalize (w.alloc (.cells #[Value.bool false, Value.slice none 0 0, Value.slice none 0 0] 29)) = W0 at hent ⊢
  obtain ⟨R0_0, hbel_0, hsz_0⟩ := hent
  have cR0_0_0 : _ = some (Value.bool false) := R0_0.cell 0
  have fR0_0_0 := R0_0.free 0
  have cR0_0_1 : _ = some (Value.slice none 0 0) := R0_0.cell 1
  have fR0_0_1 := R0_0.free 1
  have cR0_0_2 : _ = some (Value.slice none 0 0) := R0_0.cell 2
  have fR0_0_2 := R0_0.free 2
  go_wp2_with fail
  refine (HC.out _).mono ?_
  rintro e wc ⟨rfl, rfl⟩
  go_wp2_with fail
  refine (HR.out _).mono ?_
  rintro e w1 ⟨rfl, hB⟩
  have hB_1 : Below W0.heap.size W0 w1 := (bl.next hB)
  have R0_1 := R0_0.next hB_1
  have cR0_1_0 : _ = some (Value.bool false) := R0_1.cell 0
  have fR0_1_0 := R0_1.free 0
  have cR0_1_1 : _ = some (Value.slice none 0 0) := R0_1.cell 1
  have fR0_1_1 := R0_1.free 1
  have cR0_1_2 : _ = some (Value.slice none 0 0) := R0_1.cell 2
  have fR0_1_2 := R0_1.free 2
  have hbel_1 := hbel_0.next hB_1
  have hsz_1 := hB_1.size
  clear R0_0 cR0_0_0 fR0_0_0 cR0_0_1 fR0_0_1 cR0_0_2 fR0_0_2 hbel_0 hB_1
  try clear hB
  go_wp2_with fail
  go_quiet (fail)
  have hB_2 : Below w1.heap.size w1 (w1.drewN nq) := (show Below w1.heap.size w1 (w1.drewN nq) from ⟨rfl, rfl, rfl, Nat.le_refl _, fun _ _ => rfl⟩)
  have R0_2 := R0_1.next hB_2
  have cR0_2_0 : _ = some (Value.bool false) := R0_2.cell 0
  have fR0_2_0 := R0_2.free 0
  have cR0_2_1 : _ = some (Value.slice none 0 0) := R0_2.cell 1
  have fR0_2_1 := R0_2.free 1
  have cR0_2_2 : _ = some (Value.slice none 0 0) := R0_2.cell 2
  have fR0_2_2 := R0_2.free 2
  have hbel_2 := hbel_1.next hB_2
  have hsz_2 := hB_2.size
  clear R0_1 cR0_1_0 fR0_1_0 cR0_1_1 fR0_1_1 cR0_1_2 fR0_1_2 hbel_1 hB_2
  generalize (w1.drewN nq) = va at *
  go_wp2_with fail
  refine (HH.out _).mono ?_
  rintro e wc ⟨rfl, rfl⟩
  go_wp2_with fail
  refine (HU.out _).mono ?_
  rintro e w3 ⟨rfl, hB⟩
  have hB_3 : Below va.heap.size va w3 := (bl.next hB)
  have R0_3 := R0_2.next hB_3
  have cR0_3_0 : _ = some (Value.bool false) := R0_3.cell 0
  have fR0_3_0 := R0_3.free 0
  have cR0_3_1 : _ = some (Value.slice none 0 0) := R0_3.cell 1
  have fR0_3_1 := R0_3.free 1
  have cR0_3_2 : _ = some (Value.slice none 0 0) := R0_3.cell 2
  have fR0_3_2 := R0_3.free 2
  have hbel_3 := hbel_2.next hB_3
  have hsz_3 := hB_3.size
  clear R0_2 cR0_2_0 fR0_2_0 cR0_2_1 fR0_2_1 cR0_2_2 fR0_2_2 hbel_2 hB_3
  try clear hB
  go_wp2_with fail
  go_quiet (fail)
  have hB_4 : Below w3.heap.size w3 (w3.drewN nq) := (show Below w3.heap.size w3 (w3.drewN nq) from ⟨rfl, rfl, rfl, Nat.le_refl _, fun _ _ => rfl⟩)
  have R0_4 := R0_3.next hB_4
  have cR0_4_0 : _ = some (Value.bool false) := R0_4.cell 0
  have fR0_4_0 := R0_4.free 0
  have cR0_4_1 : _ = some (Value.slice none 0 0) := R0_4.cell 1
  have fR0_4_1 := R0_4.free 1
  have cR0_4_2 : _ = some (Value.slice none 0 0) := R0_4.cell 2
  have fR0_4_2 := R0_4.free 2
  have hbel_4 := hbel_3.next hB_4
  have hsz_4 := hB_4.size
  clear R0_3 cR0_3_0 fR0_3_0 cR0_3_1 fR0_3_1 cR0_3_2 fR0_3_2 hbel_3 hB_4
  generalize (w3.drewN nq) = vb at *
  go_wp2_with fail
  refine (HE.out _).mono ?_
  rintro e w5 ⟨rfl, hB⟩
  have hB_5 : Below vb.heap.size vb w5 := (bl.next hB)
  have R0_5 := R0_4.next hB_5
  have cR0_5_0 : _ = some (Value.bool false) := R0_5.cell 0
  have fR0_5_0 := R0_5.free 0
  have cR0_5_1 : _ = some (Value.slice none 0 0) := R0_5.cell 1
  have fR0_5_1 := R0_5.free 1
  have cR0_5_2 : _ = some (Value.slice none 0 0) := R0_5.cell 2
  have fR0_5_2 := R0_5.free 2
  have hbel_5 := hbel_4.next hB_5
  have hsz_5 := hB_5.size
  clear R0_4 cR0_4_0 fR0_4_0 cR0_4_1 fR0_4_1 cR0_4_2 fR0_4_2 hbel_4 hB_5
  try clear hB
  go_wp2
  refine bodyPost_ret (v := .tuple #[.agg #[.bool false, .slice none 0 0, .slice none 0 0], .int .i64 22]) (by simp [results, Try.results24, go_sem, cR0_5_0, cR0_5_1, cR0_5_2]) rfl ?_
  exact fun Q => retqe_nil (by decide) hbel_5 (by omega)

set_option maxRecDepth 100000 in
set_option maxHeartbeats 4000000 in
theorem dpa1up {w : World} (s r D0 S1 : ByteArray) (b : Bool) (N : Nat) (hs : s.size ≤ 4096) (HC : Hid (∀ w, Calls Try.prog 96 #[.string s, .string ⟨#[45]⟩] w (RetCutP w r b)))
    (hrl : r.size ≤ 4096) (hN : N ≤ r.size) (HR : Hid (∀ w, Calls Try.prog 97 #[.string r] w (fun e w' => e = .returned (.int .i64 (N : Nat)) ∧ Below w.heap.size w w')))
    (hD0 : r.extract 0 N = D0) (hS1 : r.extract N r.size = S1) (hD0s : D0.size = N) (hS1s : S1.size + N = r.size)
    (HH : Hid (∀ w, Calls Try.prog 98 #[.string S1, .string ⟨#[46]⟩] w (RetS2 w true)))
    (U : ByteArray) (k : Nat) (h1S : 1 ≤ S1.size) (hU : S1.extract 1 S1.size = U) (hUs : U.size + 1 = S1.size) (hK : k ≤ U.size) (HU : Hid (∀ w, Calls Try.prog 97 #[.string U] w (fun e w' => e = .returned (.int .i64 (k : Nat)) ∧ Below w.heap.size w w')))
    (hk0 : 1 ≤ k) (B9 D S : ByteArray) (hB9 : S1.extract 1 (k + 1) = B9) (hD : D0 ++ B9 = D) (hS : S1.extract (k + 1) S1.size = S) (hDs : D.size = N + k) (hSs : S.size ≤ S1.size) (hB9s : B9.size = k)
    (ev : Int) (eb : Bool) (HE : Hid (∀ w, Calls Try.prog 99 #[.string S] w (fun e w' => e = .returned (.tuple #[.int .i64 ev, .bool eb]) ∧ Below w.heap.size w w')))
    (hn0 : 1 ≤ N)
    (heb : eb = true) (v : Nat) (HV : Hid (∀ w, Calls Try.prog 100 #[.string D] w (RetE w (lm v) 0))) (hsv : Hid (Sz v 4096)) (hev1 : -1000 ≤ ev) (hev2 : ev ≤ 1000)
    (E : Nat) (hE : ev - (k : Int) = (E : Int)) (q : Rat) (hq : Hid (Rat.divInt (zv b (v * 10 ^ E)) ((1 : Nat) : Int) = q)) :
    Calls Try.prog 24 #[.string s] w (RetQE w q 0) := by
  subst heb
  have hk9 : k + 1 ≤ S1.size := by omega
  have hk10 : (k : Int) + 1 ≤ (S1.size : Int) := by omega
  have hk11 : (1 : Int) ≤ (k : Int) + 1 := by omega
  have hk12 : k ≤ 4096 := by omega
  have hk13 : S1.size ≤ 4096 := by omega
  have hk14 : IntKind.i64.wrap ((k : Int) + 1) = ((k + 1 : Nat) : Int) := by rw [IntKind.wrap_i64]; omega
  obtain ⟨K4, hK4, hK5⟩ : ∃ K, 14000 ≤ K ∧ K ≤ 20000 := ⟨14000, by omega, by omega⟩
  have hsv0 := hsv.out
  have hEb : E ≤ 6000 := by omega
  have hsT := szTen E
  have HT := hid (fun w => dten (w := w) E (by omega))
  have hsM := hid ((hsv0.mul hsT).mono (Nat.le_refl _) (show 4096 + (E + 1) ≤ K4 by omega))
  have hsTh := hid (hsT.mono (Nat.le_refl _) (show E + 1 ≤ K4 by omega))
  have hsvh := hid (hsv0.mono (Nat.le_refl _) (show 4096 ≤ K4 by omega))
  clear hsT hsv0 hsv
  obtain ⟨T, hT⟩ : ∃ T, 10 ^ E = T := ⟨_, rfl⟩
  have hT0 := hid (show T ≠ 0 by rw [← hT]; exact Nat.pos_iff_ne_zero.1 (Nat.pow_pos (by decide)))
  rw [hT] at HT hsTh hq hsM
  clear hT
  have hent := ent1 w #[Value.bool false, Value.slice none 0 0, Value.slice none 0 0] 29
  go_enter Try.func24, Try.ntmps24
  go_wp2_with fail
  generalize (w.alloc (.cells #[Value.bool false, Value.slice none 0 0, Value.slice none 0 0] 29)) = W0 at hent ⊢
  obtain ⟨R0_0, hbel_0, hsz_0⟩ := hent
  have cR0_0_0 : _ = some (Value.bool false) := R0_0.cell 0
  have fR0_0_0 := R0_0.free 0
  have cR0_0_1 : _ = some (Value.slice none 0 0) := R0_0.cell 1
  have fR0_0_1 := R0_0.free 1
  have cR0_0_2 : _ = some (Value.slice none 0 0) := R0_0.cell 2
  have fR0_0_2 := R0_0.free 2
  go_wp2_with fail
  refine (HC.out _).mono ?_
  rintro e wc ⟨rfl, rfl⟩
  go_wp2_with fail
  refine (HR.out _).mono ?_
  rintro e w1 ⟨rfl, hB⟩
  have hB_1 : Below W0.heap.size W0 w1 := (bl.next hB)
  have R0_1 := R0_0.next hB_1
  have cR0_1_0 : _ = some (Value.bool false) := R0_1.cell 0
  have fR0_1_0 := R0_1.free 0
  have cR0_1_1 : _ = some (Value.slice none 0 0) := R0_1.cell 1
  have fR0_1_1 := R0_1.free 1
  have cR0_1_2 : _ = some (Value.slice none 0 0) := R0_1.cell 2
  have fR0_1_2 := R0_1.free 2
  have hbel_1 := hbel_0.next hB_1
  have hsz_1 := hB_1.size
  clear R0_0 cR0_0_0 fR0_0_0 cR0_0_1 fR0_0_1 cR0_0_2 fR0_0_2 hbel_0 hB_1
  try clear hB
  go_wp2_with fail
  go_quiet (fail)
  have hB_2 : Below w1.heap.size w1 (w1.drewN nq) := (show Below w1.heap.size w1 (w1.drewN nq) from ⟨rfl, rfl, rfl, Nat.le_refl _, fun _ _ => rfl⟩)
  have R0_2 := R0_1.next hB_2
  have cR0_2_0 : _ = some (Value.bool false) := R0_2.cell 0
  have fR0_2_0 := R0_2.free 0
  have cR0_2_1 : _ = some (Value.slice none 0 0) := R0_2.cell 1
  have fR0_2_1 := R0_2.free 1
  have cR0_2_2 : _ = some (Value.slice none 0 0) := R0_2.cell 2
  have fR0_2_2 := R0_2.free 2
  have hbel_2 := hbel_1.next hB_2
  have hsz_2 := hB_2.size
  clear R0_1 cR0_1_0 fR0_1_0 cR0_1_1 fR0_1_1 cR0_1_2 fR0_1_2 hbel_1 hB_2
  generalize (w1.drewN nq) = va at *
  go_wp2_with fail
  refine (HH.out _).mono ?_
  rintro e wc ⟨rfl, rfl⟩
  go_wp2_with fail
  refine (HU.out _).mono ?_
  rintro e w3 ⟨rfl, hB⟩
  have hB_3 : Below va.heap.size va w3 := (bl.next hB)
  have R0_3 := R0_2.next hB_3
  have cR0_3_0 : _ = some (Value.bool false) := R0_3.cell 0
  have fR0_3_0 := R0_3.free 0
  have cR0_3_1 : _ = some (Value.slice none 0 0) := R0_3.cell 1
  have fR0_3_1 := R0_3.free 1
  have cR0_3_2 : _ = some (Value.slice none 0 0) := R0_3.cell 2
  have fR0_3_2 := R0_3.free 2
  have hbel_3 := hbel_2.next hB_3
  have hsz_3 := hB_3.size
  clear R0_2 cR0_2_0 fR0_2_0 cR0_2_1 fR0_2_1 cR0_2_2 fR0_2_2 hbel_2 hB_3
  try clear hB
  go_wp2_with fail
  go_quiet (fail)
  have hB_4 : Below w3.heap.size w3 (w3.drewN nq) := (show Below w3.heap.size w3 (w3.drewN nq) from ⟨rfl, rfl, rfl, Nat.le_refl _, fun _ _ => rfl⟩)
  have R0_4 := R0_3.next hB_4
  have cR0_4_0 : _ = some (Value.bool false) := R0_4.cell 0
  have fR0_4_0 := R0_4.free 0
  have cR0_4_1 : _ = some (Value.slice none 0 0) := R0_4.cell 1
  have fR0_4_1 := R0_4.free 1
  have cR0_4_2 : _ = some (Value.slice none 0 0) := R0_4.cell 2
  have fR0_4_2 := R0_4.free 2
  have hbel_4 := hbel_3.next hB_4
  have hsz_4 := hB_4.size
  clear R0_3 cR0_3_0 fR0_3_0 cR0_3_1 fR0_3_1 cR0_3_2 fR0_3_2 hbel_3 hB_4
  generalize (w3.drewN nq) = vb at *
  go_wp2_with fail
  refine (HE.out _).mono ?_
  rintro e w5 ⟨rfl, hB⟩
  have hB_5 : Below vb.heap.size vb w5 := (bl.next hB)
  have R0_5 := R0_4.next hB_5
  have cR0_5_0 : _ = some (Value.bool false) := R0_5.cell 0
  have fR0_5_0 := R0_5.free 0
  have cR0_5_1 : _ = some (Value.slice none 0 0) := R0_5.cell 1
  have fR0_5_1 := R0_5.free 1
  have cR0_5_2 : _ = some (Value.slice none 0 0) := R0_5.cell 2
  have fR0_5_2 := R0_5.free 2
  have hbel_5 := hbel_4.next hB_5
  have hsz_5 := hB_5.size
  clear R0_4 cR0_4_0 fR0_4_0 cR0_4_1 fR0_4_1 cR0_4_2 fR0_4_2 hbel_4 hB_5
  try clear hB
  go_wp2_with fail
  refine (HV.out _).mono ?_
  rintro e w6 ⟨na, nn, nc, rfl, hO, hB⟩
  have hB_6 : Below w5.heap.size w5 w6 := (bl.next hB)
  have R0_6 := R0_5.next hB_6
  have cR0_6_0 : _ = some (Value.bool false) := R0_6.cell 0
  have fR0_6_0 := R0_6.free 0
  have cR0_6_1 : _ = some (Value.slice none 0 0) := R0_6.cell 1
  have fR0_6_1 := R0_6.free 1
  have cR0_6_2 : _ = some (Value.slice none 0 0) := R0_6.cell 2
  have fR0_6_2 := R0_6.free 2
  have hbel_6 := hbel_5.next hB_6
  have hsz_6 := hB_6.size
  clear R0_5 cR0_5_0 fR0_5_0 cR0_5_1 fR0_5_1 cR0_5_2 fR0_5_2 hbel_5 hB_6
  have V_6 := hO.rdN hsvh.out
  clear hO
  try clear hB
  go_wp2_with fail
  refine (of_any 1 (by omega) (by omega)).mono ?_
  rintro e w7 ⟨ua, un, uc, rfl, hO, hB⟩
  have hB_7 : Below w6.heap.size w6 w7 := (bl.next hB)
  have R0_7 := R0_6.next hB_7
  have cR0_7_0 : _ = some (Value.bool false) := R0_7.cell 0
  have fR0_7_0 := R0_7.free 0
  have cR0_7_1 : _ = some (Value.slice none 0 0) := R0_7.cell 1
  have fR0_7_1 := R0_7.free 1
  have cR0_7_2 : _ = some (Value.slice none 0 0) := R0_7.cell 2
  have fR0_7_2 := R0_7.free 2
  have V_7 := V_6.below hB_7
  have hbel_7 := hbel_6.next hB_7
  have hsz_7 := hB_7.size
  clear R0_6 cR0_6_0 fR0_6_0 cR0_6_1 fR0_6_1 cR0_6_2 fR0_6_2 V_6 hbel_6 hB_7
  have U1_7 := hO.rdN (v := 1) (k := 1) (sz_one (Nat.le_refl _))
  clear hO
  try clear hB
  go_wp2_with fail
  refine (HT.out _).mono ?_
  rintro e w8 ⟨ta, tn, tc, rfl, hO, hB⟩
  have hB_8 : Below w7.heap.size w7 w8 := (bl.next hB)
  have R0_8 := R0_7.next hB_8
  have cR0_8_0 : _ = some (Value.bool false) := R0_8.cell 0
  have fR0_8_0 := R0_8.free 0
  have cR0_8_1 : _ = some (Value.slice none 0 0) := R0_8.cell 1
  have fR0_8_1 := R0_8.free 1
  have cR0_8_2 : _ = some (Value.slice none 0 0) := R0_8.cell 2
  have fR0_8_2 := R0_8.free 2
  have V_8 := V_7.below hB_8
  have U1_8 := U1_7.below hB_8
  have hbel_8 := hbel_7.next hB_8
  have hsz_8 := hB_8.size
  clear R0_7 cR0_7_0 fR0_7_0 cR0_7_1 fR0_7_1 cR0_7_2 fR0_7_2 V_7 U1_7 hbel_7 hB_8
  have TT_8 := hO.rdN hsTh.out
  clear hO
  try clear hB
  go_wp2_with fail
  refine (nmulR V_8 TT_8 (by omega) (by omega)).mono ?_
  rintro e w9 ⟨ma, mn, mc, rfl, hO, hB⟩
  have hB_9 : Below w8.heap.size w8 w9 := (bl.next hB)
  have R0_9 := R0_8.next hB_9
  have cR0_9_0 : _ = some (Value.bool false) := R0_9.cell 0
  have fR0_9_0 := R0_9.free 0
  have cR0_9_1 : _ = some (Value.slice none 0 0) := R0_9.cell 1
  have fR0_9_1 := R0_9.free 1
  have cR0_9_2 : _ = some (Value.slice none 0 0) := R0_9.cell 2
  have fR0_9_2 := R0_9.free 2
  have V_9 := V_8.below hB_9
  have U1_9 := U1_8.below hB_9
  have TT_9 := TT_8.below hB_9
  have hbel_9 := hbel_8.next hB_9
  have hsz_9 := hB_9.size
  clear R0_8 cR0_8_0 fR0_8_0 cR0_8_1 fR0_8_1 cR0_8_2 fR0_8_2 V_8 U1_8 TT_8 hbel_8 hB_9
  have M_9 := hO.rdN hsM.out
  clear hO
  try clear hB
  go_wp2_with fail
  refine (qnew ((M_9.mono (by omega)).toZ (s := b)) ((U1_9.mono (by omega)).toI)).mono ?_
  rw [hq.out, zE_pos (show ((1 : Nat) : Int) ≠ 0 by decide)]
  rintro e w10 ⟨qa, qn, qc, da, dn, dc, rfl, hO, hO', hD9, hB⟩
  have hB_10 : Below w9.heap.size w9 w10 := (bl.next hB)
  have R0_10 := R0_9.next hB_10
  have cR0_10_0 : _ = some (Value.bool false) := R0_10.cell 0
  have fR0_10_0 := R0_10.free 0
  have cR0_10_1 : _ = some (Value.slice none 0 0) := R0_10.cell 1
  have fR0_10_1 := R0_10.free 1
  have cR0_10_2 : _ = some (Value.slice none 0 0) := R0_10.cell 2
  have fR0_10_2 := R0_10.free 2
  have V_10 := V_9.below hB_10
  have U1_10 := U1_9.below hB_10
  have TT_10 := TT_9.below hB_10
  have M_10 := M_9.below hB_10
  have hbel_10 := hbel_9.next hB_10
  have hsz_10 := hB_10.size
  clear R0_9 cR0_9_0 fR0_9_0 cR0_9_1 fR0_9_1 cR0_9_2 fR0_9_2 V_9 U1_9 TT_9 M_9 hbel_9 hB_10
  have OQ_10 := hO
  have ltOQ := hO.ltB
  have OD_10 := hO'
  have ltOD := hO'.ltB
  clear hO hO'
  try clear hB
  go_wp2
  refine bodyPost_ret (v := .tuple #[.agg #[.bool (qsg q 0), .slice qa qn qc, .slice da dn dc], .int .i64 0]) (by simp [results, Try.results24, go_sem, cR0_10_0, cR0_10_1, cR0_10_2]) rfl ?_
  exact retqe_set (er := 0) OQ_10 OD_10 hD9 hbel_10 (by omega) (by omega)

set_option maxRecDepth 100000 in
set_option maxHeartbeats 4000000 in
theorem dpa1dn {w : World} (s r D0 S1 : ByteArray) (b : Bool) (N : Nat) (hs : s.size ≤ 4096) (HC : Hid (∀ w, Calls Try.prog 96 #[.string s, .string ⟨#[45]⟩] w (RetCutP w r b)))
    (hrl : r.size ≤ 4096) (hN : N ≤ r.size) (HR : Hid (∀ w, Calls Try.prog 97 #[.string r] w (fun e w' => e = .returned (.int .i64 (N : Nat)) ∧ Below w.heap.size w w')))
    (hD0 : r.extract 0 N = D0) (hS1 : r.extract N r.size = S1) (hD0s : D0.size = N) (hS1s : S1.size + N = r.size)
    (HH : Hid (∀ w, Calls Try.prog 98 #[.string S1, .string ⟨#[46]⟩] w (RetS2 w true)))
    (U : ByteArray) (k : Nat) (h1S : 1 ≤ S1.size) (hU : S1.extract 1 S1.size = U) (hUs : U.size + 1 = S1.size) (hK : k ≤ U.size) (HU : Hid (∀ w, Calls Try.prog 97 #[.string U] w (fun e w' => e = .returned (.int .i64 (k : Nat)) ∧ Below w.heap.size w w')))
    (hk0 : 1 ≤ k) (B9 D S : ByteArray) (hB9 : S1.extract 1 (k + 1) = B9) (hD : D0 ++ B9 = D) (hS : S1.extract (k + 1) S1.size = S) (hDs : D.size = N + k) (hSs : S.size ≤ S1.size) (hB9s : B9.size = k)
    (ev : Int) (eb : Bool) (HE : Hid (∀ w, Calls Try.prog 99 #[.string S] w (fun e w' => e = .returned (.tuple #[.int .i64 ev, .bool eb]) ∧ Below w.heap.size w w')))
    (hn0 : 1 ≤ N)
    (heb : eb = true) (v : Nat) (HV : Hid (∀ w, Calls Try.prog 100 #[.string D] w (RetE w (lm v) 0))) (hsv : Hid (Sz v 4096)) (hev1 : -1000 ≤ ev) (hev2 : ev ≤ 1000)
    (E : Nat) (hE : ev - (k : Int) = -(E : Int)) (hE1 : 1 ≤ E) (q : Rat) (hq : Hid (Rat.divInt (zv b v) ((10 ^ E : Nat) : Int) = q)) :
    Calls Try.prog 24 #[.string s] w (RetQE w q 0) := by
  subst heb
  have hk9 : k + 1 ≤ S1.size := by omega
  have hk10 : (k : Int) + 1 ≤ (S1.size : Int) := by omega
  have hk11 : (1 : Int) ≤ (k : Int) + 1 := by omega
  have hk12 : k ≤ 4096 := by omega
  have hk13 : S1.size ≤ 4096 := by omega
  have hk14 : IntKind.i64.wrap ((k : Int) + 1) = ((k + 1 : Nat) : Int) := by rw [IntKind.wrap_i64]; omega
  obtain ⟨K4, hK4, hK5⟩ : ∃ K, 14000 ≤ K ∧ K ≤ 20000 := ⟨14000, by omega, by omega⟩
  have hsv0 := hsv.out
  have hEb : E ≤ 6000 := by omega
  have hsT := szTen E
  have HT := hid (fun w => dten (w := w) E (by omega))
  have hsTh := hid (hsT.mono (Nat.le_refl _) (show E + 1 ≤ K4 by omega))
  have hsvh := hid (hsv0.mono (Nat.le_refl _) (show 4096 ≤ K4 by omega))
  clear hsT hsv0 hsv
  obtain ⟨T, hT⟩ : ∃ T, 10 ^ E = T := ⟨_, rfl⟩
  have hT0 := hid (show T ≠ 0 by rw [← hT]; exact Nat.pos_iff_ne_zero.1 (Nat.pow_pos (by decide)))
  rw [hT] at HT hsTh hq
  clear hT
  have hent := ent1 w #[Value.bool false, Value.slice none 0 0, Value.slice none 0 0] 29
  go_enter Try.func24, Try.ntmps24
  go_wp2_with fail
  generalize (w.alloc (.cells #[Value.bool false, Value.slice none 0 0, Value.slice none 0 0] 29)) = W0 at hent ⊢
  obtain ⟨R0_0, hbel_0, hsz_0⟩ := hent
  have cR0_0_0 : _ = some (Value.bool false) := R0_0.cell 0
  have fR0_0_0 := R0_0.free 0
  have cR0_0_1 : _ = some (Value.slice none 0 0) := R0_0.cell 1
  have fR0_0_1 := R0_0.free 1
  have cR0_0_2 : _ = some (Value.slice none 0 0) := R0_0.cell 2
  have fR0_0_2 := R0_0.free 2
  go_wp2_with fail
  refine (HC.out _).mono ?_
  rintro e wc ⟨rfl, rfl⟩
  go_wp2_with fail
  refine (HR.out _).mono ?_
  rintro e w1 ⟨rfl, hB⟩
  have hB_1 : Below W0.heap.size W0 w1 := (bl.next hB)
  have R0_1 := R0_0.next hB_1
  have cR0_1_0 : _ = some (Value.bool false) := R0_1.cell 0
  have fR0_1_0 := R0_1.free 0
  have cR0_1_1 : _ = some (Value.slice none 0 0) := R0_1.cell 1
  have fR0_1_1 := R0_1.free 1
  have cR0_1_2 : _ = some (Value.slice none 0 0) := R0_1.cell 2
  have fR0_1_2 := R0_1.free 2
  have hbel_1 := hbel_0.next hB_1
  have hsz_1 := hB_1.size
  clear R0_0 cR0_0_0 fR0_0_0 cR0_0_1 fR0_0_1 cR0_0_2 fR0_0_2 hbel_0 hB_1
  try clear hB
  go_wp2_with fail
  go_quiet (fail)
  have hB_2 : Below w1.heap.size w1 (w1.drewN nq) := (show Below w1.heap.size w1 (w1.drewN nq) from ⟨rfl, rfl, rfl, Nat.le_refl _, fun _ _ => rfl⟩)
  have R0_2 := R0_1.next hB_2
  have cR0_2_0 : _ = some (Value.bool false) := R0_2.cell 0
  have fR0_2_0 := R0_2.free 0
  have cR0_2_1 : _ = some (Value.slice none 0 0) := R0_2.cell 1
  have fR0_2_1 := R0_2.free 1
  have cR0_2_2 : _ = some (Value.slice none 0 0) := R0_2.cell 2
  have fR0_2_2 := R0_2.free 2
  have hbel_2 := hbel_1.next hB_2
  have hsz_2 := hB_2.size
  clear R0_1 cR0_1_0 fR0_1_0 cR0_1_1 fR0_1_1 cR0_1_2 fR0_1_2 hbel_1 hB_2
  generalize (w1.drewN nq) = va at *
  go_wp2_with fail
  refine (HH.out _).mono ?_
  rintro e wc ⟨rfl, rfl⟩
  go_wp2_with fail
  refine (HU.out _).mono ?_
  rintro e w3 ⟨rfl, hB⟩
  have hB_3 : Below va.heap.size va w3 := (bl.next hB)
  have R0_3 := R0_2.next hB_3
  have cR0_3_0 : _ = some (Value.bool false) := R0_3.cell 0
  have fR0_3_0 := R0_3.free 0
  have cR0_3_1 : _ = some (Value.slice none 0 0) := R0_3.cell 1
  have fR0_3_1 := R0_3.free 1
  have cR0_3_2 : _ = some (Value.slice none 0 0) := R0_3.cell 2
  have fR0_3_2 := R0_3.free 2
  have hbel_3 := hbel_2.next hB_3
  have hsz_3 := hB_3.size
  clear R0_2 cR0_2_0 fR0_2_0 cR0_2_1 fR0_2_1 cR0_2_2 fR0_2_2 hbel_2 hB_3
  try clear hB
  go_wp2_with fail
  go_quiet (fail)
  have hB_4 : Below w3.heap.size w3 (w3.drewN nq) := (show Below w3.heap.size w3 (w3.drewN nq) from ⟨rfl, rfl, rfl, Nat.le_refl _, fun _ _ => rfl⟩)
  have R0_4 := R0_3.next hB_4
  have cR0_4_0 : _ = some (Value.bool false) := R0_4.cell 0
  have fR0_4_0 := R0_4.free 0
  have cR0_4_1 : _ = some (Value.slice none 0 0) := R0_4.cell 1
  have fR0_4_1 := R0_4.free 1
  have cR0_4_2 : _ = some (Value.slice none 0 0) := R0_4.cell 2
  have fR0_4_2 := R0_4.free 2
  have hbel_4 := hbel_3.next hB_4
  have hsz_4 := hB_4.size
  clear R0_3 cR0_3_0 fR0_3_0 cR0_3_1 fR0_3_1 cR0_3_2 fR0_3_2 hbel_3 hB_4
  generalize (w3.drewN nq) = vb at *
  go_wp2_with fail
  refine (HE.out _).mono ?_
  rintro e w5 ⟨rfl, hB⟩
  have hB_5 : Below vb.heap.size vb w5 := (bl.next hB)
  have R0_5 := R0_4.next hB_5
  have cR0_5_0 : _ = some (Value.bool false) := R0_5.cell 0
  have fR0_5_0 := R0_5.free 0
  have cR0_5_1 : _ = some (Value.slice none 0 0) := R0_5.cell 1
  have fR0_5_1 := R0_5.free 1
  have cR0_5_2 : _ = some (Value.slice none 0 0) := R0_5.cell 2
  have fR0_5_2 := R0_5.free 2
  have hbel_5 := hbel_4.next hB_5
  have hsz_5 := hB_5.size
  clear R0_4 cR0_4_0 fR0_4_0 cR0_4_1 fR0_4_1 cR0_4_2 fR0_4_2 hbel_4 hB_5
  try clear hB
  go_wp2_with fail
  refine (HV.out _).mono ?_
  rintro e w6 ⟨na, nn, nc, rfl, hO, hB⟩
  have hB_6 : Below w5.heap.size w5 w6 := (bl.next hB)
  have R0_6 := R0_5.next hB_6
  have cR0_6_0 : _ = some (Value.bool false) := R0_6.cell 0
  have fR0_6_0 := R0_6.free 0
  have cR0_6_1 : _ = some (Value.slice none 0 0) := R0_6.cell 1
  have fR0_6_1 := R0_6.free 1
  have cR0_6_2 : _ = some (Value.slice none 0 0) := R0_6.cell 2
  have fR0_6_2 := R0_6.free 2
  have hbel_6 := hbel_5.next hB_6
  have hsz_6 := hB_6.size
  clear R0_5 cR0_5_0 fR0_5_0 cR0_5_1 fR0_5_1 cR0_5_2 fR0_5_2 hbel_5 hB_6
  have V_6 := hO.rdN hsvh.out
  clear hO
  try clear hB
  go_wp2_with fail
  refine (of_any 1 (by omega) (by omega)).mono ?_
  rintro e w7 ⟨ua, un, uc, rfl, hO, hB⟩
  have hB_7 : Below w6.heap.size w6 w7 := (bl.next hB)
  have R0_7 := R0_6.next hB_7
  have cR0_7_0 : _ = some (Value.bool false) := R0_7.cell 0
  have fR0_7_0 := R0_7.free 0
  have cR0_7_1 : _ = some (Value.slice none 0 0) := R0_7.cell 1
  have fR0_7_1 := R0_7.free 1
  have cR0_7_2 : _ = some (Value.slice none 0 0) := R0_7.cell 2
  have fR0_7_2 := R0_7.free 2
  have V_7 := V_6.below hB_7
  have hbel_7 := hbel_6.next hB_7
  have hsz_7 := hB_7.size
  clear R0_6 cR0_6_0 fR0_6_0 cR0_6_1 fR0_6_1 cR0_6_2 fR0_6_2 V_6 hbel_6 hB_7
  have U1_7 := hO.rdN (v := 1) (k := 1) (sz_one (Nat.le_refl _))
  clear hO
  try clear hB
  go_wp2_with fail
  refine (HT.out _).mono ?_
  rintro e w8 ⟨ta, tn, tc, rfl, hO, hB⟩
  have hB_8 : Below w7.heap.size w7 w8 := (bl.next hB)
  have R0_8 := R0_7.next hB_8
  have cR0_8_0 : _ = some (Value.bool false) := R0_8.cell 0
  have fR0_8_0 := R0_8.free 0
  have cR0_8_1 : _ = some (Value.slice none 0 0) := R0_8.cell 1
  have fR0_8_1 := R0_8.free 1
  have cR0_8_2 : _ = some (Value.slice none 0 0) := R0_8.cell 2
  have fR0_8_2 := R0_8.free 2
  have V_8 := V_7.below hB_8
  have U1_8 := U1_7.below hB_8
  have hbel_8 := hbel_7.next hB_8
  have hsz_8 := hB_8.size
  clear R0_7 cR0_7_0 fR0_7_0 cR0_7_1 fR0_7_1 cR0_7_2 fR0_7_2 V_7 U1_7 hbel_7 hB_8
  have TT_8 := hO.rdN hsTh.out
  clear hO
  try clear hB
  go_wp2_with fail
  refine (qnew ((V_8.mono (by omega)).toZ (s := b)) ((TT_8.mono (by omega)).toI)).mono ?_
  rw [hq.out, zE_pos (show ((T : Nat) : Int) ≠ 0 by have := hT0.out; omega)]
  rintro e w9 ⟨qa, qn, qc, da, dn, dc, rfl, hO, hO', hD9, hB⟩
  have hB_9 : Below w8.heap.size w8 w9 := (bl.next hB)
  have R0_9 := R0_8.next hB_9
  have cR0_9_0 : _ = some (Value.bool false) := R0_9.cell 0
  have fR0_9_0 := R0_9.free 0
  have cR0_9_1 : _ = some (Value.slice none 0 0) := R0_9.cell 1
  have fR0_9_1 := R0_9.free 1
  have cR0_9_2 : _ = some (Value.slice none 0 0) := R0_9.cell 2
  have fR0_9_2 := R0_9.free 2
  have V_9 := V_8.below hB_9
  have U1_9 := U1_8.below hB_9
  have TT_9 := TT_8.below hB_9
  have hbel_9 := hbel_8.next hB_9
  have hsz_9 := hB_9.size
  clear R0_8 cR0_8_0 fR0_8_0 cR0_8_1 fR0_8_1 cR0_8_2 fR0_8_2 V_8 U1_8 TT_8 hbel_8 hB_9
  have OQ_9 := hO
  have ltOQ := hO.ltB
  have OD_9 := hO'
  have ltOD := hO'.ltB
  clear hO hO'
  try clear hB
  go_wp2
  refine bodyPost_ret (v := .tuple #[.agg #[.bool (qsg q 0), .slice qa qn qc, .slice da dn dc], .int .i64 0]) (by simp [results, Try.results24, go_sem, cR0_9_0, cR0_9_1, cR0_9_2]) rfl ?_
  exact retqe_set (er := 0) OQ_9 OD_9 hD9 hbel_9 (by omega) (by omega)

theorem dcV_up {b : Bool} {D : List Nat} {e : Int} {E : Nat} (h : e = (E : Int)) : Rat.divInt (zv b (numD D * 10 ^ E)) ((1 : Nat) : Int) = dcV (b, D, e) := by
  unfold dcV
  simp only
  rw [if_pos (by omega), Rat.divInt_ofNat, show e.toNat = E by omega]
theorem dcV_dn {b : Bool} {D : List Nat} {e : Int} {E : Nat} (h : e = -(E : Int)) (hE : 1 ≤ E) : Rat.divInt (zv b (numD D)) ((10 ^ E : Nat) : Int) = dcV (b, D, e) := by
  unfold dcV
  simp only
  rw [if_neg (by omega), Rat.divInt_ofNat, show (-e).toNat = E by omega]
theorem dparse {w : World} (s : ByteArray) (hs : s.size ≤ 4096) : Calls Try.prog 24 #[.string s] w (RetQE w (dcQ (by' s)) (dcE (by' s))) := by
  have hrs := pzR_size s
  have HC := hid (fun w => cutp_any (w := w) s (Nat.le_trans hs (by simp [maxLen])))
  have hPo := fun o => dcP_of (s := s) (o := o)
  obtain ⟨r, hr⟩ : ∃ r, pzR s = r := ⟨_, rfl⟩
  obtain ⟨b, hb⟩ : ∃ b, pzB s = b := ⟨_, rfl⟩
  rw [hr, hb] at HC
  rw [hr] at hrs
  rw [hr, hb] at hPo
  clear hr hb
  have hrl : r.size ≤ 4096 := by omega
  have hN := dgw_by (s := r)
  have HR := hid (fun w => run_any (w := w) r (by omega))
  have hbD := be_take r (dgw (by' r))
  have hbS := be_drop r (dgw (by' r))
  rw [dgA_take] at hbD
  rw [dgB_drop] at hbS
  have hN0 : dgA (by' r) = [] ↔ dgw (by' r) = 0 := by unfold dgw; exact List.length_eq_zero_iff.symm
  have hoA := okD_dgA (by' r)
  obtain ⟨N, hNe⟩ : ∃ N, dgw (by' r) = N := ⟨_, rfl⟩
  rw [hNe] at hN HR hbD hbS hN0
  obtain ⟨D0, hD0⟩ : ∃ D, r.extract 0 N = D := ⟨_, rfl⟩
  obtain ⟨S1, hS1⟩ : ∃ S, r.extract N r.size = S := ⟨_, rfl⟩
  rw [hD0] at hbD
  rw [hS1] at hbS
  have hD0s : D0.size = N := by rw [← hD0, ByteArray.size_extract]; omega
  have hS1s : S1.size + N = r.size := by rw [← hS1, ByteArray.size_extract]; omega
  have HH := hid (fun w => pre46 (w := w) S1 (by omega))
  have bad : dcP (by' s) = none → ∀ {e w'}, (∀ Q : Rat, RetQE w Q 22 e w') → RetQE w (dcQ (by' s)) (dcE (by' s)) e w' := fun h e w' h2 => by rw [dc_none h]; exact h2 _
  cases hp : pfB 46 S1
  · rw [hp] at HH
    have hno : ∀ t, dgB (by' r) ≠ 46 :: t := fun t ht => by
      rw [← hbS] at ht
      have h1 : 0 < S1.size := by rw [← by_len, ht]; simp
      rw [pfB_cons h1] at hp
      have h2 := be_cons h1
      rw [ht] at h2
      injection h2 with h3
      exact of_decide_eq_false hp h3.symm
    have hdU := dcU_no hno
    rw [← hbS] at hdU
    unfold dcG at hdU
    have HE := hid (fun w => dexp (w := w) S1 (by omega))
    by_cases hn0 : N = 0
    · rw [if_pos (hN0.2 hn0)] at hdU
      exact (dpa0n0 s r D0 S1 b N hs HC hrl hN HR hD0 hS1 hD0s hS1s HH D0 S1 rfl rfl hD0s (Nat.le_refl _) _ _ HE hn0).mono fun e w' h => bad (hPo _ hdU) h
    · rw [if_neg (fun h => hn0 (hN0.1 h))] at hdU
      cases hX : exP (by' S1) with
      | none =>
        rw [hX] at hdU
        exact (dpa0eb s r D0 S1 b N hs HC hrl hN HR hD0 hS1 hD0s hS1s HH D0 S1 rfl rfl hD0s (Nat.le_refl _) _ _ HE (by omega) (by unfold exB; rw [hX]; rfl)).mono fun e w' h => bad (hPo _ hdU) h
      | some ex =>
        rw [hX] at hdU
        obtain ⟨hb1, hb2⟩ := exP_bd hX
        have hP : dcP (by' s) = some (b, by' D0, ex - 0) := by rw [hPo _ hdU, hbD]; simp
        obtain ⟨hQ, hE⟩ := dc_some hP
        have hpa := pa_ok (s := D0) (by rw [hbD]; exact hoA) (by omega)
        have HV := hid (fun w => parse_any (w := w) D0 (by omega))
        rw [hpa.1, hpa.2] at HV
        have hsv := paN_sz D0 (K := 4096) (by omega)
        rw [hpa.1] at hsv
        have hei : exI (by' S1) = ex := by unfold exI; rw [hX]; rfl
        have heb : exB (by' S1) = true := by unfold exB; rw [hX]; rfl
        rw [hQ, hE]
        by_cases h0 : 0 ≤ ex
        · exact dpa0up s r D0 S1 b N hs HC hrl hN HR hD0 hS1 hD0s hS1s HH D0 S1 rfl rfl hD0s (Nat.le_refl _) _ _ HE (by omega) heb _ HV (hid hsv) (by omega) (by omega) ex.toNat (by omega) _ (hid (dcV_up (by omega)))
        · exact dpa0dn s r D0 S1 b N hs HC hrl hN HR hD0 hS1 hD0s hS1s HH D0 S1 rfl rfl hD0s (Nat.le_refl _) _ _ HE (by omega) heb _ HV (hid hsv) (by omega) (by omega) (-ex).toNat (by omega) (by omega) _ (hid (dcV_dn (by omega) (by omega)))
  · rw [hp] at HH
    have h0S : 0 < S1.size := (of_decide_eq_true hp).1
    obtain ⟨U, hU⟩ : ∃ U, S1.extract 1 S1.size = U := ⟨_, rfl⟩
    have hc := be_cons h0S
    rw [hU] at hc
    rw [pfB_cons h0S] at hp
    rw [of_decide_eq_true hp, hbS] at hc
    have hdU := dcU_pt hc
    have hUs : U.size + 1 = S1.size := by rw [← hU, ByteArray.size_extract]; omega
    have HU := hid (fun w => run_any (w := w) U (by omega))
    have hK := dgw_by (s := U)
    have hoB := okD_dgA (by' U)
    have hK0 : dgA (by' U) = [] ↔ dgw (by' U) = 0 := by unfold dgw; exact List.length_eq_zero_iff.symm
    have hKl : (dgA (by' U)).length = dgw (by' U) := rfl
    have hAt := dgA_take (by' U)
    have hBd := dgB_drop (by' U)
    obtain ⟨k, hk⟩ : ∃ k, dgw (by' U) = k := ⟨_, rfl⟩
    rw [hk] at HU hK hK0 hKl hAt hBd
    by_cases hk0 : k = 0
    · rw [if_pos (hK0.2 hk0)] at hdU
      exact (dpa1k0 s r D0 S1 b N hs HC hrl hN HR hD0 hS1 hD0s hS1s HH U k h0S hU hUs hK HU hk0).mono fun e w' h => bad (hPo _ hdU) h
    · rw [if_neg (fun h => hk0 (hK0.1 h))] at hdU
      obtain ⟨B9, hB9⟩ : ∃ B, S1.extract 1 (k + 1) = B := ⟨_, rfl⟩
      obtain ⟨D, hD⟩ : ∃ D, D0 ++ B9 = D := ⟨_, rfl⟩
      obtain ⟨S, hS⟩ : ∃ S, S1.extract (k + 1) S1.size = S := ⟨_, rfl⟩
      have hbU : by' U = (by' S1).drop 1 := by rw [← hU]; exact be_drop S1 1
      have hbB : by' B9 = dgA (by' U) := by rw [← hB9, be_mid, ← hbU, Nat.add_sub_cancel, hAt]
      have hbS2 : by' S = dgB (by' U) := by rw [← hS, be_drop, Nat.add_comm k 1, ← List.drop_drop, ← hbU, hBd]
      have hB9s : B9.size = k := by rw [← by_len, hbB, hKl]
      have hDs : D.size = N + k := by rw [← hD, ByteArray.size_append]; omega
      have hbDD : by' D = dgA (by' r) ++ dgA (by' U) := by rw [← hD, be_append, hbD, hbB]
      have hSs : S.size ≤ S1.size := by rw [← hS, ByteArray.size_extract]; omega
      have HE := hid (fun w => dexp (w := w) S (by omega))
      rw [← hbS2] at hdU
      unfold dcG at hdU
      by_cases hn0 : N = 0
      · rw [if_pos (hN0.2 hn0)] at hdU
        exact (dpa1n0 s r D0 S1 b N hs HC hrl hN HR hD0 hS1 hD0s hS1s HH U k h0S hU hUs hK HU (by omega) B9 D S hB9 hD hS hDs hSs hB9s _ _ HE hn0).mono fun e w' h => bad (hPo _ hdU) h
      · rw [if_neg (fun h => hn0 (hN0.1 h))] at hdU
        cases hX : exP (by' S) with
        | none =>
          rw [hX] at hdU
          exact (dpa1eb s r D0 S1 b N hs HC hrl hN HR hD0 hS1 hD0s hS1s HH U k h0S hU hUs hK HU (by omega) B9 D S hB9 hD hS hDs hSs hB9s _ _ HE (by omega) (by unfold exB; rw [hX]; rfl)).mono fun e w' h => bad (hPo _ hdU) h
        | some ex =>
          rw [hX] at hdU
          obtain ⟨hb1, hb2⟩ := exP_bd hX
          have hP : dcP (by' s) = some (b, by' D, ex - (k : Int)) := by rw [hPo _ hdU, hbDD, hKl]; rfl
          obtain ⟨hQ, hE⟩ := dc_some hP
          have hpa := pa_ok (s := D) (by rw [hbDD, okD_app, hoA, hoB]; rfl) (by omega)
          have HV := hid (fun w => parse_any (w := w) D (by omega))
          rw [hpa.1, hpa.2] at HV
          have hsv := paN_sz D (K := 4096) (by omega)
          rw [hpa.1] at hsv
          have hei : exI (by' S) = ex := by unfold exI; rw [hX]; rfl
          have heb : exB (by' S) = true := by unfold exB; rw [hX]; rfl
          rw [hQ, hE]
          by_cases h0 : 0 ≤ ex - (k : Int)
          · exact dpa1up s r D0 S1 b N hs HC hrl hN HR hD0 hS1 hD0s hS1s HH U k h0S hU hUs hK HU (by omega) B9 D S hB9 hD hS hDs hSs hB9s _ _ HE (by omega) heb _ HV (hid hsv) (by omega) (by omega) (ex - (k : Int)).toNat (by omega) _ (hid (dcV_up (by omega)))
          · exact dpa1dn s r D0 S1 b N hs HC hrl hN HR hD0 hS1 hD0s hS1s HH U k h0S hU hUs hK HU (by omega) B9 D S hB9 hD hS hDs hSs hB9s _ _ HE (by omega) heb _ HV (hid hsv) (by omega) (by omega) (-(ex - (k : Int))).toNat (by omega) (by omega) _ (hid (dcV_dn (by omega) (by omega)))
end Go.Proofs.Ytnpkmlpmeeidbaa
/- WALKS OF DECIMALS, 10: decimal numbers read by the document. -/
namespace Go.Proofs.Ytnpkmlpmeeidbaa
set_option linter.unusedVariables false
set_option linter.unusedSimpArgs false
open Go.ChangeShapes Go.WideShapes Go.ChangeAt Go.RowKit Go.NatP

theorem rfC_some {s : List Nat} {e : Int} {p : Nat} (hp : fdN 46 46 s = p) (h1 : okD (s.take p) = true) (h2 : s.take p ≠ []) (h3 : p < s.length → okD (s.drop (p + 1)) = true ∧ s.drop (p + 1) ≠ []) : rfC s e = some (s.take p ++ s.drop (p + 1), e - ((s.drop (p + 1)).length : Int)) := by
  unfold rfC; simp only [hp]; exact if_pos ⟨h1, h2, h3⟩
theorem rfC_no {s : List Nat} {e : Int} {p : Nat} (hp : fdN 46 46 s = p) (h : ¬ (okD (s.take p) = true ∧ s.take p ≠ [] ∧ (p < s.length → okD (s.drop (p + 1)) = true ∧ s.drop (p + 1) ≠ []))) : rfC s e = none := by
  unfold rfC; simp only [hp]; exact if_neg h
theorem rfU_e {s : List Nat} {k : Nat} {e : Int} (hk : fdN 101 69 s = k) (hlt : k < s.length) (he : exT (s.drop (k + 1)) = some e) : rfU s = rfC (s.take k) e := by
  unfold rfU; simp only [hk]; rw [if_pos hlt, he]; rfl
theorem rfU_bad {s : List Nat} {k : Nat} (hk : fdN 101 69 s = k) (hlt : k < s.length) (he : exT (s.drop (k + 1)) = none) : rfU s = none := by
  unfold rfU; simp only [hk]; rw [if_pos hlt, he]; rfl
theorem rfU_no {s : List Nat} {k : Nat} (hk : fdN 101 69 s = k) (hlt : ¬ k < s.length) : rfU s = rfC s 0 := by
  unfold rfU; simp only [hk]; rw [if_neg hlt]
theorem dgOk_no {s : ByteArray} (h : dgOk s = false) : ¬ (okD (by' s) = true ∧ by' s ≠ []) := fun h2 => by rw [(dgOk_iff s).2 h2] at h; cases h
theorem exT_of {t u : List Nat} {d : Bool} (h : exS t = (d, u)) : exT t = if u ≠ [] ∧ okD u = true ∧ numD u ≤ 1000 then some (exV d (numD u)) else none := by unfold exT; rw [h]

set_option maxRecDepth 100000 in
set_option maxHeartbeats 16000000 in
theorem rpa1 {w : World} (s : ByteArray) (hs : s.size ≤ 4096) (hn : pzB s = true) :
    Calls Try.prog 23 #[.string s] w (RetQE w (dcQ (by' s)) (dcE (by' s))) := by
  have h0 : 0 < s.size := (of_decide_eq_true hn).1
  have h10 : 1 ≤ s.size := h0
  have h45 : s[0].toNat = 45 := by have := (of_decide_eq_true hn).2; rwa [by_get s 0 h0] at this
  have hr : pzR s = s.extract 1 s.size := by unfold pzR; rw [hn]; rfl
  obtain ⟨r, hr0⟩ : ∃ r, s.extract 1 s.size = r := ⟨_, rfl⟩
  rw [hr0] at hr
  have hrl : r.size ≤ 4096 := by rw [← hr0, ByteArray.size_extract]; omega
  have hPo : ∀ o, rfU (by' r) = o → dcP (by' s) = o.map fun p => (true, p) := fun o ho => by rw [rfU_dcU] at ho; have := dcP_of (s := s) (o := o) (by rw [hr]; exact ho); rwa [hn] at this
  have hP := hid hPo
  clear hPo hr hn
  have HF := hid (fun w (S : ByteArray) (h : S.size ≤ 4096) => rfind (w := w) S (by omega) 101 69 (by decide) (by decide))
  have HG := hid (fun w (S : ByteArray) (h : S.size ≤ 4096) => rfind (w := w) S (by omega) 46 46 (by decide) (by decide))
  have HDg := hid (fun w (S : ByteArray) (h : S.size ≤ 4096) => rdig (w := w) S (by omega))
  have HSm := hid (fun w (S : ByteArray) (h : S.size ≤ 4096) (ho : okD (by' S) = true) => rsmall (w := w) S (by omega) ho)
  obtain ⟨k, hk⟩ : ∃ k, fdN 101 69 (by' r) = k := ⟨_, rfl⟩
  have hkl := fdN_le 101 69 (by' r)
  rw [hk, by_len] at hkl
  have hkh := hid hk
  have HFr := hid (fun w => HF.out w r (by omega))
  rw [hk] at HFr
  clear hk HF
  obtain ⟨c0, hc0⟩ : ∃ c, s[0].toNat = c := ⟨_, rfl⟩
  rw [hc0] at h45
  subst h45
  have hent := ent1 w #[Value.bool false, Value.slice none 0 0, Value.slice none 0 0] 29
  go_enter Try.func23, Try.ntmps23
  go_wp2_with fail
  generalize (w.alloc (.cells #[Value.bool false, Value.slice none 0 0, Value.slice none 0 0] 29)) = W0 at hent ⊢
  obtain ⟨R0_0, hbel_0, hsz_0⟩ := hent
  have cR0_0_0 : _ = some (Value.bool false) := R0_0.cell 0
  have fR0_0_0 := R0_0.free 0
  have cR0_0_1 : _ = some (Value.slice none 0 0) := R0_0.cell 1
  have fR0_0_1 := R0_0.free 1
  have cR0_0_2 : _ = some (Value.slice none 0 0) := R0_0.cell 2
  have fR0_0_2 := R0_0.free 2
  go_wp2_with fail
  refine (HFr.out _).mono ?_
  rintro e wc ⟨rfl, hwc⟩
  subst wc
  go_upto_if 35 with fail
  go_cut [0, 6] (fun s0 s6 wx => ∃ (S : ByteArray) (ev : Int), s0 = .string S ∧ s6 = .int .i64 ev ∧ -1000 ≤ ev ∧ ev ≤ 1000 ∧ S.size ≤ 4096 ∧ Hid (rfU (by' r) = rfC (by' S) ev) ∧ wx = W0)
  case first =>
    by_cases hlt : k < r.size
    · skip
      obtain ⟨T, hT⟩ : ∃ T, r.extract (k + 1) r.size = T := ⟨_, rfl⟩
      obtain ⟨S, hS⟩ : ∃ S, r.extract 0 k = S := ⟨_, rfl⟩
      have hTb : by' T = (by' r).drop (k + 1) := by rw [← hT]; exact be_drop _ _
      have hSb : by' S = (by' r).take k := by rw [← hS]; exact be_take _ _
      have hTs : T.size ≤ 4096 := by rw [← hT, ByteArray.size_extract]; omega
      have hSs : S.size ≤ 4096 := by rw [← hS, ByteArray.size_extract]; omega
      have hk9 : k + 1 ≤ r.size := hlt
      have hX := hid (fun e (he : exT (by' T) = some e) => (show rfU (by' r) = rfC (by' S) e by rw [hSb]; exact rfU_e hkh.out (by rw [by_len]; exact hlt) (by rw [← hTb]; exact he)))
      have hY := hid (fun (he : exT (by' T) = none) => (show rfU (by' r) = none from rfU_bad hkh.out (by rw [by_len]; exact hlt) (by rw [← hTb]; exact he)))
      clear hTb hSb
      have hways : (∃ U : ByteArray, 0 < T.size ∧ exS (by' T) = (true, by' U) ∧ T.extract 1 T.size = U ∧ ∃ h : 0 < T.size, T[0].toNat = 45) ∨ (∃ U : ByteArray, 0 < T.size ∧ exS (by' T) = (false, by' U) ∧ T.extract 1 T.size = U ∧ ∃ h : 0 < T.size, T[0].toNat = 43) ∨ (exS (by' T) = (false, by' T) ∧ ∃ h : 0 < T.size, T[0].toNat ≠ 45 ∧ T[0].toNat ≠ 43) ∨ T = ⟨#[]⟩ := by
        by_cases h9 : 0 < T.size
        · have e1 := be_cons h9
          by_cases ha : T[0].toNat = 45
          · exact .inl ⟨_, h9, by rw [e1]; exact exS_n ha, rfl, h9, ha⟩
          · by_cases hb : T[0].toNat = 43
            · exact .inr (.inl ⟨_, h9, by rw [e1]; exact exS_p ha hb, rfl, h9, hb⟩)
            · refine .inr (.inr (.inl ⟨?_, h9, ha, hb⟩))
              rw [e1]; exact exS_z ha hb
        · exact .inr (.inr (.inr (be_nil (by omega))))
      rcases hways with ⟨U, hT0, hU, hUe, h9, hb⟩ | ⟨U, hT0, hU, hUe, h9, hb⟩ | ⟨hU, h9, hb1, hb2⟩ | rfl
      · skip
        have h9l : 1 ≤ T.size := h9
        obtain ⟨cT, hcT⟩ : ∃ c, T[0].toNat = c := ⟨_, rfl⟩
        rw [hcT] at hb
        subst hb
        have hUs : U.size ≤ 4096 := by rw [← hUe, ByteArray.size_extract]; omega
        have hE := exT_of hU
        have hdg := hid (HDg.out W0 U hUs)
        by_cases hok : dgOk U = true
        · skip
          obtain ⟨ho, hne⟩ := (dgOk_iff U).1 hok
          rw [hok] at hdg
          have hsm := hid (HSm.out W0 U hUs ho)
          obtain ⟨v, hv⟩ : ∃ v, numD (by' U) = v := ⟨_, rfl⟩
          rw [hv] at hE hsm
          by_cases hle : v ≤ 1000
          · skip
            rw [if_pos ⟨hne, ho, hle⟩] at hE
            have hE2 := hid (hX.out _ hE)
            rw [show smN v = v from if_pos hle, decide_eq_true hle] at hsm
            have hev : Hid (exV true v = -(v : Int)) := (show exV true v = -(v : Int) from rfl)
            rw [hev.out] at hE2
            clear hE hok ho hne hv hU hX hY hP HDg HSm
            go_wp2_with fail
            refine (hdg.out).mono ?_
            rintro e wc ⟨rfl, hwc⟩
            subst wc
            go_wp2_with fail
            refine (hsm.out).mono ?_
            rintro e wc ⟨rfl, hwc⟩
            subst wc
            go_wp2_with fail
            go_meet
            exact ⟨S, _, rfl, rfl, by omega, by omega, hSs, hE2, rfl⟩
          · skip
            rw [if_neg (fun h => hle h.2.2)] at hE
            have hno := hY.out hE
            rw [show smN v = 0 from if_neg hle, decide_eq_false hle] at hsm
            clear hE hok ho hne hv hU hX hY HDg HSm
            go_wp2_with fail
            refine (hdg.out).mono ?_
            rintro e wc ⟨rfl, hwc⟩
            subst wc
            go_wp2_with fail
            refine (hsm.out).mono ?_
            rintro e wc ⟨rfl, hwc⟩
            subst wc
            have hEr := hid (dc_none (hP.out _ hno))
            go_wp2
            refine bodyPost_ret (v := .tuple #[.agg #[.bool false, .slice none 0 0, .slice none 0 0], .int .i64 22]) (by simp [results, Try.results23, go_sem, cR0_0_0, cR0_0_1, cR0_0_2]) rfl ?_
            exact (by rw [hEr.out]; exact retqe_nil (by decide) hbel_0 (by omega))
        · skip
          have hokf : dgOk U = false := by simpa using hok
          rw [if_neg (fun h => dgOk_no hokf ⟨h.2.1, h.1⟩)] at hE
          have hno := hY.out hE
          rw [hokf] at hdg
          clear hE hok hokf hU hX hY HDg HSm
          go_wp2_with fail
          refine (hdg.out).mono ?_
          rintro e wc ⟨rfl, hwc⟩
          subst wc
          have hEr := hid (dc_none (hP.out _ hno))
          go_wp2
          refine bodyPost_ret (v := .tuple #[.agg #[.bool false, .slice none 0 0, .slice none 0 0], .int .i64 22]) (by simp [results, Try.results23, go_sem, cR0_0_0, cR0_0_1, cR0_0_2]) rfl ?_
          exact (by rw [hEr.out]; exact retqe_nil (by decide) hbel_0 (by omega))
      · skip
        have h9l : 1 ≤ T.size := h9
        obtain ⟨cT, hcT⟩ : ∃ c, T[0].toNat = c := ⟨_, rfl⟩
        rw [hcT] at hb
        subst hb
        have hUs : U.size ≤ 4096 := by rw [← hUe, ByteArray.size_extract]; omega
        have hE := exT_of hU
        have hdg := hid (HDg.out W0 U hUs)
        by_cases hok : dgOk U = true
        · skip
          obtain ⟨ho, hne⟩ := (dgOk_iff U).1 hok
          rw [hok] at hdg
          have hsm := hid (HSm.out W0 U hUs ho)
          obtain ⟨v, hv⟩ : ∃ v, numD (by' U) = v := ⟨_, rfl⟩
          rw [hv] at hE hsm
          by_cases hle : v ≤ 1000
          · skip
            rw [if_pos ⟨hne, ho, hle⟩] at hE
            have hE2 := hid (hX.out _ hE)
            rw [show smN v = v from if_pos hle, decide_eq_true hle] at hsm
            have hev : Hid (exV false v = (v : Int)) := (show exV false v = (v : Int) from rfl)
            rw [hev.out] at hE2
            clear hE hok ho hne hv hU hX hY hP HDg HSm
            go_wp2_with fail
            refine (hdg.out).mono ?_
            rintro e wc ⟨rfl, hwc⟩
            subst wc
            go_wp2_with fail
            refine (hsm.out).mono ?_
            rintro e wc ⟨rfl, hwc⟩
            subst wc
            go_wp2_with fail
            go_meet
            exact ⟨S, _, rfl, rfl, by omega, by omega, hSs, hE2, rfl⟩
          · skip
            rw [if_neg (fun h => hle h.2.2)] at hE
            have hno := hY.out hE
            rw [show smN v = 0 from if_neg hle, decide_eq_false hle] at hsm
            clear hE hok ho hne hv hU hX hY HDg HSm
            go_wp2_with fail
            refine (hdg.out).mono ?_
            rintro e wc ⟨rfl, hwc⟩
            subst wc
            go_wp2_with fail
            refine (hsm.out).mono ?_
            rintro e wc ⟨rfl, hwc⟩
            subst wc
            have hEr := hid (dc_none (hP.out _ hno))
            go_wp2
            refine bodyPost_ret (v := .tuple #[.agg #[.bool false, .slice none 0 0, .slice none 0 0], .int .i64 22]) (by simp [results, Try.results23, go_sem, cR0_0_0, cR0_0_1, cR0_0_2]) rfl ?_
            exact (by rw [hEr.out]; exact retqe_nil (by decide) hbel_0 (by omega))
        · skip
          have hokf : dgOk U = false := by simpa using hok
          rw [if_neg (fun h => dgOk_no hokf ⟨h.2.1, h.1⟩)] at hE
          have hno := hY.out hE
          rw [hokf] at hdg
          clear hE hok hokf hU hX hY HDg HSm
          go_wp2_with fail
          refine (hdg.out).mono ?_
          rintro e wc ⟨rfl, hwc⟩
          subst wc
          have hEr := hid (dc_none (hP.out _ hno))
          go_wp2
          refine bodyPost_ret (v := .tuple #[.agg #[.bool false, .slice none 0 0, .slice none 0 0], .int .i64 22]) (by simp [results, Try.results23, go_sem, cR0_0_0, cR0_0_1, cR0_0_2]) rfl ?_
          exact (by rw [hEr.out]; exact retqe_nil (by decide) hbel_0 (by omega))
      · skip
        have h9l : 1 ≤ T.size := h9
        obtain ⟨cT, hcT⟩ : ∃ c, T[0].toNat = c := ⟨_, rfl⟩
        rw [hcT] at hb1 hb2
        have hUs : T.size ≤ 4096 := hTs
        have hcb1 : ((cT : Int) == 45) = false := by simp; omega
        have hcb2 : ((cT : Int) == 43) = false := by simp; omega
        have hE := exT_of hU
        have hdg := hid (HDg.out W0 T hUs)
        by_cases hok : dgOk T = true
        · skip
          obtain ⟨ho, hne⟩ := (dgOk_iff T).1 hok
          rw [hok] at hdg
          have hsm := hid (HSm.out W0 T hUs ho)
          obtain ⟨v, hv⟩ : ∃ v, numD (by' T) = v := ⟨_, rfl⟩
          rw [hv] at hE hsm
          by_cases hle : v ≤ 1000
          · skip
            rw [if_pos ⟨hne, ho, hle⟩] at hE
            have hE2 := hid (hX.out _ hE)
            rw [show smN v = v from if_pos hle, decide_eq_true hle] at hsm
            have hev : Hid (exV false v = (v : Int)) := (show exV false v = (v : Int) from rfl)
            rw [hev.out] at hE2
            clear hE hok ho hne hv hU hX hY hP HDg HSm
            go_wp2_with fail
            refine (hdg.out).mono ?_
            rintro e wc ⟨rfl, hwc⟩
            subst wc
            go_wp2_with fail
            refine (hsm.out).mono ?_
            rintro e wc ⟨rfl, hwc⟩
            subst wc
            go_wp2_with fail
            go_meet
            exact ⟨S, _, rfl, rfl, by omega, by omega, hSs, hE2, rfl⟩
          · skip
            rw [if_neg (fun h => hle h.2.2)] at hE
            have hno := hY.out hE
            rw [show smN v = 0 from if_neg hle, decide_eq_false hle] at hsm
            clear hE hok ho hne hv hU hX hY HDg HSm
            go_wp2_with fail
            refine (hdg.out).mono ?_
            rintro e wc ⟨rfl, hwc⟩
            subst wc
            go_wp2_with fail
            refine (hsm.out).mono ?_
            rintro e wc ⟨rfl, hwc⟩
            subst wc
            have hEr := hid (dc_none (hP.out _ hno))
            go_wp2
            refine bodyPost_ret (v := .tuple #[.agg #[.bool false, .slice none 0 0, .slice none 0 0], .int .i64 22]) (by simp [results, Try.results23, go_sem, cR0_0_0, cR0_0_1, cR0_0_2]) rfl ?_
            exact (by rw [hEr.out]; exact retqe_nil (by decide) hbel_0 (by omega))
        · skip
          have hokf : dgOk T = false := by simpa using hok
          rw [if_neg (fun h => dgOk_no hokf ⟨h.2.1, h.1⟩)] at hE
          have hno := hY.out hE
          rw [hokf] at hdg
          clear hE hok hokf hU hX hY HDg HSm
          go_wp2_with fail
          refine (hdg.out).mono ?_
          rintro e wc ⟨rfl, hwc⟩
          subst wc
          have hEr := hid (dc_none (hP.out _ hno))
          go_wp2
          refine bodyPost_ret (v := .tuple #[.agg #[.bool false, .slice none 0 0, .slice none 0 0], .int .i64 22]) (by simp [results, Try.results23, go_sem, cR0_0_0, cR0_0_1, cR0_0_2]) rfl ?_
          exact (by rw [hEr.out]; exact retqe_nil (by decide) hbel_0 (by omega))
      · skip
        have hno := hY.out rfl
        have hdg := hid (HDg.out W0 ⟨#[]⟩ (by decide))
        rw [show dgOk ⟨#[]⟩ = false from rfl] at hdg
        go_wp2_with fail
        refine (hdg.out).mono ?_
        rintro e wc ⟨rfl, hwc⟩
        subst wc
        have hEr := hid (dc_none (hP.out _ hno))
        go_wp2
        refine bodyPost_ret (v := .tuple #[.agg #[.bool false, .slice none 0 0, .slice none 0 0], .int .i64 22]) (by simp [results, Try.results23, go_sem, cR0_0_0, cR0_0_1, cR0_0_2]) rfl ?_
        exact (by rw [hEr.out]; exact retqe_nil (by decide) hbel_0 (by omega))
    · skip
      have hkk : k = r.size := by omega
      have hE2 := hid (rfU_no hkh.out (by rw [by_len]; exact hlt))
      clear HDg HSm
      go_wp2_with fail
      go_meet
      exact ⟨r, 0, rfl, rfl, by omega, by omega, by omega, hE2, rfl⟩
  case rest =>
    clear hkh HFr
    obtain ⟨S, ev, rfl, rfl, hev1, hev2, hSs, hV, hwc⟩ := hcut
    subst wc
    have HGs := hid (HG.out W0 S hSs)
    obtain ⟨p, hp⟩ : ∃ p, fdN 46 46 (by' S) = p := ⟨_, rfl⟩
    have hpl := fdN_le 46 46 (by' S)
    rw [hp, by_len] at hpl
    rw [hp] at HGs
    have hph := hid hp
    clear hp HG
    obtain ⟨H, hH⟩ : ∃ H, S.extract 0 p = H := ⟨_, rfl⟩
    have hHb := hid (show by' H = (by' S).take p by rw [← hH]; exact be_take _ _)
    have hHs : H.size ≤ 4096 := by rw [← hH, ByteArray.size_extract]; omega
    have hHp : H.size = p := by rw [← hH, ByteArray.size_extract]; omega
    have hdH := hid (fun w => HDg.out w H hHs)
    go_wp2_with fail
    refine (HGs.out).mono ?_
    rintro e wc ⟨rfl, hwc⟩
    subst wc
    by_cases hpt : p < S.size
    · skip
      obtain ⟨Bh, hB9⟩ : ∃ B, S.extract (p + 1) S.size = B := ⟨_, rfl⟩
      have hBb := hid (show by' Bh = (by' S).drop (p + 1) by rw [← hB9]; exact be_drop _ _)
      have hBs : Bh.size + p + 1 = S.size := by rw [← hB9, ByteArray.size_extract]; omega
      have hp9 : p + 1 ≤ S.size := hpt
      have hdB := hid (fun w => HDg.out w Bh (by omega))
      by_cases hob : dgOk Bh = true
      · skip
        rw [hob] at hdB
        go_wp2_with fail
        refine (hdB.out _).mono ?_
        rintro e wc ⟨rfl, hwc⟩
        subst wc
        by_cases hoh : dgOk H = true
        · skip
          obtain ⟨ho1, ho2⟩ := (dgOk_iff H).1 hoh
          rw [hoh] at hdH
          rw [hHb.out] at ho1 ho2
          have hC := rfC_some (e := ev) hph.out ho1 ho2 (fun h9 => by rw [← hBb.out]; exact (dgOk_iff Bh).1 hob)
          obtain ⟨D, hD⟩ : ∃ D, H ++ Bh = D := ⟨_, rfl⟩
          have hDb : by' D = (by' S).take p ++ (by' S).drop (p + 1) := by rw [← hD, be_append, hHb.out, hBb.out]
          have hBl : ((by' S).drop (p + 1)).length = Bh.size := by rw [← hBb.out, by_len]
          rw [← hDb, hBl] at hC
          have hPP := hP.out _ (hV.out.trans hC)
          obtain ⟨hQ1, hQ2⟩ := dc_some hPP
          have hDs0 : D.size = H.size + Bh.size := by rw [← hD, ByteArray.size_append]
          have hDs : D.size ≤ 4096 := by omega
          have hokD : okD (by' D) = true := by rw [hDb, okD_app, ho1]; have := ((dgOk_iff Bh).1 hob).1; rw [hBb.out] at this; rw [this]; rfl
          have hH0 : 0 < H.size := by rw [← by_len, hHb.out]; exact List.length_pos_iff.2 ho2
          have hpa := pa_ok hokD (by omega)
          have HV := hid (fun w => rparse_any (w := w) D (by omega))
          rw [hpa.1, hpa.2] at HV
          have hsv0 := paN_sz D (K := 4096) hDs
          rw [hpa.1] at hsv0
          obtain ⟨v, hvD⟩ : ∃ v, numD (by' D) = v := ⟨_, rfl⟩
          rw [hvD] at HV hsv0
          obtain ⟨K3, hK3, hK3b⟩ : ∃ K, 4096 ≤ K ∧ K ≤ 5000 := ⟨4096, by omega, by omega⟩
          have hsv := hid (hsv0.mono (Nat.le_refl _) hK3)
          have hDE := hid (show RetQE w (dcQ (by' s)) (dcE (by' s)) = RetQE w (dcV (true, by' D, ev - (Bh.size : Int))) 0 by rw [hQ1, hQ2])
          obtain ⟨e2, he2⟩ : ∃ y, ev - (Bh.size : Int) = y := ⟨_, rfl⟩
          rw [he2] at hDE
          have he2a : -6000 ≤ e2 := by omega
          have he2b : e2 ≤ 1000 := by omega
          clear hC hPP hQ1 hQ2 hokD hpa hsv0 hDb hBl ho1 ho2 hoh hV hP HDg
          go_wp2_with fail
          refine (hdH.out _).mono ?_
          rintro e wc ⟨rfl, hwc⟩
          subst wc
          by_cases hup : 0 ≤ e2
          · skip
            obtain ⟨E, hE⟩ : ∃ E : Nat, e2 = (E : Int) := ⟨(e2).toNat, by omega⟩
            have hEb : E ≤ 6000 := by omega
            have hq := dcV_up (b := true) (D := by' D) hE
            rw [hvD, Rat.divInt_ofNat] at hq
            generalize dcV (true, by' D, e2) = q at *
            obtain ⟨K4, hK4, hK5⟩ : ∃ K, 14000 ≤ K ∧ K ≤ 20000 := ⟨14000, by omega, by omega⟩
            have hsT := szTen E
            have HT := hid (fun w => rten (w := w) E (by omega))
            have hsM := hid ((hsv.out.mul hsT).mono (Nat.le_refl _) (show K3 + (E + 1) ≤ K4 by omega))
            have hsTh := hid (hsT.mono (Nat.le_refl _) (show E + 1 ≤ K4 by omega))
            have hsvh := hid (hsv.out.mono (Nat.le_refl _) (show K3 ≤ K4 by omega))
            clear hsT hsv hvD
            obtain ⟨T, hT⟩ : ∃ T, 10 ^ E = T := ⟨_, rfl⟩
            have hT0 := hid (show T ≠ 0 by rw [← hT]; exact Nat.pos_iff_ne_zero.1 (Nat.pow_pos (by decide)))
            rw [hT] at HT hsTh hq hsM
            clear hT
            have hqh := hid hq
            clear hq
            subst hE
            go_wp2_with fail
            refine (HV.out _).mono ?_
            rintro e w1 ⟨na, nn, nc, rfl, hO, hB⟩
            have hB_1 : Below W0.heap.size W0 w1 := (bl.next hB)
            have R0_1 := R0_0.next hB_1
            have cR0_1_0 : _ = some (Value.bool false) := R0_1.cell 0
            have fR0_1_0 := R0_1.free 0
            have cR0_1_1 : _ = some (Value.slice none 0 0) := R0_1.cell 1
            have fR0_1_1 := R0_1.free 1
            have cR0_1_2 : _ = some (Value.slice none 0 0) := R0_1.cell 2
            have fR0_1_2 := R0_1.free 2
            have hbel_1 := hbel_0.next hB_1
            have hsz_1 := hB_1.size
            clear R0_0 cR0_0_0 fR0_0_0 cR0_0_1 fR0_0_1 cR0_0_2 fR0_0_2 hbel_0 hB_1
            have V_1 := hO.rdN hsvh.out
            clear hO
            try clear hB
            go_wp2_with fail
            refine (HT.out _).mono ?_
            rintro e w2 ⟨ta, tn, tc, rfl, hO, hB⟩
            have hB_2 : Below w1.heap.size w1 w2 := (bl.next hB)
            have R0_2 := R0_1.next hB_2
            have cR0_2_0 : _ = some (Value.bool false) := R0_2.cell 0
            have fR0_2_0 := R0_2.free 0
            have cR0_2_1 : _ = some (Value.slice none 0 0) := R0_2.cell 1
            have fR0_2_1 := R0_2.free 1
            have cR0_2_2 : _ = some (Value.slice none 0 0) := R0_2.cell 2
            have fR0_2_2 := R0_2.free 2
            have V_2 := V_1.below hB_2
            have hbel_2 := hbel_1.next hB_2
            have hsz_2 := hB_2.size
            clear R0_1 cR0_1_0 fR0_1_0 cR0_1_1 fR0_1_1 cR0_1_2 fR0_1_2 V_1 hbel_1 hB_2
            have TT_2 := hO.rdN hsTh.out
            clear hO
            try clear hB
            go_wp2_with fail
            refine (rmulR V_2 TT_2 (by omega) (by omega)).mono ?_
            rintro e w3 ⟨ma, mn, mc, rfl, hO, hB⟩
            have hB_3 : Below w2.heap.size w2 w3 := (bl.next hB)
            have R0_3 := R0_2.next hB_3
            have cR0_3_0 : _ = some (Value.bool false) := R0_3.cell 0
            have fR0_3_0 := R0_3.free 0
            have cR0_3_1 : _ = some (Value.slice none 0 0) := R0_3.cell 1
            have fR0_3_1 := R0_3.free 1
            have cR0_3_2 : _ = some (Value.slice none 0 0) := R0_3.cell 2
            have fR0_3_2 := R0_3.free 2
            have V_3 := V_2.below hB_3
            have TT_3 := TT_2.below hB_3
            have hbel_3 := hbel_2.next hB_3
            have hsz_3 := hB_3.size
            clear R0_2 cR0_2_0 fR0_2_0 cR0_2_1 fR0_2_1 cR0_2_2 fR0_2_2 V_2 TT_2 hbel_2 hB_3
            have M_3 := hO.rdN hsM.out
            clear hO
            try clear hB
            have hbx := blk_new w3 #[Value.int .u32 1] 39
            have hbB := (Below.refl w3.heap.size w3).alloc (Nat.le_refl _) (.cells #[Value.int .u32 1] 39)
            have hltONE := hbx.lt
            have hB_4 : Below w3.heap.size w3 (w3.alloc (.cells #[Value.int .u32 1] 39)) := hbB
            have R0_4 := R0_3.next hB_4
            have cR0_4_0 : _ = some (Value.bool false) := R0_4.cell 0
            have fR0_4_0 := R0_4.free 0
            have cR0_4_1 : _ = some (Value.slice none 0 0) := R0_4.cell 1
            have fR0_4_1 := R0_4.free 1
            have cR0_4_2 : _ = some (Value.slice none 0 0) := R0_4.cell 2
            have fR0_4_2 := R0_4.free 2
            have V_4 := V_3.below hB_4
            have TT_4 := TT_3.below hB_4
            have M_4 := M_3.below hB_4
            have hbel_4 := hbel_3.next hB_4
            have hsz_4 := hB_4.size
            clear hB_4
            have ONE_4 := hbx
            clear hbx hbB
            have cONE_4_0 : _ = some (Value.int .u32 1) := ONE_4.cell 0
            have O1_4 := (show Own w3.heap.size _ (some ⟨_, 0, none⟩) 1 1 [1] from own_one _ _ 1 (by omega) (Nat.le_refl _))
            go_wp2_with fail
            clear R0_3 cR0_3_0 fR0_3_0 cR0_3_1 fR0_3_1 cR0_3_2 fR0_3_2 V_3 TT_3 M_3 hbel_3
            generalize (w3.alloc (.cells #[Value.int .u32 1] 39)) = v4 at *
            have U_4 := (show RdN 1 _ _ _ _ 1 from (lm_one ▸ O1_4 : Own _ _ _ _ _ (lm 1)).rdN (v := 1) (k := 1) (sz_one (Nat.le_refl _)))
            clear O1_4
            go_wp2_with fail
            refine (rlow true (M_4.mono (by omega)) (U_4.mono (by omega)) (by decide)).mono ?_
            rw [hqh.out]
            rintro e w5 ⟨qa, qn, qc, da, dn, dc, rfl, hO, hO', hD9, hB⟩
            have hB_5 : Below v4.heap.size v4 w5 := (bl.next hB)
            have R0_5 := R0_4.next hB_5
            have cR0_5_0 : _ = some (Value.bool false) := R0_5.cell 0
            have fR0_5_0 := R0_5.free 0
            have cR0_5_1 : _ = some (Value.slice none 0 0) := R0_5.cell 1
            have fR0_5_1 := R0_5.free 1
            have cR0_5_2 : _ = some (Value.slice none 0 0) := R0_5.cell 2
            have fR0_5_2 := R0_5.free 2
            have ONE_5 := ONE_4.next hB_5
            have cONE_5_0 : _ = some (Value.int .u32 1) := ONE_5.cell 0
            have V_5 := V_4.below hB_5
            have TT_5 := TT_4.below hB_5
            have M_5 := M_4.below hB_5
            have U_5 := U_4.below hB_5
            have hbel_5 := hbel_4.next hB_5
            have hsz_5 := hB_5.size
            clear R0_4 cR0_4_0 fR0_4_0 cR0_4_1 fR0_4_1 cR0_4_2 fR0_4_2 ONE_4 cONE_4_0 V_4 TT_4 M_4 U_4 hbel_4 hB_5
            have OQ_5 := hO
            have ltOQ := hO.ltB
            have OD_5 := hO'
            have ltOD := hO'.ltB
            clear hO hO'
            try clear hB
            go_wp2
            refine bodyPost_ret (v := .tuple #[.agg #[.bool (decide (q.num < 0)), .slice qa qn qc, .slice da dn dc], .int .i64 0]) (by simp [results, Try.results23, go_sem, cR0_5_0, cR0_5_1, cR0_5_2]) rfl ?_
            exact (by rw [hDE.out]; exact retqe_set (er := 0) OQ_5 OD_5 hD9 hbel_5 (by omega) (by omega))
          · skip
            obtain ⟨E, hE⟩ : ∃ E : Nat, e2 = -(E : Int) := ⟨(-e2).toNat, by omega⟩
            have hE1 : 1 ≤ E := by omega
            have hEb : E ≤ 6000 := by omega
            have hq := dcV_dn (b := true) (D := by' D) hE hE1
            rw [hvD, Rat.divInt_ofNat] at hq
            generalize dcV (true, by' D, e2) = q at *
            obtain ⟨K4, hK4, hK5⟩ : ∃ K, 14000 ≤ K ∧ K ≤ 20000 := ⟨14000, by omega, by omega⟩
            have hsT := szTen E
            have HT := hid (fun w => rten (w := w) E (by omega))
            have hsTh := hid (hsT.mono (Nat.le_refl _) (show E + 1 ≤ K4 by omega))
            have hsvh := hid (hsv.out.mono (Nat.le_refl _) (show K3 ≤ K4 by omega))
            clear hsT hsv hvD
            obtain ⟨T, hT⟩ : ∃ T, 10 ^ E = T := ⟨_, rfl⟩
            have hT0 := hid (show T ≠ 0 by rw [← hT]; exact Nat.pos_iff_ne_zero.1 (Nat.pow_pos (by decide)))
            rw [hT] at HT hsTh hq
            clear hT
            have hqh := hid hq
            clear hq
            subst hE
            go_wp2_with fail
            refine (HV.out _).mono ?_
            rintro e w1 ⟨na, nn, nc, rfl, hO, hB⟩
            have hB_1 : Below W0.heap.size W0 w1 := (bl.next hB)
            have R0_1 := R0_0.next hB_1
            have cR0_1_0 : _ = some (Value.bool false) := R0_1.cell 0
            have fR0_1_0 := R0_1.free 0
            have cR0_1_1 : _ = some (Value.slice none 0 0) := R0_1.cell 1
            have fR0_1_1 := R0_1.free 1
            have cR0_1_2 : _ = some (Value.slice none 0 0) := R0_1.cell 2
            have fR0_1_2 := R0_1.free 2
            have hbel_1 := hbel_0.next hB_1
            have hsz_1 := hB_1.size
            clear R0_0 cR0_0_0 fR0_0_0 cR0_0_1 fR0_0_1 cR0_0_2 fR0_0_2 hbel_0 hB_1
            have V_1 := hO.rdN hsvh.out
            clear hO
            try clear hB
            go_wp2_with fail
            refine (HT.out _).mono ?_
            rintro e w2 ⟨ta, tn, tc, rfl, hO, hB⟩
            have hB_2 : Below w1.heap.size w1 w2 := (bl.next hB)
            have R0_2 := R0_1.next hB_2
            have cR0_2_0 : _ = some (Value.bool false) := R0_2.cell 0
            have fR0_2_0 := R0_2.free 0
            have cR0_2_1 : _ = some (Value.slice none 0 0) := R0_2.cell 1
            have fR0_2_1 := R0_2.free 1
            have cR0_2_2 : _ = some (Value.slice none 0 0) := R0_2.cell 2
            have fR0_2_2 := R0_2.free 2
            have V_2 := V_1.below hB_2
            have hbel_2 := hbel_1.next hB_2
            have hsz_2 := hB_2.size
            clear R0_1 cR0_1_0 fR0_1_0 cR0_1_1 fR0_1_1 cR0_1_2 fR0_1_2 V_1 hbel_1 hB_2
            have TT_2 := hO.rdN hsTh.out
            clear hO
            try clear hB
            go_wp2_with fail
            refine (rlow true (V_2.mono (by omega)) (TT_2.mono (by omega)) hT0.out).mono ?_
            rw [hqh.out]
            rintro e w3 ⟨qa, qn, qc, da, dn, dc, rfl, hO, hO', hD9, hB⟩
            have hB_3 : Below w2.heap.size w2 w3 := (bl.next hB)
            have R0_3 := R0_2.next hB_3
            have cR0_3_0 : _ = some (Value.bool false) := R0_3.cell 0
            have fR0_3_0 := R0_3.free 0
            have cR0_3_1 : _ = some (Value.slice none 0 0) := R0_3.cell 1
            have fR0_3_1 := R0_3.free 1
            have cR0_3_2 : _ = some (Value.slice none 0 0) := R0_3.cell 2
            have fR0_3_2 := R0_3.free 2
            have V_3 := V_2.below hB_3
            have TT_3 := TT_2.below hB_3
            have hbel_3 := hbel_2.next hB_3
            have hsz_3 := hB_3.size
            clear R0_2 cR0_2_0 fR0_2_0 cR0_2_1 fR0_2_1 cR0_2_2 fR0_2_2 V_2 TT_2 hbel_2 hB_3
            have OQ_3 := hO
            have ltOQ := hO.ltB
            have OD_3 := hO'
            have ltOD := hO'.ltB
            clear hO hO'
            try clear hB
            go_wp2
            refine bodyPost_ret (v := .tuple #[.agg #[.bool (decide (q.num < 0)), .slice qa qn qc, .slice da dn dc], .int .i64 0]) (by simp [results, Try.results23, go_sem, cR0_3_0, cR0_3_1, cR0_3_2]) rfl ?_
            exact (by rw [hDE.out]; exact retqe_set (er := 0) OQ_3 OD_3 hD9 hbel_3 (by omega) (by omega))
        · skip
          have hohf : dgOk H = false := by simpa using hoh
          rw [hohf] at hdH
          have hNo := (hP.out _ (hV.out.trans (rfC_no hph.out (fun h => dgOk_no hohf (by rw [hHb.out]; exact ⟨h.1, h.2.1⟩)))))
          clear hoh hohf hV hP HDg
          go_wp2_with fail
          refine (hdH.out _).mono ?_
          rintro e wc ⟨rfl, hwc⟩
          subst wc
          have hEr := hid (dc_none hNo)
          go_wp2
          refine bodyPost_ret (v := .tuple #[.agg #[.bool false, .slice none 0 0, .slice none 0 0], .int .i64 22]) (by simp [results, Try.results23, go_sem, cR0_0_0, cR0_0_1, cR0_0_2]) rfl ?_
          exact (by rw [hEr.out]; exact retqe_nil (by decide) hbel_0 (by omega))
      · skip
        have hobf : dgOk Bh = false := by simpa using hob
        rw [hobf] at hdB
        have hNo := (hP.out _ (hV.out.trans (rfC_no hph.out (fun h => dgOk_no hobf (by rw [hBb.out]; exact h.2.2 (by rw [by_len]; exact hpt))))))
        clear hob hobf hV hP HDg
        go_wp2_with fail
        refine (hdB.out _).mono ?_
        rintro e wc ⟨rfl, hwc⟩
        subst wc
        have hEr := hid (dc_none hNo)
        go_wp2
        refine bodyPost_ret (v := .tuple #[.agg #[.bool false, .slice none 0 0, .slice none 0 0], .int .i64 22]) (by simp [results, Try.results23, go_sem, cR0_0_0, cR0_0_1, cR0_0_2]) rfl ?_
        exact (by rw [hEr.out]; exact retqe_nil (by decide) hbel_0 (by omega))
    · skip
      have hpp : p = S.size := by omega
      have hSH : S = H := by refine by_inj ?_; rw [hHb.out, List.take_of_length_le (by rw [by_len]; omega)]
      subst hSH
      clear hHp
      by_cases hoh : dgOk S = true
      · skip
        obtain ⟨ho1, ho2⟩ := (dgOk_iff S).1 hoh
        rw [hoh] at hdH
        rw [hHb.out] at ho1 ho2
        have hC := rfC_some (e := ev) hph.out ho1 ho2 (fun h9 => by rw [by_len] at h9; exact absurd h9 hpt)
        have hD : S ++ (⟨#[]⟩ : ByteArray) = S := by refine by_inj ?_; rw [be_append]; exact List.append_nil _
        have hDb : by' S = (by' S).take p ++ (by' S).drop (p + 1) := by rw [List.take_of_length_le (by rw [by_len]; omega), List.drop_eq_nil_of_le (by rw [by_len]; omega)]; exact (List.append_nil _).symm
        have hBl : ((by' S).drop (p + 1)).length = 0 := by rw [List.length_drop, by_len]; omega
        rw [← hDb, hBl, show ((0 : Nat) : Int) = 0 from rfl] at hC
        have hPP := hP.out _ (hV.out.trans hC)
        obtain ⟨hQ1, hQ2⟩ := dc_some hPP
        have hDs : S.size ≤ 4096 := by omega
        have hokD : okD (by' S) = true := by rw [hDb, okD_app, ho1]; rw [List.drop_eq_nil_of_le (by rw [by_len]; omega)]; rfl
        have hH0 : 0 < S.size := by rw [← by_len, hHb.out]; exact List.length_pos_iff.2 ho2
        have hpa := pa_ok hokD (by omega)
        have HV := hid (fun w => rparse_any (w := w) S (by omega))
        rw [hpa.1, hpa.2] at HV
        have hsv0 := paN_sz S (K := 4096) hDs
        rw [hpa.1] at hsv0
        obtain ⟨v, hvD⟩ : ∃ v, numD (by' S) = v := ⟨_, rfl⟩
        rw [hvD] at HV hsv0
        obtain ⟨K3, hK3, hK3b⟩ : ∃ K, 4096 ≤ K ∧ K ≤ 5000 := ⟨4096, by omega, by omega⟩
        have hsv := hid (hsv0.mono (Nat.le_refl _) hK3)
        have hDE := hid (show RetQE w (dcQ (by' s)) (dcE (by' s)) = RetQE w (dcV (true, by' S, ev - 0)) 0 by rw [hQ1, hQ2])
        obtain ⟨e2, he2⟩ : ∃ y, ev - 0 = y := ⟨_, rfl⟩
        rw [he2] at hDE
        have he2a : -6000 ≤ e2 := by omega
        have he2b : e2 ≤ 1000 := by omega
        clear hC hPP hQ1 hQ2 hokD hpa hsv0 hDb hBl ho1 ho2 hoh hV hP HDg
        go_wp2_with fail
        refine (hdH.out _).mono ?_
        rintro e wc ⟨rfl, hwc⟩
        subst wc
        by_cases hup : 0 ≤ e2
        · skip
          obtain ⟨E, hE⟩ : ∃ E : Nat, e2 = (E : Int) := ⟨(e2).toNat, by omega⟩
          have hEb : E ≤ 6000 := by omega
          have hq := dcV_up (b := true) (D := by' S) hE
          rw [hvD, Rat.divInt_ofNat] at hq
          generalize dcV (true, by' S, e2) = q at *
          obtain ⟨K4, hK4, hK5⟩ : ∃ K, 14000 ≤ K ∧ K ≤ 20000 := ⟨14000, by omega, by omega⟩
          have hsT := szTen E
          have HT := hid (fun w => rten (w := w) E (by omega))
          have hsM := hid ((hsv.out.mul hsT).mono (Nat.le_refl _) (show K3 + (E + 1) ≤ K4 by omega))
          have hsTh := hid (hsT.mono (Nat.le_refl _) (show E + 1 ≤ K4 by omega))
          have hsvh := hid (hsv.out.mono (Nat.le_refl _) (show K3 ≤ K4 by omega))
          clear hsT hsv hvD
          obtain ⟨T, hT⟩ : ∃ T, 10 ^ E = T := ⟨_, rfl⟩
          have hT0 := hid (show T ≠ 0 by rw [← hT]; exact Nat.pos_iff_ne_zero.1 (Nat.pow_pos (by decide)))
          rw [hT] at HT hsTh hq hsM
          clear hT
          have hqh := hid hq
          clear hq
          subst hE
          go_wp2_with fail
          refine (HV.out _).mono ?_
          rintro e w1 ⟨na, nn, nc, rfl, hO, hB⟩
          have hB_1 : Below W0.heap.size W0 w1 := (bl.next hB)
          have R0_1 := R0_0.next hB_1
          have cR0_1_0 : _ = some (Value.bool false) := R0_1.cell 0
          have fR0_1_0 := R0_1.free 0
          have cR0_1_1 : _ = some (Value.slice none 0 0) := R0_1.cell 1
          have fR0_1_1 := R0_1.free 1
          have cR0_1_2 : _ = some (Value.slice none 0 0) := R0_1.cell 2
          have fR0_1_2 := R0_1.free 2
          have hbel_1 := hbel_0.next hB_1
          have hsz_1 := hB_1.size
          clear R0_0 cR0_0_0 fR0_0_0 cR0_0_1 fR0_0_1 cR0_0_2 fR0_0_2 hbel_0 hB_1
          have V_1 := hO.rdN hsvh.out
          clear hO
          try clear hB
          go_wp2_with fail
          refine (HT.out _).mono ?_
          rintro e w2 ⟨ta, tn, tc, rfl, hO, hB⟩
          have hB_2 : Below w1.heap.size w1 w2 := (bl.next hB)
          have R0_2 := R0_1.next hB_2
          have cR0_2_0 : _ = some (Value.bool false) := R0_2.cell 0
          have fR0_2_0 := R0_2.free 0
          have cR0_2_1 : _ = some (Value.slice none 0 0) := R0_2.cell 1
          have fR0_2_1 := R0_2.free 1
          have cR0_2_2 : _ = some (Value.slice none 0 0) := R0_2.cell 2
          have fR0_2_2 := R0_2.free 2
          have V_2 := V_1.below hB_2
          have hbel_2 := hbel_1.next hB_2
          have hsz_2 := hB_2.size
          clear R0_1 cR0_1_0 fR0_1_0 cR0_1_1 fR0_1_1 cR0_1_2 fR0_1_2 V_1 hbel_1 hB_2
          have TT_2 := hO.rdN hsTh.out
          clear hO
          try clear hB
          go_wp2_with fail
          refine (rmulR V_2 TT_2 (by omega) (by omega)).mono ?_
          rintro e w3 ⟨ma, mn, mc, rfl, hO, hB⟩
          have hB_3 : Below w2.heap.size w2 w3 := (bl.next hB)
          have R0_3 := R0_2.next hB_3
          have cR0_3_0 : _ = some (Value.bool false) := R0_3.cell 0
          have fR0_3_0 := R0_3.free 0
          have cR0_3_1 : _ = some (Value.slice none 0 0) := R0_3.cell 1
          have fR0_3_1 := R0_3.free 1
          have cR0_3_2 : _ = some (Value.slice none 0 0) := R0_3.cell 2
          have fR0_3_2 := R0_3.free 2
          have V_3 := V_2.below hB_3
          have TT_3 := TT_2.below hB_3
          have hbel_3 := hbel_2.next hB_3
          have hsz_3 := hB_3.size
          clear R0_2 cR0_2_0 fR0_2_0 cR0_2_1 fR0_2_1 cR0_2_2 fR0_2_2 V_2 TT_2 hbel_2 hB_3
          have M_3 := hO.rdN hsM.out
          clear hO
          try clear hB
          have hbx := blk_new w3 #[Value.int .u32 1] 39
          have hbB := (Below.refl w3.heap.size w3).alloc (Nat.le_refl _) (.cells #[Value.int .u32 1] 39)
          have hltONE := hbx.lt
          have hB_4 : Below w3.heap.size w3 (w3.alloc (.cells #[Value.int .u32 1] 39)) := hbB
          have R0_4 := R0_3.next hB_4
          have cR0_4_0 : _ = some (Value.bool false) := R0_4.cell 0
          have fR0_4_0 := R0_4.free 0
          have cR0_4_1 : _ = some (Value.slice none 0 0) := R0_4.cell 1
          have fR0_4_1 := R0_4.free 1
          have cR0_4_2 : _ = some (Value.slice none 0 0) := R0_4.cell 2
          have fR0_4_2 := R0_4.free 2
          have V_4 := V_3.below hB_4
          have TT_4 := TT_3.below hB_4
          have M_4 := M_3.below hB_4
          have hbel_4 := hbel_3.next hB_4
          have hsz_4 := hB_4.size
          clear hB_4
          have ONE_4 := hbx
          clear hbx hbB
          have cONE_4_0 : _ = some (Value.int .u32 1) := ONE_4.cell 0
          have O1_4 := (show Own w3.heap.size _ (some ⟨_, 0, none⟩) 1 1 [1] from own_one _ _ 1 (by omega) (Nat.le_refl _))
          go_wp2_with fail
          clear R0_3 cR0_3_0 fR0_3_0 cR0_3_1 fR0_3_1 cR0_3_2 fR0_3_2 V_3 TT_3 M_3 hbel_3
          generalize (w3.alloc (.cells #[Value.int .u32 1] 39)) = v4 at *
          have U_4 := (show RdN 1 _ _ _ _ 1 from (lm_one ▸ O1_4 : Own _ _ _ _ _ (lm 1)).rdN (v := 1) (k := 1) (sz_one (Nat.le_refl _)))
          clear O1_4
          go_wp2_with fail
          refine (rlow true (M_4.mono (by omega)) (U_4.mono (by omega)) (by decide)).mono ?_
          rw [hqh.out]
          rintro e w5 ⟨qa, qn, qc, da, dn, dc, rfl, hO, hO', hD9, hB⟩
          have hB_5 : Below v4.heap.size v4 w5 := (bl.next hB)
          have R0_5 := R0_4.next hB_5
          have cR0_5_0 : _ = some (Value.bool false) := R0_5.cell 0
          have fR0_5_0 := R0_5.free 0
          have cR0_5_1 : _ = some (Value.slice none 0 0) := R0_5.cell 1
          have fR0_5_1 := R0_5.free 1
          have cR0_5_2 : _ = some (Value.slice none 0 0) := R0_5.cell 2
          have fR0_5_2 := R0_5.free 2
          have ONE_5 := ONE_4.next hB_5
          have cONE_5_0 : _ = some (Value.int .u32 1) := ONE_5.cell 0
          have V_5 := V_4.below hB_5
          have TT_5 := TT_4.below hB_5
          have M_5 := M_4.below hB_5
          have U_5 := U_4.below hB_5
          have hbel_5 := hbel_4.next hB_5
          have hsz_5 := hB_5.size
          clear R0_4 cR0_4_0 fR0_4_0 cR0_4_1 fR0_4_1 cR0_4_2 fR0_4_2 ONE_4 cONE_4_0 V_4 TT_4 M_4 U_4 hbel_4 hB_5
          have OQ_5 := hO
          have ltOQ := hO.ltB
          have OD_5 := hO'
          have ltOD := hO'.ltB
          clear hO hO'
          try clear hB
          go_wp2
          refine bodyPost_ret (v := .tuple #[.agg #[.bool (decide (q.num < 0)), .slice qa qn qc, .slice da dn dc], .int .i64 0]) (by simp [results, Try.results23, go_sem, cR0_5_0, cR0_5_1, cR0_5_2]) rfl ?_
          exact (by rw [hDE.out]; exact retqe_set (er := 0) OQ_5 OD_5 hD9 hbel_5 (by omega) (by omega))
        · skip
          obtain ⟨E, hE⟩ : ∃ E : Nat, e2 = -(E : Int) := ⟨(-e2).toNat, by omega⟩
          have hE1 : 1 ≤ E := by omega
          have hEb : E ≤ 6000 := by omega
          have hq := dcV_dn (b := true) (D := by' S) hE hE1
          rw [hvD, Rat.divInt_ofNat] at hq
          generalize dcV (true, by' S, e2) = q at *
          obtain ⟨K4, hK4, hK5⟩ : ∃ K, 14000 ≤ K ∧ K ≤ 20000 := ⟨14000, by omega, by omega⟩
          have hsT := szTen E
          have HT := hid (fun w => rten (w := w) E (by omega))
          have hsTh := hid (hsT.mono (Nat.le_refl _) (show E + 1 ≤ K4 by omega))
          have hsvh := hid (hsv.out.mono (Nat.le_refl _) (show K3 ≤ K4 by omega))
          clear hsT hsv hvD
          obtain ⟨T, hT⟩ : ∃ T, 10 ^ E = T := ⟨_, rfl⟩
          have hT0 := hid (show T ≠ 0 by rw [← hT]; exact Nat.pos_iff_ne_zero.1 (Nat.pow_pos (by decide)))
          rw [hT] at HT hsTh hq
          clear hT
          have hqh := hid hq
          clear hq
          subst hE
          go_wp2_with fail
          refine (HV.out _).mono ?_
          rintro e w1 ⟨na, nn, nc, rfl, hO, hB⟩
          have hB_1 : Below W0.heap.size W0 w1 := (bl.next hB)
          have R0_1 := R0_0.next hB_1
          have cR0_1_0 : _ = some (Value.bool false) := R0_1.cell 0
          have fR0_1_0 := R0_1.free 0
          have cR0_1_1 : _ = some (Value.slice none 0 0) := R0_1.cell 1
          have fR0_1_1 := R0_1.free 1
          have cR0_1_2 : _ = some (Value.slice none 0 0) := R0_1.cell 2
          have fR0_1_2 := R0_1.free 2
          have hbel_1 := hbel_0.next hB_1
          have hsz_1 := hB_1.size
          clear R0_0 cR0_0_0 fR0_0_0 cR0_0_1 fR0_0_1 cR0_0_2 fR0_0_2 hbel_0 hB_1
          have V_1 := hO.rdN hsvh.out
          clear hO
          try clear hB
          go_wp2_with fail
          refine (HT.out _).mono ?_
          rintro e w2 ⟨ta, tn, tc, rfl, hO, hB⟩
          have hB_2 : Below w1.heap.size w1 w2 := (bl.next hB)
          have R0_2 := R0_1.next hB_2
          have cR0_2_0 : _ = some (Value.bool false) := R0_2.cell 0
          have fR0_2_0 := R0_2.free 0
          have cR0_2_1 : _ = some (Value.slice none 0 0) := R0_2.cell 1
          have fR0_2_1 := R0_2.free 1
          have cR0_2_2 : _ = some (Value.slice none 0 0) := R0_2.cell 2
          have fR0_2_2 := R0_2.free 2
          have V_2 := V_1.below hB_2
          have hbel_2 := hbel_1.next hB_2
          have hsz_2 := hB_2.size
          clear R0_1 cR0_1_0 fR0_1_0 cR0_1_1 fR0_1_1 cR0_1_2 fR0_1_2 V_1 hbel_1 hB_2
          have TT_2 := hO.rdN hsTh.out
          clear hO
          try clear hB
          go_wp2_with fail
          refine (rlow true (V_2.mono (by omega)) (TT_2.mono (by omega)) hT0.out).mono ?_
          rw [hqh.out]
          rintro e w3 ⟨qa, qn, qc, da, dn, dc, rfl, hO, hO', hD9, hB⟩
          have hB_3 : Below w2.heap.size w2 w3 := (bl.next hB)
          have R0_3 := R0_2.next hB_3
          have cR0_3_0 : _ = some (Value.bool false) := R0_3.cell 0
          have fR0_3_0 := R0_3.free 0
          have cR0_3_1 : _ = some (Value.slice none 0 0) := R0_3.cell 1
          have fR0_3_1 := R0_3.free 1
          have cR0_3_2 : _ = some (Value.slice none 0 0) := R0_3.cell 2
          have fR0_3_2 := R0_3.free 2
          have V_3 := V_2.below hB_3
          have TT_3 := TT_2.below hB_3
          have hbel_3 := hbel_2.next hB_3
          have hsz_3 := hB_3.size
          clear R0_2 cR0_2_0 fR0_2_0 cR0_2_1 fR0_2_1 cR0_2_2 fR0_2_2 V_2 TT_2 hbel_2 hB_3
          have OQ_3 := hO
          have ltOQ := hO.ltB
          have OD_3 := hO'
          have ltOD := hO'.ltB
          clear hO hO'
          try clear hB
          go_wp2
          refine bodyPost_ret (v := .tuple #[.agg #[.bool (decide (q.num < 0)), .slice qa qn qc, .slice da dn dc], .int .i64 0]) (by simp [results, Try.results23, go_sem, cR0_3_0, cR0_3_1, cR0_3_2]) rfl ?_
          exact (by rw [hDE.out]; exact retqe_set (er := 0) OQ_3 OD_3 hD9 hbel_3 (by omega) (by omega))
      · skip
        have hohf : dgOk S = false := by simpa using hoh
        rw [hohf] at hdH
        have hNo := (hP.out _ (hV.out.trans (rfC_no hph.out (fun h => dgOk_no hohf (by rw [hHb.out]; exact ⟨h.1, h.2.1⟩)))))
        clear hoh hohf hV hP HDg
        go_wp2_with fail
        refine (hdH.out _).mono ?_
        rintro e wc ⟨rfl, hwc⟩
        subst wc
        have hEr := hid (dc_none hNo)
        go_wp2
        refine bodyPost_ret (v := .tuple #[.agg #[.bool false, .slice none 0 0, .slice none 0 0], .int .i64 22]) (by simp [results, Try.results23, go_sem, cR0_0_0, cR0_0_1, cR0_0_2]) rfl ?_
        exact (by rw [hEr.out]; exact retqe_nil (by decide) hbel_0 (by omega))

set_option maxRecDepth 100000 in
set_option maxHeartbeats 16000000 in
theorem rpa0 {w : World} (s : ByteArray) (hs : s.size ≤ 4096) (hn : pzB s = false) (h0 : 0 < s.size) :
    Calls Try.prog 23 #[.string s] w (RetQE w (dcQ (by' s)) (dcE (by' s))) := by
  have h45 : s[0].toNat ≠ 45 := fun e => by have := of_decide_eq_false hn; exact this ⟨h0, by rw [by_get s 0 h0]; exact e⟩
  have h10 : 1 ≤ s.size := h0
  have hr : pzR s = s := by unfold pzR; rw [hn]; rfl
  have hPo : ∀ o, rfU (by' s) = o → dcP (by' s) = o.map fun p => (false, p) := fun o ho => by rw [rfU_dcU] at ho; have := dcP_of (s := s) (o := o) (by rw [hr]; exact ho); rwa [hn] at this
  have hP := hid hPo
  clear hPo hr hn
  have HF := hid (fun w (S : ByteArray) (h : S.size ≤ 4096) => rfind (w := w) S (by omega) 101 69 (by decide) (by decide))
  have HG := hid (fun w (S : ByteArray) (h : S.size ≤ 4096) => rfind (w := w) S (by omega) 46 46 (by decide) (by decide))
  have HDg := hid (fun w (S : ByteArray) (h : S.size ≤ 4096) => rdig (w := w) S (by omega))
  have HSm := hid (fun w (S : ByteArray) (h : S.size ≤ 4096) (ho : okD (by' S) = true) => rsmall (w := w) S (by omega) ho)
  obtain ⟨k, hk⟩ : ∃ k, fdN 101 69 (by' s) = k := ⟨_, rfl⟩
  have hkl := fdN_le 101 69 (by' s)
  rw [hk, by_len] at hkl
  have hkh := hid hk
  have HFr := hid (fun w => HF.out w s (by omega))
  rw [hk] at HFr
  clear hk HF
  obtain ⟨c0, hc0⟩ : ∃ c, s[0].toNat = c := ⟨_, rfl⟩
  rw [hc0] at h45
  have hcb : ((c0 : Int) == 45) = false := by simp; omega
  have hent := ent1 w #[Value.bool false, Value.slice none 0 0, Value.slice none 0 0] 29
  go_enter Try.func23, Try.ntmps23
  go_wp2_with fail
  generalize (w.alloc (.cells #[Value.bool false, Value.slice none 0 0, Value.slice none 0 0] 29)) = W0 at hent ⊢
  obtain ⟨R0_0, hbel_0, hsz_0⟩ := hent
  have cR0_0_0 : _ = some (Value.bool false) := R0_0.cell 0
  have fR0_0_0 := R0_0.free 0
  have cR0_0_1 : _ = some (Value.slice none 0 0) := R0_0.cell 1
  have fR0_0_1 := R0_0.free 1
  have cR0_0_2 : _ = some (Value.slice none 0 0) := R0_0.cell 2
  have fR0_0_2 := R0_0.free 2
  go_wp2_with fail
  refine (HFr.out _).mono ?_
  rintro e wc ⟨rfl, hwc⟩
  subst wc
  go_upto_if 35 with fail
  go_cut [0, 6] (fun s0 s6 wx => ∃ (S : ByteArray) (ev : Int), s0 = .string S ∧ s6 = .int .i64 ev ∧ -1000 ≤ ev ∧ ev ≤ 1000 ∧ S.size ≤ 4096 ∧ Hid (rfU (by' s) = rfC (by' S) ev) ∧ wx = W0)
  case first =>
    by_cases hlt : k < s.size
    · skip
      obtain ⟨T, hT⟩ : ∃ T, s.extract (k + 1) s.size = T := ⟨_, rfl⟩
      obtain ⟨S, hS⟩ : ∃ S, s.extract 0 k = S := ⟨_, rfl⟩
      have hTb : by' T = (by' s).drop (k + 1) := by rw [← hT]; exact be_drop _ _
      have hSb : by' S = (by' s).take k := by rw [← hS]; exact be_take _ _
      have hTs : T.size ≤ 4096 := by rw [← hT, ByteArray.size_extract]; omega
      have hSs : S.size ≤ 4096 := by rw [← hS, ByteArray.size_extract]; omega
      have hk9 : k + 1 ≤ s.size := hlt
      have hX := hid (fun e (he : exT (by' T) = some e) => (show rfU (by' s) = rfC (by' S) e by rw [hSb]; exact rfU_e hkh.out (by rw [by_len]; exact hlt) (by rw [← hTb]; exact he)))
      have hY := hid (fun (he : exT (by' T) = none) => (show rfU (by' s) = none from rfU_bad hkh.out (by rw [by_len]; exact hlt) (by rw [← hTb]; exact he)))
      clear hTb hSb
      have hways : (∃ U : ByteArray, 0 < T.size ∧ exS (by' T) = (true, by' U) ∧ T.extract 1 T.size = U ∧ ∃ h : 0 < T.size, T[0].toNat = 45) ∨ (∃ U : ByteArray, 0 < T.size ∧ exS (by' T) = (false, by' U) ∧ T.extract 1 T.size = U ∧ ∃ h : 0 < T.size, T[0].toNat = 43) ∨ (exS (by' T) = (false, by' T) ∧ ∃ h : 0 < T.size, T[0].toNat ≠ 45 ∧ T[0].toNat ≠ 43) ∨ T = ⟨#[]⟩ := by
        by_cases h9 : 0 < T.size
        · have e1 := be_cons h9
          by_cases ha : T[0].toNat = 45
          · exact .inl ⟨_, h9, by rw [e1]; exact exS_n ha, rfl, h9, ha⟩
          · by_cases hb : T[0].toNat = 43
            · exact .inr (.inl ⟨_, h9, by rw [e1]; exact exS_p ha hb, rfl, h9, hb⟩)
            · refine .inr (.inr (.inl ⟨?_, h9, ha, hb⟩))
              rw [e1]; exact exS_z ha hb
        · exact .inr (.inr (.inr (be_nil (by omega))))
      rcases hways with ⟨U, hT0, hU, hUe, h9, hb⟩ | ⟨U, hT0, hU, hUe, h9, hb⟩ | ⟨hU, h9, hb1, hb2⟩ | rfl
      · skip
        have h9l : 1 ≤ T.size := h9
        obtain ⟨cT, hcT⟩ : ∃ c, T[0].toNat = c := ⟨_, rfl⟩
        rw [hcT] at hb
        subst hb
        have hUs : U.size ≤ 4096 := by rw [← hUe, ByteArray.size_extract]; omega
        have hE := exT_of hU
        have hdg := hid (HDg.out W0 U hUs)
        by_cases hok : dgOk U = true
        · skip
          obtain ⟨ho, hne⟩ := (dgOk_iff U).1 hok
          rw [hok] at hdg
          have hsm := hid (HSm.out W0 U hUs ho)
          obtain ⟨v, hv⟩ : ∃ v, numD (by' U) = v := ⟨_, rfl⟩
          rw [hv] at hE hsm
          by_cases hle : v ≤ 1000
          · skip
            rw [if_pos ⟨hne, ho, hle⟩] at hE
            have hE2 := hid (hX.out _ hE)
            rw [show smN v = v from if_pos hle, decide_eq_true hle] at hsm
            have hev : Hid (exV true v = -(v : Int)) := (show exV true v = -(v : Int) from rfl)
            rw [hev.out] at hE2
            clear hE hok ho hne hv hU hX hY hP HDg HSm
            go_wp2_with fail
            refine (hdg.out).mono ?_
            rintro e wc ⟨rfl, hwc⟩
            subst wc
            go_wp2_with fail
            refine (hsm.out).mono ?_
            rintro e wc ⟨rfl, hwc⟩
            subst wc
            go_wp2_with fail
            go_meet
            exact ⟨S, _, rfl, rfl, by omega, by omega, hSs, hE2, rfl⟩
          · skip
            rw [if_neg (fun h => hle h.2.2)] at hE
            have hno := hY.out hE
            rw [show smN v = 0 from if_neg hle, decide_eq_false hle] at hsm
            clear hE hok ho hne hv hU hX hY HDg HSm
            go_wp2_with fail
            refine (hdg.out).mono ?_
            rintro e wc ⟨rfl, hwc⟩
            subst wc
            go_wp2_with fail
            refine (hsm.out).mono ?_
            rintro e wc ⟨rfl, hwc⟩
            subst wc
            have hEr := hid (dc_none (hP.out _ hno))
            go_wp2
            refine bodyPost_ret (v := .tuple #[.agg #[.bool false, .slice none 0 0, .slice none 0 0], .int .i64 22]) (by simp [results, Try.results23, go_sem, cR0_0_0, cR0_0_1, cR0_0_2]) rfl ?_
            exact (by rw [hEr.out]; exact retqe_nil (by decide) hbel_0 (by omega))
        · skip
          have hokf : dgOk U = false := by simpa using hok
          rw [if_neg (fun h => dgOk_no hokf ⟨h.2.1, h.1⟩)] at hE
          have hno := hY.out hE
          rw [hokf] at hdg
          clear hE hok hokf hU hX hY HDg HSm
          go_wp2_with fail
          refine (hdg.out).mono ?_
          rintro e wc ⟨rfl, hwc⟩
          subst wc
          have hEr := hid (dc_none (hP.out _ hno))
          go_wp2
          refine bodyPost_ret (v := .tuple #[.agg #[.bool false, .slice none 0 0, .slice none 0 0], .int .i64 22]) (by simp [results, Try.results23, go_sem, cR0_0_0, cR0_0_1, cR0_0_2]) rfl ?_
          exact (by rw [hEr.out]; exact retqe_nil (by decide) hbel_0 (by omega))
      · skip
        have h9l : 1 ≤ T.size := h9
        obtain ⟨cT, hcT⟩ : ∃ c, T[0].toNat = c := ⟨_, rfl⟩
        rw [hcT] at hb
        subst hb
        have hUs : U.size ≤ 4096 := by rw [← hUe, ByteArray.size_extract]; omega
        have hE := exT_of hU
        have hdg := hid (HDg.out W0 U hUs)
        by_cases hok : dgOk U = true
        · skip
          obtain ⟨ho, hne⟩ := (dgOk_iff U).1 hok
          rw [hok] at hdg
          have hsm := hid (HSm.out W0 U hUs ho)
          obtain ⟨v, hv⟩ : ∃ v, numD (by' U) = v := ⟨_, rfl⟩
          rw [hv] at hE hsm
          by_cases hle : v ≤ 1000
          · skip
            rw [if_pos ⟨hne, ho, hle⟩] at hE
            have hE2 := hid (hX.out _ hE)
            rw [show smN v = v from if_pos hle, decide_eq_true hle] at hsm
            have hev : Hid (exV false v = (v : Int)) := (show exV false v = (v : Int) from rfl)
            rw [hev.out] at hE2
            clear hE hok ho hne hv hU hX hY hP HDg HSm
            go_wp2_with fail
            refine (hdg.out).mono ?_
            rintro e wc ⟨rfl, hwc⟩
            subst wc
            go_wp2_with fail
            refine (hsm.out).mono ?_
            rintro e wc ⟨rfl, hwc⟩
            subst wc
            go_wp2_with fail
            go_meet
            exact ⟨S, _, rfl, rfl, by omega, by omega, hSs, hE2, rfl⟩
          · skip
            rw [if_neg (fun h => hle h.2.2)] at hE
            have hno := hY.out hE
            rw [show smN v = 0 from if_neg hle, decide_eq_false hle] at hsm
            clear hE hok ho hne hv hU hX hY HDg HSm
            go_wp2_with fail
            refine (hdg.out).mono ?_
            rintro e wc ⟨rfl, hwc⟩
            subst wc
            go_wp2_with fail
            refine (hsm.out).mono ?_
            rintro e wc ⟨rfl, hwc⟩
            subst wc
            have hEr := hid (dc_none (hP.out _ hno))
            go_wp2
            refine bodyPost_ret (v := .tuple #[.agg #[.bool false, .slice none 0 0, .slice none 0 0], .int .i64 22]) (by simp [results, Try.results23, go_sem, cR0_0_0, cR0_0_1, cR0_0_2]) rfl ?_
            exact (by rw [hEr.out]; exact retqe_nil (by decide) hbel_0 (by omega))
        · skip
          have hokf : dgOk U = false := by simpa using hok
          rw [if_neg (fun h => dgOk_no hokf ⟨h.2.1, h.1⟩)] at hE
          have hno := hY.out hE
          rw [hokf] at hdg
          clear hE hok hokf hU hX hY HDg HSm
          go_wp2_with fail
          refine (hdg.out).mono ?_
          rintro e wc ⟨rfl, hwc⟩
          subst wc
          have hEr := hid (dc_none (hP.out _ hno))
          go_wp2
          refine bodyPost_ret (v := .tuple #[.agg #[.bool false, .slice none 0 0, .slice none 0 0], .int .i64 22]) (by simp [results, Try.results23, go_sem, cR0_0_0, cR0_0_1, cR0_0_2]) rfl ?_
          exact (by rw [hEr.out]; exact retqe_nil (by decide) hbel_0 (by omega))
      · skip
        have h9l : 1 ≤ T.size := h9
        obtain ⟨cT, hcT⟩ : ∃ c, T[0].toNat = c := ⟨_, rfl⟩
        rw [hcT] at hb1 hb2
        have hUs : T.size ≤ 4096 := hTs
        have hcb1 : ((cT : Int) == 45) = false := by simp; omega
        have hcb2 : ((cT : Int) == 43) = false := by simp; omega
        have hE := exT_of hU
        have hdg := hid (HDg.out W0 T hUs)
        by_cases hok : dgOk T = true
        · skip
          obtain ⟨ho, hne⟩ := (dgOk_iff T).1 hok
          rw [hok] at hdg
          have hsm := hid (HSm.out W0 T hUs ho)
          obtain ⟨v, hv⟩ : ∃ v, numD (by' T) = v := ⟨_, rfl⟩
          rw [hv] at hE hsm
          by_cases hle : v ≤ 1000
          · skip
            rw [if_pos ⟨hne, ho, hle⟩] at hE
            have hE2 := hid (hX.out _ hE)
            rw [show smN v = v from if_pos hle, decide_eq_true hle] at hsm
            have hev : Hid (exV false v = (v : Int)) := (show exV false v = (v : Int) from rfl)
            rw [hev.out] at hE2
            clear hE hok ho hne hv hU hX hY hP HDg HSm
            go_wp2_with fail
            refine (hdg.out).mono ?_
            rintro e wc ⟨rfl, hwc⟩
            subst wc
            go_wp2_with fail
            refine (hsm.out).mono ?_
            rintro e wc ⟨rfl, hwc⟩
            subst wc
            go_wp2_with fail
            go_meet
            exact ⟨S, _, rfl, rfl, by omega, by omega, hSs, hE2, rfl⟩
          · skip
            rw [if_neg (fun h => hle h.2.2)] at hE
            have hno := hY.out hE
            rw [show smN v = 0 from if_neg hle, decide_eq_false hle] at hsm
            clear hE hok ho hne hv hU hX hY HDg HSm
            go_wp2_with fail
            refine (hdg.out).mono ?_
            rintro e wc ⟨rfl, hwc⟩
            subst wc
            go_wp2_with fail
            refine (hsm.out).mono ?_
            rintro e wc ⟨rfl, hwc⟩
            subst wc
            have hEr := hid (dc_none (hP.out _ hno))
            go_wp2
            refine bodyPost_ret (v := .tuple #[.agg #[.bool false, .slice none 0 0, .slice none 0 0], .int .i64 22]) (by simp [results, Try.results23, go_sem, cR0_0_0, cR0_0_1, cR0_0_2]) rfl ?_
            exact (by rw [hEr.out]; exact retqe_nil (by decide) hbel_0 (by omega))
        · skip
          have hokf : dgOk T = false := by simpa using hok
          rw [if_neg (fun h => dgOk_no hokf ⟨h.2.1, h.1⟩)] at hE
          have hno := hY.out hE
          rw [hokf] at hdg
          clear hE hok hokf hU hX hY HDg HSm
          go_wp2_with fail
          refine (hdg.out).mono ?_
          rintro e wc ⟨rfl, hwc⟩
          subst wc
          have hEr := hid (dc_none (hP.out _ hno))
          go_wp2
          refine bodyPost_ret (v := .tuple #[.agg #[.bool false, .slice none 0 0, .slice none 0 0], .int .i64 22]) (by simp [results, Try.results23, go_sem, cR0_0_0, cR0_0_1, cR0_0_2]) rfl ?_
          exact (by rw [hEr.out]; exact retqe_nil (by decide) hbel_0 (by omega))
      · skip
        have hno := hY.out rfl
        have hdg := hid (HDg.out W0 ⟨#[]⟩ (by decide))
        rw [show dgOk ⟨#[]⟩ = false from rfl] at hdg
        go_wp2_with fail
        refine (hdg.out).mono ?_
        rintro e wc ⟨rfl, hwc⟩
        subst wc
        have hEr := hid (dc_none (hP.out _ hno))
        go_wp2
        refine bodyPost_ret (v := .tuple #[.agg #[.bool false, .slice none 0 0, .slice none 0 0], .int .i64 22]) (by simp [results, Try.results23, go_sem, cR0_0_0, cR0_0_1, cR0_0_2]) rfl ?_
        exact (by rw [hEr.out]; exact retqe_nil (by decide) hbel_0 (by omega))
    · skip
      have hkk : k = s.size := by omega
      have hE2 := hid (rfU_no hkh.out (by rw [by_len]; exact hlt))
      clear HDg HSm
      go_wp2_with fail
      go_meet
      exact ⟨s, 0, rfl, rfl, by omega, by omega, by omega, hE2, rfl⟩
  case rest =>
    clear hkh HFr
    obtain ⟨S, ev, rfl, rfl, hev1, hev2, hSs, hV, hwc⟩ := hcut
    subst wc
    have HGs := hid (HG.out W0 S hSs)
    obtain ⟨p, hp⟩ : ∃ p, fdN 46 46 (by' S) = p := ⟨_, rfl⟩
    have hpl := fdN_le 46 46 (by' S)
    rw [hp, by_len] at hpl
    rw [hp] at HGs
    have hph := hid hp
    clear hp HG
    obtain ⟨H, hH⟩ : ∃ H, S.extract 0 p = H := ⟨_, rfl⟩
    have hHb := hid (show by' H = (by' S).take p by rw [← hH]; exact be_take _ _)
    have hHs : H.size ≤ 4096 := by rw [← hH, ByteArray.size_extract]; omega
    have hHp : H.size = p := by rw [← hH, ByteArray.size_extract]; omega
    have hdH := hid (fun w => HDg.out w H hHs)
    go_wp2_with fail
    refine (HGs.out).mono ?_
    rintro e wc ⟨rfl, hwc⟩
    subst wc
    by_cases hpt : p < S.size
    · skip
      obtain ⟨Bh, hB9⟩ : ∃ B, S.extract (p + 1) S.size = B := ⟨_, rfl⟩
      have hBb := hid (show by' Bh = (by' S).drop (p + 1) by rw [← hB9]; exact be_drop _ _)
      have hBs : Bh.size + p + 1 = S.size := by rw [← hB9, ByteArray.size_extract]; omega
      have hp9 : p + 1 ≤ S.size := hpt
      have hdB := hid (fun w => HDg.out w Bh (by omega))
      by_cases hob : dgOk Bh = true
      · skip
        rw [hob] at hdB
        go_wp2_with fail
        refine (hdB.out _).mono ?_
        rintro e wc ⟨rfl, hwc⟩
        subst wc
        by_cases hoh : dgOk H = true
        · skip
          obtain ⟨ho1, ho2⟩ := (dgOk_iff H).1 hoh
          rw [hoh] at hdH
          rw [hHb.out] at ho1 ho2
          have hC := rfC_some (e := ev) hph.out ho1 ho2 (fun h9 => by rw [← hBb.out]; exact (dgOk_iff Bh).1 hob)
          obtain ⟨D, hD⟩ : ∃ D, H ++ Bh = D := ⟨_, rfl⟩
          have hDb : by' D = (by' S).take p ++ (by' S).drop (p + 1) := by rw [← hD, be_append, hHb.out, hBb.out]
          have hBl : ((by' S).drop (p + 1)).length = Bh.size := by rw [← hBb.out, by_len]
          rw [← hDb, hBl] at hC
          have hPP := hP.out _ (hV.out.trans hC)
          obtain ⟨hQ1, hQ2⟩ := dc_some hPP
          have hDs0 : D.size = H.size + Bh.size := by rw [← hD, ByteArray.size_append]
          have hDs : D.size ≤ 4096 := by omega
          have hokD : okD (by' D) = true := by rw [hDb, okD_app, ho1]; have := ((dgOk_iff Bh).1 hob).1; rw [hBb.out] at this; rw [this]; rfl
          have hH0 : 0 < H.size := by rw [← by_len, hHb.out]; exact List.length_pos_iff.2 ho2
          have hpa := pa_ok hokD (by omega)
          have HV := hid (fun w => rparse_any (w := w) D (by omega))
          rw [hpa.1, hpa.2] at HV
          have hsv0 := paN_sz D (K := 4096) hDs
          rw [hpa.1] at hsv0
          obtain ⟨v, hvD⟩ : ∃ v, numD (by' D) = v := ⟨_, rfl⟩
          rw [hvD] at HV hsv0
          obtain ⟨K3, hK3, hK3b⟩ : ∃ K, 4096 ≤ K ∧ K ≤ 5000 := ⟨4096, by omega, by omega⟩
          have hsv := hid (hsv0.mono (Nat.le_refl _) hK3)
          have hDE := hid (show RetQE w (dcQ (by' s)) (dcE (by' s)) = RetQE w (dcV (false, by' D, ev - (Bh.size : Int))) 0 by rw [hQ1, hQ2])
          obtain ⟨e2, he2⟩ : ∃ y, ev - (Bh.size : Int) = y := ⟨_, rfl⟩
          rw [he2] at hDE
          have he2a : -6000 ≤ e2 := by omega
          have he2b : e2 ≤ 1000 := by omega
          clear hC hPP hQ1 hQ2 hokD hpa hsv0 hDb hBl ho1 ho2 hoh hV hP HDg
          go_wp2_with fail
          refine (hdH.out _).mono ?_
          rintro e wc ⟨rfl, hwc⟩
          subst wc
          by_cases hup : 0 ≤ e2
          · skip
            obtain ⟨E, hE⟩ : ∃ E : Nat, e2 = (E : Int) := ⟨(e2).toNat, by omega⟩
            have hEb : E ≤ 6000 := by omega
            have hq := dcV_up (b := false) (D := by' D) hE
            rw [hvD, Rat.divInt_ofNat] at hq
            generalize dcV (false, by' D, e2) = q at *
            obtain ⟨K4, hK4, hK5⟩ : ∃ K, 14000 ≤ K ∧ K ≤ 20000 := ⟨14000, by omega, by omega⟩
            have hsT := szTen E
            have HT := hid (fun w => rten (w := w) E (by omega))
            have hsM := hid ((hsv.out.mul hsT).mono (Nat.le_refl _) (show K3 + (E + 1) ≤ K4 by omega))
            have hsTh := hid (hsT.mono (Nat.le_refl _) (show E + 1 ≤ K4 by omega))
            have hsvh := hid (hsv.out.mono (Nat.le_refl _) (show K3 ≤ K4 by omega))
            clear hsT hsv hvD
            obtain ⟨T, hT⟩ : ∃ T, 10 ^ E = T := ⟨_, rfl⟩
            have hT0 := hid (show T ≠ 0 by rw [← hT]; exact Nat.pos_iff_ne_zero.1 (Nat.pow_pos (by decide)))
            rw [hT] at HT hsTh hq hsM
            clear hT
            have hqh := hid hq
            clear hq
            subst hE
            go_wp2_with fail
            refine (HV.out _).mono ?_
            rintro e w1 ⟨na, nn, nc, rfl, hO, hB⟩
            have hB_1 : Below W0.heap.size W0 w1 := (bl.next hB)
            have R0_1 := R0_0.next hB_1
            have cR0_1_0 : _ = some (Value.bool false) := R0_1.cell 0
            have fR0_1_0 := R0_1.free 0
            have cR0_1_1 : _ = some (Value.slice none 0 0) := R0_1.cell 1
            have fR0_1_1 := R0_1.free 1
            have cR0_1_2 : _ = some (Value.slice none 0 0) := R0_1.cell 2
            have fR0_1_2 := R0_1.free 2
            have hbel_1 := hbel_0.next hB_1
            have hsz_1 := hB_1.size
            clear R0_0 cR0_0_0 fR0_0_0 cR0_0_1 fR0_0_1 cR0_0_2 fR0_0_2 hbel_0 hB_1
            have V_1 := hO.rdN hsvh.out
            clear hO
            try clear hB
            go_wp2_with fail
            refine (HT.out _).mono ?_
            rintro e w2 ⟨ta, tn, tc, rfl, hO, hB⟩
            have hB_2 : Below w1.heap.size w1 w2 := (bl.next hB)
            have R0_2 := R0_1.next hB_2
            have cR0_2_0 : _ = some (Value.bool false) := R0_2.cell 0
            have fR0_2_0 := R0_2.free 0
            have cR0_2_1 : _ = some (Value.slice none 0 0) := R0_2.cell 1
            have fR0_2_1 := R0_2.free 1
            have cR0_2_2 : _ = some (Value.slice none 0 0) := R0_2.cell 2
            have fR0_2_2 := R0_2.free 2
            have V_2 := V_1.below hB_2
            have hbel_2 := hbel_1.next hB_2
            have hsz_2 := hB_2.size
            clear R0_1 cR0_1_0 fR0_1_0 cR0_1_1 fR0_1_1 cR0_1_2 fR0_1_2 V_1 hbel_1 hB_2
            have TT_2 := hO.rdN hsTh.out
            clear hO
            try clear hB
            go_wp2_with fail
            refine (rmulR V_2 TT_2 (by omega) (by omega)).mono ?_
            rintro e w3 ⟨ma, mn, mc, rfl, hO, hB⟩
            have hB_3 : Below w2.heap.size w2 w3 := (bl.next hB)
            have R0_3 := R0_2.next hB_3
            have cR0_3_0 : _ = some (Value.bool false) := R0_3.cell 0
            have fR0_3_0 := R0_3.free 0
            have cR0_3_1 : _ = some (Value.slice none 0 0) := R0_3.cell 1
            have fR0_3_1 := R0_3.free 1
            have cR0_3_2 : _ = some (Value.slice none 0 0) := R0_3.cell 2
            have fR0_3_2 := R0_3.free 2
            have V_3 := V_2.below hB_3
            have TT_3 := TT_2.below hB_3
            have hbel_3 := hbel_2.next hB_3
            have hsz_3 := hB_3.size
            clear R0_2 cR0_2_0 fR0_2_0 cR0_2_1 fR0_2_1 cR0_2_2 fR0_2_2 V_2 TT_2 hbel_2 hB_3
            have M_3 := hO.rdN hsM.out
            clear hO
            try clear hB
            have hbx := blk_new w3 #[Value.int .u32 1] 39
            have hbB := (Below.refl w3.heap.size w3).alloc (Nat.le_refl _) (.cells #[Value.int .u32 1] 39)
            have hltONE := hbx.lt
            have hB_4 : Below w3.heap.size w3 (w3.alloc (.cells #[Value.int .u32 1] 39)) := hbB
            have R0_4 := R0_3.next hB_4
            have cR0_4_0 : _ = some (Value.bool false) := R0_4.cell 0
            have fR0_4_0 := R0_4.free 0
            have cR0_4_1 : _ = some (Value.slice none 0 0) := R0_4.cell 1
            have fR0_4_1 := R0_4.free 1
            have cR0_4_2 : _ = some (Value.slice none 0 0) := R0_4.cell 2
            have fR0_4_2 := R0_4.free 2
            have V_4 := V_3.below hB_4
            have TT_4 := TT_3.below hB_4
            have M_4 := M_3.below hB_4
            have hbel_4 := hbel_3.next hB_4
            have hsz_4 := hB_4.size
            clear hB_4
            have ONE_4 := hbx
            clear hbx hbB
            have cONE_4_0 : _ = some (Value.int .u32 1) := ONE_4.cell 0
            have O1_4 := (show Own w3.heap.size _ (some ⟨_, 0, none⟩) 1 1 [1] from own_one _ _ 1 (by omega) (Nat.le_refl _))
            go_wp2_with fail
            clear R0_3 cR0_3_0 fR0_3_0 cR0_3_1 fR0_3_1 cR0_3_2 fR0_3_2 V_3 TT_3 M_3 hbel_3
            generalize (w3.alloc (.cells #[Value.int .u32 1] 39)) = v4 at *
            have U_4 := (show RdN 1 _ _ _ _ 1 from (lm_one ▸ O1_4 : Own _ _ _ _ _ (lm 1)).rdN (v := 1) (k := 1) (sz_one (Nat.le_refl _)))
            clear O1_4
            go_wp2_with fail
            refine (rlow false (M_4.mono (by omega)) (U_4.mono (by omega)) (by decide)).mono ?_
            rw [hqh.out]
            rintro e w5 ⟨qa, qn, qc, da, dn, dc, rfl, hO, hO', hD9, hB⟩
            have hB_5 : Below v4.heap.size v4 w5 := (bl.next hB)
            have R0_5 := R0_4.next hB_5
            have cR0_5_0 : _ = some (Value.bool false) := R0_5.cell 0
            have fR0_5_0 := R0_5.free 0
            have cR0_5_1 : _ = some (Value.slice none 0 0) := R0_5.cell 1
            have fR0_5_1 := R0_5.free 1
            have cR0_5_2 : _ = some (Value.slice none 0 0) := R0_5.cell 2
            have fR0_5_2 := R0_5.free 2
            have ONE_5 := ONE_4.next hB_5
            have cONE_5_0 : _ = some (Value.int .u32 1) := ONE_5.cell 0
            have V_5 := V_4.below hB_5
            have TT_5 := TT_4.below hB_5
            have M_5 := M_4.below hB_5
            have U_5 := U_4.below hB_5
            have hbel_5 := hbel_4.next hB_5
            have hsz_5 := hB_5.size
            clear R0_4 cR0_4_0 fR0_4_0 cR0_4_1 fR0_4_1 cR0_4_2 fR0_4_2 ONE_4 cONE_4_0 V_4 TT_4 M_4 U_4 hbel_4 hB_5
            have OQ_5 := hO
            have ltOQ := hO.ltB
            have OD_5 := hO'
            have ltOD := hO'.ltB
            clear hO hO'
            try clear hB
            go_wp2
            refine bodyPost_ret (v := .tuple #[.agg #[.bool (decide (q.num < 0)), .slice qa qn qc, .slice da dn dc], .int .i64 0]) (by simp [results, Try.results23, go_sem, cR0_5_0, cR0_5_1, cR0_5_2]) rfl ?_
            exact (by rw [hDE.out]; exact retqe_set (er := 0) OQ_5 OD_5 hD9 hbel_5 (by omega) (by omega))
          · skip
            obtain ⟨E, hE⟩ : ∃ E : Nat, e2 = -(E : Int) := ⟨(-e2).toNat, by omega⟩
            have hE1 : 1 ≤ E := by omega
            have hEb : E ≤ 6000 := by omega
            have hq := dcV_dn (b := false) (D := by' D) hE hE1
            rw [hvD, Rat.divInt_ofNat] at hq
            generalize dcV (false, by' D, e2) = q at *
            obtain ⟨K4, hK4, hK5⟩ : ∃ K, 14000 ≤ K ∧ K ≤ 20000 := ⟨14000, by omega, by omega⟩
            have hsT := szTen E
            have HT := hid (fun w => rten (w := w) E (by omega))
            have hsTh := hid (hsT.mono (Nat.le_refl _) (show E + 1 ≤ K4 by omega))
            have hsvh := hid (hsv.out.mono (Nat.le_refl _) (show K3 ≤ K4 by omega))
            clear hsT hsv hvD
            obtain ⟨T, hT⟩ : ∃ T, 10 ^ E = T := ⟨_, rfl⟩
            have hT0 := hid (show T ≠ 0 by rw [← hT]; exact Nat.pos_iff_ne_zero.1 (Nat.pow_pos (by decide)))
            rw [hT] at HT hsTh hq
            clear hT
            have hqh := hid hq
            clear hq
            subst hE
            go_wp2_with fail
            refine (HV.out _).mono ?_
            rintro e w1 ⟨na, nn, nc, rfl, hO, hB⟩
            have hB_1 : Below W0.heap.size W0 w1 := (bl.next hB)
            have R0_1 := R0_0.next hB_1
            have cR0_1_0 : _ = some (Value.bool false) := R0_1.cell 0
            have fR0_1_0 := R0_1.free 0
            have cR0_1_1 : _ = some (Value.slice none 0 0) := R0_1.cell 1
            have fR0_1_1 := R0_1.free 1
            have cR0_1_2 : _ = some (Value.slice none 0 0) := R0_1.cell 2
            have fR0_1_2 := R0_1.free 2
            have hbel_1 := hbel_0.next hB_1
            have hsz_1 := hB_1.size
            clear R0_0 cR0_0_0 fR0_0_0 cR0_0_1 fR0_0_1 cR0_0_2 fR0_0_2 hbel_0 hB_1
            have V_1 := hO.rdN hsvh.out
            clear hO
            try clear hB
            go_wp2_with fail
            refine (HT.out _).mono ?_
            rintro e w2 ⟨ta, tn, tc, rfl, hO, hB⟩
            have hB_2 : Below w1.heap.size w1 w2 := (bl.next hB)
            have R0_2 := R0_1.next hB_2
            have cR0_2_0 : _ = some (Value.bool false) := R0_2.cell 0
            have fR0_2_0 := R0_2.free 0
            have cR0_2_1 : _ = some (Value.slice none 0 0) := R0_2.cell 1
            have fR0_2_1 := R0_2.free 1
            have cR0_2_2 : _ = some (Value.slice none 0 0) := R0_2.cell 2
            have fR0_2_2 := R0_2.free 2
            have V_2 := V_1.below hB_2
            have hbel_2 := hbel_1.next hB_2
            have hsz_2 := hB_2.size
            clear R0_1 cR0_1_0 fR0_1_0 cR0_1_1 fR0_1_1 cR0_1_2 fR0_1_2 V_1 hbel_1 hB_2
            have TT_2 := hO.rdN hsTh.out
            clear hO
            try clear hB
            go_wp2_with fail
            refine (rlow false (V_2.mono (by omega)) (TT_2.mono (by omega)) hT0.out).mono ?_
            rw [hqh.out]
            rintro e w3 ⟨qa, qn, qc, da, dn, dc, rfl, hO, hO', hD9, hB⟩
            have hB_3 : Below w2.heap.size w2 w3 := (bl.next hB)
            have R0_3 := R0_2.next hB_3
            have cR0_3_0 : _ = some (Value.bool false) := R0_3.cell 0
            have fR0_3_0 := R0_3.free 0
            have cR0_3_1 : _ = some (Value.slice none 0 0) := R0_3.cell 1
            have fR0_3_1 := R0_3.free 1
            have cR0_3_2 : _ = some (Value.slice none 0 0) := R0_3.cell 2
            have fR0_3_2 := R0_3.free 2
            have V_3 := V_2.below hB_3
            have TT_3 := TT_2.below hB_3
            have hbel_3 := hbel_2.next hB_3
            have hsz_3 := hB_3.size
            clear R0_2 cR0_2_0 fR0_2_0 cR0_2_1 fR0_2_1 cR0_2_2 fR0_2_2 V_2 TT_2 hbel_2 hB_3
            have OQ_3 := hO
            have ltOQ := hO.ltB
            have OD_3 := hO'
            have ltOD := hO'.ltB
            clear hO hO'
            try clear hB
            go_wp2
            refine bodyPost_ret (v := .tuple #[.agg #[.bool (decide (q.num < 0)), .slice qa qn qc, .slice da dn dc], .int .i64 0]) (by simp [results, Try.results23, go_sem, cR0_3_0, cR0_3_1, cR0_3_2]) rfl ?_
            exact (by rw [hDE.out]; exact retqe_set (er := 0) OQ_3 OD_3 hD9 hbel_3 (by omega) (by omega))
        · skip
          have hohf : dgOk H = false := by simpa using hoh
          rw [hohf] at hdH
          have hNo := (hP.out _ (hV.out.trans (rfC_no hph.out (fun h => dgOk_no hohf (by rw [hHb.out]; exact ⟨h.1, h.2.1⟩)))))
          clear hoh hohf hV hP HDg
          go_wp2_with fail
          refine (hdH.out _).mono ?_
          rintro e wc ⟨rfl, hwc⟩
          subst wc
          have hEr := hid (dc_none hNo)
          go_wp2
          refine bodyPost_ret (v := .tuple #[.agg #[.bool false, .slice none 0 0, .slice none 0 0], .int .i64 22]) (by simp [results, Try.results23, go_sem, cR0_0_0, cR0_0_1, cR0_0_2]) rfl ?_
          exact (by rw [hEr.out]; exact retqe_nil (by decide) hbel_0 (by omega))
      · skip
        have hobf : dgOk Bh = false := by simpa using hob
        rw [hobf] at hdB
        have hNo := (hP.out _ (hV.out.trans (rfC_no hph.out (fun h => dgOk_no hobf (by rw [hBb.out]; exact h.2.2 (by rw [by_len]; exact hpt))))))
        clear hob hobf hV hP HDg
        go_wp2_with fail
        refine (hdB.out _).mono ?_
        rintro e wc ⟨rfl, hwc⟩
        subst wc
        have hEr := hid (dc_none hNo)
        go_wp2
        refine bodyPost_ret (v := .tuple #[.agg #[.bool false, .slice none 0 0, .slice none 0 0], .int .i64 22]) (by simp [results, Try.results23, go_sem, cR0_0_0, cR0_0_1, cR0_0_2]) rfl ?_
        exact (by rw [hEr.out]; exact retqe_nil (by decide) hbel_0 (by omega))
    · skip
      have hpp : p = S.size := by omega
      have hSH : S = H := by refine by_inj ?_; rw [hHb.out, List.take_of_length_le (by rw [by_len]; omega)]
      subst hSH
      clear hHp
      by_cases hoh : dgOk S = true
      · skip
        obtain ⟨ho1, ho2⟩ := (dgOk_iff S).1 hoh
        rw [hoh] at hdH
        rw [hHb.out] at ho1 ho2
        have hC := rfC_some (e := ev) hph.out ho1 ho2 (fun h9 => by rw [by_len] at h9; exact absurd h9 hpt)
        have hD : S ++ (⟨#[]⟩ : ByteArray) = S := by refine by_inj ?_; rw [be_append]; exact List.append_nil _
        have hDb : by' S = (by' S).take p ++ (by' S).drop (p + 1) := by rw [List.take_of_length_le (by rw [by_len]; omega), List.drop_eq_nil_of_le (by rw [by_len]; omega)]; exact (List.append_nil _).symm
        have hBl : ((by' S).drop (p + 1)).length = 0 := by rw [List.length_drop, by_len]; omega
        rw [← hDb, hBl, show ((0 : Nat) : Int) = 0 from rfl] at hC
        have hPP := hP.out _ (hV.out.trans hC)
        obtain ⟨hQ1, hQ2⟩ := dc_some hPP
        have hDs : S.size ≤ 4096 := by omega
        have hokD : okD (by' S) = true := by rw [hDb, okD_app, ho1]; rw [List.drop_eq_nil_of_le (by rw [by_len]; omega)]; rfl
        have hH0 : 0 < S.size := by rw [← by_len, hHb.out]; exact List.length_pos_iff.2 ho2
        have hpa := pa_ok hokD (by omega)
        have HV := hid (fun w => rparse_any (w := w) S (by omega))
        rw [hpa.1, hpa.2] at HV
        have hsv0 := paN_sz S (K := 4096) hDs
        rw [hpa.1] at hsv0
        obtain ⟨v, hvD⟩ : ∃ v, numD (by' S) = v := ⟨_, rfl⟩
        rw [hvD] at HV hsv0
        obtain ⟨K3, hK3, hK3b⟩ : ∃ K, 4096 ≤ K ∧ K ≤ 5000 := ⟨4096, by omega, by omega⟩
        have hsv := hid (hsv0.mono (Nat.le_refl _) hK3)
        have hDE := hid (show RetQE w (dcQ (by' s)) (dcE (by' s)) = RetQE w (dcV (false, by' S, ev - 0)) 0 by rw [hQ1, hQ2])
        obtain ⟨e2, he2⟩ : ∃ y, ev - 0 = y := ⟨_, rfl⟩
        rw [he2] at hDE
        have he2a : -6000 ≤ e2 := by omega
        have he2b : e2 ≤ 1000 := by omega
        clear hC hPP hQ1 hQ2 hokD hpa hsv0 hDb hBl ho1 ho2 hoh hV hP HDg
        go_wp2_with fail
        refine (hdH.out _).mono ?_
        rintro e wc ⟨rfl, hwc⟩
        subst wc
        by_cases hup : 0 ≤ e2
        · skip
          obtain ⟨E, hE⟩ : ∃ E : Nat, e2 = (E : Int) := ⟨(e2).toNat, by omega⟩
          have hEb : E ≤ 6000 := by omega
          have hq := dcV_up (b := false) (D := by' S) hE
          rw [hvD, Rat.divInt_ofNat] at hq
          generalize dcV (false, by' S, e2) = q at *
          obtain ⟨K4, hK4, hK5⟩ : ∃ K, 14000 ≤ K ∧ K ≤ 20000 := ⟨14000, by omega, by omega⟩
          have hsT := szTen E
          have HT := hid (fun w => rten (w := w) E (by omega))
          have hsM := hid ((hsv.out.mul hsT).mono (Nat.le_refl _) (show K3 + (E + 1) ≤ K4 by omega))
          have hsTh := hid (hsT.mono (Nat.le_refl _) (show E + 1 ≤ K4 by omega))
          have hsvh := hid (hsv.out.mono (Nat.le_refl _) (show K3 ≤ K4 by omega))
          clear hsT hsv hvD
          obtain ⟨T, hT⟩ : ∃ T, 10 ^ E = T := ⟨_, rfl⟩
          have hT0 := hid (show T ≠ 0 by rw [← hT]; exact Nat.pos_iff_ne_zero.1 (Nat.pow_pos (by decide)))
          rw [hT] at HT hsTh hq hsM
          clear hT
          have hqh := hid hq
          clear hq
          subst hE
          go_wp2_with fail
          refine (HV.out _).mono ?_
          rintro e w1 ⟨na, nn, nc, rfl, hO, hB⟩
          have hB_1 : Below W0.heap.size W0 w1 := (bl.next hB)
          have R0_1 := R0_0.next hB_1
          have cR0_1_0 : _ = some (Value.bool false) := R0_1.cell 0
          have fR0_1_0 := R0_1.free 0
          have cR0_1_1 : _ = some (Value.slice none 0 0) := R0_1.cell 1
          have fR0_1_1 := R0_1.free 1
          have cR0_1_2 : _ = some (Value.slice none 0 0) := R0_1.cell 2
          have fR0_1_2 := R0_1.free 2
          have hbel_1 := hbel_0.next hB_1
          have hsz_1 := hB_1.size
          clear R0_0 cR0_0_0 fR0_0_0 cR0_0_1 fR0_0_1 cR0_0_2 fR0_0_2 hbel_0 hB_1
          have V_1 := hO.rdN hsvh.out
          clear hO
          try clear hB
          go_wp2_with fail
          refine (HT.out _).mono ?_
          rintro e w2 ⟨ta, tn, tc, rfl, hO, hB⟩
          have hB_2 : Below w1.heap.size w1 w2 := (bl.next hB)
          have R0_2 := R0_1.next hB_2
          have cR0_2_0 : _ = some (Value.bool false) := R0_2.cell 0
          have fR0_2_0 := R0_2.free 0
          have cR0_2_1 : _ = some (Value.slice none 0 0) := R0_2.cell 1
          have fR0_2_1 := R0_2.free 1
          have cR0_2_2 : _ = some (Value.slice none 0 0) := R0_2.cell 2
          have fR0_2_2 := R0_2.free 2
          have V_2 := V_1.below hB_2
          have hbel_2 := hbel_1.next hB_2
          have hsz_2 := hB_2.size
          clear R0_1 cR0_1_0 fR0_1_0 cR0_1_1 fR0_1_1 cR0_1_2 fR0_1_2 V_1 hbel_1 hB_2
          have TT_2 := hO.rdN hsTh.out
          clear hO
          try clear hB
          go_wp2_with fail
          refine (rmulR V_2 TT_2 (by omega) (by omega)).mono ?_
          rintro e w3 ⟨ma, mn, mc, rfl, hO, hB⟩
          have hB_3 : Below w2.heap.size w2 w3 := (bl.next hB)
          have R0_3 := R0_2.next hB_3
          have cR0_3_0 : _ = some (Value.bool false) := R0_3.cell 0
          have fR0_3_0 := R0_3.free 0
          have cR0_3_1 : _ = some (Value.slice none 0 0) := R0_3.cell 1
          have fR0_3_1 := R0_3.free 1
          have cR0_3_2 : _ = some (Value.slice none 0 0) := R0_3.cell 2
          have fR0_3_2 := R0_3.free 2
          have V_3 := V_2.below hB_3
          have TT_3 := TT_2.below hB_3
          have hbel_3 := hbel_2.next hB_3
          have hsz_3 := hB_3.size
          clear R0_2 cR0_2_0 fR0_2_0 cR0_2_1 fR0_2_1 cR0_2_2 fR0_2_2 V_2 TT_2 hbel_2 hB_3
          have M_3 := hO.rdN hsM.out
          clear hO
          try clear hB
          have hbx := blk_new w3 #[Value.int .u32 1] 39
          have hbB := (Below.refl w3.heap.size w3).alloc (Nat.le_refl _) (.cells #[Value.int .u32 1] 39)
          have hltONE := hbx.lt
          have hB_4 : Below w3.heap.size w3 (w3.alloc (.cells #[Value.int .u32 1] 39)) := hbB
          have R0_4 := R0_3.next hB_4
          have cR0_4_0 : _ = some (Value.bool false) := R0_4.cell 0
          have fR0_4_0 := R0_4.free 0
          have cR0_4_1 : _ = some (Value.slice none 0 0) := R0_4.cell 1
          have fR0_4_1 := R0_4.free 1
          have cR0_4_2 : _ = some (Value.slice none 0 0) := R0_4.cell 2
          have fR0_4_2 := R0_4.free 2
          have V_4 := V_3.below hB_4
          have TT_4 := TT_3.below hB_4
          have M_4 := M_3.below hB_4
          have hbel_4 := hbel_3.next hB_4
          have hsz_4 := hB_4.size
          clear hB_4
          have ONE_4 := hbx
          clear hbx hbB
          have cONE_4_0 : _ = some (Value.int .u32 1) := ONE_4.cell 0
          have O1_4 := (show Own w3.heap.size _ (some ⟨_, 0, none⟩) 1 1 [1] from own_one _ _ 1 (by omega) (Nat.le_refl _))
          go_wp2_with fail
          clear R0_3 cR0_3_0 fR0_3_0 cR0_3_1 fR0_3_1 cR0_3_2 fR0_3_2 V_3 TT_3 M_3 hbel_3
          generalize (w3.alloc (.cells #[Value.int .u32 1] 39)) = v4 at *
          have U_4 := (show RdN 1 _ _ _ _ 1 from (lm_one ▸ O1_4 : Own _ _ _ _ _ (lm 1)).rdN (v := 1) (k := 1) (sz_one (Nat.le_refl _)))
          clear O1_4
          go_wp2_with fail
          refine (rlow false (M_4.mono (by omega)) (U_4.mono (by omega)) (by decide)).mono ?_
          rw [hqh.out]
          rintro e w5 ⟨qa, qn, qc, da, dn, dc, rfl, hO, hO', hD9, hB⟩
          have hB_5 : Below v4.heap.size v4 w5 := (bl.next hB)
          have R0_5 := R0_4.next hB_5
          have cR0_5_0 : _ = some (Value.bool false) := R0_5.cell 0
          have fR0_5_0 := R0_5.free 0
          have cR0_5_1 : _ = some (Value.slice none 0 0) := R0_5.cell 1
          have fR0_5_1 := R0_5.free 1
          have cR0_5_2 : _ = some (Value.slice none 0 0) := R0_5.cell 2
          have fR0_5_2 := R0_5.free 2
          have ONE_5 := ONE_4.next hB_5
          have cONE_5_0 : _ = some (Value.int .u32 1) := ONE_5.cell 0
          have V_5 := V_4.below hB_5
          have TT_5 := TT_4.below hB_5
          have M_5 := M_4.below hB_5
          have U_5 := U_4.below hB_5
          have hbel_5 := hbel_4.next hB_5
          have hsz_5 := hB_5.size
          clear R0_4 cR0_4_0 fR0_4_0 cR0_4_1 fR0_4_1 cR0_4_2 fR0_4_2 ONE_4 cONE_4_0 V_4 TT_4 M_4 U_4 hbel_4 hB_5
          have OQ_5 := hO
          have ltOQ := hO.ltB
          have OD_5 := hO'
          have ltOD := hO'.ltB
          clear hO hO'
          try clear hB
          go_wp2
          refine bodyPost_ret (v := .tuple #[.agg #[.bool (decide (q.num < 0)), .slice qa qn qc, .slice da dn dc], .int .i64 0]) (by simp [results, Try.results23, go_sem, cR0_5_0, cR0_5_1, cR0_5_2]) rfl ?_
          exact (by rw [hDE.out]; exact retqe_set (er := 0) OQ_5 OD_5 hD9 hbel_5 (by omega) (by omega))
        · skip
          obtain ⟨E, hE⟩ : ∃ E : Nat, e2 = -(E : Int) := ⟨(-e2).toNat, by omega⟩
          have hE1 : 1 ≤ E := by omega
          have hEb : E ≤ 6000 := by omega
          have hq := dcV_dn (b := false) (D := by' S) hE hE1
          rw [hvD, Rat.divInt_ofNat] at hq
          generalize dcV (false, by' S, e2) = q at *
          obtain ⟨K4, hK4, hK5⟩ : ∃ K, 14000 ≤ K ∧ K ≤ 20000 := ⟨14000, by omega, by omega⟩
          have hsT := szTen E
          have HT := hid (fun w => rten (w := w) E (by omega))
          have hsTh := hid (hsT.mono (Nat.le_refl _) (show E + 1 ≤ K4 by omega))
          have hsvh := hid (hsv.out.mono (Nat.le_refl _) (show K3 ≤ K4 by omega))
          clear hsT hsv hvD
          obtain ⟨T, hT⟩ : ∃ T, 10 ^ E = T := ⟨_, rfl⟩
          have hT0 := hid (show T ≠ 0 by rw [← hT]; exact Nat.pos_iff_ne_zero.1 (Nat.pow_pos (by decide)))
          rw [hT] at HT hsTh hq
          clear hT
          have hqh := hid hq
          clear hq
          subst hE
          go_wp2_with fail
          refine (HV.out _).mono ?_
          rintro e w1 ⟨na, nn, nc, rfl, hO, hB⟩
          have hB_1 : Below W0.heap.size W0 w1 := (bl.next hB)
          have R0_1 := R0_0.next hB_1
          have cR0_1_0 : _ = some (Value.bool false) := R0_1.cell 0
          have fR0_1_0 := R0_1.free 0
          have cR0_1_1 : _ = some (Value.slice none 0 0) := R0_1.cell 1
          have fR0_1_1 := R0_1.free 1
          have cR0_1_2 : _ = some (Value.slice none 0 0) := R0_1.cell 2
          have fR0_1_2 := R0_1.free 2
          have hbel_1 := hbel_0.next hB_1
          have hsz_1 := hB_1.size
          clear R0_0 cR0_0_0 fR0_0_0 cR0_0_1 fR0_0_1 cR0_0_2 fR0_0_2 hbel_0 hB_1
          have V_1 := hO.rdN hsvh.out
          clear hO
          try clear hB
          go_wp2_with fail
          refine (HT.out _).mono ?_
          rintro e w2 ⟨ta, tn, tc, rfl, hO, hB⟩
          have hB_2 : Below w1.heap.size w1 w2 := (bl.next hB)
          have R0_2 := R0_1.next hB_2
          have cR0_2_0 : _ = some (Value.bool false) := R0_2.cell 0
          have fR0_2_0 := R0_2.free 0
          have cR0_2_1 : _ = some (Value.slice none 0 0) := R0_2.cell 1
          have fR0_2_1 := R0_2.free 1
          have cR0_2_2 : _ = some (Value.slice none 0 0) := R0_2.cell 2
          have fR0_2_2 := R0_2.free 2
          have V_2 := V_1.below hB_2
          have hbel_2 := hbel_1.next hB_2
          have hsz_2 := hB_2.size
          clear R0_1 cR0_1_0 fR0_1_0 cR0_1_1 fR0_1_1 cR0_1_2 fR0_1_2 V_1 hbel_1 hB_2
          have TT_2 := hO.rdN hsTh.out
          clear hO
          try clear hB
          go_wp2_with fail
          refine (rlow false (V_2.mono (by omega)) (TT_2.mono (by omega)) hT0.out).mono ?_
          rw [hqh.out]
          rintro e w3 ⟨qa, qn, qc, da, dn, dc, rfl, hO, hO', hD9, hB⟩
          have hB_3 : Below w2.heap.size w2 w3 := (bl.next hB)
          have R0_3 := R0_2.next hB_3
          have cR0_3_0 : _ = some (Value.bool false) := R0_3.cell 0
          have fR0_3_0 := R0_3.free 0
          have cR0_3_1 : _ = some (Value.slice none 0 0) := R0_3.cell 1
          have fR0_3_1 := R0_3.free 1
          have cR0_3_2 : _ = some (Value.slice none 0 0) := R0_3.cell 2
          have fR0_3_2 := R0_3.free 2
          have V_3 := V_2.below hB_3
          have TT_3 := TT_2.below hB_3
          have hbel_3 := hbel_2.next hB_3
          have hsz_3 := hB_3.size
          clear R0_2 cR0_2_0 fR0_2_0 cR0_2_1 fR0_2_1 cR0_2_2 fR0_2_2 V_2 TT_2 hbel_2 hB_3
          have OQ_3 := hO
          have ltOQ := hO.ltB
          have OD_3 := hO'
          have ltOD := hO'.ltB
          clear hO hO'
          try clear hB
          go_wp2
          refine bodyPost_ret (v := .tuple #[.agg #[.bool (decide (q.num < 0)), .slice qa qn qc, .slice da dn dc], .int .i64 0]) (by simp [results, Try.results23, go_sem, cR0_3_0, cR0_3_1, cR0_3_2]) rfl ?_
          exact (by rw [hDE.out]; exact retqe_set (er := 0) OQ_3 OD_3 hD9 hbel_3 (by omega) (by omega))
      · skip
        have hohf : dgOk S = false := by simpa using hoh
        rw [hohf] at hdH
        have hNo := (hP.out _ (hV.out.trans (rfC_no hph.out (fun h => dgOk_no hohf (by rw [hHb.out]; exact ⟨h.1, h.2.1⟩)))))
        clear hoh hohf hV hP HDg
        go_wp2_with fail
        refine (hdH.out _).mono ?_
        rintro e wc ⟨rfl, hwc⟩
        subst wc
        have hEr := hid (dc_none hNo)
        go_wp2
        refine bodyPost_ret (v := .tuple #[.agg #[.bool false, .slice none 0 0, .slice none 0 0], .int .i64 22]) (by simp [results, Try.results23, go_sem, cR0_0_0, cR0_0_1, cR0_0_2]) rfl ?_
        exact (by rw [hEr.out]; exact retqe_nil (by decide) hbel_0 (by omega))

set_option maxRecDepth 100000 in
set_option maxHeartbeats 4000000 in
theorem rpaE {w : World}  :
    Calls Try.prog 23 #[.string ⟨#[]⟩] w (RetQE w (dcQ (by' ⟨#[]⟩)) (dcE (by' ⟨#[]⟩))) := by
  have hEr := hid (show dcE (by' ⟨#[]⟩) = 22 from rfl)
  have HF := hid (fun w => rfind (w := w) ⟨#[]⟩ (by decide) 101 69 (by decide) (by decide))
  have HG := hid (fun w => rfind (w := w) ⟨#[]⟩ (by decide) 46 46 (by decide) (by decide))
  have HD := hid (fun w => rdig (w := w) ⟨#[]⟩ (by decide))
  rw [show dgOk ⟨#[]⟩ = false from rfl] at HD
  rw [show fdN 101 69 (by' ⟨#[]⟩) = 0 from rfl] at HF
  rw [show fdN 46 46 (by' ⟨#[]⟩) = 0 from rfl] at HG
  have hent := ent1 w #[Value.bool false, Value.slice none 0 0, Value.slice none 0 0] 29
  go_enter Try.func23, Try.ntmps23
  go_wp2_with fail
  generalize (w.alloc (.cells #[Value.bool false, Value.slice none 0 0, Value.slice none 0 0] 29)) = W0 at hent ⊢
  obtain ⟨R0_0, hbel_0, hsz_0⟩ := hent
  have cR0_0_0 : _ = some (Value.bool false) := R0_0.cell 0
  have fR0_0_0 := R0_0.free 0
  have cR0_0_1 : _ = some (Value.slice none 0 0) := R0_0.cell 1
  have fR0_0_1 := R0_0.free 1
  have cR0_0_2 : _ = some (Value.slice none 0 0) := R0_0.cell 2
  have fR0_0_2 := R0_0.free 2
  go_wp2_with fail
  refine (HF.out _).mono ?_
  rintro e wc ⟨rfl, hwc⟩
  subst wc
  go_wp2_with fail
  refine (HG.out _).mono ?_
  rintro e wc ⟨rfl, hwc⟩
  subst wc
  go_wp2_with fail
  refine (HD.out _).mono ?_
  rintro e wc ⟨rfl, hwc⟩
  subst wc
  go_wp2
  refine bodyPost_ret (v := .tuple #[.agg #[.bool false, .slice none 0 0, .slice none 0 0], .int .i64 22]) (by simp [results, Try.results23, go_sem, cR0_0_0, cR0_0_1, cR0_0_2]) rfl ?_
  exact (by rw [hEr.out]; exact retqe_nil (by decide) hbel_0 (by omega))

theorem rparse4 {w : World} (s : ByteArray) (hs : s.size ≤ 4096) : Calls Try.prog 23 #[.string s] w (RetQE w (dcQ (by' s)) (dcE (by' s))) := by
  cases hn : pzB s
  · by_cases h0 : 0 < s.size
    · exact rpa0 s hs hn h0
    · obtain rfl := be_nil (s := s) (by omega)
      exact rpaE
  · exact rpa1 s hs hn

end Go.Proofs.Ytnpkmlpmeeidbaa
