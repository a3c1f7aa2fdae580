/- WALKS OF DECIMALS, 9: decimal numbers read by the program. -/
import Derived.Test.YtnpkmlpmeeidbaaREb
import Derived.Test.YtnpkmlpmeeidbaaRQ1
import Derived.BigQuiet
import Derived.Test.YtnpkmlpmeeidbaaREc
import Derived.Deep.DeepCutAuto
namespace Go.Proofs.Ytnpkmlpmeeidbaa
set_option linter.unusedVariables false
set_option linter.unusedSimpArgs false
open Go.ChangeShapes Go.WideShapes Go.ChangeAt Go.RowKit Go.NatP

theorem exP_bd {l : List Nat} {e : Int} (h : exP l = some e) : -1000 ≤ e ∧ e ≤ 1000 := by
  cases l with
  | nil => cases h; omega
  | cons c t =>
    by_cases hc : c = 101 ∨ c = 69
    · rw [exP_e t hc] at h
      unfold exT at h
      split at h
      · rename_i hh
        cases h
        unfold exV
        split <;> omega
      · cases h
    · rw [exP_no t hc] at h; cases h
theorem sgS_by (s : ByteArray) : sgS (by' s) = (pzB s, by' (pzR s)) := by
  by_cases h0 : 0 < s.size
  · have e1 := be_cons h0
    have e2 : pzB s = decide (s[0].toNat = 45) := pfB_cons (b := 45) h0
    unfold pzR
    rw [e2, e1]
    by_cases h : s[0].toNat = 45
    · rw [decide_eq_true h]
      exact if_pos h
    · rw [decide_eq_false h]
      show _ = (false, by' s)
      rw [e1]
      exact if_neg h
  · have e : s = ⟨#[]⟩ := be_nil (by omega)
    subst e
    rfl
theorem dcU_pt {s t : List Nat} (h : dgB s = 46 :: t) : dcU s = if dgA t = [] then none else dcG (dgA s) (dgA t) (dgB t) := by unfold dcU; rw [h]; exact if_pos rfl
theorem dcU_no {s : List Nat} (h : ∀ t, dgB s ≠ 46 :: t) : dcU s = dcG (dgA s) [] (dgB s) := by
  unfold dcU
  cases he : dgB s with
  | nil => rfl
  | cons c t => exact if_neg fun e => h t (by rw [he, e])
theorem dc_some {l D : List Nat} {b : Bool} {e : Int} (h : dcP l = some (b, D, e)) : dcQ l = dcV (b, D, e) ∧ dcE l = 0 := by unfold dcQ dcE; rw [h]; exact ⟨rfl, rfl⟩
theorem dc_none {l : List Nat} (h : dcP l = none) : dcE l = 22 := by unfold dcE; rw [h]
theorem dcP_of {s : ByteArray} {o : Option (List Nat × Int)} (h : dcU (by' (pzR s)) = o) : dcP (by' s) = o.map fun p => (pzB s, p) := by
  unfold dcP; rw [sgS_by]; simp only [h]

/-! the ways: a point or none, digits or none, an exponent that is fine or none -/
set_option maxRecDepth 100000 in
set_option maxHeartbeats 4000000 in
theorem dpa0n0 {w : World} (s r D0 S1 : ByteArray) (b : Bool) (N : Nat) (hs : s.size ≤ 4096) (HC : Hid (∀ w, Calls Try.prog 96 #[.string s, .string ⟨#[45]⟩] w (RetCutP w r b)))
    (hrl : r.size ≤ 4096) (hN : N ≤ r.size) (HR : Hid (∀ w, Calls Try.prog 97 #[.string r] w (fun e w' => e = .returned (.int .i64 (N : Nat)) ∧ Below w.heap.size w w')))
    (hD0 : r.extract 0 N = D0) (hS1 : r.extract N r.size = S1) (hD0s : D0.size = N) (hS1s : S1.size + N = r.size)
    (HH : Hid (∀ w, Calls Try.prog 98 #[.string S1, .string ⟨#[46]⟩] w (RetS2 w false)))
    (D S : ByteArray) (hDe : D0 = D) (hSe : S1 = S) (hDs : D.size = N) (hSs : S.size ≤ S1.size)
    (ev : Int) (eb : Bool) (HE : Hid (∀ w, Calls Try.prog 99 #[.string S] w (fun e w' => e = .returned (.tuple #[.int .i64 ev, .bool eb]) ∧ Below w.heap.size w w')))
    (hn0 : N = 0) :
    Calls Try.prog 24 #[.string s] w (fun e w' => ∀ Q : Rat, RetQE w Q 22 e w') := by
  subst hn0
  subst hDe hSe
  have hent := ent1 w #[Value.bool false, Value.slice none 0 0, Value.slice none 0 0] 29
  go_enter Try.func24, Try.ntmps24
  go_wp2_with fail
  generalize (w.alloc (.cells #[Value.bool false, Value.slice none 0 0, Value.slice none 0 0] 29)) = W0 at hent ⊢
  obtain ⟨R0_0, hbel_0, hsz_0⟩ := hent
  have cR0_0_0 : _ = some (Value.bool false) := R0_0.cell 0
  have fR0_0_0 := R0_0.free 0
  have cR0_0_1 : _ = some (Value.slice none 0 0) := R0_0.cell 1
  have fR0_0_1 := R0_0.free 1
  have cR0_0_2 : _ = some (Value.slice none 0 0) := R0_0.cell 2
  have fR0_0_2 := R0_0.free 2
  go_wp2_with fail
  refine (HC.out _).mono ?_
  rintro e wc ⟨rfl, rfl⟩
  go_wp2_with fail
  refine (HR.out _).mono ?_
  rintro e w1 ⟨rfl, hB⟩
  have hB_1 : Below W0.heap.size W0 w1 := (bl.next hB)
  have R0_1 := R0_0.next hB_1
  have cR0_1_0 : _ = some (Value.bool false) := R0_1.cell 0
  have fR0_1_0 := R0_1.free 0
  have cR0_1_1 : _ = some (Value.slice none 0 0) := R0_1.cell 1
  have fR0_1_1 := R0_1.free 1
  have cR0_1_2 : _ = some (Value.slice none 0 0) := R0_1.cell 2
  have fR0_1_2 := R0_1.free 2
  have hbel_1 := hbel_0.next hB_1
  have hsz_1 := hB_1.size
  clear R0_0 cR0_0_0 fR0_0_0 cR0_0_1 fR0_0_1 cR0_0_2 fR0_0_2 hbel_0 hB_1
  try clear hB
  go_wp2_with fail
  go_quiet (fail)
  have hB_2 : Below w1.heap.size w1 (w1.drewN nq) := (show Below w1.heap.size w1 (w1.drewN nq) from ⟨rfl, rfl, rfl, Nat.le_refl _, fun _ _ => rfl⟩)
  have R0_2 := R0_1.next hB_2
  have cR0_2_0 : _ = some (Value.bool false) := R0_2.cell 0
  have fR0_2_0 := R0_2.free 0
  have cR0_2_1 : _ = some (Value.slice none 0 0) := R0_2.cell 1
  have fR0_2_1 := R0_2.free 1
  have cR0_2_2 : _ = some (Value.slice none 0 0) := R0_2.cell 2
  have fR0_2_2 := R0_2.free 2
  have hbel_2 := hbel_1.next hB_2
  have hsz_2 := hB_2.size
  clear R0_1 cR0_1_0 fR0_1_0 cR0_1_1 fR0_1_1 cR0_1_2 fR0_1_2 hbel_1 hB_2
  generalize (w1.drewN nq) = va at *
  go_wp2_with fail
  refine (HH.out _).mono ?_
  rintro e wc ⟨rfl, rfl⟩
  go_wp2_with fail
  refine (HE.out _).mono ?_
  rintro e w3 ⟨rfl, hB⟩
  have hB_3 : Below va.heap.size va w3 := (bl.next hB)
  have R0_3 := R0_2.next hB_3
  have cR0_3_0 : _ = some (Value.bool false) := R0_3.cell 0
  have fR0_3_0 := R0_3.free 0
  have cR0_3_1 : _ = some (Value.slice none 0 0) := R0_3.cell 1
  have fR0_3_1 := R0_3.free 1
  have cR0_3_2 : _ = some (Value.slice none 0 0) := R0_3.cell 2
  have fR0_3_2 := R0_3.free 2
  have hbel_3 := hbel_2.next hB_3
  have hsz_3 := hB_3.size
  clear R0_2 cR0_2_0 fR0_2_0 cR0_2_1 fR0_2_1 cR0_2_2 fR0_2_2 hbel_2 hB_3
  try clear hB
  go_wp2
  refine bodyPost_ret (v := .tuple #[.agg #[.bool false, .slice none 0 0, .slice none 0 0], .int .i64 22]) (by simp [results, Try.results24, go_sem, cR0_3_0, cR0_3_1, cR0_3_2]) rfl ?_
  exact fun Q => retqe_nil (by decide) hbel_3 (by omega)

set_option maxRecDepth 100000 in
set_option maxHeartbeats 4000000 in
theorem dpa0eb {w : World} (s r D0 S1 : ByteArray) (b : Bool) (N : Nat) (hs : s.size ≤ 4096) (HC : Hid (∀ w, Calls Try.prog 96 #[.string s, .string ⟨#[45]⟩] w (RetCutP w r b)))
    (hrl : r.size ≤ 4096) (hN : N ≤ r.size) (HR : Hid (∀ w, Calls Try.prog 97 #[.string r] w (fun e w' => e = .returned (.int .i64 (N : Nat)) ∧ Below w.heap.size w w')))
    (hD0 : r.extract 0 N = D0) (hS1 : r.extract N r.size = S1) (hD0s : D0.size = N) (hS1s : S1.size + N = r.size)
    (HH : Hid (∀ w, Calls Try.prog 98 #[.string S1, .string ⟨#[46]⟩] w (RetS2 w false)))
    (D S : ByteArray) (hDe : D0 = D) (hSe : S1 = S) (hDs : D.size = N) (hSs : S.size ≤ S1.size)
    (ev : Int) (eb : Bool) (HE : Hid (∀ w, Calls Try.prog 99 #[.string S] w (fun e w' => e = .returned (.tuple #[.int .i64 ev, .bool eb]) ∧ Below w.heap.size w w')))
    (hn0 : 1 ≤ N)
    (heb : eb = false) :
    Calls Try.prog 24 #[.string s] w (fun e w' => ∀ Q : Rat, RetQE w Q 22 e w') := by
  subst heb
  subst hDe hSe
  have hent := ent1 w #[Value.bool false, Value.slice none 0 0, Value.slice none 0 0] 29
  go_enter Try.func24, Try.ntmps24
  go_wp2_with fail
  generalize (w.alloc (.cells #[Value.bool false, Value.slice none 0 0, Value.slice none 0 0] 29)) = W0 at hent ⊢
  obtain ⟨R0_0, hbel_0, hsz_0⟩ := hent
  have cR0_0_0 : _ = some (Value.bool false) := R0_0.cell 0
  have fR0_0_0 := R0_0.free 0
  have cR0_0_1 : _ = some (Value.slice none 0 0) := R0_0.cell 1
  have fR0_0_1 := R0_0.free 1
  have cR0_0_2 : _ = some (Value.slice none 0 0) := R0_0.cell 2
  have fR0_0_2 := R0_0.free 2
  go_wp2_with fail
  refine (HC.out _).mono ?_
  rintro e wc ⟨rfl, rfl⟩
  go_wp2_with fail
  refine (HR.out _).mono ?_
  rintro e w1 ⟨rfl, hB⟩
  have hB_1 : Below W0.heap.size W0 w1 := (bl.next hB)
  have R0_1 := R0_0.next hB_1
  have cR0_1_0 : _ = some (Value.bool false) := R0_1.cell 0
  have fR0_1_0 := R0_1.free 0
  have cR0_1_1 : _ = some (Value.slice none 0 0) := R0_1.cell 1
  have fR0_1_1 := R0_1.free 1
  have cR0_1_2 : _ = some (Value.slice none 0 0) := R0_1.cell 2
  have fR0_1_2 := R0_1.free 2
  have hbel_1 := hbel_0.next hB_1
  have hsz_1 := hB_1.size
  clear R0_0 cR0_0_0 fR0_0_0 cR0_0_1 fR0_0_1 cR0_0_2 fR0_0_2 hbel_0 hB_1
  try clear hB
  go_wp2_with fail
  go_quiet (fail)
  have hB_2 : Below w1.heap.size w1 (w1.drewN nq) := (show Below w1.heap.size w1 (w1.drewN nq) from ⟨rfl, rfl, rfl, Nat.le_refl _, fun _ _ => rfl⟩)
  have R0_2 := R0_1.next hB_2
  have cR0_2_0 : _ = some (Value.bool false) := R0_2.cell 0
  have fR0_2_0 := R0_2.free 0
  have cR0_2_1 : _ = some (Value.slice none 0 0) := R0_2.cell 1
  have fR0_2_1 := R0_2.free 1
  have cR0_2_2 : _ = some (Value.slice none 0 0) := R0_2.cell 2
  have fR0_2_2 := R0_2.free 2
  have hbel_2 := hbel_1.next hB_2
  have hsz_2 := hB_2.size
  clear R0_1 cR0_1_0 fR0_1_0 cR0_1_1 fR0_1_1 cR0_1_2 fR0_1_2 hbel_1 hB_2
  generalize (w1.drewN nq) = va at *
  go_wp2_with fail
  refine (HH.out _).mono ?_
  rintro e wc ⟨rfl, rfl⟩
  go_wp2_with fail
  refine (HE.out _).mono ?_
  rintro e w3 ⟨rfl, hB⟩
  have hB_3 : Below va.heap.size va w3 := (bl.next hB)
  have R0_3 := R0_2.next hB_3
  have cR0_3_0 : _ = some (Value.bool false) := R0_3.cell 0
  have fR0_3_0 := R0_3.free 0
  have cR0_3_1 : _ = some (Value.slice none 0 0) := R0_3.cell 1
  have fR0_3_1 := R0_3.free 1
  have cR0_3_2 : _ = some (Value.slice none 0 0) := R0_3.cell 2
  have fR0_3_2 := R0_3.free 2
  have hbel_3 := hbel_2.next hB_3
  have hsz_3 := hB_3.size
  clear R0_2 cR0_2_0 fR0_2_0 cR0_2_1 fR0_2_1 cR0_2_2 fR0_2_2 hbel_2 hB_3
  try clear hB
  go_wp2
  refine bodyPost_ret (v := .tuple #[.agg #[.bool false, .slice none 0 0, .slice none 0 0], .int .i64 22]) (by simp [results, Try.results24, go_sem, cR0_3_0, cR0_3_1, cR0_3_2]) rfl ?_
  exact fun Q => retqe_nil (by decide) hbel_3 (by omega)

set_option maxRecDepth 100000 in
set_option maxHeartbeats 4000000 in
theorem dpa0up {w : World} (s r D0 S1 : ByteArray) (b : Bool) (N : Nat) (hs : s.size ≤ 4096) (HC : Hid (∀ w, Calls Try.prog 96 #[.string s, .string ⟨#[45]⟩] w (RetCutP w r b)))
    (hrl : r.size ≤ 4096) (hN : N ≤ r.size) (HR : Hid (∀ w, Calls Try.prog 97 #[.string r] w (fun e w' => e = .returned (.int .i64 (N : Nat)) ∧ Below w.heap.size w w')))
    (hD0 : r.extract 0 N = D0) (hS1 : r.extract N r.size = S1) (hD0s : D0.size = N) (hS1s : S1.size + N = r.size)
    (HH : Hid (∀ w, Calls Try.prog 98 #[.string S1, .string ⟨#[46]⟩] w (RetS2 w false)))
    (D S : ByteArray) (hDe : D0 = D) (hSe : S1 = S) (hDs : D.size = N) (hSs : S.size ≤ S1.size)
    (ev : Int) (eb : Bool) (HE : Hid (∀ w, Calls Try.prog 99 #[.string S] w (fun e w' => e = .returned (.tuple #[.int .i64 ev, .bool eb]) ∧ Below w.heap.size w w')))
    (hn0 : 1 ≤ N)
    (heb : eb = true) (v : Nat) (HV : Hid (∀ w, Calls Try.prog 100 #[.string D] w (RetE w (lm v) 0))) (hsv : Hid (Sz v 4096)) (hev1 : -1000 ≤ ev) (hev2 : ev ≤ 1000)
    (E : Nat) (hE : ev - 0 = (E : Int)) (q : Rat) (hq : Hid (Rat.divInt (zv b (v * 10 ^ E)) ((1 : Nat) : Int) = q)) :
    Calls Try.prog 24 #[.string s] w (RetQE w q 0) := by
  subst heb
  subst hDe hSe
  obtain ⟨K4, hK4, hK5⟩ : ∃ K, 14000 ≤ K ∧ K ≤ 20000 := ⟨14000, by omega, by omega⟩
  have hsv0 := hsv.out
  have hEb : E ≤ 6000 := by omega
  have hsT := szTen E
  have HT := hid (fun w => dten (w := w) E (by omega))
  have hsM := hid ((hsv0.mul hsT).mono (Nat.le_refl _) (show 4096 + (E + 1) ≤ K4 by omega))
  have hsTh := hid (hsT.mono (Nat.le_refl _) (show E + 1 ≤ K4 by omega))
  have hsvh := hid (hsv0.mono (Nat.le_refl _) (show 4096 ≤ K4 by omega))
  clear hsT hsv0 hsv
  obtain ⟨T, hT⟩ : ∃ T, 10 ^ E = T := ⟨_, rfl⟩
  have hT0 := hid (show T ≠ 0 by rw [← hT]; exact Nat.pos_iff_ne_zero.1 (Nat.pow_pos (by decide)))
  rw [hT] at HT hsTh hq hsM
  clear hT
  have hent := ent1 w #[Value.bool false, Value.slice none 0 0, Value.slice none 0 0] 29
  go_enter Try.func24, Try.ntmps24
  go_wp2_with fail
  generalize (w.alloc (.cells #[Value.bool false, Value.slice none 0 0, Value.slice none 0 0] 29)) = W0 at hent ⊢
  obtain ⟨R0_0, hbel_0, hsz_0⟩ := hent
  have cR0_0_0 : _ = some (Value.bool false) := R0_0.cell 0
  have fR0_0_0 := R0_0.free 0
  have cR0_0_1 : _ = some (Value.slice none 0 0) := R0_0.cell 1
  have fR0_0_1 := R0_0.free 1
  have cR0_0_2 : _ = some (Value.slice none 0 0) := R0_0.cell 2
  have fR0_0_2 := R0_0.free 2
  go_wp2_with fail
  refine (HC.out _).mono ?_
  rintro e wc ⟨rfl, rfl⟩
  go_wp2_with fail
  refine (HR.out _).mono ?_
  rintro e w1 ⟨rfl, hB⟩
  have hB_1 : Below W0.heap.size W0 w1 := (bl.next hB)
  have R0_1 := R0_0.next hB_1
  have cR0_1_0 : _ = some (Value.bool false) := R0_1.cell 0
  have fR0_1_0 := R0_1.free 0
  have cR0_1_1 : _ = some (Value.slice none 0 0) := R0_1.cell 1
  have fR0_1_1 := R0_1.free 1
  have cR0_1_2 : _ = some (Value.slice none 0 0) := R0_1.cell 2
  have fR0_1_2 := R0_1.free 2
  have hbel_1 := hbel_0.next hB_1
  have hsz_1 := hB_1.size
  clear R0_0 cR0_0_0 fR0_0_0 cR0_0_1 fR0_0_1 cR0_0_2 fR0_0_2 hbel_0 hB_1
  try clear hB
  go_wp2_with fail
  go_quiet (fail)
  have hB_2 : Below w1.heap.size w1 (w1.drewN nq) := (show Below w1.heap.size w1 (w1.drewN nq) from ⟨rfl, rfl, rfl, Nat.le_refl _, fun _ _ => rfl⟩)
  have R0_2 := R0_1.next hB_2
  have cR0_2_0 : _ = some (Value.bool false) := R0_2.cell 0
  have fR0_2_0 := R0_2.free 0
  have cR0_2_1 : _ = some (Value.slice none 0 0) := R0_2.cell 1
  have fR0_2_1 := R0_2.free 1
  have cR0_2_2 : _ = some (Value.slice none 0 0) := R0_2.cell 2
  have fR0_2_2 := R0_2.free 2
  have hbel_2 := hbel_1.next hB_2
  have hsz_2 := hB_2.size
  clear R0_1 cR0_1_0 fR0_1_0 cR0_1_1 fR0_1_1 cR0_1_2 fR0_1_2 hbel_1 hB_2
  generalize (w1.drewN nq) = va at *
  go_wp2_with fail
  refine (HH.out _).mono ?_
  rintro e wc ⟨rfl, rfl⟩
  go_wp2_with fail
  refine (HE.out _).mono ?_
  rintro e w3 ⟨rfl, hB⟩
  have hB_3 : Below va.heap.size va w3 := (bl.next hB)
  have R0_3 := R0_2.next hB_3
  have cR0_3_0 : _ = some (Value.bool false) := R0_3.cell 0
  have fR0_3_0 := R0_3.free 0
  have cR0_3_1 : _ = some (Value.slice none 0 0) := R0_3.cell 1
  have fR0_3_1 := R0_3.free 1
  have cR0_3_2 : _ = some (Value.slice none 0 0) := R0_3.cell 2
  have fR0_3_2 := R0_3.free 2
  have hbel_3 := hbel_2.next hB_3
  have hsz_3 := hB_3.size
  clear R0_2 cR0_2_0 fR0_2_0 cR0_2_1 fR0_2_1 cR0_2_2 fR0_2_2 hbel_2 hB_3
  try clear hB
  go_wp2_with fail
  refine (HV.out _).mono ?_
  rintro e w4 ⟨na, nn, nc, rfl, hO, hB⟩
  have hB_4 : Below w3.heap.size w3 w4 := (bl.next hB)
  have R0_4 := R0_3.next hB_4
  have cR0_4_0 : _ = some (Value.bool false) := R0_4.cell 0
  have fR0_4_0 := R0_4.free 0
  have cR0_4_1 : _ = some (Value.slice none 0 0) := R0_4.cell 1
  have fR0_4_1 := R0_4.free 1
  have cR0_4_2 : _ = some (Value.slice none 0 0) := R0_4.cell 2
  have fR0_4_2 := R0_4.free 2
  have hbel_4 := hbel_3.next hB_4
  have hsz_4 := hB_4.size
  clear R0_3 cR0_3_0 fR0_3_0 cR0_3_1 fR0_3_1 cR0_3_2 fR0_3_2 hbel_3 hB_4
  have V_4 := hO.rdN hsvh.out
  clear hO
  try clear hB
  go_wp2_with fail
  refine (of_any 1 (by omega) (by omega)).mono ?_
  rintro e w5 ⟨ua, un, uc, rfl, hO, hB⟩
  have hB_5 : Below w4.heap.size w4 w5 := (bl.next hB)
  have R0_5 := R0_4.next hB_5
  have cR0_5_0 : _ = some (Value.bool false) := R0_5.cell 0
  have fR0_5_0 := R0_5.free 0
  have cR0_5_1 : _ = some (Value.slice none 0 0) := R0_5.cell 1
  have fR0_5_1 := R0_5.free 1
  have cR0_5_2 : _ = some (Value.slice none 0 0) := R0_5.cell 2
  have fR0_5_2 := R0_5.free 2
  have V_5 := V_4.below hB_5
  have hbel_5 := hbel_4.next hB_5
  have hsz_5 := hB_5.size
  clear R0_4 cR0_4_0 fR0_4_0 cR0_4_1 fR0_4_1 cR0_4_2 fR0_4_2 V_4 hbel_4 hB_5
  have U1_5 := hO.rdN (v := 1) (k := 1) (sz_one (Nat.le_refl _))
  clear hO
  try clear hB
  go_wp2_with fail
  refine (HT.out _).mono ?_
  rintro e w6 ⟨ta, tn, tc, rfl, hO, hB⟩
  have hB_6 : Below w5.heap.size w5 w6 := (bl.next hB)
  have R0_6 := R0_5.next hB_6
  have cR0_6_0 : _ = some (Value.bool false) := R0_6.cell 0
  have fR0_6_0 := R0_6.free 0
  have cR0_6_1 : _ = some (Value.slice none 0 0) := R0_6.cell 1
  have fR0_6_1 := R0_6.free 1
  have cR0_6_2 : _ = some (Value.slice none 0 0) := R0_6.cell 2
  have fR0_6_2 := R0_6.free 2
  have V_6 := V_5.below hB_6
  have U1_6 := U1_5.below hB_6
  have hbel_6 := hbel_5.next hB_6
  have hsz_6 := hB_6.size
  clear R0_5 cR0_5_0 fR0_5_0 cR0_5_1 fR0_5_1 cR0_5_2 fR0_5_2 V_5 U1_5 hbel_5 hB_6
  have TT_6 := hO.rdN hsTh.out
  clear hO
  try clear hB
  go_wp2_with fail
  refine (nmulR V_6 TT_6 (by omega) (by omega)).mono ?_
  rintro e w7 ⟨ma, mn, mc, rfl, hO, hB⟩
  have hB_7 : Below w6.heap.size w6 w7 := (bl.next hB)
  have R0_7 := R0_6.next hB_7
  have cR0_7_0 : _ = some (Value.bool false) := R0_7.cell 0
  have fR0_7_0 := R0_7.free 0
  have cR0_7_1 : _ = some (Value.slice none 0 0) := R0_7.cell 1
  have fR0_7_1 := R0_7.free 1
  have cR0_7_2 : _ = some (Value.slice none 0 0) := R0_7.cell 2
  have fR0_7_2 := R0_7.free 2
  have V_7 := V_6.below hB_7
  have U1_7 := U1_6.below hB_7
  have TT_7 := TT_6.below hB_7
  have hbel_7 := hbel_6.next hB_7
  have hsz_7 := hB_7.size
  clear R0_6 cR0_6_0 fR0_6_0 cR0_6_1 fR0_6_1 cR0_6_2 fR0_6_2 V_6 U1_6 TT_6 hbel_6 hB_7
  have M_7 := hO.rdN hsM.out
  clear hO
  try clear hB
  go_wp2_with fail
  refine (qnew ((M_7.mono (by omega)).toZ (s := b)) ((U1_7.mono (by omega)).toI)).mono ?_
  rw [hq.out, zE_pos (show ((1 : Nat) : Int) ≠ 0 by decide)]
  rintro e w8 ⟨qa, qn, qc, da, dn, dc, rfl, hO, hO', hD9, hB⟩
  have hB_8 : Below w7.heap.size w7 w8 := (bl.next hB)
  have R0_8 := R0_7.next hB_8
  have cR0_8_0 : _ = some (Value.bool false) := R0_8.cell 0
  have fR0_8_0 := R0_8.free 0
  have cR0_8_1 : _ = some (Value.slice none 0 0) := R0_8.cell 1
  have fR0_8_1 := R0_8.free 1
  have cR0_8_2 : _ = some (Value.slice none 0 0) := R0_8.cell 2
  have fR0_8_2 := R0_8.free 2
  have V_8 := V_7.below hB_8
  have U1_8 := U1_7.below hB_8
  have TT_8 := TT_7.below hB_8
  have M_8 := M_7.below hB_8
  have hbel_8 := hbel_7.next hB_8
  have hsz_8 := hB_8.size
  clear R0_7 cR0_7_0 fR0_7_0 cR0_7_1 fR0_7_1 cR0_7_2 fR0_7_2 V_7 U1_7 TT_7 M_7 hbel_7 hB_8
  have OQ_8 := hO
  have ltOQ := hO.ltB
  have OD_8 := hO'
  have ltOD := hO'.ltB
  clear hO hO'
  try clear hB
  go_wp2
  refine bodyPost_ret (v := .tuple #[.agg #[.bool (qsg q 0), .slice qa qn qc, .slice da dn dc], .int .i64 0]) (by simp [results, Try.results24, go_sem, cR0_8_0, cR0_8_1, cR0_8_2]) rfl ?_
  exact retqe_set (er := 0) OQ_8 OD_8 hD9 hbel_8 (by omega) (by omega)

set_option maxRecDepth 100000 in
set_option maxHeartbeats 4000000 in
theorem dpa0dn {w : World} (s r D0 S1 : ByteArray) (b : Bool) (N : Nat) (hs : s.size ≤ 4096) (HC : Hid (∀ w, Calls Try.prog 96 #[.string s, .string ⟨#[45]⟩] w (RetCutP w r b)))
    (hrl : r.size ≤ 4096) (hN : N ≤ r.size) (HR : Hid (∀ w, Calls Try.prog 97 #[.string r] w (fun e w' => e = .returned (.int .i64 (N : Nat)) ∧ Below w.heap.size w w')))
    (hD0 : r.extract 0 N = D0) (hS1 : r.extract N r.size = S1) (hD0s : D0.size = N) (hS1s : S1.size + N = r.size)
    (HH : Hid (∀ w, Calls Try.prog 98 #[.string S1, .string ⟨#[46]⟩] w (RetS2 w false)))
    (D S : ByteArray) (hDe : D0 = D) (hSe : S1 = S) (hDs : D.size = N) (hSs : S.size ≤ S1.size)
    (ev : Int) (eb : Bool) (HE : Hid (∀ w, Calls Try.prog 99 #[.string S] w (fun e w' => e = .returned (.tuple #[.int .i64 ev, .bool eb]) ∧ Below w.heap.size w w')))
    (hn0 : 1 ≤ N)
    (heb : eb = true) (v : Nat) (HV : Hid (∀ w, Calls Try.prog 100 #[.string D] w (RetE w (lm v) 0))) (hsv : Hid (Sz v 4096)) (hev1 : -1000 ≤ ev) (hev2 : ev ≤ 1000)
    (E : Nat) (hE : ev - 0 = -(E : Int)) (hE1 : 1 ≤ E) (q : Rat) (hq : Hid (Rat.divInt (zv b v) ((10 ^ E : Nat) : Int) = q)) :
    Calls Try.prog 24 #[.string s] w (RetQE w q 0) := by
  subst heb
  subst hDe hSe
  obtain ⟨K4, hK4, hK5⟩ : ∃ K, 14000 ≤ K ∧ K ≤ 20000 := ⟨14000, by omega, by omega⟩
  have hsv0 := hsv.out
  have hEb : E ≤ 6000 := by omega
  have hsT := szTen E
  have HT := hid (fun w => dten (w := w) E (by omega))
  have hsTh := hid (hsT.mono (Nat.le_refl _) (show E + 1 ≤ K4 by omega))
  have hsvh := hid (hsv0.mono (Nat.le_refl _) (show 4096 ≤ K4 by omega))
  clear hsT hsv0 hsv
  obtain ⟨T, hT⟩ : ∃ T, 10 ^ E = T := ⟨_, rfl⟩
  have hT0 := hid (show T ≠ 0 by rw [← hT]; exact Nat.pos_iff_ne_zero.1 (Nat.pow_pos (by decide)))
  rw [hT] at HT hsTh hq
  clear hT
  have hent := ent1 w #[Value.bool false, Value.slice none 0 0, Value.slice none 0 0] 29
  go_enter Try.func24, Try.ntmps24
  go_wp2_with fail
  generalize (w.alloc (.cells #[Value.bool false, Value.slice none 0 0, Value.slice none 0 0] 29)) = W0 at hent ⊢
  obtain ⟨R0_0, hbel_0, hsz_0⟩ := hent
  have cR0_0_0 : _ = some (Value.bool false) := R0_0.cell 0
  have fR0_0_0 := R0_0.free 0
  have cR0_0_1 : _ = some (Value.slice none 0 0) := R0_0.cell 1
  have fR0_0_1 := R0_0.free 1
  have cR0_0_2 : _ = some (Value.slice none 0 0) := R0_0.cell 2
  have fR0_0_2 := R0_0.free 2
  go_wp2_with fail
  refine (HC.out _).mono ?_
  rintro e wc ⟨rfl, rfl⟩
  go_wp2_with fail
  refine (HR.out _).mono ?_
  rintro e w1 ⟨rfl, hB⟩
  have hB_1 : Below W0.heap.size W0 w1 := (bl.next hB)
  have R0_1 := R0_0.next hB_1
  have cR0_1_0 : _ = some (Value.bool false) := R0_1.cell 0
  have fR0_1_0 := R0_1.free 0
  have cR0_1_1 : _ = some (Value.slice none 0 0) := R0_1.cell 1
  have fR0_1_1 := R0_1.free 1
  have cR0_1_2 : _ = some (Value.slice none 0 0) := R0_1.cell 2
  have fR0_1_2 := R0_1.free 2
  have hbel_1 := hbel_0.next hB_1
  have hsz_1 := hB_1.size
  clear R0_0 cR0_0_0 fR0_0_0 cR0_0_1 fR0_0_1 cR0_0_2 fR0_0_2 hbel_0 hB_1
  try clear hB
  go_wp2_with fail
  go_quiet (fail)
  have hB_2 : Below w1.heap.size w1 (w1.drewN nq) := (show Below w1.heap.size w1 (w1.drewN nq) from ⟨rfl, rfl, rfl, Nat.le_refl _, fun _ _ => rfl⟩)
  have R0_2 := R0_1.next hB_2
  have cR0_2_0 : _ = some (Value.bool false) := R0_2.cell 0
  have fR0_2_0 := R0_2.free 0
  have cR0_2_1 : _ = some (Value.slice none 0 0) := R0_2.cell 1
  have fR0_2_1 := R0_2.free 1
  have cR0_2_2 : _ = some (Value.slice none 0 0) := R0_2.cell 2
  have fR0_2_2 := R0_2.free 2
  have hbel_2 := hbel_1.next hB_2
  have hsz_2 := hB_2.size
  clear R0_1 cR0_1_0 fR0_1_0 cR0_1_1 fR0_1_1 cR0_1_2 fR0_1_2 hbel_1 hB_2
  generalize (w1.drewN nq) = va at *
  go_wp2_with fail
  refine (HH.out _).mono ?_
  rintro e wc ⟨rfl, rfl⟩
  go_wp2_with fail
  refine (HE.out _).mono ?_
  rintro e w3 ⟨rfl, hB⟩
  have hB_3 : Below va.heap.size va w3 := (bl.next hB)
  have R0_3 := R0_2.next hB_3
  have cR0_3_0 : _ = some (Value.bool false) := R0_3.cell 0
  have fR0_3_0 := R0_3.free 0
  have cR0_3_1 : _ = some (Value.slice none 0 0) := R0_3.cell 1
  have fR0_3_1 := R0_3.free 1
  have cR0_3_2 : _ = some (Value.slice none 0 0) := R0_3.cell 2
  have fR0_3_2 := R0_3.free 2
  have hbel_3 := hbel_2.next hB_3
  have hsz_3 := hB_3.size
  clear R0_2 cR0_2_0 fR0_2_0 cR0_2_1 fR0_2_1 cR0_2_2 fR0_2_2 hbel_2 hB_3
  try clear hB
  go_wp2_with fail
  refine (HV.out _).mono ?_
  rintro e w4 ⟨na, nn, nc, rfl, hO, hB⟩
  have hB_4 : Below w3.heap.size w3 w4 := (bl.next hB)
  have R0_4 := R0_3.next hB_4
  have cR0_4_0 : _ = some (Value.bool false) := R0_4.cell 0
  have fR0_4_0 := R0_4.free 0
  have cR0_4_1 : _ = some (Value.slice none 0 0) := R0_4.cell 1
  have fR0_4_1 := R0_4.free 1
  have cR0_4_2 : _ = some (Value.slice none 0 0) := R0_4.cell 2
  have fR0_4_2 := R0_4.free 2
  have hbel_4 := hbel_3.next hB_4
  have hsz_4 := hB_4.size
  clear R0_3 cR0_3_0 fR0_3_0 cR0_3_1 fR0_3_1 cR0_3_2 fR0_3_2 hbel_3 hB_4
  have V_4 := hO.rdN hsvh.out
  clear hO
  try clear hB
  go_wp2_with fail
  refine (of_any 1 (by omega) (by omega)).mono ?_
  rintro e w5 ⟨ua, un, uc, rfl, hO, hB⟩
  have hB_5 : Below w4.heap.size w4 w5 := (bl.next hB)
  have R0_5 := R0_4.next hB_5
  have cR0_5_0 : _ = some (Value.bool false) := R0_5.cell 0
  have fR0_5_0 := R0_5.free 0
  have cR0_5_1 : _ = some (Value.slice none 0 0) := R0_5.cell 1
  have fR0_5_1 := R0_5.free 1
  have cR0_5_2 : _ = some (Value.slice none 0 0) := R0_5.cell 2
  have fR0_5_2 := R0_5.free 2
  have V_5 := V_4.below hB_5
  have hbel_5 := hbel_4.next hB_5
  have hsz_5 := hB_5.size
  clear R0_4 cR0_4_0 fR0_4_0 cR0_4_1 fR0_4_1 cR0_4_2 fR0_4_2 V_4 hbel_4 hB_5
  have U1_5 := hO.rdN (v := 1) (k := 1) (sz_one (Nat.le_refl _))
  clear hO
  try clear hB
  go_wp2_with fail
  refine (HT.out _).mono ?_
  rintro e w6 ⟨ta, tn, tc, rfl, hO, hB⟩
  have hB_6 : Below w5.heap.size w5 w6 := (bl.next hB)
  have R0_6 := R0_5.next hB_6
  have cR0_6_0 : _ = some (Value.bool false) := R0_6.cell 0
  have fR0_6_0 := R0_6.free 0
  have cR0_6_1 : _ = some (Value.slice none 0 0) := R0_6.cell 1
  have fR0_6_1 := R0_6.free 1
  have cR0_6_2 : _ = some (Value.slice none 0 0) := R0_6.cell 2
  have fR0_6_2 := R0_6.free 2
  have V_6 := V_5.below hB_6
  have U1_6 := U1_5.below hB_6
  have hbel_6 := hbel_5.next hB_6
  have hsz_6 := hB_6.size
  clear R0_5 cR0_5_0 fR0_5_0 cR0_5_1 fR0_5_1 cR0_5_2 fR0_5_2 V_5 U1_5 hbel_5 hB_6
  have TT_6 := hO.rdN hsTh.out
  clear hO
  try clear hB
  go_wp2_with fail
  refine (qnew ((V_6.mono (by omega)).toZ (s := b)) ((TT_6.mono (by omega)).toI)).mono ?_
  rw [hq.out, zE_pos (show ((T : Nat) : Int) ≠ 0 by have := hT0.out; omega)]
  rintro e w7 ⟨qa, qn, qc, da, dn, dc, rfl, hO, hO', hD9, hB⟩
  have hB_7 : Below w6.heap.size w6 w7 := (bl.next hB)
  have R0_7 := R0_6.next hB_7
  have cR0_7_0 : _ = some (Value.bool false) := R0_7.cell 0
  have fR0_7_0 := R0_7.free 0
  have cR0_7_1 : _ = some (Value.slice none 0 0) := R0_7.cell 1
  have fR0_7_1 := R0_7.free 1
  have cR0_7_2 : _ = some (Value.slice none 0 0) := R0_7.cell 2
  have fR0_7_2 := R0_7.free 2
  have V_7 := V_6.below hB_7
  have U1_7 := U1_6.below hB_7
  have TT_7 := TT_6.below hB_7
  have hbel_7 := hbel_6.next hB_7
  have hsz_7 := hB_7.size
  clear R0_6 cR0_6_0 fR0_6_0 cR0_6_1 fR0_6_1 cR0_6_2 fR0_6_2 V_6 U1_6 TT_6 hbel_6 hB_7
  have OQ_7 := hO
  have ltOQ := hO.ltB
  have OD_7 := hO'
  have ltOD := hO'.ltB
  clear hO hO'
  try clear hB
  go_wp2
  refine bodyPost_ret (v := .tuple #[.agg #[.bool (qsg q 0), .slice qa qn qc, .slice da dn dc], .int .i64 0]) (by simp [results, Try.results24, go_sem, cR0_7_0, cR0_7_1, cR0_7_2]) rfl ?_
  exact retqe_set (er := 0) OQ_7 OD_7 hD9 hbel_7 (by omega) (by omega)

set_option maxRecDepth 100000 in
set_option maxHeartbeats 4000000 in
theorem dpa1k0 {w : World} (s r D0 S1 : ByteArray) (b : Bool) (N : Nat) (hs : s.size ≤ 4096) (HC : Hid (∀ w, Calls Try.prog 96 #[.string s, .string ⟨#[45]⟩] w (RetCutP w r b)))
    (hrl : r.size ≤ 4096) (hN : N ≤ r.size) (HR : Hid (∀ w, Calls Try.prog 97 #[.string r] w (fun e w' => e = .returned (.int .i64 (N : Nat)) ∧ Below w.heap.size w w')))
    (hD0 : r.extract 0 N = D0) (hS1 : r.extract N r.size = S1) (hD0s : D0.size = N) (hS1s : S1.size + N = r.size)
    (HH : Hid (∀ w, Calls Try.prog 98 #[.string S1, .string ⟨#[46]⟩] w (RetS2 w true)))
    (U : ByteArray) (k : Nat) (h1S : 1 ≤ S1.size) (hU : S1.extract 1 S1.size = U) (hUs : U.size + 1 = S1.size) (hK : k ≤ U.size) (HU : Hid (∀ w, Calls Try.prog 97 #[.string U] w (fun e w' => e = .returned (.int .i64 (k : Nat)) ∧ Below w.heap.size w w')))
    (hk0 : k = 0) :
    Calls Try.prog 24 #[.string s] w (fun e w' => ∀ Q : Rat, RetQE w Q 22 e w') := by
  subst hk0
  have hent := ent1 w #[Value.bool false, Value.slice none 0 0, Value.slice none 0 0] 29
  go_enter Try.func24, Try.ntmps24
  go_wp2_with fail
  generalize (w.alloc (.cells #[Value.bool false, Value.slice none 0 0, Value.slice none 0 0] 29)) = W0 at hent ⊢
  obtain ⟨R0_0, hbel_0, hsz_0⟩ := hent
  have cR0_0_0 : _ = some (Value.bool false) := R0_0.cell 0
  have fR0_0_0 := R0_0.free 0
  have cR0_0_1 : _ = some (Value.slice none 0 0) := R0_0.cell 1
  have fR0_0_1 := R0_0.free 1
  have cR0_0_2 : _ = some (Value.slice none 0 0) := R0_0.cell 2
  have fR0_0_2 := R0_0.free 2
  go_wp2_with fail
  refine (HC.out _).mono ?_
  rintro e wc ⟨rfl, rfl⟩
  go_wp2_with fail
  refine (HR.out _).mono ?_
  rintro e w1 ⟨rfl, hB⟩
  have hB_1 : Below W0.heap.size W0 w1 := (bl.next hB)
  have R0_1 := R0_0.next hB_1
  have cR0_1_0 : _ = some (Value.bool false) := R0_1.cell 0
  have fR0_1_0 := R0_1.free 0
  have cR0_1_1 : _ = some (Value.slice none 0 0) := R0_1.cell 1
  have fR0_1_1 := R0_1.free 1
  have cR0_1_2 : _ = some (Value.slice none 0 0) := R0_1.cell 2
  have fR0_1_2 := R0_1.free 2
  have hbel_1 := hbel_0.next hB_1
  have hsz_1 := hB_1.size
  clear R0_0 cR0_0_0 fR0_0_0 cR0_0_1 fR0_0_1 cR0_0_2 fR0_0_2 hbel_0 hB_1
  try clear hB
  go_wp2_with fail
  go_quiet (fail)
  have hB_2 : Below w1.heap.size w1 (w1.drewN nq) := (show Below w1.heap.size w1 (w1.drewN nq) from ⟨rfl, rfl, rfl, Nat.le_refl _, fun _ _ => rfl⟩)
  have R0_2 := R0_1.next hB_2
  have cR0_2_0 : _ = some (Value.bool false) := R0_2.cell 0
  have fR0_2_0 := R0_2.free 0
  have cR0_2_1 : _ = some (Value.slice none 0 0) := R0_2.cell 1
  have fR0_2_1 := R0_2.free 1
  have cR0_2_2 : _ = some (Value.slice none 0 0) := R0_2.cell 2
  have fR0_2_2 := R0_2.free 2
  have hbel_2 := hbel_1.next hB_2
  have hsz_2 := hB_2.size
  clear R0_1 cR0_1_0 fR0_1_0 cR0_1_1 fR0_1_1 cR0_1_2 fR0_1_2 hbel_1 hB_2
  generalize (w1.drewN nq) = va at *
  go_wp2_with fail
  refine (HH.out _).mono ?_
  rintro e wc ⟨rfl, rfl⟩
  go_wp2_with fail
  refine (HU.out _).mono ?_
  rintro e w3 ⟨rfl, hB⟩
  have hB_3 : Below va.heap.size va w3 := (bl.next hB)
  have R0_3 := R0_2.next hB_3
  have cR0_3_0 : _ = some (Value.bool false) := R0_3.cell 0
  have fR0_3_0 := R0_3.free 0
  have cR0_3_1 : _ = some (Value.slice none 0 0) := R0_3.cell 1
  have fR0_3_1 := R0_3.free 1
  have cR0_3_2 : _ = some (Value.slice none 0 0) := R0_3.cell 2
  have fR0_3_2 := R0_3.free 2
  have hbel_3 := hbel_2.next hB_3
  have hsz_3 := hB_3.size
  clear R0_2 cR0_2_0 fR0_2_0 cR0_2_1 fR0_2_1 cR0_2_2 fR0_2_2 hbel_2 hB_3
  try clear hB
  go_wp2
  refine bodyPost_ret (v := .tuple #[.agg #[.bool false, .slice none 0 0, .slice none 0 0], .int .i64 22]) (by simp [results, Try.results24, go_sem, cR0_3_0, cR0_3_1, cR0_3_2]) rfl ?_
  exact fun Q => retqe_nil (by decide) hbel_3 (by omega)

set_option maxRecDepth 100000 in
set_option maxHeartbeats 4000000 in
theorem dpa1n0 {w : World} (s r D0 S1 : ByteArray) (b : Bool) (N : Nat) (hs : s.size ≤ 4096) (HC : Hid (∀ w, Calls Try.prog 96 #[.string s, .string ⟨#[45]⟩] w (RetCutP w r b)))
    (hrl : r.size ≤ 4096) (hN : N ≤ r.size) (HR : Hid (∀ w, Calls Try.prog 97 #[.string r] w (fun e w' => e = .returned (.int .i64 (N : Nat)) ∧ Below w.heap.size w w')))
    (hD0 : r.extract 0 N = D0) (hS1 : r.extract N r.size = S1) (hD0s : D0.size = N) (hS1s : S1.size + N = r.size)
    (HH : Hid (∀ w, Calls Try.prog 98 #[.string S1, .string ⟨#[46]⟩] w (RetS2 w true)))
    (U : ByteArray) (k : Nat) (h1S : 1 ≤ S1.size) (hU : S1.extract 1 S1.size = U) (hUs : U.size + 1 = S1.size) (hK : k ≤ U.size) (HU : Hid (∀ w, Calls Try.prog 97 #[.string U] w (fun e w' => e = .returned (.int .i64 (k : Nat)) ∧ Below w.heap.size w w')))
    (hk0 : 1 ≤ k) (B9 D S : ByteArray) (hB9 : S1.extract 1 (k + 1) = B9) (hD : D0 ++ B9 = D) (hS : S1.extract (k + 1) S1.size = S) (hDs : D.size = N + k) (hSs : S.size ≤ S1.size) (hB9s : B9.size = k)
    (ev : Int) (eb : Bool) (HE : Hid (∀ w, Calls Try.prog 99 #[.string S] w (fun e w' => e = .returned (.tuple #[.int .i64 ev, .bool eb]) ∧ Below w.heap.size w w')))
    (hn0 : N = 0) :
    Calls Try.prog 24 #[.string s] w (fun e w' => ∀ Q : Rat, RetQE w Q 22 e w') := by
  subst hn0
  have hk9 : k + 1 ≤ S1.size := by omega
  have hk10 : (k : Int) + 1 ≤ (S1.size : Int) := by omega
  have hk11 : (1 : Int) ≤ (k : Int) + 1 := by omega
  have hk12 : k ≤ 4096 := by omega
  have hk13 : S1.size ≤ 4096 := by omega
  have hk14 : IntKind.i64.wrap ((k : Int) + 1) = ((k + 1 : Nat) : Int) := by rw [IntKind.wrap_i64]; omega
  have hent := ent1 w #[Value.bool false, Value.slice none 0 0, Value.slice none 0 0] 29
  go_enter Try.func24, Try.ntmps24
  go_wp2_with fail
  generalize (w.alloc (.cells #[Value.bool false, Value.slice none 0 0, Value.slice none 0 0] 29)) = W0 at hent ⊢
  obtain ⟨R0_0, hbel_0, hsz_0⟩ := hent
  have cR0_0_0 : _ = some (Value.bool false) := R0_0.cell 0
  have fR0_0_0 := R0_0.free 0
  have cR0_0_1 : _ = some (Value.slice none 0 0) := R0_0.cell 1
  have fR0_0_1 := R0_0.free 1
  have cR0_0_2 : _ = some (Value.slice none 0 0) := R0_0.cell 2
  have fR0_0_2 := R0_0.free 2
  go_wp2_with fail
  refine (HC.out _).mono ?_
  rintro e wc ⟨rfl, rfl⟩
  go_wp2_with fail
  refine (HR.out _).mono ?_
  rintro e w1 ⟨rfl, hB⟩
  have hB_1 : Below W0.heap.size W0 w1 := (bl.next hB)
  have R0_1 := R0_0.next hB_1
  have cR0_1_0 : _ = some (Value.bool false) := R0_1.cell 0
  have fR0_1_0 := R0_1.free 0
  have cR0_1_1 : _ = some (Value.slice none 0 0) := R0_1.cell 1
  have fR0_1_1 := R0_1.free 1
  have cR0_1_2 : _ = some (Value.slice none 0 0) := R0_1.cell 2
  have fR0_1_2 := R0_1.free 2
  have hbel_1 := hbel_0.next hB_1
  have hsz_1 := hB_1.size
  clear R0_0 cR0_0_0 fR0_0_0 cR0_0_1 fR0_0_1 cR0_0_2 fR0_0_2 hbel_0 hB_1
  try clear hB
  go_wp2_with fail
  go_quiet (fail)
  have hB_2 : Below w1.heap.size w1 (w1.drewN nq) := (show Below w1.heap.size w1 (w1.drewN nq) from ⟨rfl, rfl, rfl, Nat.le_refl _, fun _ _ => rfl⟩)
  have R0_2 := R0_1.next hB_2
  have cR0_2_0 : _ = some (Value.bool false) := R0_2.cell 0
  have fR0_2_0 := R0_2.free 0
  have cR0_2_1 : _ = some (Value.slice none 0 0) := R0_2.cell 1
  have fR0_2_1 := R0_2.free 1
  have cR0_2_2 : _ = some (Value.slice none 0 0) := R0_2.cell 2
  have fR0_2_2 := R0_2.free 2
  have hbel_2 := hbel_1.next hB_2
  have hsz_2 := hB_2.size
  clear R0_1 cR0_1_0 fR0_1_0 cR0_1_1 fR0_1_1 cR0_1_2 fR0_1_2 hbel_1 hB_2
  generalize (w1.drewN nq) = va at *
  go_wp2_with fail
  refine (HH.out _).mono ?_
  rintro e wc ⟨rfl, rfl⟩
  go_wp2_with fail
  refine (HU.out _).mono ?_
  rintro e w3 ⟨rfl, hB⟩
  have hB_3 : Below va.heap.size va w3 := (bl.next hB)
  have R0_3 := R0_2.next hB_3
  have cR0_3_0 : _ = some (Value.bool false) := R0_3.cell 0
  have fR0_3_0 := R0_3.free 0
  have cR0_3_1 : _ = some (Value.slice none 0 0) := R0_3.cell 1
  have fR0_3_1 := R0_3.free 1
  have cR0_3_2 : _ = some (Value.slice none 0 0) := R0_3.cell 2
  have fR0_3_2 := R0_3.free 2
  have hbel_3 := hbel_2.next hB_3
  have hsz_3 := hB_3.size
  clear R0_2 cR0_2_0 fR0_2_0 cR0_2_1 fR0_2_1 cR0_2_2 fR0_2_2 hbel_2 hB_3
  try clear hB
  go_wp2_with fail
  go_quiet (fail)
  have hB_4 : Below w3.heap.size w3 (w3.drewN nq) := (show Below w3.heap.size w3 (w3.drewN nq) from ⟨rfl, rfl, rfl, Nat.le_refl _, fun _ _ => rfl⟩)
  have R0_4 := R0_3.next hB_4
  have cR0_4_0 : _ = some (Value.bool false) := R0_4.cell 0
  have fR0_4_0 := R0_4.free 0
  have cR0_4_1 : _ = some (Value.slice none 0 0) := R0_4.cell 1
  have fR0_4_1 := R0_4.free 1
  have cR0_4_2 : _ = some (Value.slice none 0 0) := R0_4.cell 2
  have fR0_4_2 := R0_4.free 2
  have hbel_4 := hbel_3.next hB_4
  have hsz_4 := hB_4.size
  clear R0_3 cR0_3_0 fR0_3_0 cR0_3_1 fR0_3_1 cR0_3_2 fR0_3_2 hbel_3 hB_4
  generalize (w3.drewN nq) = vb at *
  go_wp2_with fail
  refine (HE.out _).mono ?_
  rintro e w5 ⟨rfl, hB⟩
  have hB_5 : Below vb.heap.size vb w5 := (bl.next hB)
  have R0_5 := R0_4.next hB_5
  have cR0_5_0 : _ = some (Value.bool false) := R0_5.cell 0
  have fR0_5_0 := R0_5.free 0
  have cR0_5_1 : _ = some (Value.slice none 0 0) := R0_5.cell 1
  have fR0_5_1 := R0_5.free 1
  have cR0_5_2 : _ = some (Value.slice none 0 0) := R0_5.cell 2
  have fR0_5_2 := R0_5.free 2
  have hbel_5 := hbel_4.next hB_5
  have hsz_5 := hB_5.size
  clear R0_4 cR0_4_0 fR0_4_0 cR0_4_1 fR0_4_1 cR0_4_2 fR0_4_2 hbel_4 hB_5
  try clear hB
  go_wp2
  refine bodyPost_ret (v := .tuple #[.agg #[.bool false, .slice none 0 0, .slice none 0 0], .int .i64 22]) (by simp [results, Try.results24, go_sem, cR0_5_0, cR0_5_1, cR0_5_2]) rfl ?_
  exact fun Q => retqe_nil (by decide) hbel_5 (by omega)

set_option maxRecDepth 100000 in
set_option maxHeartbeats 4000000 in
theorem dpa1eb {w : World} (s r D0 S1 : ByteArray) (b : Bool) (N : Nat) (hs : s.size ≤ 4096) (HC : Hid (∀ w, Calls Try.prog 96 #[.string s, .string ⟨#[45]⟩] w (RetCutP w r b)))
    (hrl : r.size ≤ 4096) (hN : N ≤ r.size) (HR : Hid (∀ w, Calls Try.prog 97 #[.string r] w (fun e w' => e = .returned (.int .i64 (N : Nat)) ∧ Below w.heap.size w w')))
    (hD0 : r.extract 0 N = D0) (hS1 : r.extract N r.size = S1) (hD0s : D0.size = N) (hS1s : S1.size + N = r.size)
    (HH : Hid (∀ w, Calls Try.prog 98 #[.string S1, .string ⟨#[46]⟩] w (RetS2 w true)))
    (U : ByteArray) (k : Nat) (h1S : 1 ≤ S1.size) (hU : S1.extract 1 S1.size = U) (hUs : U.size + 1 = S1.size) (hK : k ≤ U.size) (HU : Hid (∀ w, Calls Try.prog 97 #[.string U] w (fun e w' => e = .returned (.int .i64 (k : Nat)) ∧ Below w.heap.size w w')))
    (hk0 : 1 ≤ k) (B9 D S : ByteArray) (hB9 : S1.extract 1 (k + 1) = B9) (hD : D0 ++ B9 = D) (hS : S1.extract (k + 1) S1.size = S) (hDs : D.size = N + k) (hSs : S.size ≤ S1.size) (hB9s : B9.size = k)
    (ev : Int) (eb : Bool) (HE : Hid (∀ w, Calls Try.prog 99 #[.string S] w (fun e w' => e = .returned (.tuple #[.int .i64 ev, .bool eb]) ∧ Below w.heap.size w w')))
    (hn0 : 1 ≤ N)
    (heb : eb = false) :
    Calls Try.prog 24 #[.string s] w (fun e w' => ∀ Q : Rat, RetQE w Q 22 e w') := by
  subst heb
  have hk9 : k + 1 ≤ S1.size := by omega
  have hk10 : (k : Int) + 1 ≤ (S1.size : Int) := by omega
  have hk11 : (1 : Int) ≤ (k : Int) + 1 := by omega
  have hk12 : k ≤ 4096 := by omega
  have hk13 : S1.size ≤ 4096 := by omega
  have hk14 : IntKind.i64.wrap ((k : Int) + 1) = ((k + 1 : Nat) : Int) := by rw [IntKind.wrap_i64]; omega
  have hent := ent1 w #[Value.bool false, Value.slice none 0 0, Value.slice none 0 0] 29
  go_enter Try.func24, Try.ntmps24
  go_wp2_with fail
  generalize (w.alloc (.cells #[Value.bool false, Value.slice none 0 0, Value.slice none 0 0] 29)) = W0 at hent ⊢
  obtain ⟨R0_0, hbel_0, hsz_0⟩ := hent
  have cR0_0_0 : _ = some (Value.bool false) := R0_0.cell 0
  have fR0_0_0 := R0_0.free 0
  have cR0_0_1 : _ = some (Value.slice none 0 0) := R0_0.cell 1
  have fR0_0_1 := R0_0.free 1
  have cR0_0_2 : _ = some (Value.slice none 0 0) := R0_0.cell 2
  have fR0_0_2 := R0_0.free 2
  go_wp2_with fail
  refine (HC.out _).mono ?_
  rintro e wc ⟨rfl, rfl⟩
  go_wp2_with fail
  refine (HR.out _).mono ?_
  rintro e w1 ⟨rfl, hB⟩
  have hB_1 : Below W0.heap.size W0 w1 := (bl.next hB)
  have R0_1 := R0_0.next hB_1
  have cR0_1_0 : _ = some (Value.bool false) := R0_1.cell 0
  have fR0_1_0 := R0_1.free 0
  have cR0_1_1 : _ = some (Value.slice none 0 0) := R0_1.cell 1
  have fR0_1_1 := R0_1.free 1
  have cR0_1_2 : _ = some (Value.slice none 0 0) := R0_1.cell 2
  have fR0_1_2 := R0_1.free 2
  have hbel_1 := hbel_0.next hB_1
  have hsz_1 := hB_1.size
  clear R0_0 cR0_0_0 fR0_0_0 cR0_0_1 fR0_0_1 cR0_0_2 fR0_0_2 hbel_0 hB_1
  try clear hB
  go_wp2_with fail
  go_quiet (fail)
  have hB_2 : Below w1.heap.size w1 (w1.drewN nq) := (show Below w1.heap.size w1 (w1.drewN nq) from ⟨rfl, rfl, rfl, Nat.le_refl _, fun _ _ => rfl⟩)
  have R0_2 := R0_1.next hB_2
  have cR0_2_0 : _ = some (Value.bool false) := R0_2.cell 0
  have fR0_2_0 := R0_2.free 0
  have cR0_2_1 : _ = some (Value.slice none 0 0) := R0_2.cell 1
  have fR0_2_1 := R0_2.free 1
  have cR0_2_2 : _ = some (Value.slice none 0 0) := R0_2.cell 2
  have fR0_2_2 := R0_2.free 2
  have hbel_2 := hbel_1.next hB_2
  have hsz_2 := hB_2.size
  clear R0_1 cR0_1_0 fR0_1_0 cR0_1_1 fR0_1_1 cR0_1_2 fR0_1_2 hbel_1 hB_2
  generalize (w1.drewN nq) = va at *
  go_wp2_with fail
  refine (HH.out _).mono ?_
  rintro e wc ⟨rfl, rfl⟩
  go_wp2_with fail
  refine (HU.out _).mono ?_
  rintro e w3 ⟨rfl, hB⟩
  have hB_3 : Below va.heap.size va w3 := (bl.next hB)
  have R0_3 := R0_2.next hB_3
  have cR0_3_0 : _ = some (Value.bool false) := R0_3.cell 0
  have fR0_3_0 := R0_3.free 0
  have cR0_3_1 : _ = some (Value.slice none 0 0) := R0_3.cell 1
  have fR0_3_1 := R0_3.free 1
  have cR0_3_2 : _ = some (Value.slice none 0 0) := R0_3.cell 2
  have fR0_3_2 := R0_3.free 2
  have hbel_3 := hbel_2.next hB_3
  have hsz_3 := hB_3.size
  clear R0_2 cR0_2_0 fR0_2_0 cR0_2_1 fR0_2_1 cR0_2_2 fR0_2_2 hbel_2 hB_3
  try clear hB
  go_wp2_with fail
  go_quiet (fail)
  have hB_4 : Below w3.heap.size w3 (w3.drewN nq) := (show Below w3.heap.size w3 (w3.drewN nq) from ⟨rfl, rfl, rfl, Nat.le_refl _, fun _ _ => rfl⟩)
  have R0_4 := R0_3.next hB_4
  have cR0_4_0 : _ = some (Value.bool false) := R0_4.cell 0
  have fR0_4_0 := R0_4.free 0
  have cR0_4_1 : _ = some (Value.slice none 0 0) := R0_4.cell 1
  have fR0_4_1 := R0_4.free 1
  have cR0_4_2 : _ = some (Value.slice none 0 0) := R0_4.cell 2
  have fR0_4_2 := R0_4.free 2
  have hbel_4 := hbel_3.next hB_4
  have hsz_4 := hB_4.size
  clear R0_3 cR0_3_0 fR0_3_0 cR0_3_1 fR0_3_1 cR0_3_2 fR0_3_2 hbel_3 hB_4
  generalize (w3.drewN nq) = vb at *
  go_wp2_with fail
  refine (HE.out _).mono ?_
  rintro e w5 ⟨rfl, hB⟩
  have hB_5 : Below vb.heap.size vb w5 := (bl.next hB)
  have R0_5 := R0_4.next hB_5
  have cR0_5_0 : _ = some (Value.bool false) := R0_5.cell 0
  have fR0_5_0 := R0_5.free 0
  have cR0_5_1 : _ = some (Value.slice none 0 0) := R0_5.cell 1
  have fR0_5_1 := R0_5.free 1
  have cR0_5_2 : _ = some (Value.slice none 0 0) := R0_5.cell 2
  have fR0_5_2 := R0_5.free 2
  have hbel_5 := hbel_4.next hB_5
  have hsz_5 := hB_5.size
  clear R0_4 cR0_4_0 fR0_4_0 cR0_4_1 fR0_4_1 cR0_4_2 fR0_4_2 hbel_4 hB_5
  try clear hB
  go_wp2
  refine bodyPost_ret (v := .tuple #[.agg #[.bool false, .slice none 0 0, .slice none 0 0], .int .i64 22]) (by simp [results, Try.results24, go_sem, cR0_5_0, cR0_5_1, cR0_5_2]) rfl ?_
  exact fun Q => retqe_nil (by decide) hbel_5 (by omega)

set_option maxRecDepth 100000 in
set_option maxHeartbeats 4000000 in
theorem dpa1up {w : World} (s r D0 S1 : ByteArray) (b : Bool) (N : Nat) (hs : s.size ≤ 4096) (HC : Hid (∀ w, Calls Try.prog 96 #[.string s, .string ⟨#[45]⟩] w (RetCutP w r b)))
    (hrl : r.size ≤ 4096) (hN : N ≤ r.size) (HR : Hid (∀ w, Calls Try.prog 97 #[.string r] w (fun e w' => e = .returned (.int .i64 (N : Nat)) ∧ Below w.heap.size w w')))
    (hD0 : r.extract 0 N = D0) (hS1 : r.extract N r.size = S1) (hD0s : D0.size = N) (hS1s : S1.size + N = r.size)
    (HH : Hid (∀ w, Calls Try.prog 98 #[.string S1, .string ⟨#[46]⟩] w (RetS2 w true)))
    (U : ByteArray) (k : Nat) (h1S : 1 ≤ S1.size) (hU : S1.extract 1 S1.size = U) (hUs : U.size + 1 = S1.size) (hK : k ≤ U.size) (HU : Hid (∀ w, Calls Try.prog 97 #[.string U] w (fun e w' => e = .returned (.int .i64 (k : Nat)) ∧ Below w.heap.size w w')))
    (hk0 : 1 ≤ k) (B9 D S : ByteArray) (hB9 : S1.extract 1 (k + 1) = B9) (hD : D0 ++ B9 = D) (hS : S1.extract (k + 1) S1.size = S) (hDs : D.size = N + k) (hSs : S.size ≤ S1.size) (hB9s : B9.size = k)
    (ev : Int) (eb : Bool) (HE : Hid (∀ w, Calls Try.prog 99 #[.string S] w (fun e w' => e = .returned (.tuple #[.int .i64 ev, .bool eb]) ∧ Below w.heap.size w w')))
    (hn0 : 1 ≤ N)
    (heb : eb = true) (v : Nat) (HV : Hid (∀ w, Calls Try.prog 100 #[.string D] w (RetE w (lm v) 0))) (hsv : Hid (Sz v 4096)) (hev1 : -1000 ≤ ev) (hev2 : ev ≤ 1000)
    (E : Nat) (hE : ev - (k : Int) = (E : Int)) (q : Rat) (hq : Hid (Rat.divInt (zv b (v * 10 ^ E)) ((1 : Nat) : Int) = q)) :
    Calls Try.prog 24 #[.string s] w (RetQE w q 0) := by
  subst heb
  have hk9 : k + 1 ≤ S1.size := by omega
  have hk10 : (k : Int) + 1 ≤ (S1.size : Int) := by omega
  have hk11 : (1 : Int) ≤ (k : Int) + 1 := by omega
  have hk12 : k ≤ 4096 := by omega
  have hk13 : S1.size ≤ 4096 := by omega
  have hk14 : IntKind.i64.wrap ((k : Int) + 1) = ((k + 1 : Nat) : Int) := by rw [IntKind.wrap_i64]; omega
  obtain ⟨K4, hK4, hK5⟩ : ∃ K, 14000 ≤ K ∧ K ≤ 20000 := ⟨14000, by omega, by omega⟩
  have hsv0 := hsv.out
  have hEb : E ≤ 6000 := by omega
  have hsT := szTen E
  have HT := hid (fun w => dten (w := w) E (by omega))
  have hsM := hid ((hsv0.mul hsT).mono (Nat.le_refl _) (show 4096 + (E + 1) ≤ K4 by omega))
  have hsTh := hid (hsT.mono (Nat.le_refl _) (show E + 1 ≤ K4 by omega))
  have hsvh := hid (hsv0.mono (Nat.le_refl _) (show 4096 ≤ K4 by omega))
  clear hsT hsv0 hsv
  obtain ⟨T, hT⟩ : ∃ T, 10 ^ E = T := ⟨_, rfl⟩
  have hT0 := hid (show T ≠ 0 by rw [← hT]; exact Nat.pos_iff_ne_zero.1 (Nat.pow_pos (by decide)))
  rw [hT] at HT hsTh hq hsM
  clear hT
  have hent := ent1 w #[Value.bool false, Value.slice none 0 0, Value.slice none 0 0] 29
  go_enter Try.func24, Try.ntmps24
  go_wp2_with fail
  generalize (w.alloc (.cells #[Value.bool false, Value.slice none 0 0, Value.slice none 0 0] 29)) = W0 at hent ⊢
  obtain ⟨R0_0, hbel_0, hsz_0⟩ := hent
  have cR0_0_0 : _ = some (Value.bool false) := R0_0.cell 0
  have fR0_0_0 := R0_0.free 0
  have cR0_0_1 : _ = some (Value.slice none 0 0) := R0_0.cell 1
  have fR0_0_1 := R0_0.free 1
  have cR0_0_2 : _ = some (Value.slice none 0 0) := R0_0.cell 2
  have fR0_0_2 := R0_0.free 2
  go_wp2_with fail
  refine (HC.out _).mono ?_
  rintro e wc ⟨rfl, rfl⟩
  go_wp2_with fail
  refine (HR.out _).mono ?_
  rintro e w1 ⟨rfl, hB⟩
  have hB_1 : Below W0.heap.size W0 w1 := (bl.next hB)
  have R0_1 := R0_0.next hB_1
  have cR0_1_0 : _ = some (Value.bool false) := R0_1.cell 0
  have fR0_1_0 := R0_1.free 0
  have cR0_1_1 : _ = some (Value.slice none 0 0) := R0_1.cell 1
  have fR0_1_1 := R0_1.free 1
  have cR0_1_2 : _ = some (Value.slice none 0 0) := R0_1.cell 2
  have fR0_1_2 := R0_1.free 2
  have hbel_1 := hbel_0.next hB_1
  have hsz_1 := hB_1.size
  clear R0_0 cR0_0_0 fR0_0_0 cR0_0_1 fR0_0_1 cR0_0_2 fR0_0_2 hbel_0 hB_1
  try clear hB
  go_wp2_with fail
  go_quiet (fail)
  have hB_2 : Below w1.heap.size w1 (w1.drewN nq) := (show Below w1.heap.size w1 (w1.drewN nq) from ⟨rfl, rfl, rfl, Nat.le_refl _, fun _ _ => rfl⟩)
  have R0_2 := R0_1.next hB_2
  have cR0_2_0 : _ = some (Value.bool false) := R0_2.cell 0
  have fR0_2_0 := R0_2.free 0
  have cR0_2_1 : _ = some (Value.slice none 0 0) := R0_2.cell 1
  have fR0_2_1 := R0_2.free 1
  have cR0_2_2 : _ = some (Value.slice none 0 0) := R0_2.cell 2
  have fR0_2_2 := R0_2.free 2
  have hbel_2 := hbel_1.next hB_2
  have hsz_2 := hB_2.size
  clear R0_1 cR0_1_0 fR0_1_0 cR0_1_1 fR0_1_1 cR0_1_2 fR0_1_2 hbel_1 hB_2
  generalize (w1.drewN nq) = va at *
  go_wp2_with fail
  refine (HH.out _).mono ?_
  rintro e wc ⟨rfl, rfl⟩
  go_wp2_with fail
  refine (HU.out _).mono ?_
  rintro e w3 ⟨rfl, hB⟩
  have hB_3 : Below va.heap.size va w3 := (bl.next hB)
  have R0_3 := R0_2.next hB_3
  have cR0_3_0 : _ = some (Value.bool false) := R0_3.cell 0
  have fR0_3_0 := R0_3.free 0
  have cR0_3_1 : _ = some (Value.slice none 0 0) := R0_3.cell 1
  have fR0_3_1 := R0_3.free 1
  have cR0_3_2 : _ = some (Value.slice none 0 0) := R0_3.cell 2
  have fR0_3_2 := R0_3.free 2
  have hbel_3 := hbel_2.next hB_3
  have hsz_3 := hB_3.size
  clear R0_2 cR0_2_0 fR0_2_0 cR0_2_1 fR0_2_1 cR0_2_2 fR0_2_2 hbel_2 hB_3
  try clear hB
  go_wp2_with fail
  go_quiet (fail)
  have hB_4 : Below w3.heap.size w3 (w3.drewN nq) := (show Below w3.heap.size w3 (w3.drewN nq) from ⟨rfl, rfl, rfl, Nat.le_refl _, fun _ _ => rfl⟩)
  have R0_4 := R0_3.next hB_4
  have cR0_4_0 : _ = some (Value.bool false) := R0_4.cell 0
  have fR0_4_0 := R0_4.free 0
  have cR0_4_1 : _ = some (Value.slice none 0 0) := R0_4.cell 1
  have fR0_4_1 := R0_4.free 1
  have cR0_4_2 : _ = some (Value.slice none 0 0) := R0_4.cell 2
  have fR0_4_2 := R0_4.free 2
  have hbel_4 := hbel_3.next hB_4
  have hsz_4 := hB_4.size
  clear R0_3 cR0_3_0 fR0_3_0 cR0_3_1 fR0_3_1 cR0_3_2 fR0_3_2 hbel_3 hB_4
  generalize (w3.drewN nq) = vb at *
  go_wp2_with fail
  refine (HE.out _).mono ?_
  rintro e w5 ⟨rfl, hB⟩
  have hB_5 : Below vb.heap.size vb w5 := (bl.next hB)
  have R0_5 := R0_4.next hB_5
  have cR0_5_0 : _ = some (Value.bool false) := R0_5.cell 0
  have fR0_5_0 := R0_5.free 0
  have cR0_5_1 : _ = some (Value.slice none 0 0) := R0_5.cell 1
  have fR0_5_1 := R0_5.free 1
  have cR0_5_2 : _ = some (Value.slice none 0 0) := R0_5.cell 2
  have fR0_5_2 := R0_5.free 2
  have hbel_5 := hbel_4.next hB_5
  have hsz_5 := hB_5.size
  clear R0_4 cR0_4_0 fR0_4_0 cR0_4_1 fR0_4_1 cR0_4_2 fR0_4_2 hbel_4 hB_5
  try clear hB
  go_wp2_with fail
  refine (HV.out _).mono ?_
  rintro e w6 ⟨na, nn, nc, rfl, hO, hB⟩
  have hB_6 : Below w5.heap.size w5 w6 := (bl.next hB)
  have R0_6 := R0_5.next hB_6
  have cR0_6_0 : _ = some (Value.bool false) := R0_6.cell 0
  have fR0_6_0 := R0_6.free 0
  have cR0_6_1 : _ = some (Value.slice none 0 0) := R0_6.cell 1
  have fR0_6_1 := R0_6.free 1
  have cR0_6_2 : _ = some (Value.slice none 0 0) := R0_6.cell 2
  have fR0_6_2 := R0_6.free 2
  have hbel_6 := hbel_5.next hB_6
  have hsz_6 := hB_6.size
  clear R0_5 cR0_5_0 fR0_5_0 cR0_5_1 fR0_5_1 cR0_5_2 fR0_5_2 hbel_5 hB_6
  have V_6 := hO.rdN hsvh.out
  clear hO
  try clear hB
  go_wp2_with fail
  refine (of_any 1 (by omega) (by omega)).mono ?_
  rintro e w7 ⟨ua, un, uc, rfl, hO, hB⟩
  have hB_7 : Below w6.heap.size w6 w7 := (bl.next hB)
  have R0_7 := R0_6.next hB_7
  have cR0_7_0 : _ = some (Value.bool false) := R0_7.cell 0
  have fR0_7_0 := R0_7.free 0
  have cR0_7_1 : _ = some (Value.slice none 0 0) := R0_7.cell 1
  have fR0_7_1 := R0_7.free 1
  have cR0_7_2 : _ = some (Value.slice none 0 0) := R0_7.cell 2
  have fR0_7_2 := R0_7.free 2
  have V_7 := V_6.below hB_7
  have hbel_7 := hbel_6.next hB_7
  have hsz_7 := hB_7.size
  clear R0_6 cR0_6_0 fR0_6_0 cR0_6_1 fR0_6_1 cR0_6_2 fR0_6_2 V_6 hbel_6 hB_7
  have U1_7 := hO.rdN (v := 1) (k := 1) (sz_one (Nat.le_refl _))
  clear hO
  try clear hB
  go_wp2_with fail
  refine (HT.out _).mono ?_
  rintro e w8 ⟨ta, tn, tc, rfl, hO, hB⟩
  have hB_8 : Below w7.heap.size w7 w8 := (bl.next hB)
  have R0_8 := R0_7.next hB_8
  have cR0_8_0 : _ = some (Value.bool false) := R0_8.cell 0
  have fR0_8_0 := R0_8.free 0
  have cR0_8_1 : _ = some (Value.slice none 0 0) := R0_8.cell 1
  have fR0_8_1 := R0_8.free 1
  have cR0_8_2 : _ = some (Value.slice none 0 0) := R0_8.cell 2
  have fR0_8_2 := R0_8.free 2
  have V_8 := V_7.below hB_8
  have U1_8 := U1_7.below hB_8
  have hbel_8 := hbel_7.next hB_8
  have hsz_8 := hB_8.size
  clear R0_7 cR0_7_0 fR0_7_0 cR0_7_1 fR0_7_1 cR0_7_2 fR0_7_2 V_7 U1_7 hbel_7 hB_8
  have TT_8 := hO.rdN hsTh.out
  clear hO
  try clear hB
  go_wp2_with fail
  refine (nmulR V_8 TT_8 (by omega) (by omega)).mono ?_
  rintro e w9 ⟨ma, mn, mc, rfl, hO, hB⟩
  have hB_9 : Below w8.heap.size w8 w9 := (bl.next hB)
  have R0_9 := R0_8.next hB_9
  have cR0_9_0 : _ = some (Value.bool false) := R0_9.cell 0
  have fR0_9_0 := R0_9.free 0
  have cR0_9_1 : _ = some (Value.slice none 0 0) := R0_9.cell 1
  have fR0_9_1 := R0_9.free 1
  have cR0_9_2 : _ = some (Value.slice none 0 0) := R0_9.cell 2
  have fR0_9_2 := R0_9.free 2
  have V_9 := V_8.below hB_9
  have U1_9 := U1_8.below hB_9
  have TT_9 := TT_8.below hB_9
  have hbel_9 := hbel_8.next hB_9
  have hsz_9 := hB_9.size
  clear R0_8 cR0_8_0 fR0_8_0 cR0_8_1 fR0_8_1 cR0_8_2 fR0_8_2 V_8 U1_8 TT_8 hbel_8 hB_9
  have M_9 := hO.rdN hsM.out
  clear hO
  try clear hB
  go_wp2_with fail
  refine (qnew ((M_9.mono (by omega)).toZ (s := b)) ((U1_9.mono (by omega)).toI)).mono ?_
  rw [hq.out, zE_pos (show ((1 : Nat) : Int) ≠ 0 by decide)]
  rintro e w10 ⟨qa, qn, qc, da, dn, dc, rfl, hO, hO', hD9, hB⟩
  have hB_10 : Below w9.heap.size w9 w10 := (bl.next hB)
  have R0_10 := R0_9.next hB_10
  have cR0_10_0 : _ = some (Value.bool false) := R0_10.cell 0
  have fR0_10_0 := R0_10.free 0
  have cR0_10_1 : _ = some (Value.slice none 0 0) := R0_10.cell 1
  have fR0_10_1 := R0_10.free 1
  have cR0_10_2 : _ = some (Value.slice none 0 0) := R0_10.cell 2
  have fR0_10_2 := R0_10.free 2
  have V_10 := V_9.below hB_10
  have U1_10 := U1_9.below hB_10
  have TT_10 := TT_9.below hB_10
  have M_10 := M_9.below hB_10
  have hbel_10 := hbel_9.next hB_10
  have hsz_10 := hB_10.size
  clear R0_9 cR0_9_0 fR0_9_0 cR0_9_1 fR0_9_1 cR0_9_2 fR0_9_2 V_9 U1_9 TT_9 M_9 hbel_9 hB_10
  have OQ_10 := hO
  have ltOQ := hO.ltB
  have OD_10 := hO'
  have ltOD := hO'.ltB
  clear hO hO'
  try clear hB
  go_wp2
  refine bodyPost_ret (v := .tuple #[.agg #[.bool (qsg q 0), .slice qa qn qc, .slice da dn dc], .int .i64 0]) (by simp [results, Try.results24, go_sem, cR0_10_0, cR0_10_1, cR0_10_2]) rfl ?_
  exact retqe_set (er := 0) OQ_10 OD_10 hD9 hbel_10 (by omega) (by omega)

set_option maxRecDepth 100000 in
set_option maxHeartbeats 4000000 in
theorem dpa1dn {w : World} (s r D0 S1 : ByteArray) (b : Bool) (N : Nat) (hs : s.size ≤ 4096) (HC : Hid (∀ w, Calls Try.prog 96 #[.string s, .string ⟨#[45]⟩] w (RetCutP w r b)))
    (hrl : r.size ≤ 4096) (hN : N ≤ r.size) (HR : Hid (∀ w, Calls Try.prog 97 #[.string r] w (fun e w' => e = .returned (.int .i64 (N : Nat)) ∧ Below w.heap.size w w')))
    (hD0 : r.extract 0 N = D0) (hS1 : r.extract N r.size = S1) (hD0s : D0.size = N) (hS1s : S1.size + N = r.size)
    (HH : Hid (∀ w, Calls Try.prog 98 #[.string S1, .string ⟨#[46]⟩] w (RetS2 w true)))
    (U : ByteArray) (k : Nat) (h1S : 1 ≤ S1.size) (hU : S1.extract 1 S1.size = U) (hUs : U.size + 1 = S1.size) (hK : k ≤ U.size) (HU : Hid (∀ w, Calls Try.prog 97 #[.string U] w (fun e w' => e = .returned (.int .i64 (k : Nat)) ∧ Below w.heap.size w w')))
    (hk0 : 1 ≤ k) (B9 D S : ByteArray) (hB9 : S1.extract 1 (k + 1) = B9) (hD : D0 ++ B9 = D) (hS : S1.extract (k + 1) S1.size = S) (hDs : D.size = N + k) (hSs : S.size ≤ S1.size) (hB9s : B9.size = k)
    (ev : Int) (eb : Bool) (HE : Hid (∀ w, Calls Try.prog 99 #[.string S] w (fun e w' => e = .returned (.tuple #[.int .i64 ev, .bool eb]) ∧ Below w.heap.size w w')))
    (hn0 : 1 ≤ N)
    (heb : eb = true) (v : Nat) (HV : Hid (∀ w, Calls Try.prog 100 #[.string D] w (RetE w (lm v) 0))) (hsv : Hid (Sz v 4096)) (hev1 : -1000 ≤ ev) (hev2 : ev ≤ 1000)
    (E : Nat) (hE : ev - (k : Int) = -(E : Int)) (hE1 : 1 ≤ E) (q : Rat) (hq : Hid (Rat.divInt (zv b v) ((10 ^ E : Nat) : Int) = q)) :
    Calls Try.prog 24 #[.string s] w (RetQE w q 0) := by
  subst heb
  have hk9 : k + 1 ≤ S1.size := by omega
  have hk10 : (k : Int) + 1 ≤ (S1.size : Int) := by omega
  have hk11 : (1 : Int) ≤ (k : Int) + 1 := by omega
  have hk12 : k ≤ 4096 := by omega
  have hk13 : S1.size ≤ 4096 := by omega
  have hk14 : IntKind.i64.wrap ((k : Int) + 1) = ((k + 1 : Nat) : Int) := by rw [IntKind.wrap_i64]; omega
  obtain ⟨K4, hK4, hK5⟩ : ∃ K, 14000 ≤ K ∧ K ≤ 20000 := ⟨14000, by omega, by omega⟩
  have hsv0 := hsv.out
  have hEb : E ≤ 6000 := by omega
  have hsT := szTen E
  have HT := hid (fun w => dten (w := w) E (by omega))
  have hsTh := hid (hsT.mono (Nat.le_refl _) (show E + 1 ≤ K4 by omega))
  have hsvh := hid (hsv0.mono (Nat.le_refl _) (show 4096 ≤ K4 by omega))
  clear hsT hsv0 hsv
  obtain ⟨T, hT⟩ : ∃ T, 10 ^ E = T := ⟨_, rfl⟩
  have hT0 := hid (show T ≠ 0 by rw [← hT]; exact Nat.pos_iff_ne_zero.1 (Nat.pow_pos (by decide)))
  rw [hT] at HT hsTh hq
  clear hT
  have hent := ent1 w #[Value.bool false, Value.slice none 0 0, Value.slice none 0 0] 29
  go_enter Try.func24, Try.ntmps24
  go_wp2_with fail
  generalize (w.alloc (.cells #[Value.bool false, Value.slice none 0 0, Value.slice none 0 0] 29)) = W0 at hent ⊢
  obtain ⟨R0_0, hbel_0, hsz_0⟩ := hent
  have cR0_0_0 : _ = some (Value.bool false) := R0_0.cell 0
  have fR0_0_0 := R0_0.free 0
  have cR0_0_1 : _ = some (Value.slice none 0 0) := R0_0.cell 1
  have fR0_0_1 := R0_0.free 1
  have cR0_0_2 : _ = some (Value.slice none 0 0) := R0_0.cell 2
  have fR0_0_2 := R0_0.free 2
  go_wp2_with fail
  refine (HC.out _).mono ?_
  rintro e wc ⟨rfl, rfl⟩
  go_wp2_with fail
  refine (HR.out _).mono ?_
  rintro e w1 ⟨rfl, hB⟩
  have hB_1 : Below W0.heap.size W0 w1 := (bl.next hB)
  have R0_1 := R0_0.next hB_1
  have cR0_1_0 : _ = some (Value.bool false) := R0_1.cell 0
  have fR0_1_0 := R0_1.free 0
  have cR0_1_1 : _ = some (Value.slice none 0 0) := R0_1.cell 1
  have fR0_1_1 := R0_1.free 1
  have cR0_1_2 : _ = some (Value.slice none 0 0) := R0_1.cell 2
  have fR0_1_2 := R0_1.free 2
  have hbel_1 := hbel_0.next hB_1
  have hsz_1 := hB_1.size
  clear R0_0 cR0_0_0 fR0_0_0 cR0_0_1 fR0_0_1 cR0_0_2 fR0_0_2 hbel_0 hB_1
  try clear hB
  go_wp2_with fail
  go_quiet (fail)
  have hB_2 : Below w1.heap.size w1 (w1.drewN nq) := (show Below w1.heap.size w1 (w1.drewN nq) from ⟨rfl, rfl, rfl, Nat.le_refl _, fun _ _ => rfl⟩)
  have R0_2 := R0_1.next hB_2
  have cR0_2_0 : _ = some (Value.bool false) := R0_2.cell 0
  have fR0_2_0 := R0_2.free 0
  have cR0_2_1 : _ = some (Value.slice none 0 0) := R0_2.cell 1
  have fR0_2_1 := R0_2.free 1
  have cR0_2_2 : _ = some (Value.slice none 0 0) := R0_2.cell 2
  have fR0_2_2 := R0_2.free 2
  have hbel_2 := hbel_1.next hB_2
  have hsz_2 := hB_2.size
  clear R0_1 cR0_1_0 fR0_1_0 cR0_1_1 fR0_1_1 cR0_1_2 fR0_1_2 hbel_1 hB_2
  generalize (w1.drewN nq) = va at *
  go_wp2_with fail
  refine (HH.out _).mono ?_
  rintro e wc ⟨rfl, rfl⟩
  go_wp2_with fail
  refine (HU.out _).mono ?_
  rintro e w3 ⟨rfl, hB⟩
  have hB_3 : Below va.heap.size va w3 := (bl.next hB)
  have R0_3 := R0_2.next hB_3
  have cR0_3_0 : _ = some (Value.bool false) := R0_3.cell 0
  have fR0_3_0 := R0_3.free 0
  have cR0_3_1 : _ = some (Value.slice none 0 0) := R0_3.cell 1
  have fR0_3_1 := R0_3.free 1
  have cR0_3_2 : _ = some (Value.slice none 0 0) := R0_3.cell 2
  have fR0_3_2 := R0_3.free 2
  have hbel_3 := hbel_2.next hB_3
  have hsz_3 := hB_3.size
  clear R0_2 cR0_2_0 fR0_2_0 cR0_2_1 fR0_2_1 cR0_2_2 fR0_2_2 hbel_2 hB_3
  try clear hB
  go_wp2_with fail
  go_quiet (fail)
  have hB_4 : Below w3.heap.size w3 (w3.drewN nq) := (show Below w3.heap.size w3 (w3.drewN nq) from ⟨rfl, rfl, rfl, Nat.le_refl _, fun _ _ => rfl⟩)
  have R0_4 := R0_3.next hB_4
  have cR0_4_0 : _ = some (Value.bool false) := R0_4.cell 0
  have fR0_4_0 := R0_4.free 0
  have cR0_4_1 : _ = some (Value.slice none 0 0) := R0_4.cell 1
  have fR0_4_1 := R0_4.free 1
  have cR0_4_2 : _ = some (Value.slice none 0 0) := R0_4.cell 2
  have fR0_4_2 := R0_4.free 2
  have hbel_4 := hbel_3.next hB_4
  have hsz_4 := hB_4.size
  clear R0_3 cR0_3_0 fR0_3_0 cR0_3_1 fR0_3_1 cR0_3_2 fR0_3_2 hbel_3 hB_4
  generalize (w3.drewN nq) = vb at *
  go_wp2_with fail
  refine (HE.out _).mono ?_
  rintro e w5 ⟨rfl, hB⟩
  have hB_5 : Below vb.heap.size vb w5 := (bl.next hB)
  have R0_5 := R0_4.next hB_5
  have cR0_5_0 : _ = some (Value.bool false) := R0_5.cell 0
  have fR0_5_0 := R0_5.free 0
  have cR0_5_1 : _ = some (Value.slice none 0 0) := R0_5.cell 1
  have fR0_5_1 := R0_5.free 1
  have cR0_5_2 : _ = some (Value.slice none 0 0) := R0_5.cell 2
  have fR0_5_2 := R0_5.free 2
  have hbel_5 := hbel_4.next hB_5
  have hsz_5 := hB_5.size
  clear R0_4 cR0_4_0 fR0_4_0 cR0_4_1 fR0_4_1 cR0_4_2 fR0_4_2 hbel_4 hB_5
  try clear hB
  go_wp2_with fail
  refine (HV.out _).mono ?_
  rintro e w6 ⟨na, nn, nc, rfl, hO, hB⟩
  have hB_6 : Below w5.heap.size w5 w6 := (bl.next hB)
  have R0_6 := R0_5.next hB_6
  have cR0_6_0 : _ = some (Value.bool false) := R0_6.cell 0
  have fR0_6_0 := R0_6.free 0
  have cR0_6_1 : _ = some (Value.slice none 0 0) := R0_6.cell 1
  have fR0_6_1 := R0_6.free 1
  have cR0_6_2 : _ = some (Value.slice none 0 0) := R0_6.cell 2
  have fR0_6_2 := R0_6.free 2
  have hbel_6 := hbel_5.next hB_6
  have hsz_6 := hB_6.size
  clear R0_5 cR0_5_0 fR0_5_0 cR0_5_1 fR0_5_1 cR0_5_2 fR0_5_2 hbel_5 hB_6
  have V_6 := hO.rdN hsvh.out
  clear hO
  try clear hB
  go_wp2_with fail
  refine (of_any 1 (by omega) (by omega)).mono ?_
  rintro e w7 ⟨ua, un, uc, rfl, hO, hB⟩
  have hB_7 : Below w6.heap.size w6 w7 := (bl.next hB)
  have R0_7 := R0_6.next hB_7
  have cR0_7_0 : _ = some (Value.bool false) := R0_7.cell 0
  have fR0_7_0 := R0_7.free 0
  have cR0_7_1 : _ = some (Value.slice none 0 0) := R0_7.cell 1
  have fR0_7_1 := R0_7.free 1
  have cR0_7_2 : _ = some (Value.slice none 0 0) := R0_7.cell 2
  have fR0_7_2 := R0_7.free 2
  have V_7 := V_6.below hB_7
  have hbel_7 := hbel_6.next hB_7
  have hsz_7 := hB_7.size
  clear R0_6 cR0_6_0 fR0_6_0 cR0_6_1 fR0_6_1 cR0_6_2 fR0_6_2 V_6 hbel_6 hB_7
  have U1_7 := hO.rdN (v := 1) (k := 1) (sz_one (Nat.le_refl _))
  clear hO
  try clear hB
  go_wp2_with fail
  refine (HT.out _).mono ?_
  rintro e w8 ⟨ta, tn, tc, rfl, hO, hB⟩
  have hB_8 : Below w7.heap.size w7 w8 := (bl.next hB)
  have R0_8 := R0_7.next hB_8
  have cR0_8_0 : _ = some (Value.bool false) := R0_8.cell 0
  have fR0_8_0 := R0_8.free 0
  have cR0_8_1 : _ = some (Value.slice none 0 0) := R0_8.cell 1
  have fR0_8_1 := R0_8.free 1
  have cR0_8_2 : _ = some (Value.slice none 0 0) := R0_8.cell 2
  have fR0_8_2 := R0_8.free 2
  have V_8 := V_7.below hB_8
  have U1_8 := U1_7.below hB_8
  have hbel_8 := hbel_7.next hB_8
  have hsz_8 := hB_8.size
  clear R0_7 cR0_7_0 fR0_7_0 cR0_7_1 fR0_7_1 cR0_7_2 fR0_7_2 V_7 U1_7 hbel_7 hB_8
  have TT_8 := hO.rdN hsTh.out
  clear hO
  try clear hB
  go_wp2_with fail
  refine (qnew ((V_8.mono (by omega)).toZ (s := b)) ((TT_8.mono (by omega)).toI)).mono ?_
  rw [hq.out, zE_pos (show ((T : Nat) : Int) ≠ 0 by have := hT0.out; omega)]
  rintro e w9 ⟨qa, qn, qc, da, dn, dc, rfl, hO, hO', hD9, hB⟩
  have hB_9 : Below w8.heap.size w8 w9 := (bl.next hB)
  have R0_9 := R0_8.next hB_9
  have cR0_9_0 : _ = some (Value.bool false) := R0_9.cell 0
  have fR0_9_0 := R0_9.free 0
  have cR0_9_1 : _ = some (Value.slice none 0 0) := R0_9.cell 1
  have fR0_9_1 := R0_9.free 1
  have cR0_9_2 : _ = some (Value.slice none 0 0) := R0_9.cell 2
  have fR0_9_2 := R0_9.free 2
  have V_9 := V_8.below hB_9
  have U1_9 := U1_8.below hB_9
  have TT_9 := TT_8.below hB_9
  have hbel_9 := hbel_8.next hB_9
  have hsz_9 := hB_9.size
  clear R0_8 cR0_8_0 fR0_8_0 cR0_8_1 fR0_8_1 cR0_8_2 fR0_8_2 V_8 U1_8 TT_8 hbel_8 hB_9
  have OQ_9 := hO
  have ltOQ := hO.ltB
  have OD_9 := hO'
  have ltOD := hO'.ltB
  clear hO hO'
  try clear hB
  go_wp2
  refine bodyPost_ret (v := .tuple #[.agg #[.bool (qsg q 0), .slice qa qn qc, .slice da dn dc], .int .i64 0]) (by simp [results, Try.results24, go_sem, cR0_9_0, cR0_9_1, cR0_9_2]) rfl ?_
  exact retqe_set (er := 0) OQ_9 OD_9 hD9 hbel_9 (by omega) (by omega)

theorem dcV_up {b : Bool} {D : List Nat} {e : Int} {E : Nat} (h : e = (E : Int)) : Rat.divInt (zv b (numD D * 10 ^ E)) ((1 : Nat) : Int) = dcV (b, D, e) := by
  unfold dcV
  simp only
  rw [if_pos (by omega), Rat.divInt_ofNat, show e.toNat = E by omega]
theorem dcV_dn {b : Bool} {D : List Nat} {e : Int} {E : Nat} (h : e = -(E : Int)) (hE : 1 ≤ E) : Rat.divInt (zv b (numD D)) ((10 ^ E : Nat) : Int) = dcV (b, D, e) := by
  unfold dcV
  simp only
  rw [if_neg (by omega), Rat.divInt_ofNat, show (-e).toNat = E by omega]
theorem dparse {w : World} (s : ByteArray) (hs : s.size ≤ 4096) : Calls Try.prog 24 #[.string s] w (RetQE w (dcQ (by' s)) (dcE (by' s))) := by
  have hrs := pzR_size s
  have HC := hid (fun w => cutp_any (w := w) s (Nat.le_trans hs (by simp [maxLen])))
  have hPo := fun o => dcP_of (s := s) (o := o)
  obtain ⟨r, hr⟩ : ∃ r, pzR s = r := ⟨_, rfl⟩
  obtain ⟨b, hb⟩ : ∃ b, pzB s = b := ⟨_, rfl⟩
  rw [hr, hb] at HC
  rw [hr] at hrs
  rw [hr, hb] at hPo
  clear hr hb
  have hrl : r.size ≤ 4096 := by omega
  have hN := dgw_by (s := r)
  have HR := hid (fun w => run_any (w := w) r (by omega))
  have hbD := be_take r (dgw (by' r))
  have hbS := be_drop r (dgw (by' r))
  rw [dgA_take] at hbD
  rw [dgB_drop] at hbS
  have hN0 : dgA (by' r) = [] ↔ dgw (by' r) = 0 := by unfold dgw; exact List.length_eq_zero_iff.symm
  have hoA := okD_dgA (by' r)
  obtain ⟨N, hNe⟩ : ∃ N, dgw (by' r) = N := ⟨_, rfl⟩
  rw [hNe] at hN HR hbD hbS hN0
  obtain ⟨D0, hD0⟩ : ∃ D, r.extract 0 N = D := ⟨_, rfl⟩
  obtain ⟨S1, hS1⟩ : ∃ S, r.extract N r.size = S := ⟨_, rfl⟩
  rw [hD0] at hbD
  rw [hS1] at hbS
  have hD0s : D0.size = N := by rw [← hD0, ByteArray.size_extract]; omega
  have hS1s : S1.size + N = r.size := by rw [← hS1, ByteArray.size_extract]; omega
  have HH := hid (fun w => pre46 (w := w) S1 (by omega))
  have bad : dcP (by' s) = none → ∀ {e w'}, (∀ Q : Rat, RetQE w Q 22 e w') → RetQE w (dcQ (by' s)) (dcE (by' s)) e w' := fun h e w' h2 => by rw [dc_none h]; exact h2 _
  cases hp : pfB 46 S1
  · rw [hp] at HH
    have hno : ∀ t, dgB (by' r) ≠ 46 :: t := fun t ht => by
      rw [← hbS] at ht
      have h1 : 0 < S1.size := by rw [← by_len, ht]; simp
      rw [pfB_cons h1] at hp
      have h2 := be_cons h1
      rw [ht] at h2
      injection h2 with h3
      exact of_decide_eq_false hp h3.symm
    have hdU := dcU_no hno
    rw [← hbS] at hdU
    unfold dcG at hdU
    have HE := hid (fun w => dexp (w := w) S1 (by omega))
    by_cases hn0 : N = 0
    · rw [if_pos (hN0.2 hn0)] at hdU
      exact (dpa0n0 s r D0 S1 b N hs HC hrl hN HR hD0 hS1 hD0s hS1s HH D0 S1 rfl rfl hD0s (Nat.le_refl _) _ _ HE hn0).mono fun e w' h => bad (hPo _ hdU) h
    · rw [if_neg (fun h => hn0 (hN0.1 h))] at hdU
      cases hX : exP (by' S1) with
      | none =>
        rw [hX] at hdU
        exact (dpa0eb s r D0 S1 b N hs HC hrl hN HR hD0 hS1 hD0s hS1s HH D0 S1 rfl rfl hD0s (Nat.le_refl _) _ _ HE (by omega) (by unfold exB; rw [hX]; rfl)).mono fun e w' h => bad (hPo _ hdU) h
      | some ex =>
        rw [hX] at hdU
        obtain ⟨hb1, hb2⟩ := exP_bd hX
        have hP : dcP (by' s) = some (b, by' D0, ex - 0) := by rw [hPo _ hdU, hbD]; simp
        obtain ⟨hQ, hE⟩ := dc_some hP
        have hpa := pa_ok (s := D0) (by rw [hbD]; exact hoA) (by omega)
        have HV := hid (fun w => parse_any (w := w) D0 (by omega))
        rw [hpa.1, hpa.2] at HV
        have hsv := paN_sz D0 (K := 4096) (by omega)
        rw [hpa.1] at hsv
        have hei : exI (by' S1) = ex := by unfold exI; rw [hX]; rfl
        have heb : exB (by' S1) = true := by unfold exB; rw [hX]; rfl
        rw [hQ, hE]
        by_cases h0 : 0 ≤ ex
        · exact dpa0up s r D0 S1 b N hs HC hrl hN HR hD0 hS1 hD0s hS1s HH D0 S1 rfl rfl hD0s (Nat.le_refl _) _ _ HE (by omega) heb _ HV (hid hsv) (by omega) (by omega) ex.toNat (by omega) _ (hid (dcV_up (by omega)))
        · exact dpa0dn s r D0 S1 b N hs HC hrl hN HR hD0 hS1 hD0s hS1s HH D0 S1 rfl rfl hD0s (Nat.le_refl _) _ _ HE (by omega) heb _ HV (hid hsv) (by omega) (by omega) (-ex).toNat (by omega) (by omega) _ (hid (dcV_dn (by omega) (by omega)))
  · rw [hp] at HH
    have h0S : 0 < S1.size := (of_decide_eq_true hp).1
    obtain ⟨U, hU⟩ : ∃ U, S1.extract 1 S1.size = U := ⟨_, rfl⟩
    have hc := be_cons h0S
    rw [hU] at hc
    rw [pfB_cons h0S] at hp
    rw [of_decide_eq_true hp, hbS] at hc
    have hdU := dcU_pt hc
    have hUs : U.size + 1 = S1.size := by rw [← hU, ByteArray.size_extract]; omega
    have HU := hid (fun w => run_any (w := w) U (by omega))
    have hK := dgw_by (s := U)
    have hoB := okD_dgA (by' U)
    have hK0 : dgA (by' U) = [] ↔ dgw (by' U) = 0 := by unfold dgw; exact List.length_eq_zero_iff.symm
    have hKl : (dgA (by' U)).length = dgw (by' U) := rfl
    have hAt := dgA_take (by' U)
    have hBd := dgB_drop (by' U)
    obtain ⟨k, hk⟩ : ∃ k, dgw (by' U) = k := ⟨_, rfl⟩
    rw [hk] at HU hK hK0 hKl hAt hBd
    by_cases hk0 : k = 0
    · rw [if_pos (hK0.2 hk0)] at hdU
      exact (dpa1k0 s r D0 S1 b N hs HC hrl hN HR hD0 hS1 hD0s hS1s HH U k h0S hU hUs hK HU hk0).mono fun e w' h => bad (hPo _ hdU) h
    · rw [if_neg (fun h => hk0 (hK0.1 h))] at hdU
      obtain ⟨B9, hB9⟩ : ∃ B, S1.extract 1 (k + 1) = B := ⟨_, rfl⟩
      obtain ⟨D, hD⟩ : ∃ D, D0 ++ B9 = D := ⟨_, rfl⟩
      obtain ⟨S, hS⟩ : ∃ S, S1.extract (k + 1) S1.size = S := ⟨_, rfl⟩
      have hbU : by' U = (by' S1).drop 1 := by rw [← hU]; exact be_drop S1 1
      have hbB : by' B9 = dgA (by' U) := by rw [← hB9, be_mid, ← hbU, Nat.add_sub_cancel, hAt]
      have hbS2 : by' S = dgB (by' U) := by rw [← hS, be_drop, Nat.add_comm k 1, ← List.drop_drop, ← hbU, hBd]
      have hB9s : B9.size = k := by rw [← by_len, hbB, hKl]
      have hDs : D.size = N + k := by rw [← hD, ByteArray.size_append]; omega
      have hbDD : by' D = dgA (by' r) ++ dgA (by' U) := by rw [← hD, be_append, hbD, hbB]
      have hSs : S.size ≤ S1.size := by rw [← hS, ByteArray.size_extract]; omega
      have HE := hid (fun w => dexp (w := w) S (by omega))
      rw [← hbS2] at hdU
      unfold dcG at hdU
      by_cases hn0 : N = 0
      · rw [if_pos (hN0.2 hn0)] at hdU
        exact (dpa1n0 s r D0 S1 b N hs HC hrl hN HR hD0 hS1 hD0s hS1s HH U k h0S hU hUs hK HU (by omega) B9 D S hB9 hD hS hDs hSs hB9s _ _ HE hn0).mono fun e w' h => bad (hPo _ hdU) h
      · rw [if_neg (fun h => hn0 (hN0.1 h))] at hdU
        cases hX : exP (by' S) with
        | none =>
          rw [hX] at hdU
          exact (dpa1eb s r D0 S1 b N hs HC hrl hN HR hD0 hS1 hD0s hS1s HH U k h0S hU hUs hK HU (by omega) B9 D S hB9 hD hS hDs hSs hB9s _ _ HE (by omega) (by unfold exB; rw [hX]; rfl)).mono fun e w' h => bad (hPo _ hdU) h
        | some ex =>
          rw [hX] at hdU
          obtain ⟨hb1, hb2⟩ := exP_bd hX
          have hP : dcP (by' s) = some (b, by' D, ex - (k : Int)) := by rw [hPo _ hdU, hbDD, hKl]; rfl
          obtain ⟨hQ, hE⟩ := dc_some hP
          have hpa := pa_ok (s := D) (by rw [hbDD, okD_app, hoA, hoB]; rfl) (by omega)
          have HV := hid (fun w => parse_any (w := w) D (by omega))
          rw [hpa.1, hpa.2] at HV
          have hsv := paN_sz D (K := 4096) (by omega)
          rw [hpa.1] at hsv
          have hei : exI (by' S) = ex := by unfold exI; rw [hX]; rfl
          have heb : exB (by' S) = true := by unfold exB; rw [hX]; rfl
          rw [hQ, hE]
          by_cases h0 : 0 ≤ ex - (k : Int)
          · exact dpa1up s r D0 S1 b N hs HC hrl hN HR hD0 hS1 hD0s hS1s HH U k h0S hU hUs hK HU (by omega) B9 D S hB9 hD hS hDs hSs hB9s _ _ HE (by omega) heb _ HV (hid hsv) (by omega) (by omega) (ex - (k : Int)).toNat (by omega) _ (hid (dcV_up (by omega)))
          · exact dpa1dn s r D0 S1 b N hs HC hrl hN HR hD0 hS1 hD0s hS1s HH U k h0S hU hUs hK HU (by omega) B9 D S hB9 hD hS hDs hSs hB9s _ _ HE (by omega) heb _ HV (hid hsv) (by omega) (by omega) (-(ex - (k : Int))).toNat (by omega) (by omega) _ (hid (dcV_dn (by omega) (by omega)))
end Go.Proofs.Ytnpkmlpmeeidbaa
/- WALKS OF DECIMALS, 10: decimal numbers read by the document. -/
namespace Go.Proofs.Ytnpkmlpmeeidbaa
set_option linter.unusedVariables false
set_option linter.unusedSimpArgs false
open Go.ChangeShapes Go.WideShapes Go.ChangeAt Go.RowKit Go.NatP

end Go.Proofs.Ytnpkmlpmeeidbaa
