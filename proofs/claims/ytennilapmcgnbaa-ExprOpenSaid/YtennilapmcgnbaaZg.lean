/- WALKS OF WHOLE NUMBERS, 7: numbers of ints; ints of numbers; texts. -/
import Derived.Test.YtennilapmcgnbaaZf
namespace Go.Proofs.Ytennilapmcgnbaa
set_option linter.unusedVariables false
set_option linter.unusedSimpArgs false
open Go.ChangeShapes Go.WideShapes Go.ChangeAt Go.RowKit Go.NatP

theorem txt_size {n k : Nat} (h : (dl n).length ≤ k) : (txt (tx n)).size ≤ k + 1 := by
  unfold txt
  rw [strOfNums_size, List.length_map]
  unfold tx
  split
  · simp
  · simp; omega
/-- the text of a whole number -/
def ztx (z : Int) : ByteArray := if z < 0 then ⟨#[45]⟩ ++ txt (tx z.natAbs) else txt (tx z.natAbs)

set_option maxRecDepth 100000 in
set_option maxHeartbeats 4000000 in
theorem ztext_any {w : World} {a : Option Addr} {n c : Nat} {la : List Nat} (s : Bool) (ha : Rd w a n c la) (hn : n ≤ 16777216) :
    Calls Try.prog 46 #[.agg #[.bool s, .slice a n c]] w (RetT w (ztx (zv s (val la)))) := by
  have hz := sgn_cases (zv s (val la))
  have hab := hid (zv_abs s (val la))
  have HS := hid (fun w' (h : Rd w' a n c la) => zsign_any s h (by omega))
  have HT := hid (fun w' (h : Rd w' a n c la) => text_any h (by omega))
  by_cases hneg : zv s (val la) < 0
  · have hx : Hid (ztx (zv s (val la)) = ⟨#[45]⟩ ++ txt (tx (val la))) := by show _ = _; unfold ztx; rw [if_pos hneg, hab.out]
    rw [hx.out]
    have hs : sgn (zv s (val la)) < 0 := by omega
    have hr := sgn_range (zv s (val la))
    have hts := txt_size (dl_len_le ha.szv.len)
    have hts2 : (txt (tx (val la))).size ≤ 167772170 := by omega
    clear hts
    generalize txt (tx (val la)) = t at *
    generalize sgn (zv s (val la)) = g at *
    clear hz hab hneg hx
    have hent := ent1 w #[Value.bool s, Value.slice a n c] 26
    go_enter Try.func46, Try.ntmps46
    go_wp2_with fail
    generalize (w.alloc (.cells #[Value.bool s, Value.slice a n c] 26)) = W0 at hent ⊢
    obtain ⟨Xa_0, hbel, hsz⟩ := hent
    have Xa_0_0 : _ = some (Value.bool s) := Xa_0.cell 0
    have Xa_0_1 : _ = some (Value.slice a n c) := Xa_0.cell 1
    have HA := hid (fun W (h : Below W0.heap.size W0 W) => ha.below (hbel.next h))
    have hza := hid ha.szv
    clear ha
    go_wp2_with fail
    refine (HS.out _ (HA.out _ (Below.refl _ _))).mono ?_
    rintro e w1 ⟨rfl, hB⟩
    have hB1 : Below W0.heap.size W0 w1 := (by first | exact hB | exact below_drew hB)
    have Xa_1 := Xa_0.next hB1
    have Xa_1_0 : _ = some (Value.bool s) := Xa_1.cell 0
    have Xa_1_1 : _ = some (Value.slice a n c) := Xa_1.cell 1
    have hbel1 := hbel.next hB1
    have hsz1 := hB1.size
    go_wp2_with fail
    refine (HT.out _ (HA.out _ hB1)).mono ?_
    rintro e w2 ⟨rfl, hB⟩
    have hB2 : Below w1.heap.size w1 w2 := (by first | exact hB | exact below_drew hB)
    have Xa_2 := Xa_1.next hB2
    have Xa_2_0 : _ = some (Value.bool s) := Xa_2.cell 0
    have Xa_2_1 : _ = some (Value.slice a n c) := Xa_2.cell 1
    have hbel2 := hbel1.next hB2
    have hsz2 := hB2.size
    go_wp2
    go_ret
    exact ⟨rfl, hbel2⟩
  · have hx : Hid (ztx (zv s (val la)) = txt (tx (val la))) := by show _ = _; unfold ztx; rw [if_neg hneg, hab.out]
    rw [hx.out]
    have hs : ¬ sgn (zv s (val la)) < 0 := by omega
    have hr := sgn_range (zv s (val la))
    have hts := txt_size (dl_len_le ha.szv.len)
    have hts2 : (txt (tx (val la))).size ≤ 167772170 := by omega
    clear hts
    generalize txt (tx (val la)) = t at *
    generalize sgn (zv s (val la)) = g at *
    clear hz hab hneg hx
    have hent := ent1 w #[Value.bool s, Value.slice a n c] 26
    go_enter Try.func46, Try.ntmps46
    go_wp2_with fail
    generalize (w.alloc (.cells #[Value.bool s, Value.slice a n c] 26)) = W0 at hent ⊢
    obtain ⟨Xa_0, hbel, hsz⟩ := hent
    have Xa_0_0 : _ = some (Value.bool s) := Xa_0.cell 0
    have Xa_0_1 : _ = some (Value.slice a n c) := Xa_0.cell 1
    have HA := hid (fun W (h : Below W0.heap.size W0 W) => ha.below (hbel.next h))
    have hza := hid ha.szv
    clear ha
    go_wp2_with fail
    refine (HS.out _ (HA.out _ (Below.refl _ _))).mono ?_
    rintro e w1 ⟨rfl, hB⟩
    have hB1 : Below W0.heap.size W0 w1 := (by first | exact hB | exact below_drew hB)
    have Xa_1 := Xa_0.next hB1
    have Xa_1_0 : _ = some (Value.bool s) := Xa_1.cell 0
    have Xa_1_1 : _ = some (Value.slice a n c) := Xa_1.cell 1
    have hbel1 := hbel.next hB1
    have hsz1 := hB1.size
    go_wp2_with fail
    refine (HT.out _ (HA.out _ hB1)).mono ?_
    rintro e w2 ⟨rfl, hB⟩
    have hB2 : Below w1.heap.size w1 w2 := (by first | exact hB | exact below_drew hB)
    have Xa_2 := Xa_1.next hB2
    have Xa_2_0 : _ = some (Value.bool s) := Xa_2.cell 0
    have Xa_2_1 : _ = some (Value.slice a n c) := Xa_2.cell 1
    have hbel2 := hbel1.next hB2
    have hsz2 := hB2.size
    go_wp2
    go_ret
    exact ⟨rfl, hbel2⟩

set_option maxRecDepth 100000 in
set_option maxHeartbeats 4000000 in
theorem zofi_any_true {w : World} (v : Nat) (hv : v ≤ 9223372036854775808) (h0 : 0 < v) : Calls Try.prog 26 #[.int .i64 (-(v : Int))] w (RetZ w (zv true v)) := by
  have hvz : Hid (Sz v 2) := by show _ < _; omega
  have hc : (-(v : Int)) < 0 := by omega
  have hc2 : ¬ (0 : Int) ≤ (-(v : Int)) := by omega
  have e1 : IntKind.u64.wrap (-(v : Int)) = 18446744073709551616 - (v : Int) := by rw [IntKind.wrap_u64]; omega
  have e2 : IntKind.u64.wrap (-(18446744073709551616 - (v : Int))) = (v : Int) := by rw [IntKind.wrap_u64]; omega
  have hent := ent1 w #[Value.bool false, Value.slice none 0 0] 26
  go_enter Try.func26, Try.ntmps26
  go_wp2_with fail
  generalize (w.alloc (.cells #[Value.bool false, Value.slice none 0 0] 26)) = W0 at hent ⊢
  obtain ⟨R0_0, hbel, hsz⟩ := hent
  have R0_0_0 : _ = some (Value.bool false) := R0_0.cell 0
  have R0_0_f0 := R0_0.free 0
  have R0_0_1 : _ = some (Value.slice none 0 0) := R0_0.cell 1
  have R0_0_f1 := R0_0.free 1
  go_wp2_with fail
  refine (of_any (v : Int) (by omega) (by omega)).mono ?_
  rw [Int.toNat_natCast]
  rintro e w1 ⟨ra, rn, rc, rfl, hO, hB⟩
  have hB1 : Below W0.heap.size W0 w1 := (by first | exact hB | exact below_drew hB)
  have R0_1 := R0_0.next hB1
  have R0_1_0 : _ = some (Value.bool false) := R0_1.cell 0
  have R0_1_f0 := R0_1.free 0
  have R0_1_1 : _ = some (Value.slice none 0 0) := R0_1.cell 1
  have R0_1_f1 := R0_1.free 1
  have hbel1 := hbel.next hB1
  have hsz1 := hB1.size
  go_wp2_with fail
  refine (zof_any true hO.rd (by have := len_le (l := []) hO.len hvz.out; omega)).mono ?_
  rw [val_lm]
  rintro e w2 ⟨qa, qn, qc, rfl, hO2, hB⟩
  have hB2 : Below w1.heap.size w1 w2 := (by first | exact hB | exact below_drew hB)
  have R0_2 := R0_1.next hB2
  have R0_2_0 : _ = some (Value.bool false) := R0_2.cell 0
  have R0_2_f0 := R0_2.free 0
  have R0_2_1 : _ = some (Value.slice none 0 0) := R0_2.cell 1
  have R0_2_f1 := R0_2.free 1
  have hbel2 := hbel1.next hB2
  have hsz2 := hB2.size
  go_wp2
  refine bodyPost_ret (v := .agg #[.bool (decide (zv true v < 0)), .slice qa qn qc]) (by simp [results, Try.results26, go_sem, R0_2_0, R0_2_1]) rfl ?_
  exact retz_set hO2 hbel2 (by omega) (by omega)

set_option maxRecDepth 100000 in
set_option maxHeartbeats 4000000 in
theorem zofi_any_false {w : World} (v : Nat) (hv : v ≤ 9223372036854775807) : Calls Try.prog 26 #[.int .i64 (v : Int)] w (RetZ w (zv false v)) := by
  have hvz : Hid (Sz v 2) := by show _ < _; omega
  have hc : ¬ (v : Int) < 0 := by omega
  have hc2 : (0 : Int) ≤ (v : Int) := by omega
  have hent := ent1 w #[Value.bool false, Value.slice none 0 0] 26
  go_enter Try.func26, Try.ntmps26
  go_wp2_with fail
  generalize (w.alloc (.cells #[Value.bool false, Value.slice none 0 0] 26)) = W0 at hent ⊢
  obtain ⟨R0_0, hbel, hsz⟩ := hent
  have R0_0_0 : _ = some (Value.bool false) := R0_0.cell 0
  have R0_0_f0 := R0_0.free 0
  have R0_0_1 : _ = some (Value.slice none 0 0) := R0_0.cell 1
  have R0_0_f1 := R0_0.free 1
  go_wp2_with fail
  refine (of_any (v : Int) (by omega) (by omega)).mono ?_
  rw [Int.toNat_natCast]
  rintro e w1 ⟨ra, rn, rc, rfl, hO, hB⟩
  have hB1 : Below W0.heap.size W0 w1 := (by first | exact hB | exact below_drew hB)
  have R0_1 := R0_0.next hB1
  have R0_1_0 : _ = some (Value.bool false) := R0_1.cell 0
  have R0_1_f0 := R0_1.free 0
  have R0_1_1 : _ = some (Value.slice none 0 0) := R0_1.cell 1
  have R0_1_f1 := R0_1.free 1
  have hbel1 := hbel.next hB1
  have hsz1 := hB1.size
  go_wp2_with fail
  refine (zof_any false hO.rd (by have := len_le (l := []) hO.len hvz.out; omega)).mono ?_
  rw [val_lm]
  rintro e w2 ⟨qa, qn, qc, rfl, hO2, hB⟩
  have hB2 : Below w1.heap.size w1 w2 := (by first | exact hB | exact below_drew hB)
  have R0_2 := R0_1.next hB2
  have R0_2_0 : _ = some (Value.bool false) := R0_2.cell 0
  have R0_2_f0 := R0_2.free 0
  have R0_2_1 : _ = some (Value.slice none 0 0) := R0_2.cell 1
  have R0_2_f1 := R0_2.free 1
  have hbel2 := hbel1.next hB2
  have hsz2 := hB2.size
  go_wp2
  refine bodyPost_ret (v := .agg #[.bool (decide (zv false v < 0)), .slice qa qn qc]) (by simp [results, Try.results26, go_sem, R0_2_0, R0_2_1]) rfl ?_
  exact retz_set hO2 hbel2 (by omega) (by omega)

theorem zofi_any {w : World} (k : Int) (hlo : -9223372036854775808 ≤ k) (hhi : k ≤ 9223372036854775807) : Calls Try.prog 26 #[.int .i64 k] w (RetZ w k) := by
  by_cases hneg : k < 0
  · obtain ⟨v, rfl⟩ : ∃ v : Nat, k = -(v : Int) := ⟨k.natAbs, by omega⟩
    have h := zofi_any_true (w := w) v (by omega) (by omega)
    rwa [show zv true v = -(v : Int) from rfl] at h
  · obtain ⟨v, rfl⟩ : ∃ v : Nat, k = (v : Int) := ⟨k.natAbs, by omega⟩
    have h := zofi_any_false (w := w) v (by omega)
    rwa [show zv false v = (v : Int) from rfl] at h

/-- is a whole number an int? -/
def isI (z : Int) : Bool := decide (-9223372036854775808 ≤ z ∧ z ≤ 9223372036854775807)
def ivI (z : Int) : Int := if isI z then z else 0
def RetIn (w : World) (z : Int) (e : Ending) (w' : World) : Prop := e = .returned (.tuple #[.int .i64 (ivI z), .bool (isI z)]) ∧ Below w.heap.size w w'
theorem isI_yes {z : Int} (h : -9223372036854775808 ≤ z ∧ z ≤ 9223372036854775807) : isI z = true := decide_eq_true h
theorem ivI_yes {z : Int} (h : -9223372036854775808 ≤ z ∧ z ≤ 9223372036854775807) : ivI z = z := by unfold ivI; rw [isI_yes h]; rfl
theorem isI_no {z : Int} (h : ¬ (-9223372036854775808 ≤ z ∧ z ≤ 9223372036854775807)) : isI z = false := decide_eq_false h
theorem RetUint.big {w : World} {n : Nat} {e : Ending} {w' : World} (h : RetUint w n e w') (hn : 18446744073709551616 ≤ n) : e = .returned (.tuple #[.int .u64 0, .bool false]) ∧ Below w.heap.size w w' := by
  refine ⟨?_, h.2⟩
  rw [h.1, uv, if_neg (by unfold two64; omega), decide_eq_false (by unfold two64; omega)]; rfl
theorem RetUint.small {w : World} {n : Nat} {e : Ending} {w' : World} (h : RetUint w n e w') (hn : n < 18446744073709551616) : e = .returned (.tuple #[.int .u64 n, .bool true]) ∧ Below w.heap.size w w' := by
  refine ⟨?_, h.2⟩
  rw [h.1, uv, if_pos (by unfold two64; omega), decide_eq_true (by unfold two64; omega)]

end Go.Proofs.Ytennilapmcgnbaa
