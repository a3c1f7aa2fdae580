/- WALKS OF FRACTIONS, 4: a text cut at its first stroke '/'. -/
import Derived.Test.YtnbhfgpnjhbkaaaMq
import Derived.Lib.Bytealg
import Derived.Lib.IndexLaws
import Derived.Test.YtnbhfgpnjhbkaaaQ1
import Derived.Deep.Cut
namespace Go.Proofs.Ytnbhfgpnjhbkaaa
set_option linter.unusedVariables false
set_option linter.unusedSimpArgs false
open Go.ChangeShapes Go.WideShapes Go.ChangeAt Go.RowKit Go.NatP

/-- where the first '/' stands, or -1 -/
def slI (s : ByteArray) : Int := Lib.indexByte s.data.toList 47
theorem slI_cases (s : ByteArray) : slI s = -1 ∨ ∃ i : Nat, slI s = i ∧ i < s.size := by
  by_cases h : 0 ≤ slI s
  · refine .inr ⟨(slI s).toNat, by omega, ?_⟩
    have h1 : Lib.indexByte s.data.toList 47 = ((slI s).toNat : Nat) := by show slI s = _; omega
    have h2 := (Lib.indexByte_some h1).1
    have := (List.getElem?_eq_some_iff.1 h2).1
    simpa using this
  · have := Lib.indexByte_ge s.data.toList 47
    exact .inl (by show slI s = -1; unfold slI at *; omega)
def cutA (s : ByteArray) : ByteArray := if slI s < 0 then s else s.extract 0 (slI s).toNat
def cutB (s : ByteArray) : ByteArray := if slI s < 0 then ⟨#[]⟩ else s.extract ((slI s).toNat + 1) s.size
def cutF (s : ByteArray) : Bool := decide (0 ≤ slI s)

def RetCut3 (w : World) (s : ByteArray) (e : Ending) (w' : World) : Prop := e = .returned (.tuple #[.string (cutA s), .string (cutB s), .bool (cutF s)]) ∧ Below w.heap.size w w'

end Go.Proofs.Ytnbhfgpnjhbkaaa
/- WALKS OF FRACTIONS, 5: texts. -/
namespace Go.Proofs.Ytnbhfgpnjhbkaaa
set_option linter.unusedVariables false
set_option linter.unusedSimpArgs false
open Go.ChangeShapes Go.WideShapes Go.ChangeAt Go.RowKit Go.NatP

/-- a fraction's text -/
def qtx (q : Rat) : ByteArray := if q.den = 1 then ztx q.num else ztx q.num ++ (⟨#[47]⟩ ++ txt (tx q.den))
theorem ztx_size {z : Int} {k : Nat} (h : Sz z.natAbs k) : (ztx z).size ≤ 10 * k + 3 := by
  have := txt_size (dl_len_le h.len)
  unfold ztx
  split
  · rw [ByteArray.size_append]; have : (⟨#[45]⟩ : ByteArray).size = 1 := rfl; omega
  · omega
theorem txt_sz {v : Nat} {k : Nat} (h : Sz v k) : (txt (tx v)).size ≤ 10 * k + 2 := by have := txt_size (dl_len_le h.len); omega

end Go.Proofs.Ytnbhfgpnjhbkaaa
/- WALKS OF FRACTIONS, 6: a text read. -/
namespace Go.Proofs.Ytnbhfgpnjhbkaaa
set_option linter.unusedVariables false
set_option linter.unusedSimpArgs false
open Go.ChangeShapes Go.WideShapes Go.ChangeAt Go.RowKit Go.NatP

/-- the denominator of a text -/
def fpD (s : ByteArray) : Nat := if cutF s = true then paN (by' (cutB s)) else 1
/-- the fraction of a text, and the error -/
def fpQ (s : ByteArray) : Rat := Rat.divInt (pzZ (cutA s)) (fpD s)
def fpE (s : ByteArray) : Int := if pzE (cutA s) ≠ 0 then 10 else if cutF s = true ∧ paE (by' (cutB s)) ≠ 0 then 10 else zE (fpD s)
theorem cutA_size (s : ByteArray) : (cutA s).size ≤ s.size := by
  unfold cutA; split
  · exact Nat.le_refl _
  · rw [ByteArray.size_extract]; omega
theorem cutB_size (s : ByteArray) : (cutB s).size ≤ s.size := by
  unfold cutB; split
  · exact Nat.zero_le _
  · rw [ByteArray.size_extract]; omega
theorem pz_sz {s : ByteArray} {k : Nat} (h : s.size ≤ k) : Sz (pzZ s).natAbs k := by
  unfold pzZ; rw [zv_abs]
  exact (paN_sz (pzR s) (Nat.le_refl _)).mono (Nat.le_refl _) (Nat.le_trans (pzR_size s) h)

end Go.Proofs.Ytnbhfgpnjhbkaaa
/- WALKS OF FRACTIONS, 7: sums of lists. -/
namespace Go.Proofs.Ytnbhfgpnjhbkaaa
set_option linter.unusedVariables false
set_option linter.unusedSimpArgs false
open Go.ChangeShapes Go.WideShapes Go.ChangeAt Go.RowKit Go.NatP

/-- an element of a list of fractions, and its value -/
structure QI where
  s : Bool
  a : Option Addr
  n : Nat
  c : Nat
  b : Option Addr
  m : Nat
  d : Nat
  q : Rat
def QI.o : QI := ⟨false, none, 0, 0, none, 0, 0, 0⟩
/-- a list of fractions that can be read -/
def RdQs (K : Nat) (W : World) (sa : Option Addr) (n c : Nat) (xs : List QI) : Prop :=
  xs.length = n ∧ n ≤ c ∧ c ≤ maxLen ∧ ∀ i, i < n → RdQ K W (xs.getD i QI.o).s (xs.getD i QI.o).a (xs.getD i QI.o).n (xs.getD i QI.o).c (xs.getD i QI.o).b (xs.getD i QI.o).m (xs.getD i QI.o).d (xs.getD i QI.o).q ∧
    ∃ g o, sa = some ⟨g, o, none⟩ ∧ W.cell? ⟨g, o + i * 3, none⟩ = some (.bool (xs.getD i QI.o).s) ∧ W.cell? ⟨g, o + i * 3 + 1, none⟩ = some (.slice (xs.getD i QI.o).a (xs.getD i QI.o).n (xs.getD i QI.o).c) ∧ W.cell? ⟨g, o + i * 3 + 2, none⟩ = some (.slice (xs.getD i QI.o).b (xs.getD i QI.o).m (xs.getD i QI.o).d)
theorem RdQs.below {K : Nat} {W W' : World} {sa : Option Addr} {n c : Nat} {xs : List QI} (h : RdQs K W sa n c xs) (hB : Below W.heap.size W W') : RdQs K W' sa n c xs := by
  obtain ⟨h1, h2, h3, h4⟩ := h
  refine ⟨h1, h2, h3, fun i hi => ?_⟩
  obtain ⟨h5, g, o, e, c1, c2, c3⟩ := h4 i hi
  have hl := World.block_lt_of_cell? _ _ c1
  exact ⟨h5.below hB, g, o, e, by rw [hB.cell (p := ⟨g, o + i * 3, none⟩) hl]; exact c1, by rw [hB.cell (p := ⟨g, o + i * 3 + 1, none⟩) hl]; exact c2, by rw [hB.cell (p := ⟨g, o + i * 3 + 2, none⟩) hl]; exact c3⟩
/-- the sum of the first k -/
def qsm (xs : List QI) : Nat → Rat
  | 0 => 0
  | k + 1 => qsm xs k + (xs.getD k QI.o).q
theorem qs_zero : QS 0 1 := ⟨(show 0 < 4294967296 ^ 1 by decide), (show 1 < 4294967296 ^ 1 by decide)⟩
theorem RdQs.sum {K : Nat} {W : World} {sa : Option Addr} {n c : Nat} {xs : List QI} (h : RdQs K W sa n c xs) (hK : 1 ≤ K) : ∀ k, k ≤ n → QS (qsm xs k) (k * (K + 1) + 1)
  | 0, _ => qs_zero.mono (by omega)
  | k + 1, hk => ((h.sum hK k (by omega)).add ((h.2.2.2 k (by omega)).1.qs hK)).mono (by rw [Nat.add_mul]; omega)
theorem RdQs.bnd {K : Nat} {W : World} {sa : Option Addr} {n c : Nat} {xs : List QI} (h : RdQs K W sa n c xs) : n ≤ c ∧ c ≤ 9223372036854775807 := ⟨h.2.1, by have := h.2.2.1; unfold maxLen at this; omega⟩
theorem rdqs_nil (K : Nat) (W : World) : RdQs K W none 0 0 [] := ⟨rfl, Nat.le_refl _, Nat.zero_le _, fun i hi => absurd hi (by omega)⟩

set_option maxRecDepth 100000 in
set_option maxHeartbeats 4000000 in
theorem qsum {w : World} {sa : Option Addr} {n c K : Nat} {xs : List QI} (hx : RdQs K w sa n c xs) (hK : 1 ≤ K) (hn : n * (K + 1) + 1 ≤ 1000000) :
    Calls Try.prog 16 #[.slice sa n c] w (RetQ w (qsm xs n)) := by
  have hbn := hx.bnd
  have hqs := hid (hx.sum hK)
  have hJ := hid (fun k (hk : k ≤ n) => (by have := Nat.mul_le_mul_right (K + 1) hk; omega : k * (K + 1) + 1 ≤ 1000000))
  have hent := ent1 w #[Value.bool false, Value.slice none 0 0, Value.slice none 0 0] 29
  go_enter Try.func16, Try.ntmps16
  go_wp2_with fail
  generalize (w.alloc (.cells #[Value.bool false, Value.slice none 0 0, Value.slice none 0 0] 29)) = W0 at hent ⊢
  obtain ⟨R0_0, hbel_0, hsz_0⟩ := hent
  have cR0_0_0 : _ = some (Value.bool false) := R0_0.cell 0
  have fR0_0_0 := R0_0.free 0
  have cR0_0_1 : _ = some (Value.slice none 0 0) := R0_0.cell 1
  have fR0_0_1 := R0_0.free 1
  have cR0_0_2 : _ = some (Value.slice none 0 0) := R0_0.cell 2
  have fR0_0_2 := R0_0.free 2
  have hx_0 := hx.below hbel_0
  clear hx
  have HX := hid hx_0
  clear hx_0
  have hbW_0 : Below W0.heap.size W0 W0 := Below.refl _ _
  go_wp2_with fail
  refine (of_any 1 (by omega) (by omega)).mono ?_
  rintro e w1 ⟨oa, on, oc, rfl, hO, hB⟩
  have hB_1 : Below W0.heap.size W0 w1 := (bl.next hB)
  have R0_1 := R0_0.next hB_1
  have cR0_1_0 : _ = some (Value.bool false) := R0_1.cell 0
  have fR0_1_0 := R0_1.free 0
  have cR0_1_1 : _ = some (Value.slice none 0 0) := R0_1.cell 1
  have fR0_1_1 := R0_1.free 1
  have cR0_1_2 : _ = some (Value.slice none 0 0) := R0_1.cell 2
  have fR0_1_2 := R0_1.free 2
  have hbW_1 := hbW_0.next hB_1
  have hbel_1 := hbel_0.next hB_1
  have hsz_1 := hB_1.size
  clear R0_0 cR0_0_0 fR0_0_0 cR0_0_1 fR0_0_1 cR0_0_2 fR0_0_2 hbW_0 hbel_0 hB_1
  have O_1 := hO
  have ltO := hO.ltB
  clear hO
  try clear hB
  have hbx := blk_new w1 #[Value.bool false, Value.slice none 0 0, Value.slice oa on oc] 29
  have hbB := (Below.refl w1.heap.size w1).alloc (Nat.le_refl _) (.cells #[Value.bool false, Value.slice none 0 0, Value.slice oa on oc] 29)
  have hltS := hbx.lt
  have hB_2 : Below w1.heap.size w1 (w1.alloc (.cells #[Value.bool false, Value.slice none 0 0, Value.slice oa on oc] 29)) := hbB
  have R0_2 := R0_1.next hB_2
  have cR0_2_0 : _ = some (Value.bool false) := R0_2.cell 0
  have fR0_2_0 := R0_2.free 0
  have cR0_2_1 : _ = some (Value.slice none 0 0) := R0_2.cell 1
  have fR0_2_1 := R0_2.free 1
  have cR0_2_2 : _ = some (Value.slice none 0 0) := R0_2.cell 2
  have fR0_2_2 := R0_2.free 2
  have hbW_2 := hbW_1.next hB_2
  have O_2 := O_1.below hB_2
  have hbel_2 := hbel_1.next hB_2
  have hsz_2 := hB_2.size
  clear hB_2
  have S_2 := hbx
  clear hbx hbB
  have cS_2_0 : _ = some (Value.bool false) := S_2.cell 0
  have fS_2_0 := S_2.free 0
  have cS_2_1 : _ = some (Value.slice none 0 0) := S_2.cell 1
  have fS_2_1 := S_2.free 1
  have cS_2_2 : _ = some (Value.slice oa on oc) := S_2.cell 2
  have fS_2_2 := S_2.free 2
  go_wp2_with fail
  clear R0_1 cR0_1_0 fR0_1_0 cR0_1_1 fR0_1_1 cR0_1_2 fR0_1_2 hbW_1 O_1 hbel_1
  generalize (w1.alloc (.cells #[Value.bool false, Value.slice none 0 0, Value.slice oa on oc] 29)) = v2 at *
  have hP : Own W0.heap.size v2 none 0 0 (lm (0 : Rat).num.natAbs) := own_nil _ _
  have hO1 : Own W0.heap.size v2 oa on oc (lm (0 : Rat).den) := O_2.mono (by omega)
  have hgS : w.heap.size + 1 ≤ w1.heap.size := by omega
  have hgS1 : W0.heap.size ≤ w1.heap.size := by omega
  generalize hgg : w1.heap.size = gS at *
  clear hgg
  go_loopw [10] (fun i wr => ∃ (k : Nat) (pa : Option Addr) (pn pc : Nat) (oa : Option Addr) (on oc : Nat), k ≤ n ∧ i = .int .i64 k ∧ Blk wr gS #[.bool (decide ((qsm xs k).num < 0)), .slice pa pn pc, .slice oa on oc] ∧ Own W0.heap.size wr pa pn pc (lm (qsm xs k).num.natAbs) ∧ Own W0.heap.size wr oa on oc (lm (qsm xs k).den) ∧ Blk wr w.heap.size #[Value.bool false, Value.slice none 0 0, Value.slice none 0 0] ∧ Below W0.heap.size W0 wr ∧ Below w.heap.size w wr ∧ Diff pa oa) (fun i _ => n - (intOf i).toNat)
  case atStart => exact ⟨0, _, _, _, _, _, _, Nat.zero_le _, rfl, S_2, hP, hO1, R0_2, hbW_2, hbel_2, diff_nil _⟩
  case round =>
    clear S_2 R0_2 hbW_2 hbel_2 O_2 cS_2_0 fS_2_0 cS_2_1 fS_2_1 cS_2_2 fS_2_2 cR0_2_0 fR0_2_0 cR0_2_1 fR0_2_1 cR0_2_2 fR0_2_2 hP hO1
    obtain ⟨k, pa, pn, pc, oa, on, oc, hk, rfl, S_3, P_3, O_3, R0_3, hbW_3, hbel_3, hdf⟩ := hrel
    have hWs := hbW_3.size
    have hsz_3 := hbW_3.size
    have hltS := S_3.lt
    have cS_3_0 : _ = some (Value.bool (decide ((qsm xs k).num < 0))) := S_3.cell 0
    have fS_3_0 := S_3.free 0
    have cS_3_1 : _ = some (Value.slice pa pn pc) := S_3.cell 1
    have fS_3_1 := S_3.free 1
    have cS_3_2 : _ = some (Value.slice oa on oc) := S_3.cell 2
    have fS_3_2 := S_3.free 2
    have cR0_3_0 : _ = some (Value.bool false) := R0_3.cell 0
    have fR0_3_0 := R0_3.free 0
    have cR0_3_1 : _ = some (Value.slice none 0 0) := R0_3.cell 1
    have fR0_3_1 := R0_3.free 1
    have cR0_3_2 : _ = some (Value.slice none 0 0) := R0_3.cell 2
    have fR0_3_2 := R0_3.free 2
    by_cases hkn : k < n
    · skip
      obtain ⟨hq, g, o, rfl, c1, c2, c3⟩ := (HX.out.below hbW_3).2.2.2 k hkn
      have hqk := hid (hqs.out k hk)
      have hJk := hJ.out k hk
      have hJ1 := hJ.out (k + 1) (by omega)
      have hstep : Hid (qsm xs (k + 1) = qsm xs k + (xs.getD k QI.o).q) := rfl
      have hK6 : K ≤ 1000000 := by rw [Nat.add_mul] at hJ1; omega
      generalize xs.getD k QI.o = y at *
      have Y_3 := hq
      clear hq
      have hbx := blk_new wr #[Value.bool y.s, Value.slice y.a y.n y.c, Value.slice y.b y.m y.d] 29
      have hbB := (Below.refl wr.heap.size wr).alloc (Nat.le_refl _) (.cells #[Value.bool y.s, Value.slice y.a y.n y.c, Value.slice y.b y.m y.d] 29)
      have hltA := hbx.lt
      have hB_4 : Below wr.heap.size wr (wr.alloc (.cells #[Value.bool y.s, Value.slice y.a y.n y.c, Value.slice y.b y.m y.d] 29)) := hbB
      have R0_4 := R0_3.next hB_4
      have cR0_4_0 : _ = some (Value.bool false) := R0_4.cell 0
      have fR0_4_0 := R0_4.free 0
      have cR0_4_1 : _ = some (Value.slice none 0 0) := R0_4.cell 1
      have fR0_4_1 := R0_4.free 1
      have cR0_4_2 : _ = some (Value.slice none 0 0) := R0_4.cell 2
      have fR0_4_2 := R0_4.free 2
      have S_4 := S_3.next hB_4
      have cS_4_0 : _ = some (Value.bool (decide ((qsm xs k).num < 0))) := S_4.cell 0
      have fS_4_0 := S_4.free 0
      have cS_4_1 : _ = some (Value.slice pa pn pc) := S_4.cell 1
      have fS_4_1 := S_4.free 1
      have cS_4_2 : _ = some (Value.slice oa on oc) := S_4.cell 2
      have fS_4_2 := S_4.free 2
      have hbW_4 := hbW_3.next hB_4
      have O_4 := O_3.below hB_4
      have P_4 := P_3.below hB_4
      have Y_4 := Y_3.below hB_4
      have hbel_4 := hbel_3.next hB_4
      have hsz_4 := hB_4.size
      clear hB_4
      have A_4 := hbx
      clear hbx hbB
      have cA_4_0 : _ = some (Value.bool y.s) := A_4.cell 0
      have cA_4_1 : _ = some (Value.slice y.a y.n y.c) := A_4.cell 1
      have cA_4_2 : _ = some (Value.slice y.b y.m y.d) := A_4.cell 2
      go_wp2_with fail
      clear R0_3 cR0_3_0 fR0_3_0 cR0_3_1 fR0_3_1 cR0_3_2 fR0_3_2 S_3 cS_3_0 fS_3_0 cS_3_1 fS_3_1 cS_3_2 fS_3_2 hbW_3 O_3 P_3 Y_3 hbel_3
      generalize (wr.alloc (.cells #[Value.bool y.s, Value.slice y.a y.n y.c, Value.slice y.b y.m y.d] 29)) = v4 at *
      go_wp2_with fail
      refine (qadd (P_4.rdQ O_4 hqk.out) hJk Y_4 hK6).mono ?_
      rw [← hstep.out]
      rintro e w5 ⟨ra, rn, rc, ta, tn, tc, rfl, hO, hO', hD, hB⟩
      have hB_5 : Below v4.heap.size v4 w5 := (bl.next hB)
      have R0_5 := R0_4.next hB_5
      have cR0_5_0 : _ = some (Value.bool false) := R0_5.cell 0
      have fR0_5_0 := R0_5.free 0
      have cR0_5_1 : _ = some (Value.slice none 0 0) := R0_5.cell 1
      have fR0_5_1 := R0_5.free 1
      have cR0_5_2 : _ = some (Value.slice none 0 0) := R0_5.cell 2
      have fR0_5_2 := R0_5.free 2
      have S_5 := S_4.next hB_5
      have cS_5_0 : _ = some (Value.bool (decide ((qsm xs k).num < 0))) := S_5.cell 0
      have fS_5_0 := S_5.free 0
      have cS_5_1 : _ = some (Value.slice pa pn pc) := S_5.cell 1
      have fS_5_1 := S_5.free 1
      have cS_5_2 : _ = some (Value.slice oa on oc) := S_5.cell 2
      have fS_5_2 := S_5.free 2
      have A_5 := A_4.next hB_5
      have cA_5_0 : _ = some (Value.bool y.s) := A_5.cell 0
      have cA_5_1 : _ = some (Value.slice y.a y.n y.c) := A_5.cell 1
      have cA_5_2 : _ = some (Value.slice y.b y.m y.d) := A_5.cell 2
      have hbW_5 := hbW_4.next hB_5
      have O_5 := O_4.below hB_5
      have P_5 := P_4.below hB_5
      have Y_5 := Y_4.below hB_5
      have hbel_5 := hbel_4.next hB_5
      have hsz_5 := hB_5.size
      clear R0_4 cR0_4_0 fR0_4_0 cR0_4_1 fR0_4_1 cR0_4_2 fR0_4_2 S_4 cS_4_0 fS_4_0 cS_4_1 fS_4_1 cS_4_2 fS_4_2 A_4 cA_4_0 cA_4_1 cA_4_2 hbW_4 O_4 P_4 Y_4 hbel_4 hB_5
      have OQ_5 := hO
      have ltOQ := hO.ltB
      have OD_5 := hO'
      have ltOD := hO'.ltB
      clear hO hO'
      try clear hB
      go_wp2
      go_roundw
      case rel => exact ⟨k + 1, ra, rn, rc, ta, tn, tc, by omega, by go_num, (show Blk _ _ #[_, _, _] from ((S_5.setCell (i := 0) (v := _) (by simp)).setCell (i := 1) (v := _) (by simp)).setCell (i := 2) (v := _) (by simp)), (OQ_5.set3 (by first | omega | exact hltS) _ _ _).mono (by first | omega | exact hWs), (OD_5.set3 (by first | omega | exact hltS) _ _ _).mono (by first | omega | exact hWs), R0_5.set3 (by omega) _ _ _, Below.set3 hbW_5 (by omega) _ _ _, Below.set3 hbel_5 (by omega) _ _ _, hD⟩
      case measure => simp [intOf]; omega

    · obtain rfl : k = n := by omega
      go_wp2
      refine bodyPost_ret (v := .agg #[.bool (decide ((qsm xs k).num < 0)), .slice pa pn pc, .slice oa on oc]) (by simp [results, Try.results16, go_sem, cR0_3_0, cR0_3_1, cR0_3_2]) rfl ?_
      exact retq_set P_3 O_3 hdf hbel_3 (Nat.le_refl _) (by omega)

end Go.Proofs.Ytnbhfgpnjhbkaaa
