/- WALKS OF FRACTIONS, 20: lists of fractions that are handed in. -/
import Derived.Test.YtgddnmmllchndaaGreatQx
namespace Go.Proofs.YtgddnmmllchndaaGreat
set_option linter.unusedVariables false
set_option linter.unusedSimpArgs false
open Go.ChangeShapes Go.WideShapes Go.ChangeAt Go.RowKit Go.NatP

def RetLendQ2 (w : World) (s : Bool) (n : Nat) (l : List Nat) (m : Nat) (k : List Nat) (e : Ending) (w' : World) : Prop :=
  ∃ a c b d, e = .returned (.agg #[.bool s, .slice a n c, .slice b m d]) ∧ Lent w' a n c l ∧ Lent w' b m d k ∧ (∀ g o, a = some ⟨g, o, none⟩ → w.heap.size ≤ g) ∧ (∀ g o, b = some ⟨g, o, none⟩ → w.heap.size ≤ g) ∧ Below w.heap.size w w'

set_option maxRecDepth 100000 in
set_option maxHeartbeats 4000000 in
theorem flend2 {w : World} {a b : Option Addr} {n c m d : Nat} {l k : List Nat} {s : Bool} (ha : Rd w a n c l) (hb : Rd w b m d k) (hn : n ≤ 1000000) (hm : m ≤ 1000000) :
    Calls Tryz.prog 22 #[.agg #[.bool s, .slice a n c, .slice b m d]] w (RetLendQ2 w s n l m k) := by
  have hlb := hid hb.len
  have hent := ent2 w #[Value.bool s, Value.slice a n c, Value.slice b m d] #[Value.bool false, Value.slice none 0 0, Value.slice none 0 0] 38 38
  go_enter Tryz.func22, Tryz.ntmps22
  go_wp2_with fail
  generalize ((w.alloc (.cells #[Value.bool s, Value.slice a n c, Value.slice b m d] 38)).alloc (.cells #[Value.bool false, Value.slice none 0 0, Value.slice none 0 0] 38)) = W0 at hent ⊢
  obtain ⟨X_0, R0_0, hbel_0, hsz_0⟩ := hent
  have cX_0_0 : _ = some (Value.bool s) := X_0.cell 0
  have cX_0_1 : _ = some (Value.slice a n c) := X_0.cell 1
  have cX_0_2 : _ = some (Value.slice b m d) := X_0.cell 2
  have cR0_0_0 : _ = some (Value.bool false) := R0_0.cell 0
  have fR0_0_0 := R0_0.free 0
  have cR0_0_1 : _ = some (Value.slice none 0 0) := R0_0.cell 1
  have fR0_0_1 := R0_0.free 1
  have cR0_0_2 : _ = some (Value.slice none 0 0) := R0_0.cell 2
  have fR0_0_2 := R0_0.free 2
  have ha_0 := ha.below hbel_0
  clear ha
  have hb_0 := hb.below hbel_0
  clear hb
  go_wp2_with fail
  go_region_held3 (fun w' => w'.cell? ⟨w.heap.size, 0, none⟩ = some (Value.bool s) ∧ w'.cell? ⟨w.heap.size, 1, none⟩ = some (Value.slice a n c) ∧ w'.cell? ⟨w.heap.size, 2, none⟩ = some (Value.slice b m d))
    (first | exact ⟨cX_0_0, cX_0_1, cX_0_2⟩ | exact ⟨cX_1_0, cX_1_1, cX_1_2⟩ | exact ⟨cX_2_0, cX_2_1, cX_2_2⟩ | exact ⟨(cell_set3 (by omega) _ _ _).trans (cX_2_0), (cell_set3 (by omega) _ _ _).trans (cX_2_1), (cell_set3 (by omega) _ _ _).trans (cX_2_2)⟩ | go_keep)
    (first
      | (go_at_call 98; ((with_reducible refine (flendint (ha_0.below bl) hn).mono ?_); (rintro e w1 ⟨la, lc, rfl, hL, hgeL, hB⟩; have hB_1 : Below W0.heap.size W0 w1 := (bl.next hB); have X_1 := X_0.next hB_1; have cX_1_0 : _ = some (Value.bool s) := X_1.cell 0; have cX_1_1 : _ = some (Value.slice a n c) := X_1.cell 1; have cX_1_2 : _ = some (Value.slice b m d) := X_1.cell 2; have R0_1 := R0_0.next hB_1; have cR0_1_0 : _ = some (Value.bool false) := R0_1.cell 0; have fR0_1_0 := R0_1.free 0; have cR0_1_1 : _ = some (Value.slice none 0 0) := R0_1.cell 1; have fR0_1_1 := R0_1.free 1; have cR0_1_2 : _ = some (Value.slice none 0 0) := R0_1.cell 2; have fR0_1_2 := R0_1.free 2; have ha_1 := ha_0.below hB_1; have hb_1 := hb_0.below hB_1; have hbel_1 := hbel_0.next hB_1; have hsz_1 := hB_1.size; clear X_0 cX_0_0 cX_0_1 cX_0_2 R0_0 cR0_0_0 fR0_0_0 cR0_0_1 fR0_0_1 cR0_0_2 fR0_0_2 ha_0 hb_0 hbel_0 hB_1; have L_1 := hL; clear hL; try clear hB)))
      | (go_at_call 99; ((with_reducible refine (limbs_any (hb_1.below bl) (by omega)).mono ?_); (rintro e w2 ⟨ma, mc, rfl, hO, hB⟩; have hB_2 : Below w1.heap.size w1 w2 := (bl.next hB); have X_2 := X_1.next hB_2; have cX_2_0 : _ = some (Value.bool s) := X_2.cell 0; have cX_2_1 : _ = some (Value.slice a n c) := X_2.cell 1; have cX_2_2 : _ = some (Value.slice b m d) := X_2.cell 2; have R0_2 := R0_1.next hB_2; have cR0_2_0 : _ = some (Value.bool false) := R0_2.cell 0; have fR0_2_0 := R0_2.free 0; have cR0_2_1 : _ = some (Value.slice none 0 0) := R0_2.cell 1; have fR0_2_1 := R0_2.free 1; have cR0_2_2 : _ = some (Value.slice none 0 0) := R0_2.cell 2; have fR0_2_2 := R0_2.free 2; have ha_2 := ha_1.below hB_2; have hb_2 := hb_1.below hB_2; have L_2 := L_1.below hB_2; have hbel_2 := hbel_1.next hB_2; have hsz_2 := hB_2.size; clear X_1 cX_1_0 cX_1_1 cX_1_2 R0_1 cR0_1_0 fR0_1_0 cR0_1_1 fR0_1_1 cR0_1_2 fR0_1_2 ha_1 hb_1 L_1 hbel_1 hB_2; have O_2 := hO; have ltO := hO.ltB; clear hO; try clear hB))))
  go_wp2
  refine bodyPost_ret (v := .agg #[.bool s, .slice la n lc, .slice ma m mc]) (by simp [results, Tryz.results22, go_sem, cR0_2_0, cR0_2_1, cR0_2_2]) rfl ?_
  exact ⟨la, lc, ma, mc, rfl, L_2.set3 (fun b o e => by have : W0.heap.size ≤ b := hgeL b o e; omega) _ _ _, (O_2.lent hlb.out).set3 (fun b o e => by have : w1.heap.size ≤ b := O_2.blk_ge e; omega) _ _ _, (fun b o e => by have : W0.heap.size ≤ b := hgeL b o e; omega), (fun b o e => by have : w1.heap.size ≤ b := O_2.blk_ge e; omega), Below.set3 hbel_2 (by omega) _ _ _⟩

theorem Lent.blk_lt {w : World} {a : Option Addr} {n c : Nat} {l : List Nat} (h : Lent w a n c l) {g o : Nat} (e : a = some ⟨g, o, none⟩) : g < w.heap.size := h.1.blk_lt (by omega) e
/-- z stands for y, lent, in the call's own memory and not in the block of la -/
structure LentOK (B : Nat) (W : World) (la : Option Addr) (z y : QA) : Prop where
  eq : z.s = y.s ∧ z.n = y.n ∧ z.m = y.m ∧ z.l = y.l ∧ z.k = y.k
  fa : Lent W z.a z.n z.c z.l
  fb : Lent W z.b z.m z.d z.k
  ga : ∀ g o, z.a = some ⟨g, o, none⟩ → B ≤ g ∧ la ≠ some ⟨g, 0, none⟩
  gb : ∀ g o, z.b = some ⟨g, o, none⟩ → B ≤ g ∧ la ≠ some ⟨g, 0, none⟩
theorem LentOK.below {B : Nat} {W W' : World} {la : Option Addr} {z y : QA} (h : LentOK B W la z y) (hB : Below W.heap.size W W') : LentOK B W' la z y :=
  ⟨h.eq, h.fa.below hB, h.fb.below hB, h.ga, h.gb⟩
/-- behind an append to the row at la -/
theorem LentOK.grown {B : Nat} {W W' : World} {la la' : Option Addr} {z y : QA} (h : LentOK B W la z y) (hk : Kp (fun k => la = some ⟨k, 0, none⟩) W W') (hl : la' = la ∨ ∀ g, la' = some ⟨g, 0, none⟩ → W.heap.size ≤ g) : LentOK B W' la' z y :=
  ⟨h.eq, h.fa.kp hk (fun b o e e2 => (h.ga b o e).2 e2), h.fb.kp hk (fun b o e e2 => (h.gb b o e).2 e2),
    fun g o e => ⟨(h.ga g o e).1, fun e2 => by
      rcases hl with rfl | hl
      · exact (h.ga g o e).2 e2
      · have h1 := hl g e2; have h2 := h.fa.blk_lt e; omega⟩,
    fun g o e => ⟨(h.gb g o e).1, fun e2 => by
      rcases hl with rfl | hl
      · exact (h.gb g o e).2 e2
      · have h1 := hl g e2; have h2 := h.fb.blk_lt e; omega⟩⟩

end Go.Proofs.YtgddnmmllchndaaGreat
