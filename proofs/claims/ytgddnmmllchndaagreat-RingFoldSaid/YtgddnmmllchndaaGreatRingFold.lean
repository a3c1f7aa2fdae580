/- THE WALK OF credencelaw12.RingFold: sums, products, powers of fractions: new memory; the list stays. -/
import Derived.Test.YtgddnmmllchndaaGreatKe
import Derived.Test.YtgddnmmllchndaaGreatKf
import Derived.Test.YtgddnmmllchndaaGreatRz
import Derived.Deep.CutBlock
import Derived.Deep.DeepCutAuto
namespace Go.Proofs.YtgddnmmllchndaaGreat
set_option linter.unusedVariables false
set_option linter.unusedSimpArgs false
open Go.ChangeShapes Go.WideShapes Go.ChangeAt Go.RowKit Go.NatP

theorem qrow_row {w : World} {B : Nat} {a : Option Addr} {n c : Nat} {ys : List QA} {vs : List Value} {N : Nat} (hr : w.ownsRow B 38 3 (.slice a N c) N (ys.flatMap QA.cs ++ vs)) (hl : ys.length = n) (hN : n ≤ N) (hR : ∀ i, i < n → Rd w (ys.getD i QA.o).a (ys.getD i QA.o).n (ys.getD i QA.o).c (ys.getD i QA.o).l ∧ Rd w (ys.getD i QA.o).b (ys.getD i QA.o).m (ys.getD i QA.o).d (ys.getD i QA.o).k) : QRow w a n ys := fun i hi => by
  obtain ⟨g, rfl, hg⟩ : ∃ g, a = some ⟨g, 0, none⟩ ∧ B ≤ g := by
    rcases ownsRow_cases3 hr (by decide) with ⟨_, h, _⟩ | ⟨g, h, h2, _⟩
    · omega
    · exact ⟨g, h, h2⟩
  obtain ⟨e0, e1, e2⟩ := flat_get ys i (by omega)
  have hfl := flat_len ys
  refine ⟨(hR i hi).1, (hR i hi).2, g, 0, rfl, ?_, ?_, ?_⟩
  · rw [Nat.zero_add, World.ownsRow.cellAt hr _ (by omega), List.getElem?_append_left (by omega), e0]
  · rw [Nat.zero_add, World.ownsRow.cellAt hr _ (by omega), List.getElem?_append_left (by omega), e1]
  · rw [Nat.zero_add, World.ownsRow.cellAt hr _ (by omega), List.getElem?_append_left (by omega), e2]
def QA.qi (x : QA) : QI := ⟨x.s, x.a, x.n, x.c, x.b, x.m, x.d, qv x.s (val x.l) (val x.k)⟩
theorem qi_get {ys : List QA} {i : Nat} (h : i < ys.length) : (ys.map QA.qi).getD i QI.o = (ys.getD i QA.o).qi := by
  simp [List.getD_eq_getElem?_getD, h]
theorem rdqs_of {w : World} {a : Option Addr} {n c : Nat} {ys : List QA} (h : QRow w a n ys) (hl : ys.length = n) (hn : n ≤ c) (hc : c ≤ maxLen) (hb : ∀ i, i < n → (ys.getD i QA.o).n ≤ 40 ∧ (ys.getD i QA.o).m ≤ 40) : RdQs 40 w a n c (ys.map QA.qi) := by
  refine ⟨by simp [hl], hn, hc, fun i hi => ?_⟩
  obtain ⟨h1, h2, h3⟩ := h i hi
  rw [qi_get (by omega)]
  exact ⟨⟨_, _, h1.rdN (hb i hi).1, h2.rdN (hb i hi).2, rfl⟩, h3⟩
theorem qsm_eq {xs ys : List QI} : ∀ n, (∀ i, i < n → (xs.getD i QI.o).q = (ys.getD i QI.o).q) → qsm xs n = qsm ys n
  | 0, _ => rfl
  | n + 1, h => by
    show qsm xs n + _ = qsm ys n + _
    rw [qsm_eq n (fun i hi => h i (by omega)), h n (by omega)]
def LentAll (B : Nat) (W : World) (a : Option Addr) (c n : Nat) (zs ys : List QA) (gs : List Nat) : Prop :=
  W.ownsRow B 38 3 (.slice a (n + 5) c) (n + 5) (zs.flatMap QA.cs ++ gs.flatMap markQ) ∧ (∀ j, j < n → LentOK B W a (zs.getD j QA.o) (ys.getD j QA.o)) ∧ (∀ j, j < 5 → MarkOK B W a (gs.getD j 0) j)
theorem LentAll.below {B : Nat} {W W' : World} {a : Option Addr} {c n : Nat} {zs ys : List QA} {gs : List Nat} (h : LentAll B W a c n zs ys gs) (hB : Below W.heap.size W W') : LentAll B W' a c n zs ys gs :=
  ⟨ownsRow_block3 h.1 (fun g e => hB.block g (by rcases ownsRow_cases3 h.1 (by decide) with ⟨h1, _⟩ | ⟨g2, h1, _, h2, _⟩ <;> rw [h1] at e <;> cases e; exact h2)), fun j hj => (h.2.1 j hj).below hB, fun j hj => (h.2.2 j hj).below hB⟩
theorem LentAll.row {B : Nat} {W : World} {a : Option Addr} {c n : Nat} {zs ys : List QA} {gs : List Nat} (h : LentAll B W a c n zs ys gs) (hl : zs.length = n) : QRow W a n zs :=
  qrow_row h.1 hl (by omega) fun i hi => ⟨(h.2.1 i hi).fa.2, (h.2.1 i hi).fb.2⟩
theorem LentAll.qsm {B : Nat} {W : World} {a : Option Addr} {c n : Nat} {zs ys : List QA} {gs : List Nat} (h : LentAll B W a c n zs ys gs) (hl : zs.length = n) (hl2 : ys.length = n) : qsm (zs.map QA.qi) n = qsm (ys.map QA.qi) n :=
  qsm_eq n fun i hi => by
    rw [qi_get (by omega), qi_get (by omega)]
    obtain ⟨e1, e2, e3, e4, e5⟩ := (h.2.1 i hi).eq
    show qv _ _ _ = qv _ _ _
    rw [e1, e4, e5]

theorem rdqs_ofK {w : World} {a : Option Addr} {n c K : Nat} {ys : List QA} (h : QRow w a n ys) (hl : ys.length = n) (hn : n ≤ c) (hc : c ≤ maxLen) (hb : ∀ i, i < n → (ys.getD i QA.o).n ≤ K ∧ (ys.getD i QA.o).m ≤ K) : RdQs K w a n c (ys.map QA.qi) := by
  refine ⟨by simp [hl], hn, hc, fun i hi => ?_⟩
  obtain ⟨h1, h2, h3⟩ := h i hi
  rw [qi_get (by omega)]
  exact ⟨⟨_, _, h1.rdN (hb i hi).1, h2.rdN (hb i hi).2, rfl⟩, h3⟩
theorem LentAll.q {B : Nat} {W : World} {a : Option Addr} {c n : Nat} {zs ys : List QA} {gs : List Nat} (h : LentAll B W a c n zs ys gs) (hl : zs.length = n) (hl2 : ys.length = n) {i : Nat} (hi : i < n) : ((zs.map QA.qi).getD i QI.o).q = ((ys.map QA.qi).getD i QI.o).q := by
  rw [qi_get (by omega), qi_get (by omega)]
  obtain ⟨e1, e2, e3, e4, e5⟩ := (h.2.1 i hi).eq
  show qv _ _ _ = qv _ _ _
  rw [e1, e4, e5]
def pmq (xs : List QI) : Nat → Rat
  | 0 => 1
  | k + 1 => pmq xs k * (xs.getD k QI.o).q
theorem pmq_qs {xs : List QI} {n K : Nat} (h : ∀ k, k < n → QS (xs.getD k QI.o).q K) : ∀ k, k ≤ n → QS (pmq xs k) (k * K + 1)
  | 0, _ => (qs_lit (by decide) (by decide) (Nat.le_refl _) : QS 1 1).mono (by omega)
  | k + 1, hk => (QS.mul (pmq_qs h k (by omega)) (h k (by omega))).mono (by rw [Nat.add_mul]; omega)
theorem pmq_eq {xs ys : List QI} : ∀ n, (∀ i, i < n → (xs.getD i QI.o).q = (ys.getD i QI.o).q) → pmq xs n = pmq ys n
  | 0, _ => rfl
  | n + 1, h => by
    show pmq xs n * _ = pmq ys n * _
    rw [pmq_eq n (fun i hi => h i (by omega)), h n (by omega)]

set_option maxRecDepth 100000 in
set_option maxHeartbeats 4000000 in
theorem rkpower_lo {w : World} {s : Bool} {a b : Option Addr} {n0 c0 m0 d0 : Nat} (k : Int) (hk : k < 0) (q : Rat) :
    Calls Tryz.prog 26 #[.agg #[.bool s, .slice a n0 c0, .slice b m0 d0], .int .i64 k] w (RetQE w q 3) := by
  have hent := ent2 w #[Value.bool s, Value.slice a n0 c0, Value.slice b m0 d0] #[Value.bool false, Value.slice none 0 0, Value.slice none 0 0] 38 38
  go_enter Tryz.func26, Tryz.ntmps26
  go_wp2_with fail
  generalize ((w.alloc (.cells #[Value.bool s, Value.slice a n0 c0, Value.slice b m0 d0] 38)).alloc (.cells #[Value.bool false, Value.slice none 0 0, Value.slice none 0 0] 38)) = W0 at hent ⊢
  obtain ⟨X_0, R0_0, hbel_0, hsz_0⟩ := hent
  have cX_0_0 : _ = some (Value.bool s) := X_0.cell 0
  have cX_0_1 : _ = some (Value.slice a n0 c0) := X_0.cell 1
  have cX_0_2 : _ = some (Value.slice b m0 d0) := X_0.cell 2
  have cR0_0_0 : _ = some (Value.bool false) := R0_0.cell 0
  have fR0_0_0 := R0_0.free 0
  have cR0_0_1 : _ = some (Value.slice none 0 0) := R0_0.cell 1
  have fR0_0_1 := R0_0.free 1
  have cR0_0_2 : _ = some (Value.slice none 0 0) := R0_0.cell 2
  have fR0_0_2 := R0_0.free 2
  go_wp2
  refine bodyPost_ret (v := .tuple #[.agg #[.bool false, .slice none 0 0, .slice none 0 0], .int .i64 3]) (by simp [results, Tryz.results26, go_sem, cR0_0_0, cR0_0_1, cR0_0_2]) rfl ?_
  exact retqe_nil0 (by decide) hbel_0

set_option maxRecDepth 100000 in
set_option maxHeartbeats 8000000 in
theorem rkpower {w : World} {s : Bool} {a b : Option Addr} {n0 c0 m0 d0 : Nat} {J : Nat} {x : Rat} (n : Nat) (hn : n ≤ 1024) (f : Nat → Rat) (h0 : f 0 = 1) (hf : ∀ k, k < n → f (k + 1) = f k * x) (hx : RdQ J w s a n0 c0 b m0 d0 x) (hJ1 : 1 ≤ J) (hJ : J ≤ 900000) (hq : ∀ k, k ≤ n → QS (f k) J) :
    Calls Tryz.prog 26 #[.agg #[.bool s, .slice a n0 c0, .slice b m0 d0], .int .i64 (n : Int)] w (RetQE w (f n) 0) := by
  have H := hid (fun w => (show Calls Tryz.prog 93 #[.int .i64 1, .int .i64 1] w (RetQ w (f 0)) by rw [h0, ← (by decide : Rat.divInt 1 1 = 1)]; exact rqsmall 1 1 (by omega) (by omega) (by omega) (by omega) (by omega)))
  have hqs := hid hq
  have hff := hid hf
  clear h0 hq hf
  have hent := ent2 w #[Value.bool s, Value.slice a n0 c0, Value.slice b m0 d0] #[Value.bool false, Value.slice none 0 0, Value.slice none 0 0] 38 38
  go_enter Tryz.func26, Tryz.ntmps26
  go_wp2_with fail
  generalize ((w.alloc (.cells #[Value.bool s, Value.slice a n0 c0, Value.slice b m0 d0] 38)).alloc (.cells #[Value.bool false, Value.slice none 0 0, Value.slice none 0 0] 38)) = W0 at hent ⊢
  obtain ⟨X_0, R0_0, hbel_0, hsz_0⟩ := hent
  have cX_0_0 : _ = some (Value.bool s) := X_0.cell 0
  have cX_0_1 : _ = some (Value.slice a n0 c0) := X_0.cell 1
  have cX_0_2 : _ = some (Value.slice b m0 d0) := X_0.cell 2
  have cR0_0_0 : _ = some (Value.bool false) := R0_0.cell 0
  have fR0_0_0 := R0_0.free 0
  have cR0_0_1 : _ = some (Value.slice none 0 0) := R0_0.cell 1
  have fR0_0_1 := R0_0.free 1
  have cR0_0_2 : _ = some (Value.slice none 0 0) := R0_0.cell 2
  have fR0_0_2 := R0_0.free 2
  have hx_0 := hx.below hbel_0
  clear hx
  have HX := hid hx_0
  clear hx_0
  have hbW_0 : Below W0.heap.size W0 W0 := Below.refl _ _
  go_wp2_with fail
  refine (H.out _).mono ?_
  rintro e w1 ⟨pa, pn, pc, pb, pm, pd, rfl, hO, hO', hDp, hB⟩
  have hB_1 : Below W0.heap.size W0 w1 := (bl.next hB)
  have X_1 := X_0.next hB_1
  have cX_1_0 : _ = some (Value.bool s) := X_1.cell 0
  have cX_1_1 : _ = some (Value.slice a n0 c0) := X_1.cell 1
  have cX_1_2 : _ = some (Value.slice b m0 d0) := X_1.cell 2
  have R0_1 := R0_0.next hB_1
  have cR0_1_0 : _ = some (Value.bool false) := R0_1.cell 0
  have fR0_1_0 := R0_1.free 0
  have cR0_1_1 : _ = some (Value.slice none 0 0) := R0_1.cell 1
  have fR0_1_1 := R0_1.free 1
  have cR0_1_2 : _ = some (Value.slice none 0 0) := R0_1.cell 2
  have fR0_1_2 := R0_1.free 2
  have hbW_1 := hbW_0.next hB_1
  have hbel_1 := hbel_0.next hB_1
  have hsz_1 := hB_1.size
  clear X_0 cX_0_0 cX_0_1 cX_0_2 R0_0 cR0_0_0 fR0_0_0 cR0_0_1 fR0_0_1 cR0_0_2 fR0_0_2 hbW_0 hbel_0 hB_1
  have Op_1 := hO
  have ltOp := hO.ltB
  have Pp_1 := hO'
  have ltPp := hO'.ltB
  clear hO hO'
  try clear hB
  have hbx := blk_new w1 #[Value.bool (decide ((f 0).num < 0)), Value.slice pa pn pc, Value.slice pb pm pd] 38
  have hbB := (Below.refl w1.heap.size w1).alloc (Nat.le_refl _) (.cells #[Value.bool (decide ((f 0).num < 0)), Value.slice pa pn pc, Value.slice pb pm pd] 38)
  have hltS := hbx.lt
  have hB_2 : Below w1.heap.size w1 (w1.alloc (.cells #[Value.bool (decide ((f 0).num < 0)), Value.slice pa pn pc, Value.slice pb pm pd] 38)) := hbB
  have X_2 := X_1.next hB_2
  have cX_2_0 : _ = some (Value.bool s) := X_2.cell 0
  have cX_2_1 : _ = some (Value.slice a n0 c0) := X_2.cell 1
  have cX_2_2 : _ = some (Value.slice b m0 d0) := X_2.cell 2
  have R0_2 := R0_1.next hB_2
  have cR0_2_0 : _ = some (Value.bool false) := R0_2.cell 0
  have fR0_2_0 := R0_2.free 0
  have cR0_2_1 : _ = some (Value.slice none 0 0) := R0_2.cell 1
  have fR0_2_1 := R0_2.free 1
  have cR0_2_2 : _ = some (Value.slice none 0 0) := R0_2.cell 2
  have fR0_2_2 := R0_2.free 2
  have hbW_2 := hbW_1.next hB_2
  have Op_2 := Op_1.below hB_2
  have Pp_2 := Pp_1.below hB_2
  have hbel_2 := hbel_1.next hB_2
  have hsz_2 := hB_2.size
  clear hB_2
  have S_2 := hbx
  clear hbx hbB
  have cS_2_0 : _ = some (Value.bool (decide ((f 0).num < 0))) := S_2.cell 0
  have fS_2_0 := S_2.free 0
  have cS_2_1 : _ = some (Value.slice pa pn pc) := S_2.cell 1
  have fS_2_1 := S_2.free 1
  have cS_2_2 : _ = some (Value.slice pb pm pd) := S_2.cell 2
  have fS_2_2 := S_2.free 2
  go_wp2_with fail
  clear X_1 cX_1_0 cX_1_1 cX_1_2 R0_1 cR0_1_0 fR0_1_0 cR0_1_1 fR0_1_1 cR0_1_2 fR0_1_2 hbW_1 Op_1 Pp_1 hbel_1
  generalize (w1.alloc (.cells #[Value.bool (decide ((f 0).num < 0)), Value.slice pa pn pc, Value.slice pb pm pd] 38)) = v2 at *
  have hgS : w.heap.size + 2 ≤ w1.heap.size := by omega
  have hgS1 : W0.heap.size ≤ w1.heap.size := by omega
  generalize hgg : w1.heap.size = gS at *
  clear hgg
  go_loopw [7] (fun i wr => ∃ (k : Nat) (pa : Option Addr) (pn pc : Nat) (oa : Option Addr) (on oc : Nat), k ≤ n ∧ i = .int .i64 k ∧ Blk wr gS #[.bool (decide ((f k).num < 0)), .slice pa pn pc, .slice oa on oc] ∧ Own W0.heap.size wr pa pn pc (lm (f k).num.natAbs) ∧ Own W0.heap.size wr oa on oc (lm (f k).den) ∧ Blk wr w.heap.size #[Value.bool s, Value.slice a n0 c0, Value.slice b m0 d0] ∧ Blk wr (w.heap.size + 1) #[Value.bool false, Value.slice none 0 0, Value.slice none 0 0] ∧ Below W0.heap.size W0 wr ∧ Below w.heap.size w wr ∧ Diff pa oa) (fun i _ => n - (intOf i).toNat)
  case atStart => exact ⟨0, _, _, _, _, _, _, Nat.zero_le _, rfl, S_2, Op_2.mono (by omega), Pp_2.mono (by omega), X_2, R0_2, hbW_2, hbel_2, hDp⟩
  case round =>
    clear S_2 X_2 R0_2 hbW_2 hbel_2 Op_2 Pp_2 hDp cS_2_0 fS_2_0 cS_2_1 fS_2_1 cS_2_2 fS_2_2 cR0_2_0 fR0_2_0 cR0_2_1 fR0_2_1 cR0_2_2 fR0_2_2 cX_2_0 cX_2_1 cX_2_2
    obtain ⟨k, pa, pn, pc, oa, on, oc, hk, rfl, S_3, P_3, O_3, X_3, R0_3, hbW_3, hbel_3, hdf⟩ := hrel
    have hWs := hbW_3.size
    have hltS := S_3.lt
    have cS_3_0 : _ = some (Value.bool (decide ((f k).num < 0))) := S_3.cell 0
    have fS_3_0 := S_3.free 0
    have cS_3_1 : _ = some (Value.slice pa pn pc) := S_3.cell 1
    have fS_3_1 := S_3.free 1
    have cS_3_2 : _ = some (Value.slice oa on oc) := S_3.cell 2
    have fS_3_2 := S_3.free 2
    have cR0_3_0 : _ = some (Value.bool false) := R0_3.cell 0
    have fR0_3_0 := R0_3.free 0
    have cR0_3_1 : _ = some (Value.slice none 0 0) := R0_3.cell 1
    have fR0_3_1 := R0_3.free 1
    have cR0_3_2 : _ = some (Value.slice none 0 0) := R0_3.cell 2
    have fR0_3_2 := R0_3.free 2
    have cX_3_0 : _ = some (Value.bool s) := X_3.cell 0
    have cX_3_1 : _ = some (Value.slice a n0 c0) := X_3.cell 1
    have cX_3_2 : _ = some (Value.slice b m0 d0) := X_3.cell 2
    by_cases hkn : k < n
    · skip
      have hqk := hid (hqs.out k hk)
      have hstep := hid (hff.out k hkn)
      have Y_3 := HX.out.below hbW_3
      go_wp2_with fail
      refine (rqmul (P_3.rdQ O_3 hqk.out) (by omega) Y_3 (by omega)).mono ?_
      rw [← hstep.out]
      rintro e w4 ⟨ra, rn, rc, ta, tn, tc, rfl, hO, hO', hD, hB⟩
      have hB_4 : Below wr.heap.size wr w4 := (bl.next hB)
      have X_4 := X_3.next hB_4
      have cX_4_0 : _ = some (Value.bool s) := X_4.cell 0
      have cX_4_1 : _ = some (Value.slice a n0 c0) := X_4.cell 1
      have cX_4_2 : _ = some (Value.slice b m0 d0) := X_4.cell 2
      have R0_4 := R0_3.next hB_4
      have cR0_4_0 : _ = some (Value.bool false) := R0_4.cell 0
      have fR0_4_0 := R0_4.free 0
      have cR0_4_1 : _ = some (Value.slice none 0 0) := R0_4.cell 1
      have fR0_4_1 := R0_4.free 1
      have cR0_4_2 : _ = some (Value.slice none 0 0) := R0_4.cell 2
      have fR0_4_2 := R0_4.free 2
      have S_4 := S_3.next hB_4
      have cS_4_0 : _ = some (Value.bool (decide ((f k).num < 0))) := S_4.cell 0
      have fS_4_0 := S_4.free 0
      have cS_4_1 : _ = some (Value.slice pa pn pc) := S_4.cell 1
      have fS_4_1 := S_4.free 1
      have cS_4_2 : _ = some (Value.slice oa on oc) := S_4.cell 2
      have fS_4_2 := S_4.free 2
      have hbW_4 := hbW_3.next hB_4
      have O_4 := O_3.below hB_4
      have P_4 := P_3.below hB_4
      have Y_4 := Y_3.below hB_4
      have hbel_4 := hbel_3.next hB_4
      have hsz_4 := hB_4.size
      clear X_3 cX_3_0 cX_3_1 cX_3_2 R0_3 cR0_3_0 fR0_3_0 cR0_3_1 fR0_3_1 cR0_3_2 fR0_3_2 S_3 cS_3_0 fS_3_0 cS_3_1 fS_3_1 cS_3_2 fS_3_2 hbW_3 O_3 P_3 Y_3 hbel_3 hB_4
      have OQ_4 := hO
      have ltOQ := hO.ltB
      have OD_4 := hO'
      have ltOD := hO'.ltB
      clear hO hO'
      try clear hB
      go_wp2
      go_roundw
      case rel => exact ⟨k + 1, ra, rn, rc, ta, tn, tc, by omega, by go_num, (show Blk _ _ #[_, _, _] from ((S_4.setCell (i := 0) (v := _) (by simp)).setCell (i := 1) (v := _) (by simp)).setCell (i := 2) (v := _) (by simp)), (OQ_4.set3 (by omega) _ _ _).mono (by omega), (OD_4.set3 (by omega) _ _ _).mono (by omega), X_4.set3 (by omega) _ _ _, R0_4.set3 (by omega) _ _ _, Below.set3 hbW_4 (by omega) _ _ _, Below.set3 hbel_4 (by omega) _ _ _, hD⟩
      case measure => simp [intOf]; omega
    · obtain rfl : k = n := by omega
      go_wp2
      refine bodyPost_ret (v := .tuple #[.agg #[.bool (decide ((f k).num < 0)), .slice pa pn pc, .slice oa on oc], .int .i64 0]) (by simp [results, Tryz.results26, go_sem, cR0_3_0, cR0_3_1, cR0_3_2]) rfl ?_
      exact retqe_set (er := 0) P_3 O_3 hdf hbel_3 (by omega) (by omega)

theorem pow_both (t : Int) (h1 : -41 < t) (h2 : t < 41) {qa : Rat} (hq : QS qa 3) : ∃ (er : Int) (qw : Rat), QS qw 130 ∧
    (∀ (W : World) (s : Bool) (a : Option Addr) (n c : Nat) (b : Option Addr) (m d : Nat), RdQ 3 W s a n c b m d qa → Calls Tryz.prog 25 #[.iface 45 (.agg #[]), .agg #[.bool s, .slice a n c, .slice b m d], .int .i64 t] W (RetQE W qw er)) ∧
    (∀ (W : World) (s : Bool) (a : Option Addr) (n c : Nat) (b : Option Addr) (m d : Nat), RdQ 3 W s a n c b m d qa → Calls Tryz.prog 26 #[.agg #[.bool s, .slice a n c, .slice b m d], .int .i64 t] W (RetQE W qw er)) := by
  by_cases h0 : t < 0
  · exact ⟨3, 0, qs_zero.mono (by omega), fun _ _ _ _ _ _ _ _ _ => kpower_lo t h0 0, fun _ _ _ _ _ _ _ _ _ => rkpower_lo t h0 0⟩
  · obtain ⟨n, rfl⟩ : ∃ n : Nat, t = n := ⟨t.toNat, by omega⟩
    have hn : n ≤ 40 := by omega
    have hs : ∀ k, k ≤ n → QS (rpw qa k) 130 := fun k hk => (rpw_qs hq k).mono (by omega)
    exact ⟨0, rpw qa n, hs n (Nat.le_refl _), fun _ _ _ _ _ _ _ _ h => kpower n (by omega) (rpw qa) rfl (fun _ _ => rfl) (h.mono (by omega)) (by omega) (by omega) hs,
      fun _ _ _ _ _ _ _ _ h => rkpower n (by omega) (rpw qa) rfl (fun _ _ => rfl) (h.mono (by omega)) (by omega) (by omega) hs⟩

set_option maxRecDepth 100000 in
set_option maxHeartbeats 16000000 in
theorem ringFold_walk {w : World} {sa : Option Addr} {n c : Nat} {xs : List QA} (hx : QRow w sa n xs) (hn : n ≤ c) (hc : c ≤ maxLen) (kk : Int) (hk1 : -9223372036854775808 ≤ kk) (hk2 : kk ≤ 9223372036854775807) :
    Calls Tryz.prog 4 #[.slice sa n c, .int .i64 kk] w (fun e w' => e = .returned (.bool true) ∧ Below w.heap.size w w') := by
  obtain ⟨N, hN⟩ : ∃ N, min n 12 = N := ⟨_, rfl⟩
  have hN12 : N ≤ 12 := by omega
  have hxw := hid hx
  have hcm := hid hc
  unfold maxLen at hc
  go_enter Tryz.func4, Tryz.ntmps4
  have hbel_0 : Below w.heap.size w w := Below.refl _ _
  clear hx
  go_wp2_with fail
  refine (kawake).mono ?_
  rintro e w1 ⟨rfl, hB⟩
  have hB_1 : Below w.heap.size w w1 := (bl.next hB)
  have hbel_1 := hbel_0.next hB_1
  have hsz_1 := hB_1.size
  clear hbel_0 hB_1
  try clear hB
  go_upto_block 0 with fail
  go_cut [6] (fun l6 wx => ∃ (lc : Nat) (la : Option Addr) (ys : List QA), l6 = .slice la N lc ∧ ys.length = N ∧ wx.ownsRow w1.heap.size 38 3 (.slice la N lc) N (ys.flatMap QA.cs) ∧ Hid (∀ y ∈ ys, CutOK w wx y) ∧ Hid (∀ y ∈ ys, y.n ≤ 3 ∧ y.m ≤ 3) ∧ Below w1.heap.size w1 wx)
  case first =>
    go_wp2_with fail
    go_loopw [6, 7] (fun v i wr => ∃ (k lc : Nat) (la : Option Addr) (ys : List QA), k ≤ N ∧ v = .slice la k lc ∧ i = .int .i64 k ∧ ys.length = k ∧ wr.ownsRow w1.heap.size 38 3 (.slice la k lc) k (ys.flatMap QA.cs) ∧ Hid (∀ y ∈ ys, CutOK w wr y) ∧ Hid (∀ y ∈ ys, y.n ≤ 3 ∧ y.m ≤ 3) ∧ Below w1.heap.size w1 wr) (fun _ i _ => 12 - (intOf i).toNat)
    case atStart => exact ⟨0, 0, none, [], by omega, rfl, rfl, rfl, World.ownsRow_nil _ _ _ _, (fun y h => by cases h), (fun y h => by cases h), Below.refl _ _⟩
    case round =>
      obtain ⟨k, lc, la, ys, hk, rfl, rfl, hl, hrow, hY, hY3, hBC⟩ := hrel
      have hB := hbel_1.next hBC
      have hsz := hB.size
      have hszC := hBC.size
      have hsz1 := hbel_1.size
      by_cases hlt : k < N
      · skip
        have hkn : k < n := by omega
        have hk12 : k < 12 := by omega
        obtain ⟨r1, r2, g, o, rfl, c0, c1, c2⟩ := hxw.out k hkn
        have hgl : g < w.heap.size := World.block_lt_of_cell? _ _ c1
        have c0 := (hB.cell (p := ⟨g, o + k * 3, none⟩) hgl).trans c0
        have c1 := (hB.cell (p := ⟨g, o + k * 3 + 1, none⟩) hgl).trans c1
        have c2 := (hB.cell (p := ⟨g, o + k * 3 + 2, none⟩) hgl).trans c2
        generalize xs.getD k QA.o = x at *
        obtain ⟨xs1, xa, xn, xc, xl, xb, xm, xd, xk⟩ := x
        simp only at *
        have R1 := hid r1
        have R2 := hid r2
        have r1 := r1.below hB
        have r2 := r2.below hB
        have hrl := hid hrow
        clear hrow
        go_wp2_with fail
        refine (fcut 3 (by omega) r1 r2).mono ?_
        rintro e w1' ⟨n', l1, m', l2, rfl, hn', hm', hln, hlm, hR, hR', hB1⟩
        have hrow := hrl.out
        have hrow1 := ownsRow_block3 hrow (w' := w1') (fun g' e => hB1.block g' (by rcases ownsRow_cases3 hrow (by decide) with ⟨h1, _⟩ | ⟨g2, h1, _, h2, _⟩ <;> rw [h1] at e <;> cases e; exact h2))
        have hlaC := hid (fun j (hj : j < w1.heap.size) (e : la = some ⟨j, 0, none⟩) => (by
          rcases ownsRow_cases3 hrow (by decide) with ⟨h1, _⟩ | ⟨g2, h1, h2, _⟩
          · rw [h1] at e; cases e
          · rw [h1] at e; cases e; omega : False))
        have hs1 := hB1.size
        clear hrow
        have hla := hid (fun j (hj : j < w.heap.size) e => hlaC.out j (by omega) e)
        go_wp2_with (at_builtin; refine wpList_appQ (u := .bool xs1) (v := .slice xa n' xc) (x := .slice xb m' xd) rfl _ _ rfl rfl (ownsRow_block3 hrow1 (w' := w1'.alloc _) (fun g' e => Below.heap_alloc _ _ _ (by rcases ownsRow_cases3 hrow1 (by decide) with ⟨h1, _⟩ | ⟨g2, h1, _, h2, _⟩ <;> rw [h1] at e <;> cases e; exact h2))) _ 1 rfl rfl rfl rfl (blk_new _ _ _) (by simp; omega) (by omega) ?_; intro a2 c2' w2 hO2 hK2 _)
        have hBa := (Below.refl w1'.heap.size w1').alloc (Nat.le_refl _) (.cells #[.bool xs1, .slice xa n' xc, .slice xb m' xd] 38)
        go_roundw
        case rel => exact ⟨k + 1, c2', a2, ys ++ [⟨xs1, xa, n', xc, l1, xb, m', xd, l2⟩], by omega, rfl, by go_num, by simp [hl], by rw [List.flatMap_append]; exact hO2, (fun y hy => by
            have hp : ∀ b, b < w.heap.size → ¬ (la = some ⟨b, 0, none⟩) := fun b hb e => hla.out b hb e
            refine CutOK.kp (W := w1'.alloc (.cells #[.bool xs1, .slice xa n' xc, .slice xb m' xd] 38)) ?_ hK2 hp
            refine CutOK.below (W := w1') ?_ hBa
            rcases List.mem_append.1 hy with hy | hy
            · exact (hY.out y hy).below hB1
            · rw [List.mem_singleton.1 hy]
              exact ⟨⟨xn, xl, hln, R1.out⟩, ⟨xm, xk, hlm, R2.out⟩, hR, hR', by show n' ≤ 40; omega, by show m' ≤ 40; omega⟩), (fun y hy => by
            rcases List.mem_append.1 hy with hy | hy
            · exact hY3.out y hy
            · rw [List.mem_singleton.1 hy]; exact ⟨hn', hm'⟩), ((hBC.next hB1).alloc (by omega) _).kp hK2 (by simp; omega) hlaC.out⟩
        case measure => simp [intOf]; omega
      · obtain rfl : k = N := by omega
        by_cases hkn : k < n
        · obtain rfl : k = 12 := by omega
          go_wp2_with fail
          go_meet
          exact ⟨lc, la, ys, rfl, hl, hrow, hY, hY3, hBC⟩
        · go_wp2_with fail
          go_meet
          exact ⟨lc, la, ys, rfl, hl, hrow, hY, hY3, hBC⟩
  case rest =>
    obtain ⟨lc, la, ys, rfl, hyl, hrow, hY, hY3, hBc⟩ := hcut
    have hB_2 : Below w1.heap.size w1 wc := hBc
    have hbel_2 := hbel_1.next hB_2
    have hsz_2 := hB_2.size
    clear hbel_1 hB_2
    clear hBc
    obtain ⟨wc2, hwc⟩ : ∃ y : World, y = wc := ⟨_, rfl⟩
    subst hwc
    have hgm : ∀ i, i < N → ys.getD i QA.o ∈ ys := fun i hi => by rw [List.getD_eq_getElem?_getD, List.getElem?_eq_getElem (by omega)]; exact List.getElem_mem _
    have hlc : N ≤ lc ∧ lc ≤ maxLen := by
      rcases ownsRow_cases3 hrow (by decide) with ⟨_, h1, h2, _⟩ | ⟨g, h1, h2, h3, h4, h5⟩
      · exact ⟨by omega, by rw [h2]; exact Nat.zero_le _⟩
      · exact ⟨h4, h5⟩
    have hlcm := hid hlc.2
    have hlc1 := hlc.1
    clear hlc
    have hb3 := hid (fun i (hi : i < N) => hY3.out _ (hgm i hi))
    have RY_2 := qrow_row (vs := []) (by rw [List.append_nil]; exact hrow) hyl (Nat.le_refl _) (fun i hi => ⟨(hY.out _ (hgm i hi)).2.2.1, (hY.out _ (hgm i hi)).2.2.2.1⟩)
    clear hrow hY hY3 hgm
    go_wp2_with fail
    refine (lendall RY_2 hlc1 hlcm.out (by omega) (fun j hj => by have := hb3.out j hj; omega)).mono ?_
    rintro e w3 ⟨ma, mc, zs, gs, rfl, hmc, hmm0, hzl, hgl, hrow, hZ, hM, hB⟩
    have hB_3 : Below wc2.heap.size wc2 w3 := (bl.next hB)
    have RY_3 := RY_2.below hB_3
    have hbel_3 := hbel_2.next hB_3
    have hsz_3 := hB_3.size
    clear RY_2 hbel_2 hB_3
    try clear hB
    have hmm := hid hmm0
    clear hmm0
    have LA_3 := (show LentAll wc2.heap.size w3 ma mc N zs ys gs from ⟨hrow, hZ, hM⟩)
    clear hrow hZ hM
    have RM_3 := LA_3.row hzl
    have hzb := hid (fun i (hi : i < N) => (by have := (LA_3.2.1 i hi).eq; have := hb3.out i hi; omega : (zs.getD i QA.o).n ≤ 3 ∧ (zs.getD i QA.o).m ≤ 3))
    have SY_3 := rdqs_ofK (K := 3) RY_3 hyl hlc1 hlcm.out (fun i hi => hb3.out i hi)
    have SM_3 := rdqs_ofK (K := 3) RM_3 hzl (by omega) hmm.out (fun i hi => hzb.out i hi)
    clear RM_3
    have hq3 := hid (fun j (hj : j < N) => (SY_3.2.2.2 j hj).1.qs (by omega : 1 ≤ 3))
    have hzy := hid (fun i (hi : i < N) => LA_3.q hzl hyl hi)
    have hsq := hid (fun j (hj : j ≤ N) => ((SY_3.sum (by omega) j hj).mono (show j * (3 + 1) + 1 ≤ 60 by omega) : QS (qsm (ys.map QA.qi) j) 60))
    have hpq := hid (fun j (hj : j ≤ N) => ((pmq_qs hq3.out j hj).mono (by omega) : QS (pmq (ys.map QA.qi) j) 60))
    obtain ⟨fs, hfs⟩ : ∃ f : Nat → Rat, qsm (ys.map QA.qi) = f := ⟨_, rfl⟩
    obtain ⟨fp, hfp⟩ : ∃ f : Nat → Rat, pmq (ys.map QA.qi) = f := ⟨_, rfl⟩
    have hs0 := hid (show fs 0 = 0 by rw [← hfs]; rfl)
    have hp0 := hid (show fp 0 = 1 by rw [← hfp]; rfl)
    have hss := hid (fun k (hk : k < N) => (show fs (k + 1) = fs k + ((zs.map QA.qi).getD k QI.o).q by rw [hzy.out k hk, ← hfs]; rfl))
    have hps := hid (fun k (hk : k < N) => (show fp (k + 1) = fp k * ((zs.map QA.qi).getD k QI.o).q by rw [hzy.out k hk, ← hfp]; rfl))
    have hpy := hid (fun k (hk : k < N) => (show fp (k + 1) = fp k * ((ys.map QA.qi).getD k QI.o).q by rw [← hfp]; rfl))
    rw [hfs] at hsq
    rw [hfp] at hpq
    have hfsn := hid (show qsm (ys.map QA.qi) N = fs N by rw [hfs])
    clear hfs hfp hzy
    have mRY := hid RY_3
    have mLA := hid LA_3
    have mSY := hid SY_3
    have mSM := hid SM_3
    have mhbel := hid hbel_3
    have hbM_3 : Below w3.heap.size w3 w3 := Below.refl _ _
    clear RY_3
    clear LA_3
    clear SY_3
    clear SM_3
    have H1 := hid (fun w => (show Calls Tryz.prog 20 #[.int .i64 1, .int .i64 1] w (RetQ w (fp 0)) by rw [hp0.out, ← (by decide : Rat.divInt 1 1 = 1)]; exact fhalf 1 1 (by omega) (by omega) (by omega) (by omega) (by omega)))
    go_wp2_with fail
    refine (H1.out _).mono ?_
    rintro e w4 ⟨pa, pn, pc, pb, pm, pd, rfl, hO, hO', hDp, hB⟩
    have hB_4 : Below w3.heap.size w3 w4 := (bl.next hB)
    have hbM_4 := hbM_3.next hB_4
    have hbel_4 := hbel_3.next hB_4
    have hsz_4 := hB_4.size
    clear hbM_3 hbel_3 hB_4
    have Op_4 := hO
    have ltOp := hO.ltB
    have Pp_4 := hO'
    have ltPp := hO'.ltB
    clear hO hO'
    try clear hB
    have hbx := blk_new w4 #[Value.bool (decide ((fp 0).num < 0)), Value.slice pa pn pc, Value.slice pb pm pd] 38
    have hbB := (Below.refl w4.heap.size w4).alloc (Nat.le_refl _) (.cells #[Value.bool (decide ((fp 0).num < 0)), Value.slice pa pn pc, Value.slice pb pm pd] 38)
    have hltS := hbx.lt
    have hB_5 : Below w4.heap.size w4 (w4.alloc (.cells #[Value.bool (decide ((fp 0).num < 0)), Value.slice pa pn pc, Value.slice pb pm pd] 38)) := hbB
    have hbM_5 := hbM_4.next hB_5
    have Op_5 := Op_4.below hB_5
    have Pp_5 := Pp_4.below hB_5
    have hbel_5 := hbel_4.next hB_5
    have hsz_5 := hB_5.size
    clear hB_5
    have S_5 := hbx
    clear hbx hbB
    have cS_5_0 : _ = some (Value.bool (decide ((fp 0).num < 0))) := S_5.cell 0
    have fS_5_0 := S_5.free 0
    have cS_5_1 : _ = some (Value.slice pa pn pc) := S_5.cell 1
    have fS_5_1 := S_5.free 1
    have cS_5_2 : _ = some (Value.slice pb pm pd) := S_5.cell 2
    have fS_5_2 := S_5.free 2
    go_wp2_with fail
    clear hbM_4 Op_4 Pp_4 hbel_4
    generalize (w4.alloc (.cells #[Value.bool (decide ((fp 0).num < 0)), Value.slice pa pn pc, Value.slice pb pm pd] 38)) = v5 at *
    have hgS : w3.heap.size ≤ w4.heap.size := by have := hbM_5.size; omega
    have hgS0 : w.heap.size ≤ w4.heap.size := by have := hbM_5.size; have := mhbel.out.size; omega
    generalize hgg : w4.heap.size = gS at *
    clear hgg
    go_loopw [10] (fun i wr => ∃ (k : Nat) (pa : Option Addr) (pn pc : Nat) (oa : Option Addr) (on oc : Nat), k ≤ N ∧ i = .int .i64 k ∧ Blk wr gS #[Value.bool (decide ((fp k).num < 0)), Value.slice pa pn pc, Value.slice oa on oc] ∧ Own w3.heap.size wr pa pn pc (lm (fp k).num.natAbs) ∧ Own w3.heap.size wr oa on oc (lm (fp k).den) ∧ Diff pa oa ∧ Below w3.heap.size w3 wr ∧ Below w.heap.size w wr) (fun i _ => N - (intOf i).toNat)
    case atStart => exact ⟨0, _, _, _, _, _, _, Nat.zero_le _, rfl, S_5, Op_5.mono (by have := hbM_5.size; omega), Pp_5.mono (by have := hbM_5.size; omega), hDp, hbM_5, hbel_5⟩
    case round =>
      clear S_5 hbM_5 hbel_5 Op_5 Pp_5 hDp cS_5_0 fS_5_0 cS_5_1 fS_5_1 cS_5_2 fS_5_2
      obtain ⟨k, pa, pn, pc, oa, on, oc, hk, rfl, S_6, P_6, O_6, hdf, hbM_6, hbel_6⟩ := hrel
      have hltS := S_6.lt
      have hWs := hbM_6.size
      have cS_6_0 : _ = some (Value.bool (decide ((fp k).num < 0))) := S_6.cell 0
      have fS_6_0 := S_6.free 0
      have cS_6_1 : _ = some (Value.slice pa pn pc) := S_6.cell 1
      have fS_6_1 := S_6.free 1
      have cS_6_2 : _ = some (Value.slice oa on oc) := S_6.cell 2
      have fS_6_2 := S_6.free 2
      by_cases hkn : k < N
      · skip
        have hqk := hid (hpq.out k hk)
        have hstep := hid (hpy.out k hkn)
        obtain ⟨hqy, g, o, rfl, c1, c2, c3⟩ := (mSY.out.below hbM_6).2.2.2 k hkn
        generalize (ys.map QA.qi).getD k QI.o = y at *
        have Y_6 := hqy
        clear hqy
        go_wp2_with fail
        go_region_with
          (first
            | (go_at_call 21; ((with_reducible refine (rqmul ((P_6.below bl).rdQ (O_6.below bl) hqk.out) (by omega) (Y_6.below bl) (by omega)).mono ?_); (rw [← hstep.out]; rintro e w7 ⟨ra, rn, rc, ta, tn, tc, rfl, hO, hO', hD, hB⟩; have hB_7 : Below wr.heap.size wr w7 := (bl.next hB); have S_7 := S_6.next hB_7; have cS_7_0 : _ = some (Value.bool (decide ((fp k).num < 0))) := S_7.cell 0; have fS_7_0 := S_7.free 0; have cS_7_1 : _ = some (Value.slice pa pn pc) := S_7.cell 1; have fS_7_1 := S_7.free 1; have cS_7_2 : _ = some (Value.slice oa on oc) := S_7.cell 2; have fS_7_2 := S_7.free 2; have hbM_7 := hbM_6.next hB_7; have O_7 := O_6.below hB_7; have P_7 := P_6.below hB_7; have Y_7 := Y_6.below hB_7; have hbel_7 := hbel_6.next hB_7; have hsz_7 := hB_7.size; clear S_6 cS_6_0 fS_6_0 cS_6_1 fS_6_1 cS_6_2 fS_6_2 hbM_6 O_6 P_6 Y_6 hbel_6 hB_7; have OQ_7 := (show Own wr.heap.size _ _ _ _ _ from hO); have ltOQ := (show Own wr.heap.size _ _ _ _ _ from hO).ltB; have OD_7 := (show Own wr.heap.size _ _ _ _ _ from hO'); have ltOD := (show Own wr.heap.size _ _ _ _ _ from hO').ltB; clear hO hO'; try clear hB))))
        all_goals (go_wp2; go_roundw)
        all_goals first | exact ⟨k + 1, ra, rn, rc, ta, tn, tc, by omega, by go_num, (show Blk _ _ #[_, _, _] from ((S_7.setCell (i := 0) (v := _) (by simp)).setCell (i := 1) (v := _) (by simp)).setCell (i := 2) (v := _) (by simp)), (OQ_7.set3 (by omega) _ _ _).mono (by omega), (OD_7.set3 (by omega) _ _ _).mono (by omega), hD, Below.set3 hbM_7 (by omega) _ _ _, Below.set3 hbel_7 (by omega) _ _ _⟩ | (simp [intOf]; omega)
      · obtain rfl : N = k := by omega
        have cS_6_0 : _ = some (Value.bool (decide ((fp N).num < 0))) := S_6.cell 0
        have fS_6_0 := S_6.free 0
        have cS_6_1 : _ = some (Value.slice pa pn pc) := S_6.cell 1
        have fS_6_1 := S_6.free 1
        have cS_6_2 : _ = some (Value.slice oa on oc) := S_6.cell 2
        have fS_6_2 := S_6.free 2
        have H23 := hid (fun w => (show Calls Tryz.prog 20 #[.int .i64 2, .int .i64 3] w (RetQ w (Rat.divInt 2 3)) from fhalf 2 3 (by omega) (by omega) (by omega) (by omega) (by omega)))
        obtain ⟨q23, hq230⟩ : ∃ q, Rat.divInt 2 3 = q := ⟨_, rfl⟩
        have hq23 := hid (show QS q23 1 from hq230 ▸ qs_lit (by decide) (by decide) (Nat.le_refl _))
        rw [hq230] at H23
        clear hq230
        have hws0 := hbM_6.size
        have ltP := P_6.ltB
        have ltO := O_6.ltB
        go_wp2_with fail
        refine (H23.out _).mono ?_
        rintro e w7 ⟨hfa, hfn, hfc, hfb, hfm, hfd, rfl, hO, hO', hDhf, hB⟩
        have hB_7 : Below wr.heap.size wr w7 := (bl.next hB)
        have S_7 := S_6.next hB_7
        have cS_7_0 : _ = some (Value.bool (decide ((fp N).num < 0))) := S_7.cell 0
        have fS_7_0 := S_7.free 0
        have cS_7_1 : _ = some (Value.slice pa pn pc) := S_7.cell 1
        have fS_7_1 := S_7.free 1
        have cS_7_2 : _ = some (Value.slice oa on oc) := S_7.cell 2
        have fS_7_2 := S_7.free 2
        have hbM_7 := hbM_6.next hB_7
        have O_7 := O_6.below hB_7
        have P_7 := P_6.below hB_7
        have hbel_7 := hbel_6.next hB_7
        have hsz_7 := hB_7.size
        clear S_6 cS_6_0 fS_6_0 cS_6_1 fS_6_1 cS_6_2 fS_6_2 hbM_6 O_6 P_6 hbel_6 hB_7
        have Ohf_7 := hO
        have ltOhf := hO.ltB
        have Phf_7 := hO'
        have ltPhf := hO'.ltB
        clear hO hO'
        try clear hB
        have hbx := blk_new w7 #[Value.bool (decide ((q23).num < 0)), Value.slice hfa hfn hfc, Value.slice hfb hfm hfd] 38
        have hbB := (Below.refl w7.heap.size w7).alloc (Nat.le_refl _) (.cells #[Value.bool (decide ((q23).num < 0)), Value.slice hfa hfn hfc, Value.slice hfb hfm hfd] 38)
        have hltA := hbx.lt
        have hB_8 : Below w7.heap.size w7 (w7.alloc (.cells #[Value.bool (decide ((q23).num < 0)), Value.slice hfa hfn hfc, Value.slice hfb hfm hfd] 38)) := hbB
        have S_8 := S_7.next hB_8
        have cS_8_0 : _ = some (Value.bool (decide ((fp N).num < 0))) := S_8.cell 0
        have fS_8_0 := S_8.free 0
        have cS_8_1 : _ = some (Value.slice pa pn pc) := S_8.cell 1
        have fS_8_1 := S_8.free 1
        have cS_8_2 : _ = some (Value.slice oa on oc) := S_8.cell 2
        have fS_8_2 := S_8.free 2
        have hbM_8 := hbM_7.next hB_8
        have O_8 := O_7.below hB_8
        have P_8 := P_7.below hB_8
        have Ohf_8 := Ohf_7.below hB_8
        have Phf_8 := Phf_7.below hB_8
        have hbel_8 := hbel_7.next hB_8
        have hsz_8 := hB_8.size
        clear hB_8
        have A_8 := hbx
        clear hbx hbB
        have cA_8_0 : _ = some (Value.bool (decide ((q23).num < 0))) := A_8.cell 0
        have fA_8_0 := A_8.free 0
        have cA_8_1 : _ = some (Value.slice hfa hfn hfc) := A_8.cell 1
        have fA_8_1 := A_8.free 1
        have cA_8_2 : _ = some (Value.slice hfb hfm hfd) := A_8.cell 2
        have fA_8_2 := A_8.free 2
        go_upto_if 60 with fail
        clear S_7 cS_7_0 fS_7_0 cS_7_1 fS_7_1 cS_7_2 fS_7_2 hbM_7 O_7 P_7 Ohf_7 Phf_7 hbel_7
        generalize (w7.alloc (.cells #[Value.bool (decide ((q23).num < 0)), Value.slice hfa hfn hfc, Value.slice hfb hfm hfd] 38)) = v8 at *
        have hgA : w3.heap.size ≤ w7.heap.size := by omega
        have hgA0 : w.heap.size ≤ w7.heap.size := by have := mhbel.out.size; omega
        have hSA : gS < w7.heap.size := by omega
        have hPA0 : Aw pa (w7.heap.size) := fun g' e => by have := ltP g' e; omega
        have hOA0 : Aw oa (w7.heap.size) := fun g' e => by have := ltO g' e; omega
        generalize hgg : w7.heap.size = gA at *
        clear hgg
        go_cut [] (fun wx => ∃ (y : QA), Blk wx gA #[.bool y.s, .slice y.a y.n y.c, .slice y.b y.m y.d] ∧ Rd wx y.a y.n y.c y.l ∧ Rd wx y.b y.m y.d y.k ∧ y.n ≤ 3 ∧ y.m ≤ 3 ∧ Blk wx gS #[Value.bool (decide ((fp N).num < 0)), Value.slice pa pn pc, Value.slice oa on oc] ∧ Own w3.heap.size wx pa pn pc (lm (fp N).num.natAbs) ∧ Own w3.heap.size wx oa on oc (lm (fp N).den) ∧ Below w3.heap.size w3 wx ∧ Below w.heap.size w wx)
        case first =>
          by_cases hN0 : N = 0
          · skip
            have hlh := Ohf_8.len
            have hlh2 := Phf_8.len
            have hlq := hq23.out.len1
            have hlq2 := hq23.out.len2
            go_wp2_with fail
            go_meet
            exact ⟨⟨decide (q23.num < 0), hfa, hfn, hfc, lm q23.num.natAbs, hfb, hfm, hfd, lm q23.den⟩, A_8, Ohf_8.rd, Phf_8.rd, by show hfn ≤ 3; omega, by show hfm ≤ 3; omega, S_8, P_8, O_8, hbM_8, hbel_8⟩
          · skip
            obtain ⟨r1, r2, g, o, hla, c0, c1, c2⟩ := mRY.out 0 (by omega)
            obtain ⟨hb1, hb2⟩ := hb3.out 0 (by omega)
            have hgl : g < w3.heap.size := World.block_lt_of_cell? _ _ c1
            have c0 := (hbM_8.cell (p := ⟨g, o + 0 * 3, none⟩) hgl).trans c0
            have c1 := (hbM_8.cell (p := ⟨g, o + 0 * 3 + 1, none⟩) hgl).trans c1
            have c2 := (hbM_8.cell (p := ⟨g, o + 0 * 3 + 2, none⟩) hgl).trans c2
            obtain ⟨y, hy⟩ : ∃ y, ys.getD 0 QA.o = y := ⟨_, rfl⟩
            rw [hy] at r1 r2 c0 c1 c2 hb1 hb2
            clear hy
            have hpos : (0 : Int) < N := by omega
            have hdp : decide ((0 : Int) < N) = true := decide_eq_true hpos
            subst hla
            simp only [Nat.zero_mul, Nat.add_zero] at c0 c1 c2
            go_wp2_with fail
            go_meet
            have hbx := Below.set3 hbM_8 (show w3.heap.size ≤ gA from hgA) (.bool y.s) (.slice y.a y.n y.c) (.slice y.b y.m y.d)
            have hPA : Aw pa gA := hPA0
            have hOA : Aw oa gA := hOA0
            exact ⟨y, (show Blk _ _ #[_, _, _] from ((A_8.setCell (i := 0) (v := _) (by simp)).setCell (i := 1) (v := _) (by simp)).setCell (i := 2) (v := _) (by simp)), r1.below hbx, r2.below hbx, hb1, hb2, S_8.set3 (by omega) _ _ _, (P_8.setA3 hPA _ _ _), (O_8.setA3 hOA _ _ _), hbx, Below.set3 hbel_8 hgA0 _ _ _⟩
        case rest =>
          obtain ⟨⟨ys1, ya, yn, yc, yl, yb, ym, yd, yk⟩, hA, hR1, hR2, hb1, hb2, hS, hP, hO, hMx, hwx⟩ := hcut
          clear A_8 S_8 P_8 O_8 hbM_8 hbel_8 Ohf_8 Phf_8 cA_8_0 fA_8_0 cA_8_1 fA_8_1 cA_8_2 fA_8_2 cS_8_0 fS_8_0 cS_8_1 fS_8_1 cS_8_2 fS_8_2
          obtain ⟨wy, hwc⟩ : ∃ y : World, y = wc := ⟨_, rfl⟩
          subst hwc
          have A_9 := hA
          have S_9 := hS
          have hltA := hA.lt
          have hltS := hS.lt
          have hbM_9 := hMx
          have hbel_9 := hwx
          have RA_9 : Rd wy ya yn yc yl := hR1
          have RB_9 : Rd wy yb ym yd yk := hR2
          have OP_9 := hP
          have OD_9 := hO
          clear hA hS hMx hwx hR1 hR2 hP hO
          have cS_9_0 : _ = some (Value.bool (decide ((fp N).num < 0))) := S_9.cell 0
          have cS_9_1 : _ = some (Value.slice pa pn pc) := S_9.cell 1
          have cS_9_2 : _ = some (Value.slice oa on oc) := S_9.cell 2
          have cA_9_0 : _ = some (Value.bool ys1) := A_9.cell 0
          have cA_9_1 : _ = some (Value.slice ya yn yc) := A_9.cell 1
          have cA_9_2 : _ = some (Value.slice yb ym yd) := A_9.cell 2
          have ht1 : -41 < kk.tmod 41 := Int.lt_tmod_of_pos _ (by decide)
          have ht2 : kk.tmod 41 < 41 := Int.tmod_lt_of_pos _ (by decide)
          generalize kk.tmod 41 = t at *
          have hb1 : yn ≤ 3 := hb1
          have hb2 : ym ≤ 3 := hb2
          go_wp2_with fail
          refine (flend RA_9 RB_9 (by omega) (by omega)).mono ?_
          rintro e w10 ⟨xa, xc, xb, xd, rfl, hL, hL', hB⟩
          have hB_10 : Below wy.heap.size wy w10 := (bl.next hB)
          have S_10 := S_9.next hB_10
          have cS_10_0 : _ = some (Value.bool (decide ((fp N).num < 0))) := S_10.cell 0
          have cS_10_1 : _ = some (Value.slice pa pn pc) := S_10.cell 1
          have cS_10_2 : _ = some (Value.slice oa on oc) := S_10.cell 2
          have A_10 := A_9.next hB_10
          have cA_10_0 : _ = some (Value.bool ys1) := A_10.cell 0
          have cA_10_1 : _ = some (Value.slice ya yn yc) := A_10.cell 1
          have cA_10_2 : _ = some (Value.slice yb ym yd) := A_10.cell 2
          have hbM_10 := hbM_9.next hB_10
          have RA_10 := RA_9.below hB_10
          have RB_10 := RB_9.below hB_10
          have OP_10 := OP_9.below hB_10
          have OD_10 := OD_9.below hB_10
          have hbel_10 := hbel_9.next hB_10
          have hsz_10 := hB_10.size
          clear S_9 cS_9_0 cS_9_1 cS_9_2 A_9 cA_9_0 cA_9_1 cA_9_2 hbM_9 RA_9 RB_9 OP_9 OD_9 hbel_9 hB_10
          have L_10 := hL
          have M_10 := hL'
          clear hL hL'
          try clear hB
          have hbx := blk_new w10 #[Value.bool ys1, Value.slice xa yn xc, Value.slice xb ym xd] 38
          have hbB := (Below.refl w10.heap.size w10).alloc (Nat.le_refl _) (.cells #[Value.bool ys1, Value.slice xa yn xc, Value.slice xb ym xd] 38)
          have hltBX := hbx.lt
          have hB_11 : Below w10.heap.size w10 (w10.alloc (.cells #[Value.bool ys1, Value.slice xa yn xc, Value.slice xb ym xd] 38)) := hbB
          have S_11 := S_10.next hB_11
          have cS_11_0 : _ = some (Value.bool (decide ((fp N).num < 0))) := S_11.cell 0
          have cS_11_1 : _ = some (Value.slice pa pn pc) := S_11.cell 1
          have cS_11_2 : _ = some (Value.slice oa on oc) := S_11.cell 2
          have A_11 := A_10.next hB_11
          have cA_11_0 : _ = some (Value.bool ys1) := A_11.cell 0
          have cA_11_1 : _ = some (Value.slice ya yn yc) := A_11.cell 1
          have cA_11_2 : _ = some (Value.slice yb ym yd) := A_11.cell 2
          have hbM_11 := hbM_10.next hB_11
          have RA_11 := RA_10.below hB_11
          have RB_11 := RB_10.below hB_11
          have OP_11 := OP_10.below hB_11
          have OD_11 := OD_10.below hB_11
          have L_11 := L_10.below hB_11
          have M_11 := M_10.below hB_11
          have hbel_11 := hbel_10.next hB_11
          have hsz_11 := hB_11.size
          clear hB_11
          have BX_11 := hbx
          clear hbx hbB
          have cBX_11_0 : _ = some (Value.bool ys1) := BX_11.cell 0
          have cBX_11_1 : _ = some (Value.slice xa yn xc) := BX_11.cell 1
          have cBX_11_2 : _ = some (Value.slice xb ym xd) := BX_11.cell 2
          go_wp2_with fail
          clear S_10 cS_10_0 cS_10_1 cS_10_2 A_10 cA_10_0 cA_10_1 cA_10_2 hbM_10 RA_10 RB_10 OP_10 OD_10 L_10 M_10 hbel_10
          generalize (w10.alloc (.cells #[Value.bool ys1, Value.slice xa yn xc, Value.slice xb ym xd] 38)) = v11 at *
          have QF_11 := rdq_of (K := 3) ys1 RA_11 hb1 RB_11 hb2
          have QB_11 := rdq_of (K := 3) ys1 L_11.2 hb1 M_11.2 hb2
          have hqa := hid (show QS (qv ys1 (val yl) (val yk)) 3 from QF_11.qs (by omega))
          generalize qv ys1 (val yl) (val yk) = qf at *
          obtain ⟨er, qw, hqw0, hPW0, hRW0⟩ := pow_both t ht1 ht2 hqa.out
          have hqw := hid hqw0
          have hPW := hid hPW0
          have hRW := hid hRW0
          clear hqw0 hPW0 hRW0
          have eer : (er == er) = true := beq_self_eq_true _
          have RY_11 := mRY.out.below hbM_11
          have LA_11 := mLA.out.below hbM_11
          have SY_11 := mSY.out.below hbM_11
          have SM_11 := mSM.out.below hbM_11
          clear hbM_11
          clear mRY mLA mSY mSM mhbel
          have mS := hid S_11
          have mA := hid A_11
          have mBX := hid BX_11
          have mRA := hid RA_11
          have mRB := hid RB_11
          have mOP := hid OP_11
          have mOD := hid OD_11
          have mL := hid L_11
          have mM := hid M_11
          have mQF := hid QF_11
          have mQB := hid QB_11
          have mRY := hid RY_11
          have mLA := hid LA_11
          have mSY := hid SY_11
          have mSM := hid SM_11
          have mhbel := hid hbel_11
          have hbM_11 : Below v11.heap.size v11 v11 := Below.refl _ _
          obtain ⟨vM, hvM⟩ : ∃ y : World, y = v11 := ⟨_, rfl⟩
          subst hvM
          have T_11 := hid (told2_nil vM.heap.size vM)
          have hbT_11 : Below vM.heap.size vM vM := Below.refl _ _
          clear RY_11
          clear LA_11
          clear L_11
          clear M_11
          clear RA_11
          clear RB_11
          go_wp2_with fail
          refine (ksum_add fs hs0.out hss.out SM_11 (by omega) (by omega) (by omega) (by omega) hsq.out).mono ?_
          rintro e w12 ⟨sva, svn, svc, svb, svm, svd, rfl, hO, hO', hD, hB⟩
          have hBT : Below vM.heap.size vM w12 := (bl.next hB)
          have T_12 := hid (T_11.out.cons2 (by have := hbT_11.size; omega) (show Own vM.heap.size w12 _ _ _ _ from by first | exact hO | exact hO.mono (by simp)) (show Own vM.heap.size w12 _ _ _ _ from by first | exact hO' | exact hO'.mono (by simp)) hD hBT (Nat.le_trans (hsq.out N (Nat.le_refl _)).len1 (by omega)) (Nat.le_trans (hsq.out N (Nat.le_refl _)).len2 (by omega)))
          have hbT_12 := hbT_11.next hBT
          clear T_11 hbT_11 hBT
          have hB_12 : Below vM.heap.size vM w12 := (bl.next hB)
          have S_12 := S_11.next hB_12
          have cS_12_0 : _ = some (Value.bool (decide ((fp N).num < 0))) := S_12.cell 0
          have cS_12_1 : _ = some (Value.slice pa pn pc) := S_12.cell 1
          have cS_12_2 : _ = some (Value.slice oa on oc) := S_12.cell 2
          have A_12 := A_11.next hB_12
          have cA_12_0 : _ = some (Value.bool ys1) := A_12.cell 0
          have cA_12_1 : _ = some (Value.slice ya yn yc) := A_12.cell 1
          have cA_12_2 : _ = some (Value.slice yb ym yd) := A_12.cell 2
          have BX_12 := BX_11.next hB_12
          have cBX_12_0 : _ = some (Value.bool ys1) := BX_12.cell 0
          have cBX_12_1 : _ = some (Value.slice xa yn xc) := BX_12.cell 1
          have cBX_12_2 : _ = some (Value.slice xb ym xd) := BX_12.cell 2
          have OP_12 := OP_11.below hB_12
          have OD_12 := OD_11.below hB_12
          have QF_12 := QF_11.below hB_12
          have QB_12 := QB_11.below hB_12
          have SY_12 := SY_11.below hB_12
          have SM_12 := SM_11.below hB_12
          have hbM_12 := hbM_11.next hB_12
          have hbel_12 := hbel_11.next hB_12
          have hsz_12 := hB_12.size
          clear S_11 cS_11_0 cS_11_1 cS_11_2 A_11 cA_11_0 cA_11_1 cA_11_2 BX_11 cBX_11_0 cBX_11_1 cBX_11_2 OP_11 OD_11 QF_11 QB_11 SY_11 SM_11 hbM_11 hbel_11 hB_12
          have Osv_12 := hO
          have ltOsv := hO.ltB
          have Psv_12 := hO'
          have ltPsv := hO'.ltB
          clear hO hO' hD
          try clear hB
          have hbx := blk_new w12 #[Value.bool (decide ((fs N).num < 0)), Value.slice sva svn svc, Value.slice svb svm svd] 38
          have hbB := (Below.refl w12.heap.size w12).alloc (Nat.le_refl _) (.cells #[Value.bool (decide ((fs N).num < 0)), Value.slice sva svn svc, Value.slice svb svm svd] 38)
          have hltU := hbx.lt
          have hBT : Below w12.heap.size w12 (w12.alloc (.cells #[Value.bool (decide ((fs N).num < 0)), Value.slice sva svn svc, Value.slice svb svm svd] 38)) := hbB
          have T_13 := hid (T_12.out.below hBT)
          have hbT_13 := hbT_12.next hBT
          clear T_12 hbT_12 hBT
          have hB_13 : Below w12.heap.size w12 (w12.alloc (.cells #[Value.bool (decide ((fs N).num < 0)), Value.slice sva svn svc, Value.slice svb svm svd] 38)) := hbB
          have S_13 := S_12.next hB_13
          have cS_13_0 : _ = some (Value.bool (decide ((fp N).num < 0))) := S_13.cell 0
          have cS_13_1 : _ = some (Value.slice pa pn pc) := S_13.cell 1
          have cS_13_2 : _ = some (Value.slice oa on oc) := S_13.cell 2
          have A_13 := A_12.next hB_13
          have cA_13_0 : _ = some (Value.bool ys1) := A_13.cell 0
          have cA_13_1 : _ = some (Value.slice ya yn yc) := A_13.cell 1
          have cA_13_2 : _ = some (Value.slice yb ym yd) := A_13.cell 2
          have BX_13 := BX_12.next hB_13
          have cBX_13_0 : _ = some (Value.bool ys1) := BX_13.cell 0
          have cBX_13_1 : _ = some (Value.slice xa yn xc) := BX_13.cell 1
          have cBX_13_2 : _ = some (Value.slice xb ym xd) := BX_13.cell 2
          have OP_13 := OP_12.below hB_13
          have OD_13 := OD_12.below hB_13
          have QF_13 := QF_12.below hB_13
          have QB_13 := QB_12.below hB_13
          have SY_13 := SY_12.below hB_13
          have SM_13 := SM_12.below hB_13
          have hbM_13 := hbM_12.next hB_13
          have Osv_13 := Osv_12.below hB_13
          have Psv_13 := Psv_12.below hB_13
          have hbel_13 := hbel_12.next hB_13
          have hsz_13 := hB_13.size
          clear hB_13
          have U_13 := hbx
          clear hbx hbB
          have cU_13_0 : _ = some (Value.bool (decide ((fs N).num < 0))) := U_13.cell 0
          have cU_13_1 : _ = some (Value.slice sva svn svc) := U_13.cell 1
          have cU_13_2 : _ = some (Value.slice svb svm svd) := U_13.cell 2
          go_wp2_with fail
          clear S_12 cS_12_0 cS_12_1 cS_12_2 A_12 cA_12_0 cA_12_1 cA_12_2 BX_12 cBX_12_0 cBX_12_1 cBX_12_2 OP_12 OD_12 QF_12 QB_12 SY_12 SM_12 hbM_12 Osv_12 Psv_12 hbel_12
          generalize (w12.alloc (.cells #[Value.bool (decide ((fs N).num < 0)), Value.slice sva svn svc, Value.slice svb svm svd] 38)) = v13 at *
          go_wp2_with fail
          refine (kproduct_mul fp hp0.out hps.out SM_13 (by omega) (by omega) (by omega) (by omega) hpq.out).mono ?_
          rintro e w14 ⟨pva, pvn, pvc, pvb, pvm, pvd, rfl, hO, hO', hD, hB⟩
          have hBT : Below v13.heap.size v13 w14 := (bl.next hB)
          have T_14 := hid (T_13.out.cons2 (by have := hbT_13.size; omega) (show Own v13.heap.size w14 _ _ _ _ from by first | exact hO | exact hO.mono (by simp)) (show Own v13.heap.size w14 _ _ _ _ from by first | exact hO' | exact hO'.mono (by simp)) hD hBT (Nat.le_trans (hpq.out N (Nat.le_refl _)).len1 (by omega)) (Nat.le_trans (hpq.out N (Nat.le_refl _)).len2 (by omega)))
          have hbT_14 := hbT_13.next hBT
          clear T_13 hbT_13 hBT
          have hB_14 : Below v13.heap.size v13 w14 := (bl.next hB)
          have S_14 := S_13.next hB_14
          have cS_14_0 : _ = some (Value.bool (decide ((fp N).num < 0))) := S_14.cell 0
          have cS_14_1 : _ = some (Value.slice pa pn pc) := S_14.cell 1
          have cS_14_2 : _ = some (Value.slice oa on oc) := S_14.cell 2
          have A_14 := A_13.next hB_14
          have cA_14_0 : _ = some (Value.bool ys1) := A_14.cell 0
          have cA_14_1 : _ = some (Value.slice ya yn yc) := A_14.cell 1
          have cA_14_2 : _ = some (Value.slice yb ym yd) := A_14.cell 2
          have BX_14 := BX_13.next hB_14
          have cBX_14_0 : _ = some (Value.bool ys1) := BX_14.cell 0
          have cBX_14_1 : _ = some (Value.slice xa yn xc) := BX_14.cell 1
          have cBX_14_2 : _ = some (Value.slice xb ym xd) := BX_14.cell 2
          have U_14 := U_13.next hB_14
          have cU_14_0 : _ = some (Value.bool (decide ((fs N).num < 0))) := U_14.cell 0
          have cU_14_1 : _ = some (Value.slice sva svn svc) := U_14.cell 1
          have cU_14_2 : _ = some (Value.slice svb svm svd) := U_14.cell 2
          have OP_14 := OP_13.below hB_14
          have OD_14 := OD_13.below hB_14
          have QF_14 := QF_13.below hB_14
          have QB_14 := QB_13.below hB_14
          have SY_14 := SY_13.below hB_14
          have SM_14 := SM_13.below hB_14
          have hbM_14 := hbM_13.next hB_14
          have Osv_14 := Osv_13.below hB_14
          have Psv_14 := Psv_13.below hB_14
          have hbel_14 := hbel_13.next hB_14
          have hsz_14 := hB_14.size
          clear S_13 cS_13_0 cS_13_1 cS_13_2 A_13 cA_13_0 cA_13_1 cA_13_2 BX_13 cBX_13_0 cBX_13_1 cBX_13_2 U_13 cU_13_0 cU_13_1 cU_13_2 OP_13 OD_13 QF_13 QB_13 SY_13 SM_13 hbM_13 Osv_13 Psv_13 hbel_13 hB_14
          have Opv_14 := hO
          have ltOpv := hO.ltB
          have Ppv_14 := hO'
          have ltPpv := hO'.ltB
          clear hO hO' hD
          try clear hB
          have hbx := blk_new w14 #[Value.bool (decide ((fp N).num < 0)), Value.slice pva pvn pvc, Value.slice pvb pvm pvd] 38
          have hbB := (Below.refl w14.heap.size w14).alloc (Nat.le_refl _) (.cells #[Value.bool (decide ((fp N).num < 0)), Value.slice pva pvn pvc, Value.slice pvb pvm pvd] 38)
          have hltV := hbx.lt
          have hBT : Below w14.heap.size w14 (w14.alloc (.cells #[Value.bool (decide ((fp N).num < 0)), Value.slice pva pvn pvc, Value.slice pvb pvm pvd] 38)) := hbB
          have T_15 := hid (T_14.out.below hBT)
          have hbT_15 := hbT_14.next hBT
          clear T_14 hbT_14 hBT
          have hB_15 : Below w14.heap.size w14 (w14.alloc (.cells #[Value.bool (decide ((fp N).num < 0)), Value.slice pva pvn pvc, Value.slice pvb pvm pvd] 38)) := hbB
          have S_15 := S_14.next hB_15
          have cS_15_0 : _ = some (Value.bool (decide ((fp N).num < 0))) := S_15.cell 0
          have cS_15_1 : _ = some (Value.slice pa pn pc) := S_15.cell 1
          have cS_15_2 : _ = some (Value.slice oa on oc) := S_15.cell 2
          have A_15 := A_14.next hB_15
          have cA_15_0 : _ = some (Value.bool ys1) := A_15.cell 0
          have cA_15_1 : _ = some (Value.slice ya yn yc) := A_15.cell 1
          have cA_15_2 : _ = some (Value.slice yb ym yd) := A_15.cell 2
          have BX_15 := BX_14.next hB_15
          have cBX_15_0 : _ = some (Value.bool ys1) := BX_15.cell 0
          have cBX_15_1 : _ = some (Value.slice xa yn xc) := BX_15.cell 1
          have cBX_15_2 : _ = some (Value.slice xb ym xd) := BX_15.cell 2
          have U_15 := U_14.next hB_15
          have cU_15_0 : _ = some (Value.bool (decide ((fs N).num < 0))) := U_15.cell 0
          have cU_15_1 : _ = some (Value.slice sva svn svc) := U_15.cell 1
          have cU_15_2 : _ = some (Value.slice svb svm svd) := U_15.cell 2
          have OP_15 := OP_14.below hB_15
          have OD_15 := OD_14.below hB_15
          have QF_15 := QF_14.below hB_15
          have QB_15 := QB_14.below hB_15
          have SY_15 := SY_14.below hB_15
          have SM_15 := SM_14.below hB_15
          have hbM_15 := hbM_14.next hB_15
          have Osv_15 := Osv_14.below hB_15
          have Psv_15 := Psv_14.below hB_15
          have Opv_15 := Opv_14.below hB_15
          have Ppv_15 := Ppv_14.below hB_15
          have hbel_15 := hbel_14.next hB_15
          have hsz_15 := hB_15.size
          clear hB_15
          have V_15 := hbx
          clear hbx hbB
          have cV_15_0 : _ = some (Value.bool (decide ((fp N).num < 0))) := V_15.cell 0
          have cV_15_1 : _ = some (Value.slice pva pvn pvc) := V_15.cell 1
          have cV_15_2 : _ = some (Value.slice pvb pvm pvd) := V_15.cell 2
          go_wp2_with fail
          clear S_14 cS_14_0 cS_14_1 cS_14_2 A_14 cA_14_0 cA_14_1 cA_14_2 BX_14 cBX_14_0 cBX_14_1 cBX_14_2 U_14 cU_14_0 cU_14_1 cU_14_2 OP_14 OD_14 QF_14 QB_14 SY_14 SM_14 hbM_14 Osv_14 Psv_14 Opv_14 Ppv_14 hbel_14
          generalize (w14.alloc (.cells #[Value.bool (decide ((fp N).num < 0)), Value.slice pva pvn pvc, Value.slice pvb pvm pvd] 38)) = v15 at *
          go_wp2_with fail
          refine (hPW.out _ _ _ _ _ _ _ _ QB_15).mono ?_
          rintro e w16 ⟨qxa, qxn, qxc, qxb, qxm, qxd, rfl, hO, hO', hD, hB⟩
          have hBT : Below v15.heap.size v15 w16 := (bl.next hB)
          have T_16 := hid (T_15.out.cons2 (by have := hbT_15.size; omega) (show Own v15.heap.size w16 _ _ _ _ from by first | exact hO | exact hO.mono (by simp)) (show Own v15.heap.size w16 _ _ _ _ from by first | exact hO' | exact hO'.mono (by simp)) hD hBT (Nat.le_trans (qnl_len hqw.out) (by omega)) (Nat.le_trans (qdl_len hqw.out) (by omega)))
          have hbT_16 := hbT_15.next hBT
          clear T_15 hbT_15 hBT
          have hB_16 : Below v15.heap.size v15 w16 := (bl.next hB)
          have S_16 := S_15.next hB_16
          have cS_16_0 : _ = some (Value.bool (decide ((fp N).num < 0))) := S_16.cell 0
          have cS_16_1 : _ = some (Value.slice pa pn pc) := S_16.cell 1
          have cS_16_2 : _ = some (Value.slice oa on oc) := S_16.cell 2
          have A_16 := A_15.next hB_16
          have cA_16_0 : _ = some (Value.bool ys1) := A_16.cell 0
          have cA_16_1 : _ = some (Value.slice ya yn yc) := A_16.cell 1
          have cA_16_2 : _ = some (Value.slice yb ym yd) := A_16.cell 2
          have BX_16 := BX_15.next hB_16
          have cBX_16_0 : _ = some (Value.bool ys1) := BX_16.cell 0
          have cBX_16_1 : _ = some (Value.slice xa yn xc) := BX_16.cell 1
          have cBX_16_2 : _ = some (Value.slice xb ym xd) := BX_16.cell 2
          have U_16 := U_15.next hB_16
          have cU_16_0 : _ = some (Value.bool (decide ((fs N).num < 0))) := U_16.cell 0
          have cU_16_1 : _ = some (Value.slice sva svn svc) := U_16.cell 1
          have cU_16_2 : _ = some (Value.slice svb svm svd) := U_16.cell 2
          have V_16 := V_15.next hB_16
          have cV_16_0 : _ = some (Value.bool (decide ((fp N).num < 0))) := V_16.cell 0
          have cV_16_1 : _ = some (Value.slice pva pvn pvc) := V_16.cell 1
          have cV_16_2 : _ = some (Value.slice pvb pvm pvd) := V_16.cell 2
          have OP_16 := OP_15.below hB_16
          have OD_16 := OD_15.below hB_16
          have QF_16 := QF_15.below hB_16
          have QB_16 := QB_15.below hB_16
          have SY_16 := SY_15.below hB_16
          have SM_16 := SM_15.below hB_16
          have hbM_16 := hbM_15.next hB_16
          have Osv_16 := Osv_15.below hB_16
          have Psv_16 := Psv_15.below hB_16
          have Opv_16 := Opv_15.below hB_16
          have Ppv_16 := Ppv_15.below hB_16
          have hbel_16 := hbel_15.next hB_16
          have hsz_16 := hB_16.size
          clear S_15 cS_15_0 cS_15_1 cS_15_2 A_15 cA_15_0 cA_15_1 cA_15_2 BX_15 cBX_15_0 cBX_15_1 cBX_15_2 U_15 cU_15_0 cU_15_1 cU_15_2 V_15 cV_15_0 cV_15_1 cV_15_2 OP_15 OD_15 QF_15 QB_15 SY_15 SM_15 hbM_15 Osv_15 Psv_15 Opv_15 Ppv_15 hbel_15 hB_16
          have Oqx_16 := hO
          have ltOqx := hO.ltB
          have Pqx_16 := hO'
          have ltPqx := hO'.ltB
          clear hO hO' hD
          try clear hB
          have hbx := blk_new w16 #[Value.bool (qsg (qw) er), Value.slice qxa qxn qxc, Value.slice qxb qxm qxd] 38
          have hbB := (Below.refl w16.heap.size w16).alloc (Nat.le_refl _) (.cells #[Value.bool (qsg (qw) er), Value.slice qxa qxn qxc, Value.slice qxb qxm qxd] 38)
          have hltX := hbx.lt
          have hBT : Below w16.heap.size w16 (w16.alloc (.cells #[Value.bool (qsg (qw) er), Value.slice qxa qxn qxc, Value.slice qxb qxm qxd] 38)) := hbB
          have T_17 := hid (T_16.out.below hBT)
          have hbT_17 := hbT_16.next hBT
          clear T_16 hbT_16 hBT
          have hB_17 : Below w16.heap.size w16 (w16.alloc (.cells #[Value.bool (qsg (qw) er), Value.slice qxa qxn qxc, Value.slice qxb qxm qxd] 38)) := hbB
          have S_17 := S_16.next hB_17
          have cS_17_0 : _ = some (Value.bool (decide ((fp N).num < 0))) := S_17.cell 0
          have cS_17_1 : _ = some (Value.slice pa pn pc) := S_17.cell 1
          have cS_17_2 : _ = some (Value.slice oa on oc) := S_17.cell 2
          have A_17 := A_16.next hB_17
          have cA_17_0 : _ = some (Value.bool ys1) := A_17.cell 0
          have cA_17_1 : _ = some (Value.slice ya yn yc) := A_17.cell 1
          have cA_17_2 : _ = some (Value.slice yb ym yd) := A_17.cell 2
          have BX_17 := BX_16.next hB_17
          have cBX_17_0 : _ = some (Value.bool ys1) := BX_17.cell 0
          have cBX_17_1 : _ = some (Value.slice xa yn xc) := BX_17.cell 1
          have cBX_17_2 : _ = some (Value.slice xb ym xd) := BX_17.cell 2
          have U_17 := U_16.next hB_17
          have cU_17_0 : _ = some (Value.bool (decide ((fs N).num < 0))) := U_17.cell 0
          have cU_17_1 : _ = some (Value.slice sva svn svc) := U_17.cell 1
          have cU_17_2 : _ = some (Value.slice svb svm svd) := U_17.cell 2
          have V_17 := V_16.next hB_17
          have cV_17_0 : _ = some (Value.bool (decide ((fp N).num < 0))) := V_17.cell 0
          have cV_17_1 : _ = some (Value.slice pva pvn pvc) := V_17.cell 1
          have cV_17_2 : _ = some (Value.slice pvb pvm pvd) := V_17.cell 2
          have OP_17 := OP_16.below hB_17
          have OD_17 := OD_16.below hB_17
          have QF_17 := QF_16.below hB_17
          have QB_17 := QB_16.below hB_17
          have SY_17 := SY_16.below hB_17
          have SM_17 := SM_16.below hB_17
          have hbM_17 := hbM_16.next hB_17
          have Osv_17 := Osv_16.below hB_17
          have Psv_17 := Psv_16.below hB_17
          have Opv_17 := Opv_16.below hB_17
          have Ppv_17 := Ppv_16.below hB_17
          have Oqx_17 := Oqx_16.below hB_17
          have Pqx_17 := Pqx_16.below hB_17
          have hbel_17 := hbel_16.next hB_17
          have hsz_17 := hB_17.size
          clear hB_17
          have X_17 := hbx
          clear hbx hbB
          have cX_17_0 : _ = some (Value.bool (qsg (qw) er)) := X_17.cell 0
          have cX_17_1 : _ = some (Value.slice qxa qxn qxc) := X_17.cell 1
          have cX_17_2 : _ = some (Value.slice qxb qxm qxd) := X_17.cell 2
          go_wp2_with fail
          clear S_16 cS_16_0 cS_16_1 cS_16_2 A_16 cA_16_0 cA_16_1 cA_16_2 BX_16 cBX_16_0 cBX_16_1 cBX_16_2 U_16 cU_16_0 cU_16_1 cU_16_2 V_16 cV_16_0 cV_16_1 cV_16_2 OP_16 OD_16 QF_16 QB_16 SY_16 SM_16 hbM_16 Osv_16 Psv_16 Opv_16 Ppv_16 Oqx_16 Pqx_16 hbel_16
          generalize (w16.alloc (.cells #[Value.bool (qsg (qw) er), Value.slice qxa qxn qxc, Value.slice qxb qxm qxd] 38)) = v17 at *
          go_wp2_with fail
          refine (hRW.out _ _ _ _ _ _ _ _ QF_17).mono ?_
          rintro e w18 ⟨wxa, wxn, wxc, wxb, wxm, wxd, rfl, hO, hO', hD, hB⟩
          have hBT : Below v17.heap.size v17 w18 := (bl.next hB)
          have T_18 := hid (T_17.out.below hBT)
          have hbT_18 := hbT_17.next hBT
          clear T_17 hbT_17 hBT
          have hB_18 : Below v17.heap.size v17 w18 := (bl.next hB)
          have S_18 := S_17.next hB_18
          have cS_18_0 : _ = some (Value.bool (decide ((fp N).num < 0))) := S_18.cell 0
          have cS_18_1 : _ = some (Value.slice pa pn pc) := S_18.cell 1
          have cS_18_2 : _ = some (Value.slice oa on oc) := S_18.cell 2
          have A_18 := A_17.next hB_18
          have cA_18_0 : _ = some (Value.bool ys1) := A_18.cell 0
          have cA_18_1 : _ = some (Value.slice ya yn yc) := A_18.cell 1
          have cA_18_2 : _ = some (Value.slice yb ym yd) := A_18.cell 2
          have BX_18 := BX_17.next hB_18
          have cBX_18_0 : _ = some (Value.bool ys1) := BX_18.cell 0
          have cBX_18_1 : _ = some (Value.slice xa yn xc) := BX_18.cell 1
          have cBX_18_2 : _ = some (Value.slice xb ym xd) := BX_18.cell 2
          have U_18 := U_17.next hB_18
          have cU_18_0 : _ = some (Value.bool (decide ((fs N).num < 0))) := U_18.cell 0
          have cU_18_1 : _ = some (Value.slice sva svn svc) := U_18.cell 1
          have cU_18_2 : _ = some (Value.slice svb svm svd) := U_18.cell 2
          have V_18 := V_17.next hB_18
          have cV_18_0 : _ = some (Value.bool (decide ((fp N).num < 0))) := V_18.cell 0
          have cV_18_1 : _ = some (Value.slice pva pvn pvc) := V_18.cell 1
          have cV_18_2 : _ = some (Value.slice pvb pvm pvd) := V_18.cell 2
          have X_18 := X_17.next hB_18
          have cX_18_0 : _ = some (Value.bool (qsg (qw) er)) := X_18.cell 0
          have cX_18_1 : _ = some (Value.slice qxa qxn qxc) := X_18.cell 1
          have cX_18_2 : _ = some (Value.slice qxb qxm qxd) := X_18.cell 2
          have OP_18 := OP_17.below hB_18
          have OD_18 := OD_17.below hB_18
          have QF_18 := QF_17.below hB_18
          have QB_18 := QB_17.below hB_18
          have SY_18 := SY_17.below hB_18
          have SM_18 := SM_17.below hB_18
          have hbM_18 := hbM_17.next hB_18
          have Osv_18 := Osv_17.below hB_18
          have Psv_18 := Psv_17.below hB_18
          have Opv_18 := Opv_17.below hB_18
          have Ppv_18 := Ppv_17.below hB_18
          have Oqx_18 := Oqx_17.below hB_18
          have Pqx_18 := Pqx_17.below hB_18
          have hbel_18 := hbel_17.next hB_18
          have hsz_18 := hB_18.size
          clear S_17 cS_17_0 cS_17_1 cS_17_2 A_17 cA_17_0 cA_17_1 cA_17_2 BX_17 cBX_17_0 cBX_17_1 cBX_17_2 U_17 cU_17_0 cU_17_1 cU_17_2 V_17 cV_17_0 cV_17_1 cV_17_2 X_17 cX_17_0 cX_17_1 cX_17_2 OP_17 OD_17 QF_17 QB_17 SY_17 SM_17 hbM_17 Osv_17 Psv_17 Opv_17 Ppv_17 Oqx_17 Pqx_17 hbel_17 hB_18
          have Owx_18 := hO
          have ltOwx := hO.ltB
          have Pwx_18 := hO'
          have ltPwx := hO'.ltB
          clear hO hO' hD
          try clear hB
          have hbx := blk_new w18 #[Value.bool (qsg (qw) er), Value.slice wxa wxn wxc, Value.slice wxb wxm wxd] 38
          have hbB := (Below.refl w18.heap.size w18).alloc (Nat.le_refl _) (.cells #[Value.bool (qsg (qw) er), Value.slice wxa wxn wxc, Value.slice wxb wxm wxd] 38)
          have hltW := hbx.lt
          have hBT : Below w18.heap.size w18 (w18.alloc (.cells #[Value.bool (qsg (qw) er), Value.slice wxa wxn wxc, Value.slice wxb wxm wxd] 38)) := hbB
          have T_19 := hid (T_18.out.below hBT)
          have hbT_19 := hbT_18.next hBT
          clear T_18 hbT_18 hBT
          have hB_19 : Below w18.heap.size w18 (w18.alloc (.cells #[Value.bool (qsg (qw) er), Value.slice wxa wxn wxc, Value.slice wxb wxm wxd] 38)) := hbB
          have S_19 := S_18.next hB_19
          have cS_19_0 : _ = some (Value.bool (decide ((fp N).num < 0))) := S_19.cell 0
          have cS_19_1 : _ = some (Value.slice pa pn pc) := S_19.cell 1
          have cS_19_2 : _ = some (Value.slice oa on oc) := S_19.cell 2
          have A_19 := A_18.next hB_19
          have cA_19_0 : _ = some (Value.bool ys1) := A_19.cell 0
          have cA_19_1 : _ = some (Value.slice ya yn yc) := A_19.cell 1
          have cA_19_2 : _ = some (Value.slice yb ym yd) := A_19.cell 2
          have BX_19 := BX_18.next hB_19
          have cBX_19_0 : _ = some (Value.bool ys1) := BX_19.cell 0
          have cBX_19_1 : _ = some (Value.slice xa yn xc) := BX_19.cell 1
          have cBX_19_2 : _ = some (Value.slice xb ym xd) := BX_19.cell 2
          have U_19 := U_18.next hB_19
          have cU_19_0 : _ = some (Value.bool (decide ((fs N).num < 0))) := U_19.cell 0
          have cU_19_1 : _ = some (Value.slice sva svn svc) := U_19.cell 1
          have cU_19_2 : _ = some (Value.slice svb svm svd) := U_19.cell 2
          have V_19 := V_18.next hB_19
          have cV_19_0 : _ = some (Value.bool (decide ((fp N).num < 0))) := V_19.cell 0
          have cV_19_1 : _ = some (Value.slice pva pvn pvc) := V_19.cell 1
          have cV_19_2 : _ = some (Value.slice pvb pvm pvd) := V_19.cell 2
          have X_19 := X_18.next hB_19
          have cX_19_0 : _ = some (Value.bool (qsg (qw) er)) := X_19.cell 0
          have cX_19_1 : _ = some (Value.slice qxa qxn qxc) := X_19.cell 1
          have cX_19_2 : _ = some (Value.slice qxb qxm qxd) := X_19.cell 2
          have OP_19 := OP_18.below hB_19
          have OD_19 := OD_18.below hB_19
          have QF_19 := QF_18.below hB_19
          have QB_19 := QB_18.below hB_19
          have SY_19 := SY_18.below hB_19
          have SM_19 := SM_18.below hB_19
          have hbM_19 := hbM_18.next hB_19
          have Osv_19 := Osv_18.below hB_19
          have Psv_19 := Psv_18.below hB_19
          have Opv_19 := Opv_18.below hB_19
          have Ppv_19 := Ppv_18.below hB_19
          have Oqx_19 := Oqx_18.below hB_19
          have Pqx_19 := Pqx_18.below hB_19
          have Owx_19 := Owx_18.below hB_19
          have Pwx_19 := Pwx_18.below hB_19
          have hbel_19 := hbel_18.next hB_19
          have hsz_19 := hB_19.size
          clear hB_19
          have W_19 := hbx
          clear hbx hbB
          have cW_19_0 : _ = some (Value.bool (qsg (qw) er)) := W_19.cell 0
          have cW_19_1 : _ = some (Value.slice wxa wxn wxc) := W_19.cell 1
          have cW_19_2 : _ = some (Value.slice wxb wxm wxd) := W_19.cell 2
          have hz19 := hid (show (w18.alloc (.cells #[Value.bool (qsg (qw) er), Value.slice wxa wxn wxc, Value.slice wxb wxm wxd] 38)).heap.size = w18.heap.size + 1 from by simp)
          go_wp2_with fail
          clear S_18 cS_18_0 cS_18_1 cS_18_2 A_18 cA_18_0 cA_18_1 cA_18_2 BX_18 cBX_18_0 cBX_18_1 cBX_18_2 U_18 cU_18_0 cU_18_1 cU_18_2 V_18 cV_18_0 cV_18_1 cV_18_2 X_18 cX_18_0 cX_18_1 cX_18_2 OP_18 OD_18 QF_18 QB_18 SY_18 SM_18 hbM_18 Osv_18 Psv_18 Opv_18 Ppv_18 Oqx_18 Pqx_18 Owx_18 Pwx_18 hbel_18
          generalize (w18.alloc (.cells #[Value.bool (qsg (qw) er), Value.slice wxa wxn wxc, Value.slice wxb wxm wxd] 38)) = v19 at *
          have hbx := blk_new v19 #[Value.bool (decide ((fs N).num < 0)), Value.slice sva svn svc, Value.slice svb svm svd, Value.bool (decide ((fp N).num < 0)), Value.slice pva pvn pvc, Value.slice pvb pvm pvd, Value.bool (qsg (qw) er), Value.slice qxa qxn qxc, Value.slice qxb qxm qxd] 38
          have hbB := (Below.refl v19.heap.size v19).alloc (Nat.le_refl _) (.cells #[Value.bool (decide ((fs N).num < 0)), Value.slice sva svn svc, Value.slice svb svm svd, Value.bool (decide ((fp N).num < 0)), Value.slice pva pvn pvc, Value.slice pvb pvm pvd, Value.bool (qsg (qw) er), Value.slice qxa qxn qxc, Value.slice qxb qxm qxd] 38)
          have hltGOT := hbx.lt
          have hBT : Below v19.heap.size v19 (v19.alloc (.cells #[Value.bool (decide ((fs N).num < 0)), Value.slice sva svn svc, Value.slice svb svm svd, Value.bool (decide ((fp N).num < 0)), Value.slice pva pvn pvc, Value.slice pvb pvm pvd, Value.bool (qsg (qw) er), Value.slice qxa qxn qxc, Value.slice qxb qxm qxd] 38)) := hbB
          have T_20 := hid (T_19.out.below hBT)
          have hbT_20 := hbT_19.next hBT
          clear T_19 hbT_19 hBT
          have hB_20 : Below v19.heap.size v19 (v19.alloc (.cells #[Value.bool (decide ((fs N).num < 0)), Value.slice sva svn svc, Value.slice svb svm svd, Value.bool (decide ((fp N).num < 0)), Value.slice pva pvn pvc, Value.slice pvb pvm pvd, Value.bool (qsg (qw) er), Value.slice qxa qxn qxc, Value.slice qxb qxm qxd] 38)) := hbB
          have S_20 := S_19.next hB_20
          have cS_20_0 : _ = some (Value.bool (decide ((fp N).num < 0))) := S_20.cell 0
          have cS_20_1 : _ = some (Value.slice pa pn pc) := S_20.cell 1
          have cS_20_2 : _ = some (Value.slice oa on oc) := S_20.cell 2
          have A_20 := A_19.next hB_20
          have cA_20_0 : _ = some (Value.bool ys1) := A_20.cell 0
          have cA_20_1 : _ = some (Value.slice ya yn yc) := A_20.cell 1
          have cA_20_2 : _ = some (Value.slice yb ym yd) := A_20.cell 2
          have BX_20 := BX_19.next hB_20
          have cBX_20_0 : _ = some (Value.bool ys1) := BX_20.cell 0
          have cBX_20_1 : _ = some (Value.slice xa yn xc) := BX_20.cell 1
          have cBX_20_2 : _ = some (Value.slice xb ym xd) := BX_20.cell 2
          have U_20 := U_19.next hB_20
          have cU_20_0 : _ = some (Value.bool (decide ((fs N).num < 0))) := U_20.cell 0
          have cU_20_1 : _ = some (Value.slice sva svn svc) := U_20.cell 1
          have cU_20_2 : _ = some (Value.slice svb svm svd) := U_20.cell 2
          have V_20 := V_19.next hB_20
          have cV_20_0 : _ = some (Value.bool (decide ((fp N).num < 0))) := V_20.cell 0
          have cV_20_1 : _ = some (Value.slice pva pvn pvc) := V_20.cell 1
          have cV_20_2 : _ = some (Value.slice pvb pvm pvd) := V_20.cell 2
          have X_20 := X_19.next hB_20
          have cX_20_0 : _ = some (Value.bool (qsg (qw) er)) := X_20.cell 0
          have cX_20_1 : _ = some (Value.slice qxa qxn qxc) := X_20.cell 1
          have cX_20_2 : _ = some (Value.slice qxb qxm qxd) := X_20.cell 2
          have W_20 := W_19.next hB_20
          have cW_20_0 : _ = some (Value.bool (qsg (qw) er)) := W_20.cell 0
          have cW_20_1 : _ = some (Value.slice wxa wxn wxc) := W_20.cell 1
          have cW_20_2 : _ = some (Value.slice wxb wxm wxd) := W_20.cell 2
          have OP_20 := OP_19.below hB_20
          have OD_20 := OD_19.below hB_20
          have QF_20 := QF_19.below hB_20
          have QB_20 := QB_19.below hB_20
          have SY_20 := SY_19.below hB_20
          have SM_20 := SM_19.below hB_20
          have hbM_20 := hbM_19.next hB_20
          have Osv_20 := Osv_19.below hB_20
          have Psv_20 := Psv_19.below hB_20
          have Opv_20 := Opv_19.below hB_20
          have Ppv_20 := Ppv_19.below hB_20
          have Oqx_20 := Oqx_19.below hB_20
          have Pqx_20 := Pqx_19.below hB_20
          have Owx_20 := Owx_19.below hB_20
          have Pwx_20 := Pwx_19.below hB_20
          have hbel_20 := hbel_19.next hB_20
          have hsz_20 := hB_20.size
          clear hB_20
          have GOT_20 := hbx
          clear hbx hbB
          have cGOT_20_0 : _ = some (Value.bool (decide ((fs N).num < 0))) := GOT_20.cell 0
          have cGOT_20_1 : _ = some (Value.slice sva svn svc) := GOT_20.cell 1
          have cGOT_20_2 : _ = some (Value.slice svb svm svd) := GOT_20.cell 2
          have cGOT_20_3 : _ = some (Value.bool (decide ((fp N).num < 0))) := GOT_20.cell 3
          have cGOT_20_4 : _ = some (Value.slice pva pvn pvc) := GOT_20.cell 4
          have cGOT_20_5 : _ = some (Value.slice pvb pvm pvd) := GOT_20.cell 5
          have cGOT_20_6 : _ = some (Value.bool (qsg (qw) er)) := GOT_20.cell 6
          have cGOT_20_7 : _ = some (Value.slice qxa qxn qxc) := GOT_20.cell 7
          have cGOT_20_8 : _ = some (Value.slice qxb qxm qxd) := GOT_20.cell 8
          go_wp2_with fail
          clear S_19 cS_19_0 cS_19_1 cS_19_2 A_19 cA_19_0 cA_19_1 cA_19_2 BX_19 cBX_19_0 cBX_19_1 cBX_19_2 U_19 cU_19_0 cU_19_1 cU_19_2 V_19 cV_19_0 cV_19_1 cV_19_2 X_19 cX_19_0 cX_19_1 cX_19_2 W_19 cW_19_0 cW_19_1 cW_19_2 OP_19 OD_19 QF_19 QB_19 SY_19 SM_19 hbM_19 Osv_19 Psv_19 Opv_19 Ppv_19 Oqx_19 Pqx_19 Owx_19 Pwx_19 hbel_19
          generalize (v19.alloc (.cells #[Value.bool (decide ((fs N).num < 0)), Value.slice sva svn svc, Value.slice svb svm svd, Value.bool (decide ((fp N).num < 0)), Value.slice pva pvn pvc, Value.slice pvb pvm pvd, Value.bool (qsg (qw) er), Value.slice qxa qxn qxc, Value.slice qxb qxm qxd] 38)) = v20 at *
          rw [hz19.out] at GOT_20 cGOT_20_0 cGOT_20_1 cGOT_20_2 cGOT_20_3 cGOT_20_4 cGOT_20_5 cGOT_20_6 cGOT_20_7 cGOT_20_8
          go_wp2_with fail
          go_region_held3 (fun w' => w'.cell? ⟨gS, 0, none⟩ = some (Value.bool (decide ((fp N).num < 0))) ∧ w'.cell? ⟨gS, 1, none⟩ = some (Value.slice pa pn pc) ∧ w'.cell? ⟨gS, 2, none⟩ = some (Value.slice oa on oc) ∧ w'.cell? ⟨w18.heap.size, 0, none⟩ = some (Value.bool (qsg (qw) er)) ∧ w'.cell? ⟨w18.heap.size, 1, none⟩ = some (Value.slice wxa wxn wxc) ∧ w'.cell? ⟨w18.heap.size, 2, none⟩ = some (Value.slice wxb wxm wxd))
            (first | with_reducible exact ⟨cS_20_0, cS_20_1, cS_20_2, cW_20_0, cW_20_1, cW_20_2⟩ | with_reducible exact ⟨cS_21_0, cS_21_1, cS_21_2, cW_21_0, cW_21_1, cW_21_2⟩ | go_keep)
            (first
              | (go_at_call 27; ((with_reducible refine (rqsum (SY_20.below bl) (by omega) (by omega)).mono ?_); (rw [hfsn.out]; rintro e w21 ⟨zva, zvn, zvc, zvb, zvm, zvd, rfl, hO, hO', hD, hB⟩; have hBT : Below v20.heap.size v20 w21 := (bl.next hB); have T_21 := hid (T_20.out.below hBT); have hbT_21 := hbT_20.next hBT; clear T_20 hbT_20 hBT; have hB_21 : Below v20.heap.size v20 w21 := (bl.next hB); have S_21 := S_20.next hB_21; have cS_21_0 : _ = some (Value.bool (decide ((fp N).num < 0))) := S_21.cell 0; have cS_21_1 : _ = some (Value.slice pa pn pc) := S_21.cell 1; have cS_21_2 : _ = some (Value.slice oa on oc) := S_21.cell 2; have A_21 := A_20.next hB_21; have cA_21_0 : _ = some (Value.bool ys1) := A_21.cell 0; have cA_21_1 : _ = some (Value.slice ya yn yc) := A_21.cell 1; have cA_21_2 : _ = some (Value.slice yb ym yd) := A_21.cell 2; have BX_21 := BX_20.next hB_21; have cBX_21_0 : _ = some (Value.bool ys1) := BX_21.cell 0; have cBX_21_1 : _ = some (Value.slice xa yn xc) := BX_21.cell 1; have cBX_21_2 : _ = some (Value.slice xb ym xd) := BX_21.cell 2; have U_21 := U_20.next hB_21; have cU_21_0 : _ = some (Value.bool (decide ((fs N).num < 0))) := U_21.cell 0; have cU_21_1 : _ = some (Value.slice sva svn svc) := U_21.cell 1; have cU_21_2 : _ = some (Value.slice svb svm svd) := U_21.cell 2; have V_21 := V_20.next hB_21; have cV_21_0 : _ = some (Value.bool (decide ((fp N).num < 0))) := V_21.cell 0; have cV_21_1 : _ = some (Value.slice pva pvn pvc) := V_21.cell 1; have cV_21_2 : _ = some (Value.slice pvb pvm pvd) := V_21.cell 2; have X_21 := X_20.next hB_21; have cX_21_0 : _ = some (Value.bool (qsg (qw) er)) := X_21.cell 0; have cX_21_1 : _ = some (Value.slice qxa qxn qxc) := X_21.cell 1; have cX_21_2 : _ = some (Value.slice qxb qxm qxd) := X_21.cell 2; have W_21 := W_20.next hB_21; have cW_21_0 : _ = some (Value.bool (qsg (qw) er)) := W_21.cell 0; have cW_21_1 : _ = some (Value.slice wxa wxn wxc) := W_21.cell 1; have cW_21_2 : _ = some (Value.slice wxb wxm wxd) := W_21.cell 2; have GOT_21 := GOT_20.next hB_21; have cGOT_21_0 : _ = some (Value.bool (decide ((fs N).num < 0))) := GOT_21.cell 0; have cGOT_21_1 : _ = some (Value.slice sva svn svc) := GOT_21.cell 1; have cGOT_21_2 : _ = some (Value.slice svb svm svd) := GOT_21.cell 2; have cGOT_21_3 : _ = some (Value.bool (decide ((fp N).num < 0))) := GOT_21.cell 3; have cGOT_21_4 : _ = some (Value.slice pva pvn pvc) := GOT_21.cell 4; have cGOT_21_5 : _ = some (Value.slice pvb pvm pvd) := GOT_21.cell 5; have cGOT_21_6 : _ = some (Value.bool (qsg (qw) er)) := GOT_21.cell 6; have cGOT_21_7 : _ = some (Value.slice qxa qxn qxc) := GOT_21.cell 7; have cGOT_21_8 : _ = some (Value.slice qxb qxm qxd) := GOT_21.cell 8; have OP_21 := OP_20.below hB_21; have OD_21 := OD_20.below hB_21; have QF_21 := QF_20.below hB_21; have QB_21 := QB_20.below hB_21; have SY_21 := SY_20.below hB_21; have SM_21 := SM_20.below hB_21; have hbM_21 := hbM_20.next hB_21; have Osv_21 := Osv_20.below hB_21; have Psv_21 := Psv_20.below hB_21; have Opv_21 := Opv_20.below hB_21; have Ppv_21 := Ppv_20.below hB_21; have Oqx_21 := Oqx_20.below hB_21; have Pqx_21 := Pqx_20.below hB_21; have Owx_21 := Owx_20.below hB_21; have Pwx_21 := Pwx_20.below hB_21; have hbel_21 := hbel_20.next hB_21; have hsz_21 := hB_21.size; clear S_20 cS_20_0 cS_20_1 cS_20_2 A_20 cA_20_0 cA_20_1 cA_20_2 BX_20 cBX_20_0 cBX_20_1 cBX_20_2 U_20 cU_20_0 cU_20_1 cU_20_2 V_20 cV_20_0 cV_20_1 cV_20_2 X_20 cX_20_0 cX_20_1 cX_20_2 W_20 cW_20_0 cW_20_1 cW_20_2 GOT_20 cGOT_20_0 cGOT_20_1 cGOT_20_2 cGOT_20_3 cGOT_20_4 cGOT_20_5 cGOT_20_6 cGOT_20_7 cGOT_20_8 OP_20 OD_20 QF_20 QB_20 SY_20 SM_20 hbM_20 Osv_20 Psv_20 Opv_20 Ppv_20 Oqx_20 Pqx_20 Owx_20 Pwx_20 hbel_20 hB_21; have Ozv_21 := hO; have ltOzv := hO.ltB; have Pzv_21 := hO'; have ltPzv := hO'.ltB; clear hO hO' hD; try clear hB))))
          have hbx := blk_new w21 #[Value.bool (decide ((fs N).num < 0)), Value.slice zva zvn zvc, Value.slice zvb zvm zvd, Value.bool (decide ((fp N).num < 0)), Value.slice pa pn pc, Value.slice oa on oc, Value.bool (qsg (qw) er), Value.slice wxa wxn wxc, Value.slice wxb wxm wxd] 38
          have hbB := (Below.refl w21.heap.size w21).alloc (Nat.le_refl _) (.cells #[Value.bool (decide ((fs N).num < 0)), Value.slice zva zvn zvc, Value.slice zvb zvm zvd, Value.bool (decide ((fp N).num < 0)), Value.slice pa pn pc, Value.slice oa on oc, Value.bool (qsg (qw) er), Value.slice wxa wxn wxc, Value.slice wxb wxm wxd] 38)
          have hltWANT := hbx.lt
          have hBT : Below w21.heap.size w21 (w21.alloc (.cells #[Value.bool (decide ((fs N).num < 0)), Value.slice zva zvn zvc, Value.slice zvb zvm zvd, Value.bool (decide ((fp N).num < 0)), Value.slice pa pn pc, Value.slice oa on oc, Value.bool (qsg (qw) er), Value.slice wxa wxn wxc, Value.slice wxb wxm wxd] 38)) := hbB
          have T_22 := hid (T_21.out.below hBT)
          have hbT_22 := hbT_21.next hBT
          clear T_21 hbT_21 hBT
          have hB_22 : Below w21.heap.size w21 (w21.alloc (.cells #[Value.bool (decide ((fs N).num < 0)), Value.slice zva zvn zvc, Value.slice zvb zvm zvd, Value.bool (decide ((fp N).num < 0)), Value.slice pa pn pc, Value.slice oa on oc, Value.bool (qsg (qw) er), Value.slice wxa wxn wxc, Value.slice wxb wxm wxd] 38)) := hbB
          have S_22 := S_21.next hB_22
          have cS_22_0 : _ = some (Value.bool (decide ((fp N).num < 0))) := S_22.cell 0
          have cS_22_1 : _ = some (Value.slice pa pn pc) := S_22.cell 1
          have cS_22_2 : _ = some (Value.slice oa on oc) := S_22.cell 2
          have A_22 := A_21.next hB_22
          have cA_22_0 : _ = some (Value.bool ys1) := A_22.cell 0
          have cA_22_1 : _ = some (Value.slice ya yn yc) := A_22.cell 1
          have cA_22_2 : _ = some (Value.slice yb ym yd) := A_22.cell 2
          have BX_22 := BX_21.next hB_22
          have cBX_22_0 : _ = some (Value.bool ys1) := BX_22.cell 0
          have cBX_22_1 : _ = some (Value.slice xa yn xc) := BX_22.cell 1
          have cBX_22_2 : _ = some (Value.slice xb ym xd) := BX_22.cell 2
          have U_22 := U_21.next hB_22
          have cU_22_0 : _ = some (Value.bool (decide ((fs N).num < 0))) := U_22.cell 0
          have cU_22_1 : _ = some (Value.slice sva svn svc) := U_22.cell 1
          have cU_22_2 : _ = some (Value.slice svb svm svd) := U_22.cell 2
          have V_22 := V_21.next hB_22
          have cV_22_0 : _ = some (Value.bool (decide ((fp N).num < 0))) := V_22.cell 0
          have cV_22_1 : _ = some (Value.slice pva pvn pvc) := V_22.cell 1
          have cV_22_2 : _ = some (Value.slice pvb pvm pvd) := V_22.cell 2
          have X_22 := X_21.next hB_22
          have cX_22_0 : _ = some (Value.bool (qsg (qw) er)) := X_22.cell 0
          have cX_22_1 : _ = some (Value.slice qxa qxn qxc) := X_22.cell 1
          have cX_22_2 : _ = some (Value.slice qxb qxm qxd) := X_22.cell 2
          have W_22 := W_21.next hB_22
          have cW_22_0 : _ = some (Value.bool (qsg (qw) er)) := W_22.cell 0
          have cW_22_1 : _ = some (Value.slice wxa wxn wxc) := W_22.cell 1
          have cW_22_2 : _ = some (Value.slice wxb wxm wxd) := W_22.cell 2
          have GOT_22 := GOT_21.next hB_22
          have cGOT_22_0 : _ = some (Value.bool (decide ((fs N).num < 0))) := GOT_22.cell 0
          have cGOT_22_1 : _ = some (Value.slice sva svn svc) := GOT_22.cell 1
          have cGOT_22_2 : _ = some (Value.slice svb svm svd) := GOT_22.cell 2
          have cGOT_22_3 : _ = some (Value.bool (decide ((fp N).num < 0))) := GOT_22.cell 3
          have cGOT_22_4 : _ = some (Value.slice pva pvn pvc) := GOT_22.cell 4
          have cGOT_22_5 : _ = some (Value.slice pvb pvm pvd) := GOT_22.cell 5
          have cGOT_22_6 : _ = some (Value.bool (qsg (qw) er)) := GOT_22.cell 6
          have cGOT_22_7 : _ = some (Value.slice qxa qxn qxc) := GOT_22.cell 7
          have cGOT_22_8 : _ = some (Value.slice qxb qxm qxd) := GOT_22.cell 8
          have OP_22 := OP_21.below hB_22
          have OD_22 := OD_21.below hB_22
          have QF_22 := QF_21.below hB_22
          have QB_22 := QB_21.below hB_22
          have SY_22 := SY_21.below hB_22
          have SM_22 := SM_21.below hB_22
          have hbM_22 := hbM_21.next hB_22
          have Osv_22 := Osv_21.below hB_22
          have Psv_22 := Psv_21.below hB_22
          have Opv_22 := Opv_21.below hB_22
          have Ppv_22 := Ppv_21.below hB_22
          have Oqx_22 := Oqx_21.below hB_22
          have Pqx_22 := Pqx_21.below hB_22
          have Owx_22 := Owx_21.below hB_22
          have Pwx_22 := Pwx_21.below hB_22
          have Ozv_22 := Ozv_21.below hB_22
          have Pzv_22 := Pzv_21.below hB_22
          have hbel_22 := hbel_21.next hB_22
          have hsz_22 := hB_22.size
          clear hB_22
          have WANT_22 := hbx
          clear hbx hbB
          have cWANT_22_0 : _ = some (Value.bool (decide ((fs N).num < 0))) := WANT_22.cell 0
          have cWANT_22_1 : _ = some (Value.slice zva zvn zvc) := WANT_22.cell 1
          have cWANT_22_2 : _ = some (Value.slice zvb zvm zvd) := WANT_22.cell 2
          have cWANT_22_3 : _ = some (Value.bool (decide ((fp N).num < 0))) := WANT_22.cell 3
          have cWANT_22_4 : _ = some (Value.slice pa pn pc) := WANT_22.cell 4
          have cWANT_22_5 : _ = some (Value.slice oa on oc) := WANT_22.cell 5
          have cWANT_22_6 : _ = some (Value.bool (qsg (qw) er)) := WANT_22.cell 6
          have cWANT_22_7 : _ = some (Value.slice wxa wxn wxc) := WANT_22.cell 7
          have cWANT_22_8 : _ = some (Value.slice wxb wxm wxd) := WANT_22.cell 8
          go_wp2_with fail
          clear S_21 cS_21_0 cS_21_1 cS_21_2 A_21 cA_21_0 cA_21_1 cA_21_2 BX_21 cBX_21_0 cBX_21_1 cBX_21_2 U_21 cU_21_0 cU_21_1 cU_21_2 V_21 cV_21_0 cV_21_1 cV_21_2 X_21 cX_21_0 cX_21_1 cX_21_2 W_21 cW_21_0 cW_21_1 cW_21_2 GOT_21 cGOT_21_0 cGOT_21_1 cGOT_21_2 cGOT_21_3 cGOT_21_4 cGOT_21_5 cGOT_21_6 cGOT_21_7 cGOT_21_8 OP_21 OD_21 QF_21 QB_21 SY_21 SM_21 hbM_21 Osv_21 Psv_21 Opv_21 Ppv_21 Oqx_21 Pqx_21 Owx_21 Pwx_21 Ozv_21 Pzv_21 hbel_21
          generalize (w21.alloc (.cells #[Value.bool (decide ((fs N).num < 0)), Value.slice zva zvn zvc, Value.slice zvb zvm zvd, Value.bool (decide ((fp N).num < 0)), Value.slice pa pn pc, Value.slice oa on oc, Value.bool (qsg (qw) er), Value.slice wxa wxn wxc, Value.slice wxb wxm wxd] 38)) = v22 at *
          have RG_22 := qrow_of (xs := ([⟨decide ((fs N).num < 0), sva, svn, svc, lm (fs N).num.natAbs, svb, svm, svd, lm (fs N).den⟩, ⟨decide ((fp N).num < 0), pva, pvn, pvc, lm (fp N).num.natAbs, pvb, pvm, pvd, lm (fp N).den⟩, ⟨qsg qw er, qxa, qxn, qxc, qnl qw er, qxb, qxm, qxd, qdl qw er⟩] : List QA)) (N := 3) GOT_22 rfl rfl (List.forall_mem_cons.2 ⟨⟨Osv_22.rd, Psv_22.rd⟩, List.forall_mem_cons.2 ⟨⟨Opv_22.rd, Ppv_22.rd⟩, List.forall_mem_cons.2 ⟨⟨Oqx_22.rd, Pqx_22.rd⟩, fun z hz => (by cases hz)⟩⟩⟩)
          have RW_22 := qrow_of (xs := ([⟨decide ((fs N).num < 0), zva, zvn, zvc, lm (fs N).num.natAbs, zvb, zvm, zvd, lm (fs N).den⟩, ⟨decide ((fp N).num < 0), pa, pn, pc, lm (fp N).num.natAbs, oa, on, oc, lm (fp N).den⟩, ⟨qsg qw er, wxa, wxn, wxc, qnl qw er, wxb, wxm, wxd, qdl qw er⟩] : List QA)) (N := 3) WANT_22 rfl rfl (List.forall_mem_cons.2 ⟨⟨Ozv_22.rd, Pzv_22.rd⟩, List.forall_mem_cons.2 ⟨⟨OP_22.rd, OD_22.rd⟩, List.forall_mem_cons.2 ⟨⟨Owx_22.rd, Pwx_22.rd⟩, fun z hz => (by cases hz)⟩⟩⟩)
          have hQS : Hid (QSame 3 ([⟨decide ((fs N).num < 0), sva, svn, svc, lm (fs N).num.natAbs, svb, svm, svd, lm (fs N).den⟩, ⟨decide ((fp N).num < 0), pva, pvn, pvc, lm (fp N).num.natAbs, pvb, pvm, pvd, lm (fp N).den⟩, ⟨qsg qw er, qxa, qxn, qxc, qnl qw er, qxb, qxm, qxd, qdl qw er⟩] : List QA) ([⟨decide ((fs N).num < 0), zva, zvn, zvc, lm (fs N).num.natAbs, zvb, zvm, zvd, lm (fs N).den⟩, ⟨decide ((fp N).num < 0), pa, pn, pc, lm (fp N).num.natAbs, oa, on, oc, lm (fp N).den⟩, ⟨qsg qw er, wxa, wxn, wxc, qnl qw er, wxb, wxm, wxd, qdl qw er⟩] : List QA)) := by
            intro i hi
            rcases (by omega : i = 0 ∨ i = 1 ∨ i = 2) with rfl | rfl | rfl <;> exact ⟨rfl, rfl, rfl⟩
          clear Osv_22
          clear Psv_22
          clear Opv_22
          clear Ppv_22
          clear Oqx_22
          clear Pqx_22
          clear Ozv_22
          clear Pzv_22
          clear OP_22
          clear OD_22
          clear Owx_22
          clear Pwx_22
          generalize hxs : ([⟨decide ((fs N).num < 0), sva, svn, svc, lm (fs N).num.natAbs, svb, svm, svd, lm (fs N).den⟩, ⟨decide ((fp N).num < 0), pva, pvn, pvc, lm (fp N).num.natAbs, pvb, pvm, pvd, lm (fp N).den⟩, ⟨qsg qw er, qxa, qxn, qxc, qnl qw er, qxb, qxm, qxd, qdl qw er⟩] : List QA) = xs' at *
          generalize ([⟨decide ((fs N).num < 0), zva, zvn, zvc, lm (fs N).num.natAbs, zvb, zvm, zvd, lm (fs N).den⟩, ⟨decide ((fp N).num < 0), pa, pn, pc, lm (fp N).num.natAbs, oa, on, oc, lm (fp N).den⟩, ⟨qsg qw er, wxa, wxn, wxc, qnl qw er, wxb, wxm, wxd, qdl qw er⟩] : List QA) = ys' at *
          clear hxs
          go_wp2_with fail
          refine (samelist RG_22 RW_22 hQS.out (by omega)).mono ?_
          rintro e w23 ⟨rfl, hB⟩
          have hBT : Below v22.heap.size v22 w23 := (bl.next hB)
          have T_23 := hid (T_22.out.below hBT)
          have hbT_23 := hbT_22.next hBT
          clear T_22 hbT_22 hBT
          have hB_23 : Below v22.heap.size v22 w23 := (bl.next hB)
          have S_23 := S_22.next hB_23
          have cS_23_0 : _ = some (Value.bool (decide ((fp N).num < 0))) := S_23.cell 0
          have cS_23_1 : _ = some (Value.slice pa pn pc) := S_23.cell 1
          have cS_23_2 : _ = some (Value.slice oa on oc) := S_23.cell 2
          have A_23 := A_22.next hB_23
          have cA_23_0 : _ = some (Value.bool ys1) := A_23.cell 0
          have cA_23_1 : _ = some (Value.slice ya yn yc) := A_23.cell 1
          have cA_23_2 : _ = some (Value.slice yb ym yd) := A_23.cell 2
          have BX_23 := BX_22.next hB_23
          have cBX_23_0 : _ = some (Value.bool ys1) := BX_23.cell 0
          have cBX_23_1 : _ = some (Value.slice xa yn xc) := BX_23.cell 1
          have cBX_23_2 : _ = some (Value.slice xb ym xd) := BX_23.cell 2
          have U_23 := U_22.next hB_23
          have cU_23_0 : _ = some (Value.bool (decide ((fs N).num < 0))) := U_23.cell 0
          have cU_23_1 : _ = some (Value.slice sva svn svc) := U_23.cell 1
          have cU_23_2 : _ = some (Value.slice svb svm svd) := U_23.cell 2
          have V_23 := V_22.next hB_23
          have cV_23_0 : _ = some (Value.bool (decide ((fp N).num < 0))) := V_23.cell 0
          have cV_23_1 : _ = some (Value.slice pva pvn pvc) := V_23.cell 1
          have cV_23_2 : _ = some (Value.slice pvb pvm pvd) := V_23.cell 2
          have X_23 := X_22.next hB_23
          have cX_23_0 : _ = some (Value.bool (qsg (qw) er)) := X_23.cell 0
          have cX_23_1 : _ = some (Value.slice qxa qxn qxc) := X_23.cell 1
          have cX_23_2 : _ = some (Value.slice qxb qxm qxd) := X_23.cell 2
          have W_23 := W_22.next hB_23
          have cW_23_0 : _ = some (Value.bool (qsg (qw) er)) := W_23.cell 0
          have cW_23_1 : _ = some (Value.slice wxa wxn wxc) := W_23.cell 1
          have cW_23_2 : _ = some (Value.slice wxb wxm wxd) := W_23.cell 2
          have GOT_23 := GOT_22.next hB_23
          have cGOT_23_0 : _ = some (Value.bool (decide ((fs N).num < 0))) := GOT_23.cell 0
          have cGOT_23_1 : _ = some (Value.slice sva svn svc) := GOT_23.cell 1
          have cGOT_23_2 : _ = some (Value.slice svb svm svd) := GOT_23.cell 2
          have cGOT_23_3 : _ = some (Value.bool (decide ((fp N).num < 0))) := GOT_23.cell 3
          have cGOT_23_4 : _ = some (Value.slice pva pvn pvc) := GOT_23.cell 4
          have cGOT_23_5 : _ = some (Value.slice pvb pvm pvd) := GOT_23.cell 5
          have cGOT_23_6 : _ = some (Value.bool (qsg (qw) er)) := GOT_23.cell 6
          have cGOT_23_7 : _ = some (Value.slice qxa qxn qxc) := GOT_23.cell 7
          have cGOT_23_8 : _ = some (Value.slice qxb qxm qxd) := GOT_23.cell 8
          have WANT_23 := WANT_22.next hB_23
          have cWANT_23_0 : _ = some (Value.bool (decide ((fs N).num < 0))) := WANT_23.cell 0
          have cWANT_23_1 : _ = some (Value.slice zva zvn zvc) := WANT_23.cell 1
          have cWANT_23_2 : _ = some (Value.slice zvb zvm zvd) := WANT_23.cell 2
          have cWANT_23_3 : _ = some (Value.bool (decide ((fp N).num < 0))) := WANT_23.cell 3
          have cWANT_23_4 : _ = some (Value.slice pa pn pc) := WANT_23.cell 4
          have cWANT_23_5 : _ = some (Value.slice oa on oc) := WANT_23.cell 5
          have cWANT_23_6 : _ = some (Value.bool (qsg (qw) er)) := WANT_23.cell 6
          have cWANT_23_7 : _ = some (Value.slice wxa wxn wxc) := WANT_23.cell 7
          have cWANT_23_8 : _ = some (Value.slice wxb wxm wxd) := WANT_23.cell 8
          have QF_23 := QF_22.below hB_23
          have QB_23 := QB_22.below hB_23
          have SY_23 := SY_22.below hB_23
          have SM_23 := SM_22.below hB_23
          have hbM_23 := hbM_22.next hB_23
          have RG_23 := RG_22.below hB_23
          have RW_23 := RW_22.below hB_23
          have hbel_23 := hbel_22.next hB_23
          have hsz_23 := hB_23.size
          clear S_22 cS_22_0 cS_22_1 cS_22_2 A_22 cA_22_0 cA_22_1 cA_22_2 BX_22 cBX_22_0 cBX_22_1 cBX_22_2 U_22 cU_22_0 cU_22_1 cU_22_2 V_22 cV_22_0 cV_22_1 cV_22_2 X_22 cX_22_0 cX_22_1 cX_22_2 W_22 cW_22_0 cW_22_1 cW_22_2 GOT_22 cGOT_22_0 cGOT_22_1 cGOT_22_2 cGOT_22_3 cGOT_22_4 cGOT_22_5 cGOT_22_6 cGOT_22_7 cGOT_22_8 WANT_22 cWANT_22_0 cWANT_22_1 cWANT_22_2 cWANT_22_3 cWANT_22_4 cWANT_22_5 cWANT_22_6 cWANT_22_7 cWANT_22_8 QF_22 QB_22 SY_22 SM_22 hbM_22 RG_22 RW_22 hbel_22 hB_23
          try clear hB
          clear hQS
          obtain ⟨TL, hTL⟩ : ∃ l : List It, l = [⟨qxb, qxm, qxd, qdl qw er⟩, ⟨qxa, qxn, qxc, qnl qw er⟩, ⟨pvb, pvm, pvd, lm (fp N).den⟩, ⟨pva, pvn, pvc, lm (fp N).num.natAbs⟩, ⟨svb, svm, svd, lm (fs N).den⟩, ⟨sva, svn, svc, lm (fs N).num.natAbs⟩] := ⟨_, rfl⟩
          have HT := hid (show Told2 vM.heap.size w23 TL from hTL ▸ T_23.out)
          have hm2 : ∀ i ∈ ([5, 4, 3, 2, 1, 0] : List Nat), i < TL.length := by rw [hTL]; show ∀ i ∈ ([5, 4, 3, 2, 1, 0] : List Nat), i < 6; decide
          have hRG := rgot_told HT.out.1 ([5, 4, 3, 2, 1, 0] : List Nat) (K := 3) rfl (by decide) hm2 (Below.refl _ _) GOT_23 (by
            subst hTL; intro i hi
            rcases (by omega : i = 0 ∨ i = 1 ∨ i = 2) with rfl | rfl | rfl
            · exact ⟨rfl, rfl⟩
            · exact ⟨rfl, rfl⟩
            · exact ⟨rfl, rfl⟩)
          have HN : ∀ i, i < 2 * 3 → (TL.getD (([5, 4, 3, 2, 1, 0] : List Nat).getD i 0) It.d).n ≤ 268435456 := told_n HT.out ([5, 4, 3, 2, 1, 0] : List Nat) (K := 3) rfl hm2
          have hBK := hid (fun (w' : World) (hk : Kp (fun b => ∃ i, i < 2 * 3 ∧ (TL.getD (([5, 4, 3, 2, 1, 0] : List Nat).getD i 0) It.d).a = some ⟨b, 0, none⟩) w23 w') => below_told hbM_23 HT.out.1 ([5, 4, 3, 2, 1, 0] : List Nat) (K := 3) rfl hm2 hk)
          clear hTL hm2 HT
          go_wp2_with fail
          refine (ownrats_any (c := 3) hRG (by omega) (by omega) (by omega) (by unfold maxLen; omega) HN).mono ?_
          rintro e wo ⟨rfl, hK⟩
          have hM := hBK.out _ hK
          clear hRG hK HN hBK T_23 hbT_23
          have hbM_24 := hM
          have S_24 := mS.out.next hbM_24
          have A_24 := mA.out.next hbM_24
          have BX_24 := mBX.out.next hbM_24
          have RA_24 := mRA.out.below hbM_24
          have RB_24 := mRB.out.below hbM_24
          have OP_24 := mOP.out.below hbM_24
          have OD_24 := mOD.out.below hbM_24
          have L_24 := mL.out.below hbM_24
          have M_24 := mM.out.below hbM_24
          have QF_24 := mQF.out.below hbM_24
          have QB_24 := mQB.out.below hbM_24
          have RY_24 := mRY.out.below hbM_24
          have LA_24 := mLA.out.below hbM_24
          have SY_24 := mSY.out.below hbM_24
          have SM_24 := mSM.out.below hbM_24
          have hbel_24 := mhbel.out.next hbM_24
          have hsz_24 := hbM_24.size
          clear S_23 A_23 BX_23 U_23 V_23 X_23 W_23 GOT_23 WANT_23 cS_23_0 cS_23_1 cS_23_2 cA_23_0 cA_23_1 cA_23_2 cBX_23_0 cBX_23_1 cBX_23_2 cU_23_0 cU_23_1 cU_23_2 cV_23_0 cV_23_1 cV_23_2 cX_23_0 cX_23_1 cX_23_2 cW_23_0 cW_23_1 cW_23_2 cGOT_23_0 cGOT_23_1 cGOT_23_2 cGOT_23_3 cGOT_23_4 cGOT_23_5 cGOT_23_6 cGOT_23_7 cGOT_23_8 cWANT_23_0 cWANT_23_1 cWANT_23_2 cWANT_23_3 cWANT_23_4 cWANT_23_5 cWANT_23_6 cWANT_23_7 cWANT_23_8 QF_23 QB_23 SY_23 SM_23 hbM_23 RG_23 RW_23 hbel_23
          have cS_24_0 : _ = some (Value.bool (decide ((fp N).num < 0))) := S_24.cell 0
          have cS_24_1 : _ = some (Value.slice pa pn pc) := S_24.cell 1
          have cS_24_2 : _ = some (Value.slice oa on oc) := S_24.cell 2
          have cA_24_0 : _ = some (Value.bool ys1) := A_24.cell 0
          have cA_24_1 : _ = some (Value.slice ya yn yc) := A_24.cell 1
          have cA_24_2 : _ = some (Value.slice yb ym yd) := A_24.cell 2
          have cBX_24_0 : _ = some (Value.bool ys1) := BX_24.cell 0
          have cBX_24_1 : _ = some (Value.slice xa yn xc) := BX_24.cell 1
          have cBX_24_2 : _ = some (Value.slice xb ym xd) := BX_24.cell 2
          clear hM
          go_wp2_with fail
          refine (keptall LA_24.1 hzl hgl LA_24.2.1 LA_24.2.2 RY_24 (by omega) hlc1).mono ?_
          rintro e w25 ⟨rfl, hB⟩
          have hB_25 : Below wo.heap.size wo w25 := (bl.next hB)
          have S_25 := S_24.next hB_25
          have cS_25_0 : _ = some (Value.bool (decide ((fp N).num < 0))) := S_25.cell 0
          have cS_25_1 : _ = some (Value.slice pa pn pc) := S_25.cell 1
          have cS_25_2 : _ = some (Value.slice oa on oc) := S_25.cell 2
          have A_25 := A_24.next hB_25
          have cA_25_0 : _ = some (Value.bool ys1) := A_25.cell 0
          have cA_25_1 : _ = some (Value.slice ya yn yc) := A_25.cell 1
          have cA_25_2 : _ = some (Value.slice yb ym yd) := A_25.cell 2
          have BX_25 := BX_24.next hB_25
          have cBX_25_0 : _ = some (Value.bool ys1) := BX_25.cell 0
          have cBX_25_1 : _ = some (Value.slice xa yn xc) := BX_25.cell 1
          have cBX_25_2 : _ = some (Value.slice xb ym xd) := BX_25.cell 2
          have RA_25 := RA_24.below hB_25
          have RB_25 := RB_24.below hB_25
          have OP_25 := OP_24.below hB_25
          have OD_25 := OD_24.below hB_25
          have L_25 := L_24.below hB_25
          have M_25 := M_24.below hB_25
          have QF_25 := QF_24.below hB_25
          have QB_25 := QB_24.below hB_25
          have RY_25 := RY_24.below hB_25
          have LA_25 := LA_24.below hB_25
          have SY_25 := SY_24.below hB_25
          have SM_25 := SM_24.below hB_25
          have hbM_25 := hbM_24.next hB_25
          have hbel_25 := hbel_24.next hB_25
          have hsz_25 := hB_25.size
          clear S_24 cS_24_0 cS_24_1 cS_24_2 A_24 cA_24_0 cA_24_1 cA_24_2 BX_24 cBX_24_0 cBX_24_1 cBX_24_2 RA_24 RB_24 OP_24 OD_24 L_24 M_24 QF_24 QB_24 RY_24 LA_24 SY_24 SM_24 hbM_24 hbel_24 hB_25
          try clear hB
          go_wp2_with fail
          refine (fkept L_25 M_25 RA_25 RB_25).mono ?_
          rintro e w26 ⟨rfl, hB⟩
          have hB_26 : Below w25.heap.size w25 w26 := (bl.next hB)
          have S_26 := S_25.next hB_26
          have cS_26_0 : _ = some (Value.bool (decide ((fp N).num < 0))) := S_26.cell 0
          have cS_26_1 : _ = some (Value.slice pa pn pc) := S_26.cell 1
          have cS_26_2 : _ = some (Value.slice oa on oc) := S_26.cell 2
          have A_26 := A_25.next hB_26
          have cA_26_0 : _ = some (Value.bool ys1) := A_26.cell 0
          have cA_26_1 : _ = some (Value.slice ya yn yc) := A_26.cell 1
          have cA_26_2 : _ = some (Value.slice yb ym yd) := A_26.cell 2
          have BX_26 := BX_25.next hB_26
          have cBX_26_0 : _ = some (Value.bool ys1) := BX_26.cell 0
          have cBX_26_1 : _ = some (Value.slice xa yn xc) := BX_26.cell 1
          have cBX_26_2 : _ = some (Value.slice xb ym xd) := BX_26.cell 2
          have RA_26 := RA_25.below hB_26
          have RB_26 := RB_25.below hB_26
          have OP_26 := OP_25.below hB_26
          have OD_26 := OD_25.below hB_26
          have L_26 := L_25.below hB_26
          have M_26 := M_25.below hB_26
          have QF_26 := QF_25.below hB_26
          have QB_26 := QB_25.below hB_26
          have RY_26 := RY_25.below hB_26
          have LA_26 := LA_25.below hB_26
          have SY_26 := SY_25.below hB_26
          have SM_26 := SM_25.below hB_26
          have hbM_26 := hbM_25.next hB_26
          have hbel_26 := hbel_25.next hB_26
          have hsz_26 := hB_26.size
          clear S_25 cS_25_0 cS_25_1 cS_25_2 A_25 cA_25_0 cA_25_1 cA_25_2 BX_25 cBX_25_0 cBX_25_1 cBX_25_2 RA_25 RB_25 OP_25 OD_25 L_25 M_25 QF_25 QB_25 RY_25 LA_25 SY_25 SM_25 hbM_25 hbel_25 hB_26
          try clear hB
          go_wp2
          go_ret
          exact ⟨rfl, hbel_26⟩

end Go.Proofs.YtgddnmmllchndaaGreat
