/- WALKS OF RINGS, 2: sums, products, powers of fractions. -/
import Derived.Test.YtokkfppchfmjcaaGreatKa
namespace Go.Proofs.YtokkfppchfmjcaaGreat
set_option linter.unusedVariables false
set_option linter.unusedSimpArgs false
open Go.ChangeShapes Go.WideShapes Go.ChangeAt Go.RowKit Go.NatP

/-- ONE FRACTION whose limbs lie from B on -/
def RetQB (B : Nat) (w : World) (q : Rat) (e : Ending) (w' : World) : Prop :=
  ∃ a n c b m d, e = .returned (.agg #[.bool (decide (q.num < 0)), .slice a n c, .slice b m d]) ∧ Own B w' a n c (lm q.num.natAbs) ∧ Own B w' b m d (lm q.den) ∧ Diff a b ∧ Below w.heap.size w w'
theorem Own.setA3 {B : Nat} {w : World} {a : Option Addr} {n c : Nat} {l : List Nat} (h : Own B w a n c l) {g : Nat} (hn : Aw a g) (v0 v1 v2 : Value) : Own B (((w.setCell ⟨g, 0, none⟩ v0).setCell ⟨g, 1, none⟩ v1).setCell ⟨g, 2, none⟩ v2) a n c l :=
  ((h.set_other v0 hn).set_other v1 hn).set_other v2 hn
theorem retqe_nil0 {w w2 : World} {q : Rat} {er : Int} (he : er ≠ 0) (hB : Below w.heap.size w w2) :
    RetQE w q er (.returned (.tuple #[.agg #[.bool false, .slice none 0 0, .slice none 0 0], .int .i64 er])) w2 := by
  obtain ⟨h1, h2, h3⟩ := q_err q he
  refine ⟨none, 0, 0, none, 0, 0, by rw [h1], ?_, ?_, diff_nil _, hB⟩
  · rw [h2]; exact own_nil _ _
  · rw [h3]; exact own_nil _ _
theorem retqb_set {w w2 : World} {q : Rat} {B g : Nat} {a b : Option Addr} {n c m d : Nat} {v0 v1 v2 : Value} (hO : Own B w2 a n c (lm q.num.natAbs)) (hO2 : Own B w2 b m d (lm q.den)) (hD : Diff a b) (h1 : Aw a g) (h2 : Aw b g) (hB : Below w.heap.size w w2) (hg : w.heap.size ≤ g) :
    RetQB B w q (.returned (.agg #[.bool (decide (q.num < 0)), .slice a n c, .slice b m d])) (((w2.setCell ⟨g, 0, none⟩ v0).setCell ⟨g, 1, none⟩ v1).setCell ⟨g, 2, none⟩ v2) :=
  ⟨a, n, c, b, m, d, rfl, hO.setA3 h1 _ _ _, hO2.setA3 h2 _ _ _, hD, Below.set3 hB hg _ _ _⟩

set_option maxRecDepth 100000 in
set_option maxHeartbeats 8000000 in
theorem kfold_add {w : World} {sa : Option Addr} {n c K : Nat} {xs : List QI} {B J : Nat} {a b : Option Addr} {n0 c0 m0 d0 : Nat} (f : Nat → Rat) (hf : ∀ k, k < n → f (k + 1) = ((f k) + ((xs.getD k QI.o).q))) (hx : RdQs K w sa n c xs) (hJ1 : 1 ≤ J) (hJ : J ≤ 900000) (hK1 : 1 ≤ K) (hK : K ≤ 900000) (hq : ∀ k, k ≤ n → QS (f k) J) (hB : B ≤ w.heap.size) (hO : Own B w a n0 c0 (lm (f 0).num.natAbs)) (hO' : Own B w b m0 d0 (lm (f 0).den)) (hD : Diff a b) :
    Calls Tryz.prog 72 #[.agg #[.bool (decide ((f 0).num < 0)), .slice a n0 c0, .slice b m0 d0], .slice sa n c, .func (.method "Add") #[.iface 67 (.agg #[])] #[]] w (RetQB B w (f n)) := by
  have hbn := hx.bnd
  have hqs := hid hq
  have hff := hid hf
  clear hq hf
  have hBB := hB
  clear hB
  have HX := hid hx
  clear hx
  have a1 : Aw a w.heap.size := hO.awOld (Nat.le_refl _)
  have a2 : Aw b w.heap.size := hO'.awOld (Nat.le_refl _)
  have a3 : Aw a (w.heap.size + 1) := hO.awOld (by omega)
  have a4 : Aw b (w.heap.size + 1) := hO'.awOld (by omega)
  have hm : ∀ w : World, (method 321 67 (.agg #[]) "Add").run Tryz.prog w = .ok (196, .agg #[]) w := fun _ => by kernel_rfl
  have hent := ent2 w #[Value.bool (decide ((f 0).num < 0)), Value.slice a n0 c0, Value.slice b m0 d0] #[Value.bool false, Value.slice none 0 0, Value.slice none 0 0] 39 39
  go_enter Tryz.func72, Tryz.ntmps72
  go_wp2_with fail
  generalize ((w.alloc (.cells #[Value.bool (decide ((f 0).num < 0)), Value.slice a n0 c0, Value.slice b m0 d0] 39)).alloc (.cells #[Value.bool false, Value.slice none 0 0, Value.slice none 0 0] 39)) = W0 at hent ⊢
  obtain ⟨S_0, R0_0, hbel_0, hsz_0⟩ := hent
  have cS_0_0 : _ = some (Value.bool (decide ((f 0).num < 0))) := S_0.cell 0
  have fS_0_0 := S_0.free 0
  have cS_0_1 : _ = some (Value.slice a n0 c0) := S_0.cell 1
  have fS_0_1 := S_0.free 1
  have cS_0_2 : _ = some (Value.slice b m0 d0) := S_0.cell 2
  have fS_0_2 := S_0.free 2
  have cR0_0_0 : _ = some (Value.bool false) := R0_0.cell 0
  have fR0_0_0 := R0_0.free 0
  have cR0_0_1 : _ = some (Value.slice none 0 0) := R0_0.cell 1
  have fR0_0_1 := R0_0.free 1
  have cR0_0_2 : _ = some (Value.slice none 0 0) := R0_0.cell 2
  have fR0_0_2 := R0_0.free 2
  have P_0 := hO.below hbel_0
  have O_0 := hO'.below hbel_0
  clear hO hO'
  go_loopw [11] (fun i wr => ∃ (k : Nat) (pa : Option Addr) (pn pc : Nat) (oa : Option Addr) (on oc : Nat), k ≤ n ∧ i = .int .i64 k ∧ Blk wr w.heap.size #[.bool (decide ((f k).num < 0)), .slice pa pn pc, .slice oa on oc] ∧ Own B wr pa pn pc (lm (f k).num.natAbs) ∧ Own B wr oa on oc (lm (f k).den) ∧ Blk wr (w.heap.size + 1) #[Value.bool false, Value.slice none 0 0, Value.slice none 0 0] ∧ Below w.heap.size w wr ∧ w.heap.size + 2 ≤ wr.heap.size ∧ Diff pa oa ∧ Aw pa (w.heap.size + 1) ∧ Aw oa (w.heap.size + 1)) (fun i _ => n - (intOf i).toNat)
  case atStart => exact ⟨0, _, _, _, _, _, _, Nat.zero_le _, rfl, S_0, P_0, O_0, R0_0, hbel_0, hsz_0, hD, a3, a4⟩
  case round =>
    clear S_0 R0_0 P_0 O_0 hbel_0 hsz_0 hD a1 a2 a3 a4 cS_0_0 fS_0_0 cS_0_1 fS_0_1 cS_0_2 fS_0_2 cR0_0_0 fR0_0_0 cR0_0_1 fR0_0_1 cR0_0_2 fR0_0_2
    obtain ⟨k, pa, pn, pc, oa, on, oc, hk, rfl, S_1, P_1, O_1, R0_1, hbel_1, hsz_1, hdf, aw1, aw2⟩ := hrel
    have hbW_1 : Below wr.heap.size wr wr := Below.refl _ _
    have cS_1_0 : _ = some (Value.bool (decide ((f k).num < 0))) := S_1.cell 0
    have fS_1_0 := S_1.free 0
    have cS_1_1 : _ = some (Value.slice pa pn pc) := S_1.cell 1
    have fS_1_1 := S_1.free 1
    have cS_1_2 : _ = some (Value.slice oa on oc) := S_1.cell 2
    have fS_1_2 := S_1.free 2
    have cR0_1_0 : _ = some (Value.bool false) := R0_1.cell 0
    have fR0_1_0 := R0_1.free 0
    have cR0_1_1 : _ = some (Value.slice none 0 0) := R0_1.cell 1
    have fR0_1_1 := R0_1.free 1
    have cR0_1_2 : _ = some (Value.slice none 0 0) := R0_1.cell 2
    have fR0_1_2 := R0_1.free 2
    by_cases hkn : k < n
    · skip
      obtain ⟨hq, g, o, rfl, c1, c2, c3⟩ := (HX.out.below hbel_1).2.2.2 k hkn
      have hqk := hid (hqs.out k hk)
      have hstep := hid (hff.out k hkn)
      generalize xs.getD k QI.o = y at *
      have Y_1 := hq
      clear hq
      have hbx := blk_new wr #[Value.bool y.s, Value.slice y.a y.n y.c, Value.slice y.b y.m y.d] 39
      have hbB := (Below.refl wr.heap.size wr).alloc (Nat.le_refl _) (.cells #[Value.bool y.s, Value.slice y.a y.n y.c, Value.slice y.b y.m y.d] 39)
      have hltA := hbx.lt
      have hB_2 : Below wr.heap.size wr (wr.alloc (.cells #[Value.bool y.s, Value.slice y.a y.n y.c, Value.slice y.b y.m y.d] 39)) := hbB
      have S_2 := S_1.next hB_2
      have cS_2_0 : _ = some (Value.bool (decide ((f k).num < 0))) := S_2.cell 0
      have fS_2_0 := S_2.free 0
      have cS_2_1 : _ = some (Value.slice pa pn pc) := S_2.cell 1
      have fS_2_1 := S_2.free 1
      have cS_2_2 : _ = some (Value.slice oa on oc) := S_2.cell 2
      have fS_2_2 := S_2.free 2
      have R0_2 := R0_1.next hB_2
      have cR0_2_0 : _ = some (Value.bool false) := R0_2.cell 0
      have fR0_2_0 := R0_2.free 0
      have cR0_2_1 : _ = some (Value.slice none 0 0) := R0_2.cell 1
      have fR0_2_1 := R0_2.free 1
      have cR0_2_2 : _ = some (Value.slice none 0 0) := R0_2.cell 2
      have fR0_2_2 := R0_2.free 2
      have P_2 := P_1.below hB_2
      have O_2 := O_1.below hB_2
      have hbW_2 := hbW_1.next hB_2
      have Y_2 := Y_1.below hB_2
      have hbel_2 := hbel_1.next hB_2
      have hsz_2 := hB_2.size
      clear hB_2
      have A_2 := hbx
      clear hbx hbB
      have cA_2_0 : _ = some (Value.bool y.s) := A_2.cell 0
      have cA_2_1 : _ = some (Value.slice y.a y.n y.c) := A_2.cell 1
      have cA_2_2 : _ = some (Value.slice y.b y.m y.d) := A_2.cell 2
      go_wp2_with fail
      clear S_1 cS_1_0 fS_1_0 cS_1_1 fS_1_1 cS_1_2 fS_1_2 R0_1 cR0_1_0 fR0_1_0 cR0_1_1 fR0_1_1 cR0_1_2 fR0_1_2 P_1 O_1 hbW_1 Y_1 hbel_1
      generalize (wr.alloc (.cells #[Value.bool y.s, Value.slice y.a y.n y.c, Value.slice y.b y.m y.d] 39)) = v2 at *
      go_wp2_with fail
      refine (kadd (P_2.rdQ O_2 hqk.out) (by omega) Y_2 (by omega)).mono ?_
      rw [← hstep.out]
      rintro e w3 ⟨ra, rn, rc, ta, tn, tc, rfl, hO, hO', hD, hB⟩
      have hB_3 : Below v2.heap.size v2 w3 := (bl.next hB)
      have S_3 := S_2.next hB_3
      have cS_3_0 : _ = some (Value.bool (decide ((f k).num < 0))) := S_3.cell 0
      have fS_3_0 := S_3.free 0
      have cS_3_1 : _ = some (Value.slice pa pn pc) := S_3.cell 1
      have fS_3_1 := S_3.free 1
      have cS_3_2 : _ = some (Value.slice oa on oc) := S_3.cell 2
      have fS_3_2 := S_3.free 2
      have R0_3 := R0_2.next hB_3
      have cR0_3_0 : _ = some (Value.bool false) := R0_3.cell 0
      have fR0_3_0 := R0_3.free 0
      have cR0_3_1 : _ = some (Value.slice none 0 0) := R0_3.cell 1
      have fR0_3_1 := R0_3.free 1
      have cR0_3_2 : _ = some (Value.slice none 0 0) := R0_3.cell 2
      have fR0_3_2 := R0_3.free 2
      have A_3 := A_2.next hB_3
      have cA_3_0 : _ = some (Value.bool y.s) := A_3.cell 0
      have cA_3_1 : _ = some (Value.slice y.a y.n y.c) := A_3.cell 1
      have cA_3_2 : _ = some (Value.slice y.b y.m y.d) := A_3.cell 2
      have P_3 := P_2.below hB_3
      have O_3 := O_2.below hB_3
      have hbW_3 := hbW_2.next hB_3
      have Y_3 := Y_2.below hB_3
      have hbel_3 := hbel_2.next hB_3
      have hsz_3 := hB_3.size
      clear S_2 cS_2_0 fS_2_0 cS_2_1 fS_2_1 cS_2_2 fS_2_2 R0_2 cR0_2_0 fR0_2_0 cR0_2_1 fR0_2_1 cR0_2_2 fR0_2_2 A_2 cA_2_0 cA_2_1 cA_2_2 P_2 O_2 hbW_2 Y_2 hbel_2 hB_3
      have OQ_3 := hO
      have ltOQ := hO.ltB
      have OD_3 := hO'
      have ltOD := hO'.ltB
      clear hO hO'
      try clear hB
      go_wp2
      go_roundw
      case rel => exact ⟨k + 1, ra, rn, rc, ta, tn, tc, by omega, by go_num, (show Blk _ _ #[_, _, _] from ((S_3.setCell (i := 0) (v := _) (by simp)).setCell (i := 1) (v := _) (by simp)).setCell (i := 2) (v := _) (by simp)), (OQ_3.set3 (by omega) _ _ _).mono (by omega), (OD_3.set3 (by omega) _ _ _).mono (by omega), R0_3.set3 (by omega) _ _ _, Below.set3 hbel_3 (by omega) _ _ _, by simp [World.setCell]; omega, hD, OQ_3.awNew (by omega), OD_3.awNew (by omega)⟩
      case measure => simp [intOf]; omega
    · obtain rfl : k = n := by omega
      go_wp2
      refine bodyPost_ret (v := .agg #[.bool (decide ((f k).num < 0)), .slice pa pn pc, .slice oa on oc]) (by simp [results, Tryz.results72, go_sem, cR0_1_0, cR0_1_1, cR0_1_2]) rfl ?_
      exact retqb_set P_1 O_1 hdf aw1 aw2 hbel_1 (by omega)

set_option maxRecDepth 100000 in
set_option maxHeartbeats 8000000 in
theorem kfold_mul {w : World} {sa : Option Addr} {n c K : Nat} {xs : List QI} {B J : Nat} {a b : Option Addr} {n0 c0 m0 d0 : Nat} (f : Nat → Rat) (hf : ∀ k, k < n → f (k + 1) = ((f k) * ((xs.getD k QI.o).q))) (hx : RdQs K w sa n c xs) (hJ1 : 1 ≤ J) (hJ : J ≤ 900000) (hK1 : 1 ≤ K) (hK : K ≤ 900000) (hq : ∀ k, k ≤ n → QS (f k) J) (hB : B ≤ w.heap.size) (hO : Own B w a n0 c0 (lm (f 0).num.natAbs)) (hO' : Own B w b m0 d0 (lm (f 0).den)) (hD : Diff a b) :
    Calls Tryz.prog 72 #[.agg #[.bool (decide ((f 0).num < 0)), .slice a n0 c0, .slice b m0 d0], .slice sa n c, .func (.method "Mul") #[.iface 67 (.agg #[])] #[]] w (RetQB B w (f n)) := by
  have hbn := hx.bnd
  have hqs := hid hq
  have hff := hid hf
  clear hq hf
  have hBB := hB
  clear hB
  have HX := hid hx
  clear hx
  have a1 : Aw a w.heap.size := hO.awOld (Nat.le_refl _)
  have a2 : Aw b w.heap.size := hO'.awOld (Nat.le_refl _)
  have a3 : Aw a (w.heap.size + 1) := hO.awOld (by omega)
  have a4 : Aw b (w.heap.size + 1) := hO'.awOld (by omega)
  have hm : ∀ w : World, (method 321 67 (.agg #[]) "Mul").run Tryz.prog w = .ok (197, .agg #[]) w := fun _ => by kernel_rfl
  have hent := ent2 w #[Value.bool (decide ((f 0).num < 0)), Value.slice a n0 c0, Value.slice b m0 d0] #[Value.bool false, Value.slice none 0 0, Value.slice none 0 0] 39 39
  go_enter Tryz.func72, Tryz.ntmps72
  go_wp2_with fail
  generalize ((w.alloc (.cells #[Value.bool (decide ((f 0).num < 0)), Value.slice a n0 c0, Value.slice b m0 d0] 39)).alloc (.cells #[Value.bool false, Value.slice none 0 0, Value.slice none 0 0] 39)) = W0 at hent ⊢
  obtain ⟨S_0, R0_0, hbel_0, hsz_0⟩ := hent
  have cS_0_0 : _ = some (Value.bool (decide ((f 0).num < 0))) := S_0.cell 0
  have fS_0_0 := S_0.free 0
  have cS_0_1 : _ = some (Value.slice a n0 c0) := S_0.cell 1
  have fS_0_1 := S_0.free 1
  have cS_0_2 : _ = some (Value.slice b m0 d0) := S_0.cell 2
  have fS_0_2 := S_0.free 2
  have cR0_0_0 : _ = some (Value.bool false) := R0_0.cell 0
  have fR0_0_0 := R0_0.free 0
  have cR0_0_1 : _ = some (Value.slice none 0 0) := R0_0.cell 1
  have fR0_0_1 := R0_0.free 1
  have cR0_0_2 : _ = some (Value.slice none 0 0) := R0_0.cell 2
  have fR0_0_2 := R0_0.free 2
  have P_0 := hO.below hbel_0
  have O_0 := hO'.below hbel_0
  clear hO hO'
  go_loopw [11] (fun i wr => ∃ (k : Nat) (pa : Option Addr) (pn pc : Nat) (oa : Option Addr) (on oc : Nat), k ≤ n ∧ i = .int .i64 k ∧ Blk wr w.heap.size #[.bool (decide ((f k).num < 0)), .slice pa pn pc, .slice oa on oc] ∧ Own B wr pa pn pc (lm (f k).num.natAbs) ∧ Own B wr oa on oc (lm (f k).den) ∧ Blk wr (w.heap.size + 1) #[Value.bool false, Value.slice none 0 0, Value.slice none 0 0] ∧ Below w.heap.size w wr ∧ w.heap.size + 2 ≤ wr.heap.size ∧ Diff pa oa ∧ Aw pa (w.heap.size + 1) ∧ Aw oa (w.heap.size + 1)) (fun i _ => n - (intOf i).toNat)
  case atStart => exact ⟨0, _, _, _, _, _, _, Nat.zero_le _, rfl, S_0, P_0, O_0, R0_0, hbel_0, hsz_0, hD, a3, a4⟩
  case round =>
    clear S_0 R0_0 P_0 O_0 hbel_0 hsz_0 hD a1 a2 a3 a4 cS_0_0 fS_0_0 cS_0_1 fS_0_1 cS_0_2 fS_0_2 cR0_0_0 fR0_0_0 cR0_0_1 fR0_0_1 cR0_0_2 fR0_0_2
    obtain ⟨k, pa, pn, pc, oa, on, oc, hk, rfl, S_1, P_1, O_1, R0_1, hbel_1, hsz_1, hdf, aw1, aw2⟩ := hrel
    have hbW_1 : Below wr.heap.size wr wr := Below.refl _ _
    have cS_1_0 : _ = some (Value.bool (decide ((f k).num < 0))) := S_1.cell 0
    have fS_1_0 := S_1.free 0
    have cS_1_1 : _ = some (Value.slice pa pn pc) := S_1.cell 1
    have fS_1_1 := S_1.free 1
    have cS_1_2 : _ = some (Value.slice oa on oc) := S_1.cell 2
    have fS_1_2 := S_1.free 2
    have cR0_1_0 : _ = some (Value.bool false) := R0_1.cell 0
    have fR0_1_0 := R0_1.free 0
    have cR0_1_1 : _ = some (Value.slice none 0 0) := R0_1.cell 1
    have fR0_1_1 := R0_1.free 1
    have cR0_1_2 : _ = some (Value.slice none 0 0) := R0_1.cell 2
    have fR0_1_2 := R0_1.free 2
    by_cases hkn : k < n
    · skip
      obtain ⟨hq, g, o, rfl, c1, c2, c3⟩ := (HX.out.below hbel_1).2.2.2 k hkn
      have hqk := hid (hqs.out k hk)
      have hstep := hid (hff.out k hkn)
      generalize xs.getD k QI.o = y at *
      have Y_1 := hq
      clear hq
      have hbx := blk_new wr #[Value.bool y.s, Value.slice y.a y.n y.c, Value.slice y.b y.m y.d] 39
      have hbB := (Below.refl wr.heap.size wr).alloc (Nat.le_refl _) (.cells #[Value.bool y.s, Value.slice y.a y.n y.c, Value.slice y.b y.m y.d] 39)
      have hltA := hbx.lt
      have hB_2 : Below wr.heap.size wr (wr.alloc (.cells #[Value.bool y.s, Value.slice y.a y.n y.c, Value.slice y.b y.m y.d] 39)) := hbB
      have S_2 := S_1.next hB_2
      have cS_2_0 : _ = some (Value.bool (decide ((f k).num < 0))) := S_2.cell 0
      have fS_2_0 := S_2.free 0
      have cS_2_1 : _ = some (Value.slice pa pn pc) := S_2.cell 1
      have fS_2_1 := S_2.free 1
      have cS_2_2 : _ = some (Value.slice oa on oc) := S_2.cell 2
      have fS_2_2 := S_2.free 2
      have R0_2 := R0_1.next hB_2
      have cR0_2_0 : _ = some (Value.bool false) := R0_2.cell 0
      have fR0_2_0 := R0_2.free 0
      have cR0_2_1 : _ = some (Value.slice none 0 0) := R0_2.cell 1
      have fR0_2_1 := R0_2.free 1
      have cR0_2_2 : _ = some (Value.slice none 0 0) := R0_2.cell 2
      have fR0_2_2 := R0_2.free 2
      have P_2 := P_1.below hB_2
      have O_2 := O_1.below hB_2
      have hbW_2 := hbW_1.next hB_2
      have Y_2 := Y_1.below hB_2
      have hbel_2 := hbel_1.next hB_2
      have hsz_2 := hB_2.size
      clear hB_2
      have A_2 := hbx
      clear hbx hbB
      have cA_2_0 : _ = some (Value.bool y.s) := A_2.cell 0
      have cA_2_1 : _ = some (Value.slice y.a y.n y.c) := A_2.cell 1
      have cA_2_2 : _ = some (Value.slice y.b y.m y.d) := A_2.cell 2
      go_wp2_with fail
      clear S_1 cS_1_0 fS_1_0 cS_1_1 fS_1_1 cS_1_2 fS_1_2 R0_1 cR0_1_0 fR0_1_0 cR0_1_1 fR0_1_1 cR0_1_2 fR0_1_2 P_1 O_1 hbW_1 Y_1 hbel_1
      generalize (wr.alloc (.cells #[Value.bool y.s, Value.slice y.a y.n y.c, Value.slice y.b y.m y.d] 39)) = v2 at *
      go_wp2_with fail
      refine (kmul (P_2.rdQ O_2 hqk.out) (by omega) Y_2 (by omega)).mono ?_
      rw [← hstep.out]
      rintro e w3 ⟨ra, rn, rc, ta, tn, tc, rfl, hO, hO', hD, hB⟩
      have hB_3 : Below v2.heap.size v2 w3 := (bl.next hB)
      have S_3 := S_2.next hB_3
      have cS_3_0 : _ = some (Value.bool (decide ((f k).num < 0))) := S_3.cell 0
      have fS_3_0 := S_3.free 0
      have cS_3_1 : _ = some (Value.slice pa pn pc) := S_3.cell 1
      have fS_3_1 := S_3.free 1
      have cS_3_2 : _ = some (Value.slice oa on oc) := S_3.cell 2
      have fS_3_2 := S_3.free 2
      have R0_3 := R0_2.next hB_3
      have cR0_3_0 : _ = some (Value.bool false) := R0_3.cell 0
      have fR0_3_0 := R0_3.free 0
      have cR0_3_1 : _ = some (Value.slice none 0 0) := R0_3.cell 1
      have fR0_3_1 := R0_3.free 1
      have cR0_3_2 : _ = some (Value.slice none 0 0) := R0_3.cell 2
      have fR0_3_2 := R0_3.free 2
      have A_3 := A_2.next hB_3
      have cA_3_0 : _ = some (Value.bool y.s) := A_3.cell 0
      have cA_3_1 : _ = some (Value.slice y.a y.n y.c) := A_3.cell 1
      have cA_3_2 : _ = some (Value.slice y.b y.m y.d) := A_3.cell 2
      have P_3 := P_2.below hB_3
      have O_3 := O_2.below hB_3
      have hbW_3 := hbW_2.next hB_3
      have Y_3 := Y_2.below hB_3
      have hbel_3 := hbel_2.next hB_3
      have hsz_3 := hB_3.size
      clear S_2 cS_2_0 fS_2_0 cS_2_1 fS_2_1 cS_2_2 fS_2_2 R0_2 cR0_2_0 fR0_2_0 cR0_2_1 fR0_2_1 cR0_2_2 fR0_2_2 A_2 cA_2_0 cA_2_1 cA_2_2 P_2 O_2 hbW_2 Y_2 hbel_2 hB_3
      have OQ_3 := hO
      have ltOQ := hO.ltB
      have OD_3 := hO'
      have ltOD := hO'.ltB
      clear hO hO'
      try clear hB
      go_wp2
      go_roundw
      case rel => exact ⟨k + 1, ra, rn, rc, ta, tn, tc, by omega, by go_num, (show Blk _ _ #[_, _, _] from ((S_3.setCell (i := 0) (v := _) (by simp)).setCell (i := 1) (v := _) (by simp)).setCell (i := 2) (v := _) (by simp)), (OQ_3.set3 (by omega) _ _ _).mono (by omega), (OD_3.set3 (by omega) _ _ _).mono (by omega), R0_3.set3 (by omega) _ _ _, Below.set3 hbel_3 (by omega) _ _ _, by simp [World.setCell]; omega, hD, OQ_3.awNew (by omega), OD_3.awNew (by omega)⟩
      case measure => simp [intOf]; omega
    · obtain rfl : k = n := by omega
      go_wp2
      refine bodyPost_ret (v := .agg #[.bool (decide ((f k).num < 0)), .slice pa pn pc, .slice oa on oc]) (by simp [results, Tryz.results72, go_sem, cR0_1_0, cR0_1_1, cR0_1_2]) rfl ?_
      exact retqb_set P_1 O_1 hdf aw1 aw2 hbel_1 (by omega)

set_option maxRecDepth 100000 in
set_option maxHeartbeats 8000000 in
theorem kfold_most {w : World} {sa : Option Addr} {n c K : Nat} {xs : List QI} {B J : Nat} {a b : Option Addr} {n0 c0 m0 d0 : Nat} (f : Nat → Rat) (hf : ∀ k, k < n → f (k + 1) = (mxQ (f k) ((xs.getD k QI.o).q))) (hx : RdQs K w sa n c xs) (hJ1 : 1 ≤ J) (hJ : J ≤ 900000) (hK1 : 1 ≤ K) (hK : K ≤ 900000) (hq : ∀ k, k ≤ n → QS (f k) J) (hB : B ≤ w.heap.size) (hO : Own B w a n0 c0 (lm (f 0).num.natAbs)) (hO' : Own B w b m0 d0 (lm (f 0).den)) (hD : Diff a b) :
    Calls Tryz.prog 72 #[.agg #[.bool (decide ((f 0).num < 0)), .slice a n0 c0, .slice b m0 d0], .slice sa n c, .func (.method "Add") #[.iface 70 (.agg #[])] #[]] w (RetQB B w (f n)) := by
  have hbn := hx.bnd
  have hqs := hid hq
  have hff := hid hf
  clear hq hf
  have hBB := hB
  clear hB
  have HX := hid hx
  clear hx
  have a1 : Aw a w.heap.size := hO.awOld (Nat.le_refl _)
  have a2 : Aw b w.heap.size := hO'.awOld (Nat.le_refl _)
  have a3 : Aw a (w.heap.size + 1) := hO.awOld (by omega)
  have a4 : Aw b (w.heap.size + 1) := hO'.awOld (by omega)
  have hm : ∀ w : World, (method 321 70 (.agg #[]) "Add").run Tryz.prog w = .ok (201, .agg #[]) w := fun _ => by kernel_rfl
  have hent := ent2 w #[Value.bool (decide ((f 0).num < 0)), Value.slice a n0 c0, Value.slice b m0 d0] #[Value.bool false, Value.slice none 0 0, Value.slice none 0 0] 39 39
  go_enter Tryz.func72, Tryz.ntmps72
  go_wp2_with fail
  generalize ((w.alloc (.cells #[Value.bool (decide ((f 0).num < 0)), Value.slice a n0 c0, Value.slice b m0 d0] 39)).alloc (.cells #[Value.bool false, Value.slice none 0 0, Value.slice none 0 0] 39)) = W0 at hent ⊢
  obtain ⟨S_0, R0_0, hbel_0, hsz_0⟩ := hent
  have cS_0_0 : _ = some (Value.bool (decide ((f 0).num < 0))) := S_0.cell 0
  have fS_0_0 := S_0.free 0
  have cS_0_1 : _ = some (Value.slice a n0 c0) := S_0.cell 1
  have fS_0_1 := S_0.free 1
  have cS_0_2 : _ = some (Value.slice b m0 d0) := S_0.cell 2
  have fS_0_2 := S_0.free 2
  have cR0_0_0 : _ = some (Value.bool false) := R0_0.cell 0
  have fR0_0_0 := R0_0.free 0
  have cR0_0_1 : _ = some (Value.slice none 0 0) := R0_0.cell 1
  have fR0_0_1 := R0_0.free 1
  have cR0_0_2 : _ = some (Value.slice none 0 0) := R0_0.cell 2
  have fR0_0_2 := R0_0.free 2
  have P_0 := hO.below hbel_0
  have O_0 := hO'.below hbel_0
  clear hO hO'
  go_loopw [11] (fun i wr => ∃ (k : Nat) (pa : Option Addr) (pn pc : Nat) (oa : Option Addr) (on oc : Nat), k ≤ n ∧ i = .int .i64 k ∧ Blk wr w.heap.size #[.bool (decide ((f k).num < 0)), .slice pa pn pc, .slice oa on oc] ∧ Own B wr pa pn pc (lm (f k).num.natAbs) ∧ Own B wr oa on oc (lm (f k).den) ∧ Blk wr (w.heap.size + 1) #[Value.bool false, Value.slice none 0 0, Value.slice none 0 0] ∧ Below w.heap.size w wr ∧ w.heap.size + 2 ≤ wr.heap.size ∧ Diff pa oa ∧ Aw pa (w.heap.size + 1) ∧ Aw oa (w.heap.size + 1)) (fun i _ => n - (intOf i).toNat)
  case atStart => exact ⟨0, _, _, _, _, _, _, Nat.zero_le _, rfl, S_0, P_0, O_0, R0_0, hbel_0, hsz_0, hD, a3, a4⟩
  case round =>
    clear S_0 R0_0 P_0 O_0 hbel_0 hsz_0 hD a1 a2 a3 a4 cS_0_0 fS_0_0 cS_0_1 fS_0_1 cS_0_2 fS_0_2 cR0_0_0 fR0_0_0 cR0_0_1 fR0_0_1 cR0_0_2 fR0_0_2
    obtain ⟨k, pa, pn, pc, oa, on, oc, hk, rfl, S_1, P_1, O_1, R0_1, hbel_1, hsz_1, hdf, aw1, aw2⟩ := hrel
    have hbW_1 : Below wr.heap.size wr wr := Below.refl _ _
    have cS_1_0 : _ = some (Value.bool (decide ((f k).num < 0))) := S_1.cell 0
    have fS_1_0 := S_1.free 0
    have cS_1_1 : _ = some (Value.slice pa pn pc) := S_1.cell 1
    have fS_1_1 := S_1.free 1
    have cS_1_2 : _ = some (Value.slice oa on oc) := S_1.cell 2
    have fS_1_2 := S_1.free 2
    have cR0_1_0 : _ = some (Value.bool false) := R0_1.cell 0
    have fR0_1_0 := R0_1.free 0
    have cR0_1_1 : _ = some (Value.slice none 0 0) := R0_1.cell 1
    have fR0_1_1 := R0_1.free 1
    have cR0_1_2 : _ = some (Value.slice none 0 0) := R0_1.cell 2
    have fR0_1_2 := R0_1.free 2
    by_cases hkn : k < n
    · skip
      obtain ⟨hq, g, o, rfl, c1, c2, c3⟩ := (HX.out.below hbel_1).2.2.2 k hkn
      have hqk := hid (hqs.out k hk)
      have hstep := hid (hff.out k hkn)
      generalize xs.getD k QI.o = y at *
      have Y_1 := hq
      clear hq
      have hbx := blk_new wr #[Value.bool y.s, Value.slice y.a y.n y.c, Value.slice y.b y.m y.d] 39
      have hbB := (Below.refl wr.heap.size wr).alloc (Nat.le_refl _) (.cells #[Value.bool y.s, Value.slice y.a y.n y.c, Value.slice y.b y.m y.d] 39)
      have hltA := hbx.lt
      have hB_2 : Below wr.heap.size wr (wr.alloc (.cells #[Value.bool y.s, Value.slice y.a y.n y.c, Value.slice y.b y.m y.d] 39)) := hbB
      have S_2 := S_1.next hB_2
      have cS_2_0 : _ = some (Value.bool (decide ((f k).num < 0))) := S_2.cell 0
      have fS_2_0 := S_2.free 0
      have cS_2_1 : _ = some (Value.slice pa pn pc) := S_2.cell 1
      have fS_2_1 := S_2.free 1
      have cS_2_2 : _ = some (Value.slice oa on oc) := S_2.cell 2
      have fS_2_2 := S_2.free 2
      have R0_2 := R0_1.next hB_2
      have cR0_2_0 : _ = some (Value.bool false) := R0_2.cell 0
      have fR0_2_0 := R0_2.free 0
      have cR0_2_1 : _ = some (Value.slice none 0 0) := R0_2.cell 1
      have fR0_2_1 := R0_2.free 1
      have cR0_2_2 : _ = some (Value.slice none 0 0) := R0_2.cell 2
      have fR0_2_2 := R0_2.free 2
      have P_2 := P_1.below hB_2
      have O_2 := O_1.below hB_2
      have hbW_2 := hbW_1.next hB_2
      have Y_2 := Y_1.below hB_2
      have hbel_2 := hbel_1.next hB_2
      have hsz_2 := hB_2.size
      clear hB_2
      have A_2 := hbx
      clear hbx hbB
      have cA_2_0 : _ = some (Value.bool y.s) := A_2.cell 0
      have cA_2_1 : _ = some (Value.slice y.a y.n y.c) := A_2.cell 1
      have cA_2_2 : _ = some (Value.slice y.b y.m y.d) := A_2.cell 2
      go_wp2_with fail
      clear S_1 cS_1_0 fS_1_0 cS_1_1 fS_1_1 cS_1_2 fS_1_2 R0_1 cR0_1_0 fR0_1_0 cR0_1_1 fR0_1_1 cR0_1_2 fR0_1_2 P_1 O_1 hbW_1 Y_1 hbel_1
      generalize (wr.alloc (.cells #[Value.bool y.s, Value.slice y.a y.n y.c, Value.slice y.b y.m y.d] 39)) = v2 at *
      go_wp2_with fail
      refine (kmost (P_2.rdQ O_2 hqk.out) (by omega) Y_2 (by omega) hJ1 hK1).mono ?_
      rw [← hstep.out]
      rintro e w3 ⟨ra, rn, rc, ta, tn, tc, rfl, hO, hO', hD, hB⟩
      have hB_3 : Below v2.heap.size v2 w3 := (bl.next hB)
      have S_3 := S_2.next hB_3
      have cS_3_0 : _ = some (Value.bool (decide ((f k).num < 0))) := S_3.cell 0
      have fS_3_0 := S_3.free 0
      have cS_3_1 : _ = some (Value.slice pa pn pc) := S_3.cell 1
      have fS_3_1 := S_3.free 1
      have cS_3_2 : _ = some (Value.slice oa on oc) := S_3.cell 2
      have fS_3_2 := S_3.free 2
      have R0_3 := R0_2.next hB_3
      have cR0_3_0 : _ = some (Value.bool false) := R0_3.cell 0
      have fR0_3_0 := R0_3.free 0
      have cR0_3_1 : _ = some (Value.slice none 0 0) := R0_3.cell 1
      have fR0_3_1 := R0_3.free 1
      have cR0_3_2 : _ = some (Value.slice none 0 0) := R0_3.cell 2
      have fR0_3_2 := R0_3.free 2
      have A_3 := A_2.next hB_3
      have cA_3_0 : _ = some (Value.bool y.s) := A_3.cell 0
      have cA_3_1 : _ = some (Value.slice y.a y.n y.c) := A_3.cell 1
      have cA_3_2 : _ = some (Value.slice y.b y.m y.d) := A_3.cell 2
      have P_3 := P_2.below hB_3
      have O_3 := O_2.below hB_3
      have hbW_3 := hbW_2.next hB_3
      have Y_3 := Y_2.below hB_3
      have hbel_3 := hbel_2.next hB_3
      have hsz_3 := hB_3.size
      clear S_2 cS_2_0 fS_2_0 cS_2_1 fS_2_1 cS_2_2 fS_2_2 R0_2 cR0_2_0 fR0_2_0 cR0_2_1 fR0_2_1 cR0_2_2 fR0_2_2 A_2 cA_2_0 cA_2_1 cA_2_2 P_2 O_2 hbW_2 Y_2 hbel_2 hB_3
      have OQ_3 := hO
      have ltOQ := hO.ltB
      have OD_3 := hO'
      have ltOD := hO'.ltB
      clear hO hO'
      try clear hB
      go_wp2
      go_roundw
      case rel => exact ⟨k + 1, ra, rn, rc, ta, tn, tc, by omega, by go_num, (show Blk _ _ #[_, _, _] from ((S_3.setCell (i := 0) (v := _) (by simp)).setCell (i := 1) (v := _) (by simp)).setCell (i := 2) (v := _) (by simp)), (OQ_3.set3 (by omega) _ _ _).mono (by omega), (OD_3.set3 (by omega) _ _ _).mono (by omega), R0_3.set3 (by omega) _ _ _, Below.set3 hbel_3 (by omega) _ _ _, by simp [World.setCell]; omega, hD, OQ_3.awNew (by omega), OD_3.awNew (by omega)⟩
      case measure => simp [intOf]; omega
    · obtain rfl : k = n := by omega
      go_wp2
      refine bodyPost_ret (v := .agg #[.bool (decide ((f k).num < 0)), .slice pa pn pc, .slice oa on oc]) (by simp [results, Tryz.results72, go_sem, cR0_1_0, cR0_1_1, cR0_1_2]) rfl ?_
      exact retqb_set P_1 O_1 hdf aw1 aw2 hbel_1 (by omega)

set_option maxRecDepth 100000 in
set_option maxHeartbeats 8000000 in
theorem ksum_add {w : World} {sa : Option Addr} {n c K : Nat} {xs : List QI} {J : Nat} (f : Nat → Rat) (h0 : f 0 = 0) (hf : ∀ k, k < n → f (k + 1) = ((f k) + ((xs.getD k QI.o).q))) (hx : RdQs K w sa n c xs) (hJ1 : 1 ≤ J) (hJ : J ≤ 900000) (hK1 : 1 ≤ K) (hK : K ≤ 900000) (hq : ∀ k, k ≤ n → QS (f k) J) :
    Calls Tryz.prog 33 #[.iface 67 (.agg #[]), .slice sa n c] w (RetQ w (f n)) := by
  have H := hid (fun w => (show Calls Tryz.prog 199 #[.agg #[]] w (RetQ w (f 0)) by rw [h0]; exact kzero))
  have hqs := hid hq
  have hff := hid hf
  clear h0 hq hf
  have hm : ∀ w : World, (method 321 67 (.agg #[]) "Zero").run Tryz.prog w = .ok (199, .agg #[]) w := fun _ => by kernel_rfl
  have hent := ent1 w #[Value.bool false, Value.slice none 0 0, Value.slice none 0 0] 39
  go_enter Tryz.func33, Tryz.ntmps33
  go_wp2_with fail
  generalize (w.alloc (.cells #[Value.bool false, Value.slice none 0 0, Value.slice none 0 0] 39)) = W0 at hent ⊢
  obtain ⟨R0_0, hbel_0, hsz_0⟩ := hent
  have cR0_0_0 : _ = some (Value.bool false) := R0_0.cell 0
  have fR0_0_0 := R0_0.free 0
  have cR0_0_1 : _ = some (Value.slice none 0 0) := R0_0.cell 1
  have fR0_0_1 := R0_0.free 1
  have cR0_0_2 : _ = some (Value.slice none 0 0) := R0_0.cell 2
  have fR0_0_2 := R0_0.free 2
  have hx_0 := hx.below hbel_0
  clear hx
  go_wp2_with fail
  go_region_held3 (fun _ => True)
    (first | exact trivial | exact ⟨⟩ | go_keep)
    (first
      | (go_at_call 199; ((with_reducible refine (H.out _).mono ?_); (rintro e w1 ⟨za, zn, zc, zb, zm, zd, rfl, hO, hO', hDz, hB⟩; have hB_1 : Below W0.heap.size W0 w1 := (bl.next hB); have R0_1 := R0_0.next hB_1; have cR0_1_0 : _ = some (Value.bool false) := R0_1.cell 0; have fR0_1_0 := R0_1.free 0; have cR0_1_1 : _ = some (Value.slice none 0 0) := R0_1.cell 1; have fR0_1_1 := R0_1.free 1; have cR0_1_2 : _ = some (Value.slice none 0 0) := R0_1.cell 2; have fR0_1_2 := R0_1.free 2; have hx_1 := hx_0.below hB_1; have hbel_1 := hbel_0.next hB_1; have hsz_1 := hB_1.size; clear R0_0 cR0_0_0 fR0_0_0 cR0_0_1 fR0_0_1 cR0_0_2 fR0_0_2 hx_0 hbel_0 hB_1; have Oz_1 := (show Own W0.heap.size _ _ _ _ _ from hO); have ltOz := (show Own W0.heap.size _ _ _ _ _ from hO).ltB; have Pz_1 := (show Own W0.heap.size _ _ _ _ _ from hO'); have ltPz := (show Own W0.heap.size _ _ _ _ _ from hO').ltB; clear hO hO'; try clear hB)))
      | (go_at_call 72; ((with_reducible refine (kfold_add f hff.out (hx_1.below bl) hJ1 hJ hK1 hK hqs.out (by first | omega | (simp; omega)) (Oz_1.below bl) (Pz_1.below bl) hDz).mono ?_); (rintro e w2 ⟨qa, qn, qc, qb, qm, qd, rfl, hO, hO', hDq, hB⟩; have hB_2 : Below w1.heap.size w1 w2 := (bl.next hB); have R0_2 := R0_1.next hB_2; have cR0_2_0 : _ = some (Value.bool false) := R0_2.cell 0; have fR0_2_0 := R0_2.free 0; have cR0_2_1 : _ = some (Value.slice none 0 0) := R0_2.cell 1; have fR0_2_1 := R0_2.free 1; have cR0_2_2 : _ = some (Value.slice none 0 0) := R0_2.cell 2; have fR0_2_2 := R0_2.free 2; have hx_2 := hx_1.below hB_2; have Oz_2 := Oz_1.below hB_2; have Pz_2 := Pz_1.below hB_2; have hbel_2 := hbel_1.next hB_2; have hsz_2 := hB_2.size; clear R0_1 cR0_1_0 fR0_1_0 cR0_1_1 fR0_1_1 cR0_1_2 fR0_1_2 hx_1 Oz_1 Pz_1 hbel_1 hB_2; have Oq_2 := hO; have ltOq := hO.ltB; have Pq_2 := hO'; have ltPq := hO'.ltB; clear hO hO'; try clear hB))))
  all_goals (go_wp2; refine bodyPost_ret (v := .agg #[.bool (decide ((f n).num < 0)), .slice qa qn qc, .slice qb qm qd]) (by simp [results, Tryz.results33, go_sem, cR0_2_0, cR0_2_1, cR0_2_2]) rfl ?_; exact retq_set Oq_2 Pq_2 hDq hbel_2 (by omega) (by omega))

set_option maxRecDepth 100000 in
set_option maxHeartbeats 8000000 in
theorem ksum_most {w : World} {sa : Option Addr} {n c K : Nat} {xs : List QI} {J : Nat} (f : Nat → Rat) (h0 : f 0 = 0) (hf : ∀ k, k < n → f (k + 1) = (mxQ (f k) ((xs.getD k QI.o).q))) (hx : RdQs K w sa n c xs) (hJ1 : 1 ≤ J) (hJ : J ≤ 900000) (hK1 : 1 ≤ K) (hK : K ≤ 900000) (hq : ∀ k, k ≤ n → QS (f k) J) :
    Calls Tryz.prog 33 #[.iface 70 (.agg #[]), .slice sa n c] w (RetQ w (f n)) := by
  have H := hid (fun w => (show Calls Tryz.prog 199 #[.agg #[]] w (RetQ w (f 0)) by rw [h0]; exact kzero))
  have hqs := hid hq
  have hff := hid hf
  clear h0 hq hf
  have hm : ∀ w : World, (method 321 70 (.agg #[]) "Zero").run Tryz.prog w = .ok (199, .agg #[]) w := fun _ => by kernel_rfl
  have hent := ent1 w #[Value.bool false, Value.slice none 0 0, Value.slice none 0 0] 39
  go_enter Tryz.func33, Tryz.ntmps33
  go_wp2_with fail
  generalize (w.alloc (.cells #[Value.bool false, Value.slice none 0 0, Value.slice none 0 0] 39)) = W0 at hent ⊢
  obtain ⟨R0_0, hbel_0, hsz_0⟩ := hent
  have cR0_0_0 : _ = some (Value.bool false) := R0_0.cell 0
  have fR0_0_0 := R0_0.free 0
  have cR0_0_1 : _ = some (Value.slice none 0 0) := R0_0.cell 1
  have fR0_0_1 := R0_0.free 1
  have cR0_0_2 : _ = some (Value.slice none 0 0) := R0_0.cell 2
  have fR0_0_2 := R0_0.free 2
  have hx_0 := hx.below hbel_0
  clear hx
  go_wp2_with fail
  go_region_held3 (fun _ => True)
    (first | exact trivial | exact ⟨⟩ | go_keep)
    (first
      | (go_at_call 199; ((with_reducible refine (H.out _).mono ?_); (rintro e w1 ⟨za, zn, zc, zb, zm, zd, rfl, hO, hO', hDz, hB⟩; have hB_1 : Below W0.heap.size W0 w1 := (bl.next hB); have R0_1 := R0_0.next hB_1; have cR0_1_0 : _ = some (Value.bool false) := R0_1.cell 0; have fR0_1_0 := R0_1.free 0; have cR0_1_1 : _ = some (Value.slice none 0 0) := R0_1.cell 1; have fR0_1_1 := R0_1.free 1; have cR0_1_2 : _ = some (Value.slice none 0 0) := R0_1.cell 2; have fR0_1_2 := R0_1.free 2; have hx_1 := hx_0.below hB_1; have hbel_1 := hbel_0.next hB_1; have hsz_1 := hB_1.size; clear R0_0 cR0_0_0 fR0_0_0 cR0_0_1 fR0_0_1 cR0_0_2 fR0_0_2 hx_0 hbel_0 hB_1; have Oz_1 := (show Own W0.heap.size _ _ _ _ _ from hO); have ltOz := (show Own W0.heap.size _ _ _ _ _ from hO).ltB; have Pz_1 := (show Own W0.heap.size _ _ _ _ _ from hO'); have ltPz := (show Own W0.heap.size _ _ _ _ _ from hO').ltB; clear hO hO'; try clear hB)))
      | (go_at_call 72; ((with_reducible refine (kfold_most f hff.out (hx_1.below bl) hJ1 hJ hK1 hK hqs.out (by first | omega | (simp; omega)) (Oz_1.below bl) (Pz_1.below bl) hDz).mono ?_); (rintro e w2 ⟨qa, qn, qc, qb, qm, qd, rfl, hO, hO', hDq, hB⟩; have hB_2 : Below w1.heap.size w1 w2 := (bl.next hB); have R0_2 := R0_1.next hB_2; have cR0_2_0 : _ = some (Value.bool false) := R0_2.cell 0; have fR0_2_0 := R0_2.free 0; have cR0_2_1 : _ = some (Value.slice none 0 0) := R0_2.cell 1; have fR0_2_1 := R0_2.free 1; have cR0_2_2 : _ = some (Value.slice none 0 0) := R0_2.cell 2; have fR0_2_2 := R0_2.free 2; have hx_2 := hx_1.below hB_2; have Oz_2 := Oz_1.below hB_2; have Pz_2 := Pz_1.below hB_2; have hbel_2 := hbel_1.next hB_2; have hsz_2 := hB_2.size; clear R0_1 cR0_1_0 fR0_1_0 cR0_1_1 fR0_1_1 cR0_1_2 fR0_1_2 hx_1 Oz_1 Pz_1 hbel_1 hB_2; have Oq_2 := hO; have ltOq := hO.ltB; have Pq_2 := hO'; have ltPq := hO'.ltB; clear hO hO'; try clear hB))))
  all_goals (go_wp2; refine bodyPost_ret (v := .agg #[.bool (decide ((f n).num < 0)), .slice qa qn qc, .slice qb qm qd]) (by simp [results, Tryz.results33, go_sem, cR0_2_0, cR0_2_1, cR0_2_2]) rfl ?_; exact retq_set Oq_2 Pq_2 hDq hbel_2 (by omega) (by omega))

set_option maxRecDepth 100000 in
set_option maxHeartbeats 4000000 in
theorem kpower_nil {w : World} {s : Bool} {a b : Option Addr} {n0 c0 m0 d0 : Nat} (k : Int) (q : Rat) :
    Calls Tryz.prog 35 #[.nilIface, .agg #[.bool s, .slice a n0 c0, .slice b m0 d0], .int .i64 k] w (RetQE w q 2) := by
  have hent := ent2 w #[Value.bool s, Value.slice a n0 c0, Value.slice b m0 d0] #[Value.bool false, Value.slice none 0 0, Value.slice none 0 0] 39 39
  go_enter Tryz.func35, Tryz.ntmps35
  go_wp2_with fail
  generalize ((w.alloc (.cells #[Value.bool s, Value.slice a n0 c0, Value.slice b m0 d0] 39)).alloc (.cells #[Value.bool false, Value.slice none 0 0, Value.slice none 0 0] 39)) = W0 at hent ⊢
  obtain ⟨X_0, R0_0, hbel_0, hsz_0⟩ := hent
  have cX_0_0 : _ = some (Value.bool s) := X_0.cell 0
  have cX_0_1 : _ = some (Value.slice a n0 c0) := X_0.cell 1
  have cX_0_2 : _ = some (Value.slice b m0 d0) := X_0.cell 2
  have cR0_0_0 : _ = some (Value.bool false) := R0_0.cell 0
  have fR0_0_0 := R0_0.free 0
  have cR0_0_1 : _ = some (Value.slice none 0 0) := R0_0.cell 1
  have fR0_0_1 := R0_0.free 1
  have cR0_0_2 : _ = some (Value.slice none 0 0) := R0_0.cell 2
  have fR0_0_2 := R0_0.free 2
  have hbx := blk_new W0 #[Value.bool false, Value.slice none 0 0, Value.slice none 0 0] 39
  have hbB := (Below.refl W0.heap.size W0).alloc (Nat.le_refl _) (.cells #[Value.bool false, Value.slice none 0 0, Value.slice none 0 0] 39)
  have hltE := hbx.lt
  have hB_1 : Below W0.heap.size W0 (W0.alloc (.cells #[Value.bool false, Value.slice none 0 0, Value.slice none 0 0] 39)) := hbB
  have X_1 := X_0.next hB_1
  have cX_1_0 : _ = some (Value.bool s) := X_1.cell 0
  have cX_1_1 : _ = some (Value.slice a n0 c0) := X_1.cell 1
  have cX_1_2 : _ = some (Value.slice b m0 d0) := X_1.cell 2
  have R0_1 := R0_0.next hB_1
  have cR0_1_0 : _ = some (Value.bool false) := R0_1.cell 0
  have fR0_1_0 := R0_1.free 0
  have cR0_1_1 : _ = some (Value.slice none 0 0) := R0_1.cell 1
  have fR0_1_1 := R0_1.free 1
  have cR0_1_2 : _ = some (Value.slice none 0 0) := R0_1.cell 2
  have fR0_1_2 := R0_1.free 2
  have hbel_1 := hbel_0.next hB_1
  have hsz_1 := hB_1.size
  clear hB_1
  have E_1 := hbx
  clear hbx hbB
  have cE_1_0 : _ = some (Value.bool false) := E_1.cell 0
  have cE_1_1 : _ = some (Value.slice none 0 0) := E_1.cell 1
  have cE_1_2 : _ = some (Value.slice none 0 0) := E_1.cell 2
  go_wp2_with fail
  clear X_0 cX_0_0 cX_0_1 cX_0_2 R0_0 cR0_0_0 fR0_0_0 cR0_0_1 fR0_0_1 cR0_0_2 fR0_0_2 hbel_0
  generalize (W0.alloc (.cells #[Value.bool false, Value.slice none 0 0, Value.slice none 0 0] 39)) = v1 at *
  go_wp2
  refine bodyPost_ret (v := .tuple #[.agg #[.bool false, .slice none 0 0, .slice none 0 0], .int .i64 2]) (by simp [results, Tryz.results35, go_sem, cR0_1_0, cR0_1_1, cR0_1_2]) rfl ?_
  exact retqe_nil0 (by decide) hbel_1

set_option maxRecDepth 100000 in
set_option maxHeartbeats 4000000 in
theorem kpower_lo {w : World} {s : Bool} {a b : Option Addr} {n0 c0 m0 d0 : Nat} (k : Int) (hk : k < 0) (q : Rat) :
    Calls Tryz.prog 35 #[.iface 67 (.agg #[]), .agg #[.bool s, .slice a n0 c0, .slice b m0 d0], .int .i64 k] w (RetQE w q 3) := by
  have hent := ent2 w #[Value.bool s, Value.slice a n0 c0, Value.slice b m0 d0] #[Value.bool false, Value.slice none 0 0, Value.slice none 0 0] 39 39
  go_enter Tryz.func35, Tryz.ntmps35
  go_wp2_with fail
  generalize ((w.alloc (.cells #[Value.bool s, Value.slice a n0 c0, Value.slice b m0 d0] 39)).alloc (.cells #[Value.bool false, Value.slice none 0 0, Value.slice none 0 0] 39)) = W0 at hent ⊢
  obtain ⟨X_0, R0_0, hbel_0, hsz_0⟩ := hent
  have cX_0_0 : _ = some (Value.bool s) := X_0.cell 0
  have cX_0_1 : _ = some (Value.slice a n0 c0) := X_0.cell 1
  have cX_0_2 : _ = some (Value.slice b m0 d0) := X_0.cell 2
  have cR0_0_0 : _ = some (Value.bool false) := R0_0.cell 0
  have fR0_0_0 := R0_0.free 0
  have cR0_0_1 : _ = some (Value.slice none 0 0) := R0_0.cell 1
  have fR0_0_1 := R0_0.free 1
  have cR0_0_2 : _ = some (Value.slice none 0 0) := R0_0.cell 2
  have fR0_0_2 := R0_0.free 2
  have hbx := blk_new W0 #[Value.bool false, Value.slice none 0 0, Value.slice none 0 0] 39
  have hbB := (Below.refl W0.heap.size W0).alloc (Nat.le_refl _) (.cells #[Value.bool false, Value.slice none 0 0, Value.slice none 0 0] 39)
  have hltE := hbx.lt
  have hB_1 : Below W0.heap.size W0 (W0.alloc (.cells #[Value.bool false, Value.slice none 0 0, Value.slice none 0 0] 39)) := hbB
  have X_1 := X_0.next hB_1
  have cX_1_0 : _ = some (Value.bool s) := X_1.cell 0
  have cX_1_1 : _ = some (Value.slice a n0 c0) := X_1.cell 1
  have cX_1_2 : _ = some (Value.slice b m0 d0) := X_1.cell 2
  have R0_1 := R0_0.next hB_1
  have cR0_1_0 : _ = some (Value.bool false) := R0_1.cell 0
  have fR0_1_0 := R0_1.free 0
  have cR0_1_1 : _ = some (Value.slice none 0 0) := R0_1.cell 1
  have fR0_1_1 := R0_1.free 1
  have cR0_1_2 : _ = some (Value.slice none 0 0) := R0_1.cell 2
  have fR0_1_2 := R0_1.free 2
  have hbel_1 := hbel_0.next hB_1
  have hsz_1 := hB_1.size
  clear hB_1
  have E_1 := hbx
  clear hbx hbB
  have cE_1_0 : _ = some (Value.bool false) := E_1.cell 0
  have cE_1_1 : _ = some (Value.slice none 0 0) := E_1.cell 1
  have cE_1_2 : _ = some (Value.slice none 0 0) := E_1.cell 2
  go_wp2_with fail
  clear X_0 cX_0_0 cX_0_1 cX_0_2 R0_0 cR0_0_0 fR0_0_0 cR0_0_1 fR0_0_1 cR0_0_2 fR0_0_2 hbel_0
  generalize (W0.alloc (.cells #[Value.bool false, Value.slice none 0 0, Value.slice none 0 0] 39)) = v1 at *
  go_wp2
  refine bodyPost_ret (v := .tuple #[.agg #[.bool false, .slice none 0 0, .slice none 0 0], .int .i64 3]) (by simp [results, Tryz.results35, go_sem, cR0_1_0, cR0_1_1, cR0_1_2]) rfl ?_
  exact retqe_nil0 (by decide) hbel_1

set_option maxRecDepth 100000 in
set_option maxHeartbeats 4000000 in
theorem kpower_hi {w : World} {s : Bool} {a b : Option Addr} {n0 c0 m0 d0 : Nat} (k : Int) (h0 : 0 ≤ k) (hk : 1024 < k) (q : Rat) :
    Calls Tryz.prog 35 #[.iface 67 (.agg #[]), .agg #[.bool s, .slice a n0 c0, .slice b m0 d0], .int .i64 k] w (RetQE w q 3) := by
  have hent := ent2 w #[Value.bool s, Value.slice a n0 c0, Value.slice b m0 d0] #[Value.bool false, Value.slice none 0 0, Value.slice none 0 0] 39 39
  go_enter Tryz.func35, Tryz.ntmps35
  go_wp2_with fail
  generalize ((w.alloc (.cells #[Value.bool s, Value.slice a n0 c0, Value.slice b m0 d0] 39)).alloc (.cells #[Value.bool false, Value.slice none 0 0, Value.slice none 0 0] 39)) = W0 at hent ⊢
  obtain ⟨X_0, R0_0, hbel_0, hsz_0⟩ := hent
  have cX_0_0 : _ = some (Value.bool s) := X_0.cell 0
  have cX_0_1 : _ = some (Value.slice a n0 c0) := X_0.cell 1
  have cX_0_2 : _ = some (Value.slice b m0 d0) := X_0.cell 2
  have cR0_0_0 : _ = some (Value.bool false) := R0_0.cell 0
  have fR0_0_0 := R0_0.free 0
  have cR0_0_1 : _ = some (Value.slice none 0 0) := R0_0.cell 1
  have fR0_0_1 := R0_0.free 1
  have cR0_0_2 : _ = some (Value.slice none 0 0) := R0_0.cell 2
  have fR0_0_2 := R0_0.free 2
  have hbx := blk_new W0 #[Value.bool false, Value.slice none 0 0, Value.slice none 0 0] 39
  have hbB := (Below.refl W0.heap.size W0).alloc (Nat.le_refl _) (.cells #[Value.bool false, Value.slice none 0 0, Value.slice none 0 0] 39)
  have hltE := hbx.lt
  have hB_1 : Below W0.heap.size W0 (W0.alloc (.cells #[Value.bool false, Value.slice none 0 0, Value.slice none 0 0] 39)) := hbB
  have X_1 := X_0.next hB_1
  have cX_1_0 : _ = some (Value.bool s) := X_1.cell 0
  have cX_1_1 : _ = some (Value.slice a n0 c0) := X_1.cell 1
  have cX_1_2 : _ = some (Value.slice b m0 d0) := X_1.cell 2
  have R0_1 := R0_0.next hB_1
  have cR0_1_0 : _ = some (Value.bool false) := R0_1.cell 0
  have fR0_1_0 := R0_1.free 0
  have cR0_1_1 : _ = some (Value.slice none 0 0) := R0_1.cell 1
  have fR0_1_1 := R0_1.free 1
  have cR0_1_2 : _ = some (Value.slice none 0 0) := R0_1.cell 2
  have fR0_1_2 := R0_1.free 2
  have hbel_1 := hbel_0.next hB_1
  have hsz_1 := hB_1.size
  clear hB_1
  have E_1 := hbx
  clear hbx hbB
  have cE_1_0 : _ = some (Value.bool false) := E_1.cell 0
  have cE_1_1 : _ = some (Value.slice none 0 0) := E_1.cell 1
  have cE_1_2 : _ = some (Value.slice none 0 0) := E_1.cell 2
  go_wp2_with fail
  clear X_0 cX_0_0 cX_0_1 cX_0_2 R0_0 cR0_0_0 fR0_0_0 cR0_0_1 fR0_0_1 cR0_0_2 fR0_0_2 hbel_0
  generalize (W0.alloc (.cells #[Value.bool false, Value.slice none 0 0, Value.slice none 0 0] 39)) = v1 at *
  go_wp2
  refine bodyPost_ret (v := .tuple #[.agg #[.bool false, .slice none 0 0, .slice none 0 0], .int .i64 3]) (by simp [results, Tryz.results35, go_sem, cR0_1_0, cR0_1_1, cR0_1_2]) rfl ?_
  exact retqe_nil0 (by decide) hbel_1

set_option maxRecDepth 100000 in
set_option maxHeartbeats 8000000 in
theorem kpower {w : World} {s : Bool} {a b : Option Addr} {n0 c0 m0 d0 : Nat} {J : Nat} {x : Rat} (n : Nat) (hn : n ≤ 1024) (f : Nat → Rat) (h0 : f 0 = 1) (hf : ∀ k, k < n → f (k + 1) = f k * x) (hx : RdQ J w s a n0 c0 b m0 d0 x) (hJ1 : 1 ≤ J) (hJ : J ≤ 900000) (hq : ∀ k, k ≤ n → QS (f k) J) :
    Calls Tryz.prog 35 #[.iface 67 (.agg #[]), .agg #[.bool s, .slice a n0 c0, .slice b m0 d0], .int .i64 (n : Int)] w (RetQE w (f n) 0) := by
  have H := hid (fun w => (show Calls Tryz.prog 198 #[.agg #[]] w (RetQ w (f 0)) by rw [h0]; exact kone))
  have hqs := hid hq
  have hff := hid hf
  clear h0 hq hf
  have hm : ∀ w : World, (method 321 67 (.agg #[]) "One").run Tryz.prog w = .ok (198, .agg #[]) w := fun _ => by kernel_rfl
  have hm2 : ∀ w : World, (method 321 67 (.agg #[]) "Mul").run Tryz.prog w = .ok (197, .agg #[]) w := fun _ => by kernel_rfl
  have hent := ent2 w #[Value.bool s, Value.slice a n0 c0, Value.slice b m0 d0] #[Value.bool false, Value.slice none 0 0, Value.slice none 0 0] 39 39
  go_enter Tryz.func35, Tryz.ntmps35
  go_wp2_with fail
  generalize ((w.alloc (.cells #[Value.bool s, Value.slice a n0 c0, Value.slice b m0 d0] 39)).alloc (.cells #[Value.bool false, Value.slice none 0 0, Value.slice none 0 0] 39)) = W0 at hent ⊢
  obtain ⟨X_0, R0_0, hbel_0, hsz_0⟩ := hent
  have cX_0_0 : _ = some (Value.bool s) := X_0.cell 0
  have cX_0_1 : _ = some (Value.slice a n0 c0) := X_0.cell 1
  have cX_0_2 : _ = some (Value.slice b m0 d0) := X_0.cell 2
  have cR0_0_0 : _ = some (Value.bool false) := R0_0.cell 0
  have fR0_0_0 := R0_0.free 0
  have cR0_0_1 : _ = some (Value.slice none 0 0) := R0_0.cell 1
  have fR0_0_1 := R0_0.free 1
  have cR0_0_2 : _ = some (Value.slice none 0 0) := R0_0.cell 2
  have fR0_0_2 := R0_0.free 2
  have hx_0 := hx.below hbel_0
  clear hx
  have HX := hid hx_0
  clear hx_0
  have hbW_0 : Below W0.heap.size W0 W0 := Below.refl _ _
  go_wp2_with fail
  refine (H.out _).mono ?_
  rintro e w1 ⟨pa, pn, pc, pb, pm, pd, rfl, hO, hO', hDp, hB⟩
  have hB_1 : Below W0.heap.size W0 w1 := (bl.next hB)
  have X_1 := X_0.next hB_1
  have cX_1_0 : _ = some (Value.bool s) := X_1.cell 0
  have cX_1_1 : _ = some (Value.slice a n0 c0) := X_1.cell 1
  have cX_1_2 : _ = some (Value.slice b m0 d0) := X_1.cell 2
  have R0_1 := R0_0.next hB_1
  have cR0_1_0 : _ = some (Value.bool false) := R0_1.cell 0
  have fR0_1_0 := R0_1.free 0
  have cR0_1_1 : _ = some (Value.slice none 0 0) := R0_1.cell 1
  have fR0_1_1 := R0_1.free 1
  have cR0_1_2 : _ = some (Value.slice none 0 0) := R0_1.cell 2
  have fR0_1_2 := R0_1.free 2
  have hbW_1 := hbW_0.next hB_1
  have hbel_1 := hbel_0.next hB_1
  have hsz_1 := hB_1.size
  clear X_0 cX_0_0 cX_0_1 cX_0_2 R0_0 cR0_0_0 fR0_0_0 cR0_0_1 fR0_0_1 cR0_0_2 fR0_0_2 hbW_0 hbel_0 hB_1
  have Op_1 := hO
  have ltOp := hO.ltB
  have Pp_1 := hO'
  have ltPp := hO'.ltB
  clear hO hO'
  try clear hB
  have hbx := blk_new w1 #[Value.bool (decide ((f 0).num < 0)), Value.slice pa pn pc, Value.slice pb pm pd] 39
  have hbB := (Below.refl w1.heap.size w1).alloc (Nat.le_refl _) (.cells #[Value.bool (decide ((f 0).num < 0)), Value.slice pa pn pc, Value.slice pb pm pd] 39)
  have hltS := hbx.lt
  have hB_2 : Below w1.heap.size w1 (w1.alloc (.cells #[Value.bool (decide ((f 0).num < 0)), Value.slice pa pn pc, Value.slice pb pm pd] 39)) := hbB
  have X_2 := X_1.next hB_2
  have cX_2_0 : _ = some (Value.bool s) := X_2.cell 0
  have cX_2_1 : _ = some (Value.slice a n0 c0) := X_2.cell 1
  have cX_2_2 : _ = some (Value.slice b m0 d0) := X_2.cell 2
  have R0_2 := R0_1.next hB_2
  have cR0_2_0 : _ = some (Value.bool false) := R0_2.cell 0
  have fR0_2_0 := R0_2.free 0
  have cR0_2_1 : _ = some (Value.slice none 0 0) := R0_2.cell 1
  have fR0_2_1 := R0_2.free 1
  have cR0_2_2 : _ = some (Value.slice none 0 0) := R0_2.cell 2
  have fR0_2_2 := R0_2.free 2
  have hbW_2 := hbW_1.next hB_2
  have Op_2 := Op_1.below hB_2
  have Pp_2 := Pp_1.below hB_2
  have hbel_2 := hbel_1.next hB_2
  have hsz_2 := hB_2.size
  clear hB_2
  have S_2 := hbx
  clear hbx hbB
  have cS_2_0 : _ = some (Value.bool (decide ((f 0).num < 0))) := S_2.cell 0
  have fS_2_0 := S_2.free 0
  have cS_2_1 : _ = some (Value.slice pa pn pc) := S_2.cell 1
  have fS_2_1 := S_2.free 1
  have cS_2_2 : _ = some (Value.slice pb pm pd) := S_2.cell 2
  have fS_2_2 := S_2.free 2
  go_wp2_with fail
  clear X_1 cX_1_0 cX_1_1 cX_1_2 R0_1 cR0_1_0 fR0_1_0 cR0_1_1 fR0_1_1 cR0_1_2 fR0_1_2 hbW_1 Op_1 Pp_1 hbel_1
  generalize (w1.alloc (.cells #[Value.bool (decide ((f 0).num < 0)), Value.slice pa pn pc, Value.slice pb pm pd] 39)) = v2 at *
  have hgS : w.heap.size + 2 ≤ w1.heap.size := by omega
  have hgS1 : W0.heap.size ≤ w1.heap.size := by omega
  generalize hgg : w1.heap.size = gS at *
  clear hgg
  go_loopw [28] (fun i wr => ∃ (k : Nat) (pa : Option Addr) (pn pc : Nat) (oa : Option Addr) (on oc : Nat), k ≤ n ∧ i = .int .i64 k ∧ Blk wr gS #[.bool (decide ((f k).num < 0)), .slice pa pn pc, .slice oa on oc] ∧ Own W0.heap.size wr pa pn pc (lm (f k).num.natAbs) ∧ Own W0.heap.size wr oa on oc (lm (f k).den) ∧ Blk wr w.heap.size #[Value.bool s, Value.slice a n0 c0, Value.slice b m0 d0] ∧ Blk wr (w.heap.size + 1) #[Value.bool false, Value.slice none 0 0, Value.slice none 0 0] ∧ Below W0.heap.size W0 wr ∧ Below w.heap.size w wr ∧ Diff pa oa) (fun i _ => n - (intOf i).toNat)
  case atStart => exact ⟨0, _, _, _, _, _, _, Nat.zero_le _, rfl, S_2, Op_2.mono (by omega), Pp_2.mono (by omega), X_2, R0_2, hbW_2, hbel_2, hDp⟩
  case round =>
    clear S_2 X_2 R0_2 hbW_2 hbel_2 Op_2 Pp_2 hDp cS_2_0 fS_2_0 cS_2_1 fS_2_1 cS_2_2 fS_2_2 cR0_2_0 fR0_2_0 cR0_2_1 fR0_2_1 cR0_2_2 fR0_2_2 cX_2_0 cX_2_1 cX_2_2
    obtain ⟨k, pa, pn, pc, oa, on, oc, hk, rfl, S_3, P_3, O_3, X_3, R0_3, hbW_3, hbel_3, hdf⟩ := hrel
    have hWs := hbW_3.size
    have hltS := S_3.lt
    have cS_3_0 : _ = some (Value.bool (decide ((f k).num < 0))) := S_3.cell 0
    have fS_3_0 := S_3.free 0
    have cS_3_1 : _ = some (Value.slice pa pn pc) := S_3.cell 1
    have fS_3_1 := S_3.free 1
    have cS_3_2 : _ = some (Value.slice oa on oc) := S_3.cell 2
    have fS_3_2 := S_3.free 2
    have cR0_3_0 : _ = some (Value.bool false) := R0_3.cell 0
    have fR0_3_0 := R0_3.free 0
    have cR0_3_1 : _ = some (Value.slice none 0 0) := R0_3.cell 1
    have fR0_3_1 := R0_3.free 1
    have cR0_3_2 : _ = some (Value.slice none 0 0) := R0_3.cell 2
    have fR0_3_2 := R0_3.free 2
    have cX_3_0 : _ = some (Value.bool s) := X_3.cell 0
    have cX_3_1 : _ = some (Value.slice a n0 c0) := X_3.cell 1
    have cX_3_2 : _ = some (Value.slice b m0 d0) := X_3.cell 2
    by_cases hkn : k < n
    · skip
      have hqk := hid (hqs.out k hk)
      have hstep := hid (hff.out k hkn)
      have Y_3 := HX.out.below hbW_3
      go_wp2_with fail
      refine (kmul (P_3.rdQ O_3 hqk.out) (by omega) Y_3 (by omega)).mono ?_
      rw [← hstep.out]
      rintro e w4 ⟨ra, rn, rc, ta, tn, tc, rfl, hO, hO', hD, hB⟩
      have hB_4 : Below wr.heap.size wr w4 := (bl.next hB)
      have X_4 := X_3.next hB_4
      have cX_4_0 : _ = some (Value.bool s) := X_4.cell 0
      have cX_4_1 : _ = some (Value.slice a n0 c0) := X_4.cell 1
      have cX_4_2 : _ = some (Value.slice b m0 d0) := X_4.cell 2
      have R0_4 := R0_3.next hB_4
      have cR0_4_0 : _ = some (Value.bool false) := R0_4.cell 0
      have fR0_4_0 := R0_4.free 0
      have cR0_4_1 : _ = some (Value.slice none 0 0) := R0_4.cell 1
      have fR0_4_1 := R0_4.free 1
      have cR0_4_2 : _ = some (Value.slice none 0 0) := R0_4.cell 2
      have fR0_4_2 := R0_4.free 2
      have S_4 := S_3.next hB_4
      have cS_4_0 : _ = some (Value.bool (decide ((f k).num < 0))) := S_4.cell 0
      have fS_4_0 := S_4.free 0
      have cS_4_1 : _ = some (Value.slice pa pn pc) := S_4.cell 1
      have fS_4_1 := S_4.free 1
      have cS_4_2 : _ = some (Value.slice oa on oc) := S_4.cell 2
      have fS_4_2 := S_4.free 2
      have hbW_4 := hbW_3.next hB_4
      have O_4 := O_3.below hB_4
      have P_4 := P_3.below hB_4
      have Y_4 := Y_3.below hB_4
      have hbel_4 := hbel_3.next hB_4
      have hsz_4 := hB_4.size
      clear X_3 cX_3_0 cX_3_1 cX_3_2 R0_3 cR0_3_0 fR0_3_0 cR0_3_1 fR0_3_1 cR0_3_2 fR0_3_2 S_3 cS_3_0 fS_3_0 cS_3_1 fS_3_1 cS_3_2 fS_3_2 hbW_3 O_3 P_3 Y_3 hbel_3 hB_4
      have OQ_4 := hO
      have ltOQ := hO.ltB
      have OD_4 := hO'
      have ltOD := hO'.ltB
      clear hO hO'
      try clear hB
      go_wp2
      go_roundw
      case rel => exact ⟨k + 1, ra, rn, rc, ta, tn, tc, by omega, by go_num, (show Blk _ _ #[_, _, _] from ((S_4.setCell (i := 0) (v := _) (by simp)).setCell (i := 1) (v := _) (by simp)).setCell (i := 2) (v := _) (by simp)), (OQ_4.set3 (by omega) _ _ _).mono (by omega), (OD_4.set3 (by omega) _ _ _).mono (by omega), X_4.set3 (by omega) _ _ _, R0_4.set3 (by omega) _ _ _, Below.set3 hbW_4 (by omega) _ _ _, Below.set3 hbel_4 (by omega) _ _ _, hD⟩
      case measure => simp [intOf]; omega
    · obtain rfl : k = n := by omega
      go_wp2
      refine bodyPost_ret (v := .tuple #[.agg #[.bool (decide ((f k).num < 0)), .slice pa pn pc, .slice oa on oc], .int .i64 0]) (by simp [results, Tryz.results35, go_sem, cR0_3_0, cR0_3_1, cR0_3_2]) rfl ?_
      exact retqe_set (er := 0) P_3 O_3 hdf hbel_3 (by omega) (by omega)

end Go.Proofs.YtokkfppchfmjcaaGreat
