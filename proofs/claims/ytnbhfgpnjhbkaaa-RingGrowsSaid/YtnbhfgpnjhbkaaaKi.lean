/- WALKS OF RINGS: a power of a slope. -/
import Derived.Test.YtnbhfgpnjhbkaaaKb
import Derived.Test.YtnbhfgpnjhbkaaaKd
namespace Go.Proofs.Ytnbhfgpnjhbkaaa
set_option linter.unusedVariables false
set_option linter.unusedSimpArgs false
open Go.ChangeShapes Go.WideShapes Go.ChangeAt Go.RowKit Go.NatP

/-- a slope beside no error -/
def RetSlE (w : World) (p q : Rat) (e : Ending) (w' : World) : Prop :=
  ∃ a n c b m d a' n' c' b' m' d', e = .returned (.tuple #[.agg #[.bool (decide (p.num < 0)), .slice a n c, .slice b m d, .bool (decide (q.num < 0)), .slice a' n' c', .slice b' m' d'], .int .i64 0]) ∧ Own w.heap.size w' a n c (lm p.num.natAbs) ∧ Own w.heap.size w' b m d (lm p.den) ∧ Own w.heap.size w' a' n' c' (lm q.num.natAbs) ∧ Own w.heap.size w' b' m' d' (lm q.den) ∧ Diff4 a b a' b' ∧ Below w.heap.size w w'
theorem retsle_set {w w2 : World} {p q : Rat} {B B2 g : Nat} {a b a' b' : Option Addr} {n c m d n' c' m' d' : Nat} {v0 v1 v2 v3 v4 v5 : Value} (h1 : Own B w2 a n c (lm p.num.natAbs)) (h2 : Own B w2 b m d (lm p.den)) (h3 : Own B2 w2 a' n' c' (lm q.num.natAbs)) (h4 : Own B2 w2 b' m' d' (lm q.den)) (hD : Diff4 a b a' b') (hB : Below w.heap.size w w2) (hg : w.heap.size ≤ g) (hgB : g < B) (hgB2 : g < B2) :
    RetSlE w p q (.returned (.tuple #[.agg #[.bool (decide (p.num < 0)), .slice a n c, .slice b m d, .bool (decide (q.num < 0)), .slice a' n' c', .slice b' m' d'], .int .i64 0])) ((((((w2.setCell ⟨g, 0, none⟩ v0).setCell ⟨g, 1, none⟩ v1).setCell ⟨g, 2, none⟩ v2).setCell ⟨g, 3, none⟩ v3).setCell ⟨g, 4, none⟩ v4).setCell ⟨g, 5, none⟩ v5) :=
  ⟨a, n, c, b, m, d, a', n', c', b', m', d', rfl, (h1.set6 hgB _ _ _ _ _ _).mono (by omega), (h2.set6 hgB _ _ _ _ _ _).mono (by omega), (h3.set6 hgB2 _ _ _ _ _ _).mono (by omega), (h4.set6 hgB2 _ _ _ _ _ _).mono (by omega), hD, Below.set6 hB hg _ _ _ _ _ _⟩
theorem Blk.set6 {w : World} {g g' : Nat} {cs : Array Value} (h : Blk w g cs) (hn : g ≠ g') (v0 v1 v2 v3 v4 v5 : Value) : Blk ((((((w.setCell ⟨g', 0, none⟩ v0).setCell ⟨g', 1, none⟩ v1).setCell ⟨g', 2, none⟩ v2).setCell ⟨g', 3, none⟩ v3).setCell ⟨g', 4, none⟩ v4).setCell ⟨g', 5, none⟩ v5) g cs :=
  ((((((h.set_other hn).set_other hn).set_other hn).set_other hn).set_other hn).set_other hn)
theorem blk_put6 {w : World} {g : Nat} {u0 u1 u2 u3 u4 u5 : Value} (h : Blk w g #[u0, u1, u2, u3, u4, u5]) (v0 v1 v2 v3 v4 v5 : Value) : Blk ((((((w.setCell ⟨g, 0, none⟩ v0).setCell ⟨g, 1, none⟩ v1).setCell ⟨g, 2, none⟩ v2).setCell ⟨g, 3, none⟩ v3).setCell ⟨g, 4, none⟩ v4).setCell ⟨g, 5, none⟩ v5) g #[v0, v1, v2, v3, v4, v5] :=
  show Blk _ _ #[_, _, _, _, _, _] from (((((h.setCell (i := 0) (v := v0) (by simp)).setCell (i := 1) (v := v1) (by simp)).setCell (i := 2) (v := v2) (by simp)).setCell (i := 3) (v := v3) (by simp)).setCell (i := 4) (v := v4) (by simp)).setCell (i := 5) (v := v5) (by simp)

set_option maxRecDepth 100000 in
set_option maxHeartbeats 16000000 in
theorem kspower {w : World} {s t : Bool} {a b a' b' : Option Addr} {n0 c0 m0 d0 n1 c1 m1 d1 : Nat} {J : Nat} {x y : Rat} (n : Nat) (hn : n ≤ 1024) (f g : Nat → Rat) (h0 : f 0 = 1) (h1 : g 0 = 0) (hf : ∀ k, k < n → f (k + 1) = f k * x) (hg : ∀ k, k < n → g (k + 1) = f k * y + g k * x) (hx : RdQ J w s a n0 c0 b m0 d0 x) (hy : RdQ J w t a' n1 c1 b' m1 d1 y) (hJ1 : 1 ≤ J) (hJ : J ≤ 100000) (hq : ∀ k, k ≤ n → QS (f k) J) (hp : ∀ k, k ≤ n → QS (g k) J) :
    Calls Try.prog 18 #[.iface 48 (.agg #[]), .agg #[.bool s, .slice a n0 c0, .slice b m0 d0, .bool t, .slice a' n1 c1, .slice b' m1 d1], .int .i64 (n : Int)] w (RetSlE w (f n) (g n)) := by
  have H := hid (fun w => (show Calls Try.prog 142 #[.agg #[]] w (RetSl w (f 0) (g 0)) by rw [h0, h1]; exact ksone))
  have hqs := hid hq
  have hps := hid hp
  have hff := hid hf
  have hgg0 := hid hg
  clear h0 h1 hq hp hf hg
  have hm : ∀ w : World, (method 272 48 (.agg #[]) "One").run Try.prog w = .ok (142, .agg #[]) w := fun _ => by kernel_rfl
  have hm2 : ∀ w : World, (method 272 48 (.agg #[]) "Mul").run Try.prog w = .ok (22, .agg #[]) w := fun _ => by kernel_rfl
  have hent := ent2 w #[Value.bool s, Value.slice a n0 c0, Value.slice b m0 d0, Value.bool t, Value.slice a' n1 c1, Value.slice b' m1 d1] #[Value.bool false, Value.slice none 0 0, Value.slice none 0 0, Value.bool false, Value.slice none 0 0, Value.slice none 0 0] 51 51
  go_enter Try.func18, Try.ntmps18
  go_wp2_with fail
  generalize ((w.alloc (.cells #[Value.bool s, Value.slice a n0 c0, Value.slice b m0 d0, Value.bool t, Value.slice a' n1 c1, Value.slice b' m1 d1] 51)).alloc (.cells #[Value.bool false, Value.slice none 0 0, Value.slice none 0 0, Value.bool false, Value.slice none 0 0, Value.slice none 0 0] 51)) = W0 at hent ⊢
  obtain ⟨X_0, R0_0, hbel_0, hsz_0⟩ := hent
  have cX_0_0 : _ = some (Value.bool s) := X_0.cell 0
  have cX_0_1 : _ = some (Value.slice a n0 c0) := X_0.cell 1
  have cX_0_2 : _ = some (Value.slice b m0 d0) := X_0.cell 2
  have cX_0_3 : _ = some (Value.bool t) := X_0.cell 3
  have cX_0_4 : _ = some (Value.slice a' n1 c1) := X_0.cell 4
  have cX_0_5 : _ = some (Value.slice b' m1 d1) := X_0.cell 5
  have cR0_0_0 : _ = some (Value.bool false) := R0_0.cell 0
  have fR0_0_0 := R0_0.free 0
  have cR0_0_1 : _ = some (Value.slice none 0 0) := R0_0.cell 1
  have fR0_0_1 := R0_0.free 1
  have cR0_0_2 : _ = some (Value.slice none 0 0) := R0_0.cell 2
  have fR0_0_2 := R0_0.free 2
  have cR0_0_3 : _ = some (Value.bool false) := R0_0.cell 3
  have fR0_0_3 := R0_0.free 3
  have cR0_0_4 : _ = some (Value.slice none 0 0) := R0_0.cell 4
  have fR0_0_4 := R0_0.free 4
  have cR0_0_5 : _ = some (Value.slice none 0 0) := R0_0.cell 5
  have fR0_0_5 := R0_0.free 5
  have hx_0 := hx.below hbel_0
  clear hx
  have hy_0 := hy.below hbel_0
  clear hy
  have HX := hid hx_0
  have HY := hid hy_0
  clear hx_0
  clear hy_0
  have hbW_0 : Below W0.heap.size W0 W0 := Below.refl _ _
  go_wp2_with fail
  refine (H.out _).mono ?_
  rintro e w1 ⟨pa, pn, pc, pb, pm, pd, pa', pn', pc', pb', pm', pd', rfl, hO1, hO2, hO3, hO4, hDs, hB⟩
  have hB_1 : Below W0.heap.size W0 w1 := (bl.next hB)
  have X_1 := X_0.next hB_1
  have cX_1_0 : _ = some (Value.bool s) := X_1.cell 0
  have cX_1_1 : _ = some (Value.slice a n0 c0) := X_1.cell 1
  have cX_1_2 : _ = some (Value.slice b m0 d0) := X_1.cell 2
  have cX_1_3 : _ = some (Value.bool t) := X_1.cell 3
  have cX_1_4 : _ = some (Value.slice a' n1 c1) := X_1.cell 4
  have cX_1_5 : _ = some (Value.slice b' m1 d1) := X_1.cell 5
  have R0_1 := R0_0.next hB_1
  have cR0_1_0 : _ = some (Value.bool false) := R0_1.cell 0
  have fR0_1_0 := R0_1.free 0
  have cR0_1_1 : _ = some (Value.slice none 0 0) := R0_1.cell 1
  have fR0_1_1 := R0_1.free 1
  have cR0_1_2 : _ = some (Value.slice none 0 0) := R0_1.cell 2
  have fR0_1_2 := R0_1.free 2
  have cR0_1_3 : _ = some (Value.bool false) := R0_1.cell 3
  have fR0_1_3 := R0_1.free 3
  have cR0_1_4 : _ = some (Value.slice none 0 0) := R0_1.cell 4
  have fR0_1_4 := R0_1.free 4
  have cR0_1_5 : _ = some (Value.slice none 0 0) := R0_1.cell 5
  have fR0_1_5 := R0_1.free 5
  have hbW_1 := hbW_0.next hB_1
  have hbel_1 := hbel_0.next hB_1
  have hsz_1 := hB_1.size
  clear X_0 cX_0_0 cX_0_1 cX_0_2 cX_0_3 cX_0_4 cX_0_5 R0_0 cR0_0_0 fR0_0_0 cR0_0_1 fR0_0_1 cR0_0_2 fR0_0_2 cR0_0_3 fR0_0_3 cR0_0_4 fR0_0_4 cR0_0_5 fR0_0_5 hbW_0 hbel_0 hB_1
  have Op_1 := hO1
  have ltOp := hO1.ltB
  have Pp_1 := hO2
  have ltPp := hO2.ltB
  have Up_1 := hO3
  have ltUp := hO3.ltB
  have Vp_1 := hO4
  have ltVp := hO4.ltB
  clear hO1 hO2 hO3 hO4
  try clear hB
  have hbx := blk_new w1 #[Value.bool (decide ((f 0).num < 0)), Value.slice pa pn pc, Value.slice pb pm pd, Value.bool (decide ((g 0).num < 0)), Value.slice pa' pn' pc', Value.slice pb' pm' pd'] 51
  have hbB := (Below.refl w1.heap.size w1).alloc (Nat.le_refl _) (.cells #[Value.bool (decide ((f 0).num < 0)), Value.slice pa pn pc, Value.slice pb pm pd, Value.bool (decide ((g 0).num < 0)), Value.slice pa' pn' pc', Value.slice pb' pm' pd'] 51)
  have hltS := hbx.lt
  have hB_2 : Below w1.heap.size w1 (w1.alloc (.cells #[Value.bool (decide ((f 0).num < 0)), Value.slice pa pn pc, Value.slice pb pm pd, Value.bool (decide ((g 0).num < 0)), Value.slice pa' pn' pc', Value.slice pb' pm' pd'] 51)) := hbB
  have X_2 := X_1.next hB_2
  have cX_2_0 : _ = some (Value.bool s) := X_2.cell 0
  have cX_2_1 : _ = some (Value.slice a n0 c0) := X_2.cell 1
  have cX_2_2 : _ = some (Value.slice b m0 d0) := X_2.cell 2
  have cX_2_3 : _ = some (Value.bool t) := X_2.cell 3
  have cX_2_4 : _ = some (Value.slice a' n1 c1) := X_2.cell 4
  have cX_2_5 : _ = some (Value.slice b' m1 d1) := X_2.cell 5
  have R0_2 := R0_1.next hB_2
  have cR0_2_0 : _ = some (Value.bool false) := R0_2.cell 0
  have fR0_2_0 := R0_2.free 0
  have cR0_2_1 : _ = some (Value.slice none 0 0) := R0_2.cell 1
  have fR0_2_1 := R0_2.free 1
  have cR0_2_2 : _ = some (Value.slice none 0 0) := R0_2.cell 2
  have fR0_2_2 := R0_2.free 2
  have cR0_2_3 : _ = some (Value.bool false) := R0_2.cell 3
  have fR0_2_3 := R0_2.free 3
  have cR0_2_4 : _ = some (Value.slice none 0 0) := R0_2.cell 4
  have fR0_2_4 := R0_2.free 4
  have cR0_2_5 : _ = some (Value.slice none 0 0) := R0_2.cell 5
  have fR0_2_5 := R0_2.free 5
  have hbW_2 := hbW_1.next hB_2
  have Op_2 := Op_1.below hB_2
  have Pp_2 := Pp_1.below hB_2
  have Up_2 := Up_1.below hB_2
  have Vp_2 := Vp_1.below hB_2
  have hbel_2 := hbel_1.next hB_2
  have hsz_2 := hB_2.size
  clear hB_2
  have S_2 := hbx
  clear hbx hbB
  have cS_2_0 : _ = some (Value.bool (decide ((f 0).num < 0))) := S_2.cell 0
  have fS_2_0 := S_2.free 0
  have cS_2_1 : _ = some (Value.slice pa pn pc) := S_2.cell 1
  have fS_2_1 := S_2.free 1
  have cS_2_2 : _ = some (Value.slice pb pm pd) := S_2.cell 2
  have fS_2_2 := S_2.free 2
  have cS_2_3 : _ = some (Value.bool (decide ((g 0).num < 0))) := S_2.cell 3
  have fS_2_3 := S_2.free 3
  have cS_2_4 : _ = some (Value.slice pa' pn' pc') := S_2.cell 4
  have fS_2_4 := S_2.free 4
  have cS_2_5 : _ = some (Value.slice pb' pm' pd') := S_2.cell 5
  have fS_2_5 := S_2.free 5
  go_wp2_with fail
  clear X_1 cX_1_0 cX_1_1 cX_1_2 cX_1_3 cX_1_4 cX_1_5 R0_1 cR0_1_0 fR0_1_0 cR0_1_1 fR0_1_1 cR0_1_2 fR0_1_2 cR0_1_3 fR0_1_3 cR0_1_4 fR0_1_4 cR0_1_5 fR0_1_5 hbW_1 Op_1 Pp_1 Up_1 Vp_1 hbel_1
  generalize (w1.alloc (.cells #[Value.bool (decide ((f 0).num < 0)), Value.slice pa pn pc, Value.slice pb pm pd, Value.bool (decide ((g 0).num < 0)), Value.slice pa' pn' pc', Value.slice pb' pm' pd'] 51)) = v2 at *
  have hgS : w.heap.size + 2 ≤ w1.heap.size := by omega
  have hgS1 : W0.heap.size ≤ w1.heap.size := by omega
  generalize hgg : w1.heap.size = gS at *
  clear hgg
  go_loopw [28] (fun i wr => ∃ (k : Nat) (pa : Option Addr) (pn pc : Nat) (pb : Option Addr) (pm pd : Nat) (pa' : Option Addr) (pn' pc' : Nat) (pb' : Option Addr) (pm' pd' : Nat), k ≤ n ∧ i = .int .i64 k ∧ Blk wr gS #[Value.bool (decide ((f k).num < 0)), Value.slice pa pn pc, Value.slice pb pm pd, Value.bool (decide ((g k).num < 0)), Value.slice pa' pn' pc', Value.slice pb' pm' pd'] ∧ Own W0.heap.size wr pa pn pc (lm (f k).num.natAbs) ∧ Own W0.heap.size wr pb pm pd (lm (f k).den) ∧ Own W0.heap.size wr pa' pn' pc' (lm (g k).num.natAbs) ∧ Own W0.heap.size wr pb' pm' pd' (lm (g k).den) ∧ Blk wr w.heap.size #[Value.bool s, Value.slice a n0 c0, Value.slice b m0 d0, Value.bool t, Value.slice a' n1 c1, Value.slice b' m1 d1] ∧ Blk wr (w.heap.size + 1) #[Value.bool false, Value.slice none 0 0, Value.slice none 0 0, Value.bool false, Value.slice none 0 0, Value.slice none 0 0] ∧ Below W0.heap.size W0 wr ∧ Below w.heap.size w wr ∧ Diff4 pa pb pa' pb') (fun i _ => n - (intOf i).toNat)
  case atStart => exact ⟨0, _, _, _, _, _, _, _, _, _, _, _, _, Nat.zero_le _, rfl, S_2, Op_2.mono (by omega), Pp_2.mono (by omega), Up_2.mono (by omega), Vp_2.mono (by omega), X_2, R0_2, hbW_2, hbel_2, hDs⟩
  case round =>
    clear S_2 X_2 R0_2 hbW_2 hbel_2 Op_2 Pp_2 Up_2 Vp_2 hDs cS_2_0 fS_2_0 cS_2_1 fS_2_1 cS_2_2 fS_2_2 cS_2_3 fS_2_3 cS_2_4 fS_2_4 cS_2_5 fS_2_5 cR0_2_0 fR0_2_0 cR0_2_1 fR0_2_1 cR0_2_2 fR0_2_2 cR0_2_3 fR0_2_3 cR0_2_4 fR0_2_4 cR0_2_5 fR0_2_5 cX_2_0 cX_2_1 cX_2_2 cX_2_3 cX_2_4 cX_2_5
    obtain ⟨k, pa, pn, pc, pb, pm, pd, pa', pn', pc', pb', pm', pd', hk, rfl, S_3, P_3, O_3, U_3, V_3, X_3, R0_3, hbW_3, hbel_3, hdf⟩ := hrel
    have hWs := hbW_3.size
    have hltS := S_3.lt
    have cS_3_0 : _ = some (Value.bool (decide ((f k).num < 0))) := S_3.cell 0
    have fS_3_0 := S_3.free 0
    have cS_3_1 : _ = some (Value.slice pa pn pc) := S_3.cell 1
    have fS_3_1 := S_3.free 1
    have cS_3_2 : _ = some (Value.slice pb pm pd) := S_3.cell 2
    have fS_3_2 := S_3.free 2
    have cS_3_3 : _ = some (Value.bool (decide ((g k).num < 0))) := S_3.cell 3
    have fS_3_3 := S_3.free 3
    have cS_3_4 : _ = some (Value.slice pa' pn' pc') := S_3.cell 4
    have fS_3_4 := S_3.free 4
    have cS_3_5 : _ = some (Value.slice pb' pm' pd') := S_3.cell 5
    have fS_3_5 := S_3.free 5
    have cR0_3_0 : _ = some (Value.bool false) := R0_3.cell 0
    have fR0_3_0 := R0_3.free 0
    have cR0_3_1 : _ = some (Value.slice none 0 0) := R0_3.cell 1
    have fR0_3_1 := R0_3.free 1
    have cR0_3_2 : _ = some (Value.slice none 0 0) := R0_3.cell 2
    have fR0_3_2 := R0_3.free 2
    have cR0_3_3 : _ = some (Value.bool false) := R0_3.cell 3
    have fR0_3_3 := R0_3.free 3
    have cR0_3_4 : _ = some (Value.slice none 0 0) := R0_3.cell 4
    have fR0_3_4 := R0_3.free 4
    have cR0_3_5 : _ = some (Value.slice none 0 0) := R0_3.cell 5
    have fR0_3_5 := R0_3.free 5
    have cX_3_0 : _ = some (Value.bool s) := X_3.cell 0
    have cX_3_1 : _ = some (Value.slice a n0 c0) := X_3.cell 1
    have cX_3_2 : _ = some (Value.slice b m0 d0) := X_3.cell 2
    have cX_3_3 : _ = some (Value.bool t) := X_3.cell 3
    have cX_3_4 : _ = some (Value.slice a' n1 c1) := X_3.cell 4
    have cX_3_5 : _ = some (Value.slice b' m1 d1) := X_3.cell 5
    by_cases hkn : k < n
    · skip
      have hqk := hid (hqs.out k hk)
      have hpk := hid (hps.out k hk)
      have hstep := hid (hff.out k hkn)
      have hstep2 := hid (hgg0.out k hkn)
      have Y_3 := HX.out.below hbW_3
      have Z_3 := HY.out.below hbW_3
      go_wp2_with fail
      refine (ksmul (P_3.rdQ O_3 hqk.out) (U_3.rdQ V_3 hpk.out) Y_3 Z_3 hJ1 hJ).mono ?_
      rw [← hstep.out, ← hstep2.out]
      rintro e w4 ⟨ra, rn, rc, rb, rm, rd, ra', rn', rc', rb', rm', rd', rfl, hO1, hO2, hO3, hO4, hDs, hB⟩
      have hB_4 : Below wr.heap.size wr w4 := (bl.next hB)
      have X_4 := X_3.next hB_4
      have cX_4_0 : _ = some (Value.bool s) := X_4.cell 0
      have cX_4_1 : _ = some (Value.slice a n0 c0) := X_4.cell 1
      have cX_4_2 : _ = some (Value.slice b m0 d0) := X_4.cell 2
      have cX_4_3 : _ = some (Value.bool t) := X_4.cell 3
      have cX_4_4 : _ = some (Value.slice a' n1 c1) := X_4.cell 4
      have cX_4_5 : _ = some (Value.slice b' m1 d1) := X_4.cell 5
      have R0_4 := R0_3.next hB_4
      have cR0_4_0 : _ = some (Value.bool false) := R0_4.cell 0
      have fR0_4_0 := R0_4.free 0
      have cR0_4_1 : _ = some (Value.slice none 0 0) := R0_4.cell 1
      have fR0_4_1 := R0_4.free 1
      have cR0_4_2 : _ = some (Value.slice none 0 0) := R0_4.cell 2
      have fR0_4_2 := R0_4.free 2
      have cR0_4_3 : _ = some (Value.bool false) := R0_4.cell 3
      have fR0_4_3 := R0_4.free 3
      have cR0_4_4 : _ = some (Value.slice none 0 0) := R0_4.cell 4
      have fR0_4_4 := R0_4.free 4
      have cR0_4_5 : _ = some (Value.slice none 0 0) := R0_4.cell 5
      have fR0_4_5 := R0_4.free 5
      have S_4 := S_3.next hB_4
      have cS_4_0 : _ = some (Value.bool (decide ((f k).num < 0))) := S_4.cell 0
      have fS_4_0 := S_4.free 0
      have cS_4_1 : _ = some (Value.slice pa pn pc) := S_4.cell 1
      have fS_4_1 := S_4.free 1
      have cS_4_2 : _ = some (Value.slice pb pm pd) := S_4.cell 2
      have fS_4_2 := S_4.free 2
      have cS_4_3 : _ = some (Value.bool (decide ((g k).num < 0))) := S_4.cell 3
      have fS_4_3 := S_4.free 3
      have cS_4_4 : _ = some (Value.slice pa' pn' pc') := S_4.cell 4
      have fS_4_4 := S_4.free 4
      have cS_4_5 : _ = some (Value.slice pb' pm' pd') := S_4.cell 5
      have fS_4_5 := S_4.free 5
      have hbW_4 := hbW_3.next hB_4
      have P_4 := P_3.below hB_4
      have O_4 := O_3.below hB_4
      have U_4 := U_3.below hB_4
      have V_4 := V_3.below hB_4
      have Y_4 := Y_3.below hB_4
      have Z_4 := Z_3.below hB_4
      have hbel_4 := hbel_3.next hB_4
      have hsz_4 := hB_4.size
      clear X_3 cX_3_0 cX_3_1 cX_3_2 cX_3_3 cX_3_4 cX_3_5 R0_3 cR0_3_0 fR0_3_0 cR0_3_1 fR0_3_1 cR0_3_2 fR0_3_2 cR0_3_3 fR0_3_3 cR0_3_4 fR0_3_4 cR0_3_5 fR0_3_5 S_3 cS_3_0 fS_3_0 cS_3_1 fS_3_1 cS_3_2 fS_3_2 cS_3_3 fS_3_3 cS_3_4 fS_3_4 cS_3_5 fS_3_5 hbW_3 P_3 O_3 U_3 V_3 Y_3 Z_3 hbel_3 hB_4
      have Or_4 := hO1
      have ltOr := hO1.ltB
      have Pr_4 := hO2
      have ltPr := hO2.ltB
      have Ur_4 := hO3
      have ltUr := hO3.ltB
      have Vr_4 := hO4
      have ltVr := hO4.ltB
      clear hO1 hO2 hO3 hO4
      try clear hB
      go_wp2
      go_roundw
      case rel => exact ⟨k + 1, ra, rn, rc, rb, rm, rd, ra', rn', rc', rb', rm', rd', by omega, by go_num, blk_put6 S_4 _ _ _ _ _ _, (Or_4.set6 (by omega) _ _ _ _ _ _).mono (by omega), (Pr_4.set6 (by omega) _ _ _ _ _ _).mono (by omega), (Ur_4.set6 (by omega) _ _ _ _ _ _).mono (by omega), (Vr_4.set6 (by omega) _ _ _ _ _ _).mono (by omega), X_4.set6 (by omega) _ _ _ _ _ _, R0_4.set6 (by omega) _ _ _ _ _ _, Below.set6 hbW_4 (by omega) _ _ _ _ _ _, Below.set6 hbel_4 (by omega) _ _ _ _ _ _, hDs⟩
      case measure => simp [intOf]; omega
    · obtain rfl : k = n := by omega
      go_wp2
      refine bodyPost_ret (v := .tuple #[.agg #[.bool (decide ((f k).num < 0)), .slice pa pn pc, .slice pb pm pd, .bool (decide ((g k).num < 0)), .slice pa' pn' pc', .slice pb' pm' pd'], .int .i64 0]) (by simp [results, Try.results18, go_sem, cR0_3_0, cR0_3_1, cR0_3_2, cR0_3_3, cR0_3_4, cR0_3_5]) rfl ?_
      exact retsle_set P_3 O_3 U_3 V_3 hdf hbel_3 (by omega) (by omega) (by omega)

end Go.Proofs.Ytnbhfgpnjhbkaaa
