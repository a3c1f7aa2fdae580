/- THE WALK OF credencelaw12.RingGrows: a polynomial and its slope. -/
import Derived.Test.YtnbhfgpnjhbkaaaKi
import Derived.Test.YtnbhfgpnjhbkaaaKe
import Derived.Test.YtnbhfgpnjhbkaaaQv
import Derived.Deep.Cut
import Derived.Deep.CutRange
namespace Go.Proofs.Ytnbhfgpnjhbkaaa
set_option linter.unusedVariables false
set_option linter.unusedSimpArgs false
open Go.ChangeShapes Go.WideShapes Go.ChangeAt Go.RowKit Go.NatP

/-- a power's slope -/
def dpw (x : Rat) : Nat → Rat
  | 0 => 0
  | k + 1 => rpw x k * 1 + dpw x k * x
theorem dpw_eq (x : Rat) : ∀ k, dpw x (k + 1) = ((k + 1 : Nat) : Rat) * rpw x k
  | 0 => by
    show rpw x 0 * 1 + 0 * x = ((1 : Nat) : Rat) * rpw x 0
    rw [Rat.zero_mul, Rat.add_zero, Rat.mul_one]
    show rpw x 0 = (1 : Rat) * _
    rw [Rat.one_mul]
  | k + 1 => by
    show rpw x (k + 1) * 1 + dpw x (k + 1) * x = ((k + 1 + 1 : Nat) : Rat) * rpw x (k + 1)
    have h : rpw x (k + 1) = rpw x k * x := rfl
    rw [dpw_eq x k, Rat.mul_assoc, ← h, Rat.mul_one]
    have h2 : ((k + 1 + 1 : Nat) : Rat) = 1 + ((k + 1 : Nat) : Rat) := by rw [Rat.natCast_add (k + 1) 1, Rat.add_comm]; rfl
    rw [h2, Rat.add_mul, Rat.one_mul]
theorem qs_nat {k : Nat} (h : k < 4294967296) : QS ((k : Nat) : Rat) 1 := qs_lit (by simpa using h) (by show ((k : Nat) : Rat).den < _; simp) (by omega)
theorem dpw_qs {x : Rat} (h : QS x 2) : ∀ k, k ≤ 8 → QS (dpw x k) 20
  | 0, _ => qs_zero.mono (by omega)
  | k + 1, hk => by
    rw [dpw_eq]
    exact ((qs_nat (by omega)).mul (rpw_qs h k)).mono (by omega)
theorem grow_qs {qc qx : Rat} (hc : QS qc 2) (hx : QS qx 2) : ∀ {k}, k < 8 → QS (qc * dpw qx k) 19
  | 0, _ => by show QS (qc * 0) 19; rw [Rat.mul_zero]; exact qs_zero.mono (by omega)
  | k + 1, h => by
    rw [dpw_eq]
    exact (hc.mul ((qs_nat (by omega)).mul (rpw_qs hx k))).mono (by omega)
/-- limbs that lie apart from three blocks -/
def Aw3 (g7 g8 g9 : Nat) (a : Option Addr) : Prop := ∀ g', a = some ⟨g', 0, none⟩ → g' ≠ g7 ∧ g' ≠ g8 ∧ g' ≠ g9
/-- a fraction, normal, its limbs apart from the three variables' blocks -/
structure VQ (g7 g8 g9 : Nat) (W : World) (q : Rat) (a : Option Addr) (n c : Nat) (b : Option Addr) (m d : Nat) : Prop where
  o1 : Own 0 W a n c (lm q.num.natAbs)
  o2 : Own 0 W b m d (lm q.den)
  w1 : Aw3 g7 g8 g9 a
  w2 : Aw3 g7 g8 g9 b
section
variable {g7 g8 g9 g B B' K : Nat} {W W' : World} {q : Rat} {a b : Option Addr} {n c m d : Nat} {l : List Nat}
theorem VQ.below (h : VQ g7 g8 g9 W q a n c b m d) (hb : Below W.heap.size W W') : VQ g7 g8 g9 W' q a n c b m d := ⟨h.o1.below hb, h.o2.below hb, h.w1, h.w2⟩
theorem VQ.rdQ (h : VQ g7 g8 g9 W q a n c b m d) (hs : QS q K) : RdQ K W (decide (q.num < 0)) a n c b m d q := h.o1.rdQ h.o2 hs
theorem VQ.kp (h : VQ g7 g8 g9 W q a n c b m d) (hk : Kp (fun j => j = g) W W') (hg : g = g7 ∨ g = g8 ∨ g = g9) : VQ g7 g8 g9 W' q a n c b m d :=
  ⟨h.o1.kp hk fun g' e (e2 : g' = g) => by have := h.w1 g' e; omega, h.o2.kp hk fun g' e (e2 : g' = g) => by have := h.w2 g' e; omega, h.w1, h.w2⟩
theorem VQ.new (h1 : Own B W a n c (lm q.num.natAbs)) (h2 : Own B' W b m d (lm q.den)) (h7 : g7 < B) (h8 : g8 < B) (h9 : g9 < B) (h7' : g7 < B') (h8' : g8 < B') (h9' : g9 < B') : VQ g7 g8 g9 W q a n c b m d :=
  ⟨h1.mono (Nat.zero_le _), h2.mono (Nat.zero_le _), fun g' e => by have := (h1.lt' g' e).1; omega, fun g' e => by have := (h2.lt' g' e).1; omega⟩
theorem Own.kpg (h : Own B W a n c l) (hk : Kp (fun j => j = g) W W') (hg : g < B) : Own B W' a n c l := h.kp hk fun g' e (e2 : g' = g) => by have := (h.lt' g' e).1; omega
theorem kp_put3 {a w : World} (h : Below a.heap.size a w) (g : Nat) (v0 v1 v2 : Value) : Kp (fun j => j = g) a (((w.setCell ⟨g, 0, none⟩ v0).setCell ⟨g, 1, none⟩ v1).setCell ⟨g, 2, none⟩ v2) :=
  ((((show Kp (fun j => j = g) a w from kp_of_below h).setCell (ad := ⟨g, 0, none⟩) rfl v0).setCell (ad := ⟨g, 1, none⟩) rfl v1).setCell (ad := ⟨g, 2, none⟩) rfl v2)
theorem kp_put6 {a w : World} (h : Below a.heap.size a w) (g : Nat) (v0 v1 v2 v3 v4 v5 : Value) : Kp (fun j => j = g) a ((((((w.setCell ⟨g, 0, none⟩ v0).setCell ⟨g, 1, none⟩ v1).setCell ⟨g, 2, none⟩ v2).setCell ⟨g, 3, none⟩ v3).setCell ⟨g, 4, none⟩ v4).setCell ⟨g, 5, none⟩ v5) :=
  (((kp_put3 h g v0 v1 v2).setCell (ad := ⟨g, 3, none⟩) rfl v3).setCell (ad := ⟨g, 4, none⟩) rfl v4).setCell (ad := ⟨g, 5, none⟩) rfl v5
theorem blk_put3 {w : World} {g : Nat} {u0 u1 u2 : Value} (h : Blk w g #[u0, u1, u2]) (v0 v1 v2 : Value) : Blk (((w.setCell ⟨g, 0, none⟩ v0).setCell ⟨g, 1, none⟩ v1).setCell ⟨g, 2, none⟩ v2) g #[v0, v1, v2] :=
  show Blk _ _ #[_, _, _] from ((h.setCell (i := 0) (v := v0) (by simp)).setCell (i := 1) (v := v1) (by simp)).setCell (i := 2) (v := v2) (by simp)
end
/-- slot s holds a new block with the slope p, q -/
def BoxS (w0 : World) (p q : Rat) (s : Value) (wx : World) : Prop :=
  ∃ g a n c b m d a' n' c' b' m' d', s = .pointer (some ⟨g, 0, none⟩) ∧ Blk wx g #[.bool (decide (p.num < 0)), .slice a n c, .slice b m d, .bool (decide (q.num < 0)), .slice a' n' c', .slice b' m' d'] ∧ w0.heap.size ≤ g ∧ Own w0.heap.size wx a n c (lm p.num.natAbs) ∧ Own w0.heap.size wx b m d (lm p.den) ∧ Own w0.heap.size wx a' n' c' (lm q.num.natAbs) ∧ Own w0.heap.size wx b' m' d' (lm q.den) ∧ Below w0.heap.size w0 wx
section
variable {w0 w5 : World} {p q : Rat} {g B : Nat} {a b a' b' : Option Addr} {n c m d n' c' m' d' : Nat} {T : TypeId}
theorem boxS_set {u0 u1 u2 u3 u4 u5 : Value} (A : Blk w5 g #[u0, u1, u2, u3, u4, u5]) (h1 : Own B w5 a n c (lm p.num.natAbs)) (h2 : Own B w5 b m d (lm p.den)) (h3 : Own B w5 a' n' c' (lm q.num.natAbs)) (h4 : Own B w5 b' m' d' (lm q.den)) (hg : w0.heap.size ≤ g) (hgB : g < B) (hB : Below w0.heap.size w0 w5) :
    BoxS w0 p q (.pointer (some ⟨g, 0, none⟩)) ((((((w5.setCell ⟨g, 0, none⟩ (.bool (decide (p.num < 0)))).setCell ⟨g, 1, none⟩ (.slice a n c)).setCell ⟨g, 2, none⟩ (.slice b m d)).setCell ⟨g, 3, none⟩ (.bool (decide (q.num < 0)))).setCell ⟨g, 4, none⟩ (.slice a' n' c')).setCell ⟨g, 5, none⟩ (.slice b' m' d')) :=
  ⟨g, a, n, c, b, m, d, a', n', c', b', m', d', rfl, blk_put6 A _ _ _ _ _ _, hg, (h1.set6 hgB _ _ _ _ _ _).mono (by omega), (h2.set6 hgB _ _ _ _ _ _).mono (by omega), (h3.set6 hgB _ _ _ _ _ _).mono (by omega), (h4.set6 hgB _ _ _ _ _ _).mono (by omega), Below.set6 hB hg _ _ _ _ _ _⟩
theorem boxS_new (h1 : Own B w5 a n c (lm p.num.natAbs)) (h2 : Own B w5 b m d (lm p.den)) (h3 : Own B w5 a' n' c' (lm q.num.natAbs)) (h4 : Own B w5 b' m' d' (lm q.den)) (hgB : w0.heap.size ≤ B) (hB : Below w0.heap.size w0 w5) :
    BoxS w0 p q (.pointer (some ⟨w5.heap.size, 0, none⟩)) (w5.alloc (.cells #[.bool (decide (p.num < 0)), .slice a n c, .slice b m d, .bool (decide (q.num < 0)), .slice a' n' c', .slice b' m' d'] T)) :=
  ⟨_, a, n, c, b, m, d, a', n', c', b', m', d', rfl, blk_new _ _ _, hB.size, (h1.alloc _).mono hgB, (h2.alloc _).mono hgB, (h3.alloc _).mono hgB, (h4.alloc _).mono hgB, hB.alloc hB.size _⟩
end
theorem fsum0 {w : World} : Calls Try.prog 16 #[.slice none 0 0] w (RetQ w 0) :=
  qsum (w := w) (K := 1) (sa := none) (n := 0) (c := 0) (xs := []) ⟨rfl, Nat.le_refl _, Nat.zero_le _, fun i hi => absurd hi (Nat.not_lt_zero _)⟩ (by omega) (by omega)
theorem grow_step {qc qx zo : Rat} (hz : zo = 0) (k : Nat) : qc * dpw qx k + zo * rpw qx k = qc * dpw qx k := by rw [hz, Rat.zero_mul, Rat.add_zero]
theorem grow_zero {qc qx zo L : Rat} (hz : zo = 0) : L + (qc * dpw qx 0 + zo * rpw qx 0) = L := by rw [grow_step hz]; show L + qc * 0 = L; rw [Rat.mul_zero, Rat.add_zero]
theorem grow_succ {qc qx zo : Rat} (hz : zo = 0) (j : Nat) : qc * Rat.divInt ((j + 1 : Nat) : Int) 1 * rpw qx j = qc * dpw qx (j + 1) + zo * rpw qx (j + 1) := by
  rw [grow_step hz, dpw_eq, divInt_1, Rat.mul_assoc]; rfl

section
variable {P : Program} {md : Region.Mode} {ops : Array Oper} {Q : Exit → Act → World → Prop} {S : World → Prop} {i fuel : Nat} {oi : Oper} {d : Option Tmp} {v : Value} {listed : Array Bool} {a : Act} {w : World}
theorem take_run (hi : ops[i]? = some oi) (hd : oi.dst = d) (hs : Region.noSelect ops = true) (hf : Region.free md ops listed i = true) (hr : (Region.ready md ops listed).contains i = true)
    (hQ : ∀ c a w, Q (.panic c) (a.put d v) w → Q (.panic c) a w) (hw : Region.wanted oi (yielded ops a.tmps) = true) (hv : ∀ w, S w → (execOp a.eval oi).run P w = .ok (.value v) w) (hS : S w)
    (h : wpAnyH P md ops Q S fuel (listed.setIfInBounds i true) (a.put d v) w) : wpAnyH P md ops Q S (fuel + 1) listed a w := by
  subst hd
  exact wpAnyH_take hi hs hf hr hQ (.inl ⟨hw, hv⟩) hS h
theorem take_skip (hi : ops[i]? = some oi) (hd : oi.dst = d) (hs : Region.noSelect ops = true) (hf : Region.free md ops listed i = true) (hr : (Region.ready md ops listed).contains i = true)
    (hQ : ∀ c a w, Q (.panic c) (a.put d undef) w → Q (.panic c) a w) (hw : Region.wanted oi (yielded ops a.tmps) = false) (hS : S w)
    (h : wpAnyH P md ops Q S fuel (listed.setIfInBounds i true) (a.put d undef) w) : wpAnyH P md ops Q S (fuel + 1) listed a w := by
  subst hd
  exact wpAnyH_take hi hs hf hr hQ (.inr ⟨hw, rfl⟩) hS h
end

set_option maxRecDepth 100000 in
set_option maxHeartbeats 16000000 in
theorem ringGrows_walk {w : World} {sa : Option Addr} {n c : Nat} {xs : List QA} (hx : QRow w sa n xs) (hn : n ≤ c) (hc : c ≤ maxLen) (s : Bool) {a : Option Addr} {n0 c0 : Nat} {l : List Nat} {b : Option Addr} {m0 d0 : Nat} {l' : List Nat} (ha : Rd w a n0 c0 l) (hb : Rd w b m0 d0 l') :
    Calls Try.prog 5 #[.slice sa n c, .agg #[.bool s, .slice a n0 c0, .slice b m0 d0]] w (fun e w' => e = .returned (.bool true) ∧ Below w.heap.size w w') := by
  have hxw := hid hx
  have hcm := hid hc
  unfold maxLen at hc
  have RA := hid ha
  have RB := hid hb
  have hx1 := hn
  clear hx
  obtain ⟨zz, hzz⟩ : ∃ z : Rat, (0 : Rat) = z := ⟨_, rfl⟩
  have HZ := hid (fun w => (show Calls Try.prog 16 #[.slice none 0 0] w (RetQ w zz) by rw [← hzz]; exact fsum0))
  have HS := hid (fun w => (show Calls Try.prog 17 #[.agg #[]] w (RetSl w zz zz) by rw [← hzz]; exact kszero))
  have hzq := hid (show QS zz (0 * 20 + 1) by rw [← hzz]; exact qs_zero)
  obtain ⟨uo, huo⟩ : ∃ z : Rat, Rat.divInt 1 1 = z := ⟨_, rfl⟩
  have HU := hid (fun w => (show Calls Try.prog 19 #[.int .i64 1, .int .i64 1] w (RetQ w uo) by rw [← huo]; exact rqsmall 1 1 (by omega) (by omega) (by omega) (by omega) (by omega)))
  have huo1 := hid (show uo = 1 by rw [← huo]; decide)
  clear huo
  obtain ⟨zo, hzo⟩ : ∃ z : Rat, Rat.divInt 0 1 = z := ⟨_, rfl⟩
  have HO := hid (fun w => (show Calls Try.prog 19 #[.int .i64 0, .int .i64 1] w (RetQ w zo) by rw [← hzo]; exact rqsmall 0 1 (by omega) (by omega) (by omega) (by omega) (by omega)))
  have hzo1 := hid (show zo = 0 by rw [← hzo]; decide)
  clear hzo hzz
  have hqu := hid (show QS uo 1 by rw [huo1.out]; exact qs_lit (by decide) (by decide) (by omega))
  have hqo := hid (show QS zo 1 by rw [hzo1.out]; exact qs_zero)
  have hent := ent1 w #[Value.bool s, Value.slice a n0 c0, Value.slice b m0 d0] 29
  go_enter Try.func5, Try.ntmps5
  go_wp2_with fail
  generalize (w.alloc (.cells #[Value.bool s, Value.slice a n0 c0, Value.slice b m0 d0] 29)) = W0 at hent ⊢
  obtain ⟨X_0, hbel_0, hsz_0⟩ := hent
  have ha_0 := ha.below hbel_0
  clear ha
  have hb_0 := hb.below hbel_0
  clear hb
  go_wp2_with fail
  refine (kawake).mono ?_
  rintro e w1 ⟨rfl, hB⟩
  have hB_1 : Below W0.heap.size W0 w1 := (bl.next hB)
  have X_1 := X_0.next hB_1
  have ha_1 := ha_0.below hB_1
  have hb_1 := hb_0.below hB_1
  have hbel_1 := hbel_0.next hB_1
  have hsz_1 := hB_1.size
  clear X_0 ha_0 hb_0 hbel_0 hB_1
  try clear hB
  have cX_1_0 : _ = some (Value.bool s) := X_1.cell 0
  have fX_1_0 := X_1.free 0
  have cX_1_1 : _ = some (Value.slice a n0 c0) := X_1.cell 1
  have fX_1_1 := X_1.free 1
  have cX_1_2 : _ = some (Value.slice b m0 d0) := X_1.cell 2
  have fX_1_2 := X_1.free 2
  go_wp2_with fail
  refine (fcut 2 (by omega) ha_1 hb_1).mono ?_
  rintro e w2 ⟨n1, l1, m1, k1, rfl, hn1, hm1, hln, hlm, hRa, hRb, hB⟩
  have hB_2 : Below w1.heap.size w1 w2 := (bl.next hB)
  have X_2 := X_1.next hB_2
  have ha_2 := ha_1.below hB_2
  have hb_2 := hb_1.below hB_2
  have hbel_2 := hbel_1.next hB_2
  have hsz_2 := hB_2.size
  clear X_1 cX_1_0 fX_1_0 cX_1_1 fX_1_1 cX_1_2 fX_1_2 ha_1 hb_1 hbel_1 hB_2
  clear hRa hRb
  try clear hB
  clear ha_2
  clear hb_2
  have HX := hid (fun W (h : Below w.heap.size w W) => rdq_of (K := 2) s ((RA.out.below h).pre hln) hn1 ((RB.out.below h).pre hlm) hm1)
  generalize qv s (val (l.take n1)) (val (l'.take m1)) = qx at HX
  clear RA RB l1 k1 hn1 hm1 hln hlm
  have cX_2_0 : _ = some (Value.bool s) := X_2.cell 0
  have fX_2_0 := X_2.free 0
  have cX_2_1 : _ = some (Value.slice a n0 c0) := X_2.cell 1
  have fX_2_1 := X_2.free 1
  have cX_2_2 : _ = some (Value.slice b m0 d0) := X_2.cell 2
  have fX_2_2 := X_2.free 2
  have hkp := kp_set3 w2 (w.heap.size) (Value.bool s) (Value.slice a n1 c0) (Value.slice b m1 d0)
  have X_3 := (show Blk _ _ #[Value.bool s, Value.slice a n1 c0, Value.slice b m1 d0] from (((X_2).setCell (i := 0) (v := Value.bool s) (by simp)).setCell (i := 1) (v := Value.slice a n1 c0) (by simp)).setCell (i := 2) (v := Value.slice b m1 d0) (by simp))
  have hbel_3 := Below.set3 hbel_2 (show w.heap.size ≤ w.heap.size by omega) (Value.bool s) (Value.slice a n1 c0) (Value.slice b m1 d0)
  have hsz_3 := hkp.size
  go_wp2_with fail
  clear X_2 cX_2_0 fX_2_0 cX_2_1 fX_2_1 cX_2_2 fX_2_2 hbel_2 hkp
  generalize (((w2.setCell ⟨w.heap.size, 0, none⟩ (Value.bool s)).setCell ⟨w.heap.size, 1, none⟩ (Value.slice a n1 c0)).setCell ⟨w.heap.size, 2, none⟩ (Value.slice b m1 d0)) = v3 at *
  have hbx := blk_new v3 #[] 48
  have hbB := (Below.refl v3.heap.size v3).alloc (Nat.le_refl _) (.cells #[] 48)
  have hltE := hbx.lt
  have hB_4 : Below v3.heap.size v3 (v3.alloc (.cells #[] 48)) := hbB
  have X_4 := X_3.next hB_4
  have hbel_4 := hbel_3.next hB_4
  have hsz_4 := hB_4.size
  clear hB_4
  have E_4 := hbx
  clear hbx hbB
  go_wp2_with fail
  clear X_3 hbel_3
  generalize (v3.alloc (.cells #[] 48)) = v4 at *
  go_wp2_with fail
  refine (HZ.out _).mono ?_
  rintro e w5 ⟨va, vn, vc, vb, vm, vd, rfl, hO, hO', hD, hB⟩
  have hB_5 : Below v4.heap.size v4 w5 := (bl.next hB)
  have X_5 := X_4.next hB_5
  have E_5 := E_4.next hB_5
  have hbel_5 := hbel_4.next hB_5
  have hsz_5 := hB_5.size
  clear X_4 E_4 hbel_4 hB_5
  have Ov_5 := hO
  have ltOv := hO.ltB
  have Pv_5 := hO'
  have ltPv := hO'.ltB
  clear hO hO' hD
  try clear hB
  have hbx := blk_new w5 #[Value.bool (decide ((zz).num < 0)), Value.slice va vn vc, Value.slice vb vm vd] 29
  have hbB := (Below.refl w5.heap.size w5).alloc (Nat.le_refl _) (.cells #[Value.bool (decide ((zz).num < 0)), Value.slice va vn vc, Value.slice vb vm vd] 29)
  have hltV := hbx.lt
  have hB_6 : Below w5.heap.size w5 (w5.alloc (.cells #[Value.bool (decide ((zz).num < 0)), Value.slice va vn vc, Value.slice vb vm vd] 29)) := hbB
  have X_6 := X_5.next hB_6
  have E_6 := E_5.next hB_6
  have Ov_6 := Ov_5.below hB_6
  have Pv_6 := Pv_5.below hB_6
  have hbel_6 := hbel_5.next hB_6
  have hsz_6 := hB_6.size
  clear hB_6
  have V_6 := hbx
  clear hbx hbB
  go_wp2_with fail
  clear X_5 E_5 Ov_5 Pv_5 hbel_5
  generalize (w5.alloc (.cells #[Value.bool (decide ((zz).num < 0)), Value.slice va vn vc, Value.slice vb vm vd] 29)) = v6 at *
  go_wp2_with fail
  refine (HZ.out _).mono ?_
  rintro e w7 ⟨ja, jn, jc, jb, jm, jd, rfl, hO, hO', hD, hB⟩
  have hB_7 : Below v6.heap.size v6 w7 := (bl.next hB)
  have X_7 := X_6.next hB_7
  have E_7 := E_6.next hB_7
  have V_7 := V_6.next hB_7
  have Ov_7 := Ov_6.below hB_7
  have Pv_7 := Pv_6.below hB_7
  have hbel_7 := hbel_6.next hB_7
  have hsz_7 := hB_7.size
  clear X_6 E_6 V_6 Ov_6 Pv_6 hbel_6 hB_7
  have Oj_7 := hO
  have ltOj := hO.ltB
  have Pj_7 := hO'
  have ltPj := hO'.ltB
  clear hO hO' hD
  try clear hB
  have hbx := blk_new w7 #[Value.bool (decide ((zz).num < 0)), Value.slice ja jn jc, Value.slice jb jm jd] 29
  have hbB := (Below.refl w7.heap.size w7).alloc (Nat.le_refl _) (.cells #[Value.bool (decide ((zz).num < 0)), Value.slice ja jn jc, Value.slice jb jm jd] 29)
  have hltL := hbx.lt
  have hB_8 : Below w7.heap.size w7 (w7.alloc (.cells #[Value.bool (decide ((zz).num < 0)), Value.slice ja jn jc, Value.slice jb jm jd] 29)) := hbB
  have X_8 := X_7.next hB_8
  have E_8 := E_7.next hB_8
  have V_8 := V_7.next hB_8
  have Ov_8 := Ov_7.below hB_8
  have Pv_8 := Pv_7.below hB_8
  have Oj_8 := Oj_7.below hB_8
  have Pj_8 := Pj_7.below hB_8
  have hbel_8 := hbel_7.next hB_8
  have hsz_8 := hB_8.size
  clear hB_8
  have L_8 := hbx
  clear hbx hbB
  go_wp2_with fail
  clear X_7 E_7 V_7 Ov_7 Pv_7 Oj_7 Pj_7 hbel_7
  generalize (w7.alloc (.cells #[Value.bool (decide ((zz).num < 0)), Value.slice ja jn jc, Value.slice jb jm jd] 29)) = v8 at *
  go_wp2_with fail
  refine (HS.out _).mono ?_
  rintro e w9 ⟨pa, pn, pc, pb, pm, pd, pa', pn', pc', pb', pm', pd', rfl, hO1, hO2, hO3, hO4, hDs, hB⟩
  have hB_9 : Below v8.heap.size v8 w9 := (bl.next hB)
  have X_9 := X_8.next hB_9
  have E_9 := E_8.next hB_9
  have V_9 := V_8.next hB_9
  have L_9 := L_8.next hB_9
  have Ov_9 := Ov_8.below hB_9
  have Pv_9 := Pv_8.below hB_9
  have Oj_9 := Oj_8.below hB_9
  have Pj_9 := Pj_8.below hB_9
  have hbel_9 := hbel_8.next hB_9
  have hsz_9 := hB_9.size
  clear X_8 E_8 V_8 L_8 Ov_8 Pv_8 Oj_8 Pj_8 hbel_8 hB_9
  have Op_9 := hO1
  have ltOp := hO1.ltB
  have Pp_9 := hO2
  have ltPp := hO2.ltB
  have Up_9 := hO3
  have ltUp := hO3.ltB
  have Vp_9 := hO4
  have ltVp := hO4.ltB
  clear hO1 hO2 hO3 hO4 hDs
  try clear hB
  have hbx := blk_new w9 #[Value.bool (decide ((zz).num < 0)), Value.slice pa pn pc, Value.slice pb pm pd, Value.bool (decide ((zz).num < 0)), Value.slice pa' pn' pc', Value.slice pb' pm' pd'] 51
  have hbB := (Below.refl w9.heap.size w9).alloc (Nat.le_refl _) (.cells #[Value.bool (decide ((zz).num < 0)), Value.slice pa pn pc, Value.slice pb pm pd, Value.bool (decide ((zz).num < 0)), Value.slice pa' pn' pc', Value.slice pb' pm' pd'] 51)
  have hltS := hbx.lt
  have hB_10 : Below w9.heap.size w9 (w9.alloc (.cells #[Value.bool (decide ((zz).num < 0)), Value.slice pa pn pc, Value.slice pb pm pd, Value.bool (decide ((zz).num < 0)), Value.slice pa' pn' pc', Value.slice pb' pm' pd'] 51)) := hbB
  have X_10 := X_9.next hB_10
  have E_10 := E_9.next hB_10
  have V_10 := V_9.next hB_10
  have L_10 := L_9.next hB_10
  have Ov_10 := Ov_9.below hB_10
  have Pv_10 := Pv_9.below hB_10
  have Oj_10 := Oj_9.below hB_10
  have Pj_10 := Pj_9.below hB_10
  have Op_10 := Op_9.below hB_10
  have Pp_10 := Pp_9.below hB_10
  have Up_10 := Up_9.below hB_10
  have Vp_10 := Vp_9.below hB_10
  have hbel_10 := hbel_9.next hB_10
  have hsz_10 := hB_10.size
  clear hB_10
  have S_10 := hbx
  clear hbx hbB
  go_wp2_with fail
  clear X_9 E_9 V_9 L_9 Ov_9 Pv_9 Oj_9 Pj_9 Op_9 Pp_9 Up_9 Vp_9 hbel_9
  generalize (w9.alloc (.cells #[Value.bool (decide ((zz).num < 0)), Value.slice pa pn pc, Value.slice pb pm pd, Value.bool (decide ((zz).num < 0)), Value.slice pa' pn' pc', Value.slice pb' pm' pd'] 51)) = v10 at *
  have o0 : w.heap.size < v3.heap.size := by omega
  have o1 : v3.heap.size < w5.heap.size := by omega
  have o2 : w5.heap.size < w7.heap.size := by omega
  have o3 : w7.heap.size < w9.heap.size := by omega
  have QV_10 : VQ (w5.heap.size) (w7.heap.size) (w9.heap.size) v10 zz _ _ _ _ _ _ := ⟨Ov_10.mono (Nat.zero_le _), Pv_10.mono (Nat.zero_le _), fun g' e => by have h1 := Ov_10.lt' g' e; have h2 := ltOv g' e; omega, fun g' e => by have h1 := Pv_10.lt' g' e; have h2 := ltPv g' e; omega⟩
  have QL_10 : VQ (w5.heap.size) (w7.heap.size) (w9.heap.size) v10 zz _ _ _ _ _ _ := ⟨Oj_10.mono (Nat.zero_le _), Pj_10.mono (Nat.zero_le _), fun g' e => by have h1 := Oj_10.lt' g' e; have h2 := ltOj g' e; omega, fun g' e => by have h1 := Pj_10.lt' g' e; have h2 := ltPj g' e; omega⟩
  have QA_10 : VQ (w5.heap.size) (w7.heap.size) (w9.heap.size) v10 zz _ _ _ _ _ _ := ⟨Op_10.mono (Nat.zero_le _), Pp_10.mono (Nat.zero_le _), fun g' e => by have h1 := Op_10.lt' g' e; have h2 := ltOp g' e; omega, fun g' e => by have h1 := Pp_10.lt' g' e; have h2 := ltPp g' e; omega⟩
  have QB_10 : VQ (w5.heap.size) (w7.heap.size) (w9.heap.size) v10 zz _ _ _ _ _ _ := ⟨Up_10.mono (Nat.zero_le _), Vp_10.mono (Nat.zero_le _), fun g' e => by have h1 := Up_10.lt' g' e; have h2 := ltUp g' e; omega, fun g' e => by have h1 := Vp_10.lt' g' e; have h2 := ltVp g' e; omega⟩
  clear Ov_10 ltOv Pv_10 ltPv Oj_10 ltOj Pj_10 ltPj Op_10 ltOp Pp_10 ltPp Up_10 ltUp Vp_10 ltVp
  generalize hggg9 : w9.heap.size = g9 at *
  clear hggg9
  generalize hggg8 : w7.heap.size = g8 at *
  clear hggg8
  generalize hggg7 : w5.heap.size = g7 at *
  clear hggg7
  generalize hgggE : v3.heap.size = gE at *
  clear hgggE
  go_loopw [10] (fun i wr => ∃ (k : Nat) (V L : Rat) (va : Option Addr) (vn vc : Nat) (vb : Option Addr) (vm vd : Nat) (ja : Option Addr) (jn jc : Nat) (jb : Option Addr) (jm jd : Nat) (pa : Option Addr) (pn pc : Nat) (pb : Option Addr) (pm pd : Nat) (pa' : Option Addr) (pn' pc' : Nat) (pb' : Option Addr) (pm' pd' : Nat), k ≤ n ∧ k ≤ 8 ∧ i = .int .i64 k ∧ Blk wr w.heap.size #[Value.bool s, Value.slice a n1 c0, Value.slice b m1 d0] ∧ Blk wr gE #[] ∧ Blk wr g7 #[Value.bool (decide ((V).num < 0)), Value.slice va vn vc, Value.slice vb vm vd] ∧ Blk wr g8 #[Value.bool (decide ((L).num < 0)), Value.slice ja jn jc, Value.slice jb jm jd] ∧ Blk wr g9 #[Value.bool (decide ((V).num < 0)), Value.slice pa pn pc, Value.slice pb pm pd, Value.bool (decide ((L).num < 0)), Value.slice pa' pn' pc', Value.slice pb' pm' pd'] ∧ VQ g7 g8 g9 wr V va vn vc vb vm vd ∧ VQ g7 g8 g9 wr L ja jn jc jb jm jd ∧ VQ g7 g8 g9 wr V pa pn pc pb pm pd ∧ VQ g7 g8 g9 wr L pa' pn' pc' pb' pm' pd' ∧ Hid (QS V (k * 20 + 1)) ∧ Hid (QS L (k * 20 + 1)) ∧ Below w.heap.size w wr) (fun i _ => 8 - (intOf i).toNat)
  case atStart => exact ⟨0, zz, zz, _, _, _, _, _, _, _, _, _, _, _, _, _, _, _, _, _, _, _, _, _, _, _, _, Nat.zero_le _, by omega, rfl, X_10, E_10, V_10, L_10, S_10, QV_10, QL_10, QA_10, QB_10, hzq, hzq, hbel_10⟩
  case round =>
    clear X_10 E_10 V_10 L_10 S_10 QV_10 QL_10 QA_10 QB_10 hbel_10 
    obtain ⟨k, V, L, va, vn, vc, vb, vm, vd, ja, jn, jc, jb, jm, jd, pa, pn, pc, pb, pm, pd, pa', pn', pc', pb', pm', pd', hkn0, hk8, rfl, X_11, E_11, V_11, L_11, S_11, QV_11, QL_11, QA_11, QB_11, hVq, hLq, hbel_11⟩ := hrel
    have hsz_11 := hbel_11.size
    have hltS11 := S_11.lt
    by_cases hkn : k < n
    · by_cases hlt8 : k < 8
      · skip
        obtain ⟨r1, r2, g, o, rfl, e0, e1, e2⟩ := hxw.out k hkn
        have hgl : g < w.heap.size := World.block_lt_of_cell? _ _ e1
        have e0 := (hbel_11.cell (p := ⟨g, o + k * 3, none⟩) hgl).trans e0
        have e1 := (hbel_11.cell (p := ⟨g, o + k * 3 + 1, none⟩) hgl).trans e1
        have e2 := (hbel_11.cell (p := ⟨g, o + k * 3 + 2, none⟩) hgl).trans e2
        generalize xs.getD k QA.o = y at *
        obtain ⟨ys, ya, yn, yc, yl, yb, ym, yd, yk⟩ := y
        simp only at r1 r2 e0 e1 e2
        have R1 := hid r1
        have R2 := hid r2
        have r1 := r1.below hbel_11
        have r2 := r2.below hbel_11
        go_wp2_with fail
        refine (fcut 2 (by omega) r1 r2).mono ?_
        rintro e w12 ⟨n2, l2, m2, k2, rfl, hn2, hm2, hln2, hlm2, hRa, hRb, hB⟩
        have hB_12 : Below wr.heap.size wr w12 := (bl.next hB)
        have X_12 := X_11.next hB_12
        have E_12 := E_11.next hB_12
        have V_12 := V_11.next hB_12
        have L_12 := L_11.next hB_12
        have S_12 := S_11.next hB_12
        have QV_12 := QV_11.below hB_12
        have QL_12 := QL_11.below hB_12
        have QA_12 := QA_11.below hB_12
        have QB_12 := QB_11.below hB_12
        have hbel_12 := hbel_11.next hB_12
        have hsz_12 := hB_12.size
        clear X_11 E_11 V_11 L_11 S_11 QV_11 QL_11 QA_11 QB_11 hbel_11 hB_12
        clear hRa hRb r1 r2 e0 e1 e2
        try clear hB
        have HC := hid (fun W (h : Below w.heap.size w W) => rdq_of (K := 2) ys ((R1.out.below h).pre hln2) hn2 ((R2.out.below h).pre hlm2) hm2)
        generalize qv ys (val (yl.take n2)) (val (yk.take m2)) = qc at HC
        clear R1 R2 l2 k2 hln2 hlm2 hn2 hm2 hgl
        have hbx := blk_new w12 #[Value.bool ys, Value.slice ya n2 yc, Value.slice yb m2 yd] 29
        have hbB := (Below.refl w12.heap.size w12).alloc (Nat.le_refl _) (.cells #[Value.bool ys, Value.slice ya n2 yc, Value.slice yb m2 yd] 29)
        have hltC := hbx.lt
        have hB_13 : Below w12.heap.size w12 (w12.alloc (.cells #[Value.bool ys, Value.slice ya n2 yc, Value.slice yb m2 yd] 29)) := hbB
        have X_13 := X_12.next hB_13
        have E_13 := E_12.next hB_13
        have V_13 := V_12.next hB_13
        have L_13 := L_12.next hB_13
        have S_13 := S_12.next hB_13
        have QV_13 := QV_12.below hB_13
        have QL_13 := QL_12.below hB_13
        have QA_13 := QA_12.below hB_13
        have QB_13 := QB_12.below hB_13
        have hbel_13 := hbel_12.next hB_13
        have hsz_13 := hB_13.size
        clear hB_13
        have C_13 := hbx
        clear hbx hbB
        go_wp2_with fail
        clear X_12 E_12 V_12 L_12 S_12 QV_12 QL_12 QA_12 QB_12 hbel_12
        generalize (w12.alloc (.cells #[Value.bool ys, Value.slice ya n2 yc, Value.slice yb m2 yd] 29)) = v13 at *
        have RX_13 := HX.out _ hbel_13
        have RC_13 := HC.out _ hbel_13
        have hqx := hid (RX_13.qs (by omega))
        have hqc := hid (RC_13.qs (by omega))
        have hrq := hid (fun j (hj : j ≤ k) => (rpw_qs hqx.out j).mono (show j * 2 + 1 ≤ 20 by omega))
        have hdq := hid (fun j (hj : j ≤ k) => dpw_qs hqx.out j (by omega))
        have hdh := hid (fun j (hj : j < k) => (show dpw qx (j + 1) = rpw qx j * uo + dpw qx j * qx by rw [huo1.out]; rfl))
        obtain ⟨zpw, hpw0⟩ : ∃ z, rpw qx k = z := ⟨_, rfl⟩
        obtain ⟨zpb, hpb0⟩ : ∃ z, dpw qx k = z := ⟨_, rfl⟩
        have hpw := hid hpw0
        have hpb := hid hpb0
        have qpw := hid (show QS zpw 20 by rw [← hpw0]; exact hrq.out k (Nat.le_refl _))
        have qpb := hid (show QS zpb 20 by rw [← hpb0]; exact hdq.out k (Nat.le_refl _))
        obtain ⟨mv, hmv0⟩ : ∃ z, qc * zpw = z := ⟨_, rfl⟩
        obtain ⟨ml, hml0⟩ : ∃ z, qc * zpb + zo * zpw = z := ⟨_, rfl⟩
        have hmv := hid hmv0
        have hml := hid hml0
        have qmv := hid (show QS mv 22 by rw [← hmv0]; exact (hqc.out.mul qpw.out).mono (by omega))
        have qml := hid (show QS ml 19 by rw [← hml0, hzo1.out, Rat.zero_mul, Rat.add_zero, ← hpb0]; exact grow_qs hqc.out hqx.out hlt8)
        have qmv := hid (show QS mv 19 by rw [← hmv0, ← hpw0]; exact (hqc.out.mul (rpw_qs hqx.out k)).mono (by omega))
        obtain ⟨nv, hnv0⟩ : ∃ z, V + mv = z := ⟨_, rfl⟩
        obtain ⟨nl, hnl0⟩ : ∃ z, L + ml = z := ⟨_, rfl⟩
        have hnv := hid hnv0
        have hnl := hid hnl0
        have qnv := hid (show QS nv ((k + 1) * 20 + 1) by rw [← hnv0]; exact (hVq.out.add qmv.out).mono (by omega))
        have qnl := hid (show QS nl ((k + 1) * 20 + 1) by rw [← hnl0]; exact (hLq.out.add qml.out).mono (by omega))
        clear hpw0 hpb0 hmv0 hml0 hnv0 hnl0
        have HPS : Hid (∀ (W : World) (s1 t1 : Bool) (a1 : Option Addr) (u1 v1 : Nat) (b1 : Option Addr) (u2 v2 : Nat) (a2 : Option Addr) (u3 v3 : Nat) (b2 : Option Addr) (u4 v4 : Nat), RdQ 2 W s1 a1 u1 v1 b1 u2 v2 qx → RdQ 1 W t1 a2 u3 v3 b2 u4 v4 uo → Calls Try.prog 18 #[.iface 48 (.agg #[]), .agg #[.bool s1, .slice a1 u1 v1, .slice b1 u2 v2, .bool t1, .slice a2 u3 v3, .slice b2 u4 v4], .int .i64 (k : Int)] W (RetSlE W zpw zpb)) := fun W s1 t1 a1 u1 v1 b1 u2 v2 a2 u3 v3 b2 u4 v4 h1 h2 => by
          have h := kspower k (by omega) (rpw qx) (dpw qx) rfl rfl (fun _ _ => rfl) hdh.out (h1.mono (show 2 ≤ 20 by omega)) (h2.mono (show 1 ≤ 20 by omega)) (by omega) (by omega) hrq.out hdq.out
          rwa [hpw.out, hpb.out] at h
        go_wp2_with fail
        go_cut [12, 13] (fun s12 s13 wx => BoxS v13 zpw zpb s12 wx ∧ s13 = .int .i64 0)
        case first =>
          have acc_13 : Below v13.heap.size v13 v13 := Below.refl _ _
          go_wp2_with fail
          have cX_13_0 : _ = some (Value.bool s) := X_13.cell 0
          have cX_13_1 : _ = some (Value.slice a n1 c0) := X_13.cell 1
          have cX_13_2 : _ = some (Value.slice b m1 d0) := X_13.cell 2
          go_region_held3 (fun w' => w'.cell? ⟨w.heap.size, 0, none⟩ = some (Value.bool s) ∧ w'.cell? ⟨w.heap.size, 1, none⟩ = some (Value.slice a n1 c0) ∧ w'.cell? ⟨w.heap.size, 2, none⟩ = some (Value.slice b m1 d0))
            (first | with_reducible exact ⟨cX_13_0, cX_13_1, cX_13_2⟩ | with_reducible exact ⟨cX_14_0, cX_14_1, cX_14_2⟩ | with_reducible exact ⟨cX_15_0, cX_15_1, cX_15_2⟩ | with_reducible exact ⟨(cell_set6 (by omega) _ _ _ _ _ _).trans (cX_15_0), (cell_set6 (by omega) _ _ _ _ _ _).trans (cX_15_1), (cell_set6 (by omega) _ _ _ _ _ _).trans (cX_15_2)⟩ | with_reducible exact ⟨(X_13.alloc _).cell 0, (X_13.alloc _).cell 1, (X_13.alloc _).cell 2⟩ | with_reducible exact ⟨(X_14.alloc _).cell 0, (X_14.alloc _).cell 1, (X_14.alloc _).cell 2⟩ | with_reducible exact ⟨(X_15.alloc _).cell 0, (X_15.alloc _).cell 1, (X_15.alloc _).cell 2⟩ | go_keep)
            (first
              | (go_at_call 19; ((with_reducible refine (HU.out _).mono ?_); (rintro e w14 ⟨ua, un, uc, ub, um, ud, rfl, hO, hO', hD, hB⟩; have hB_14 : Below v13.heap.size v13 w14 := (bl.next hB); have X_14 := X_13.next hB_14; have cX_14_0 : _ = some (Value.bool s) := X_14.cell 0; have cX_14_1 : _ = some (Value.slice a n1 c0) := X_14.cell 1; have cX_14_2 : _ = some (Value.slice b m1 d0) := X_14.cell 2; have E_14 := E_13.next hB_14; have V_14 := V_13.next hB_14; have L_14 := L_13.next hB_14; have S_14 := S_13.next hB_14; have C_14 := C_13.next hB_14; have QV_14 := QV_13.below hB_14; have QL_14 := QL_13.below hB_14; have QA_14 := QA_13.below hB_14; have QB_14 := QB_13.below hB_14; have RX_14 := RX_13.below hB_14; have RC_14 := RC_13.below hB_14; have hbel_14 := hbel_13.next hB_14; have hsz_14 := hB_14.size; clear X_13 cX_13_0 cX_13_1 cX_13_2 E_13 V_13 L_13 S_13 C_13 QV_13 QL_13 QA_13 QB_13 RX_13 RC_13 hbel_13 hB_14; have acc_14 := acc_13.next (show Below _ _ _ from (bl.next hB)); (first | (have A := A.next (show Below _ _ _ from (bl.next hB)); have ltA := A.lt; have cA0 : _ = some (Value.bool false) := A.cell 0; have fA0 := A.free 0; have cA1 : _ = some (Value.slice none 0 0) := A.cell 1; have fA1 := A.free 1; have cA2 : _ = some (Value.slice none 0 0) := A.cell 2; have fA2 := A.free 2; have cA3 : _ = some (Value.bool false) := A.cell 3; have fA3 := A.free 3; have cA4 : _ = some (Value.slice none 0 0) := A.cell 4; have fA4 := A.free 4; have cA5 : _ = some (Value.slice none 0 0) := A.cell 5; have fA5 := A.free 5) | (have A := (blk_new' _ #[Value.bool false, Value.slice none 0 0, Value.slice none 0 0, Value.bool false, Value.slice none 0 0, Value.slice none 0 0] 51 (g := v13.heap.size) rfl).next (by first | exact hB | exact below_drew hB); have ltA := A.lt; have cA0 : _ = some (Value.bool false) := A.cell 0; have fA0 := A.free 0; have cA1 : _ = some (Value.slice none 0 0) := A.cell 1; have fA1 := A.free 1; have cA2 : _ = some (Value.slice none 0 0) := A.cell 2; have fA2 := A.free 2; have cA3 : _ = some (Value.bool false) := A.cell 3; have fA3 := A.free 3; have cA4 : _ = some (Value.slice none 0 0) := A.cell 4; have fA4 := A.free 4; have cA5 : _ = some (Value.slice none 0 0) := A.cell 5; have fA5 := A.free 5) | skip); have QU_14 := hO.rdQ hO' hqu.out; clear hO hO' hD; try clear hB)))
              | (go_at_call 18; ((with_reducible refine (HPS.out _ _ _ _ _ _ _ _ _ _ _ _ _ _ _ (RX_14.below bl) (QU_14.below bl)).mono ?_); (rintro e w15 ⟨ta, tn, tc, tb, tm, td, ta', tn', tc', tb', tm', td', rfl, hO1, hO2, hO3, hO4, hDs, hB⟩; have hB_15 : Below w14.heap.size w14 w15 := (bl.next hB); have X_15 := X_14.next hB_15; have cX_15_0 : _ = some (Value.bool s) := X_15.cell 0; have cX_15_1 : _ = some (Value.slice a n1 c0) := X_15.cell 1; have cX_15_2 : _ = some (Value.slice b m1 d0) := X_15.cell 2; have E_15 := E_14.next hB_15; have V_15 := V_14.next hB_15; have L_15 := L_14.next hB_15; have S_15 := S_14.next hB_15; have C_15 := C_14.next hB_15; have QV_15 := QV_14.below hB_15; have QL_15 := QL_14.below hB_15; have QA_15 := QA_14.below hB_15; have QB_15 := QB_14.below hB_15; have RX_15 := RX_14.below hB_15; have RC_15 := RC_14.below hB_15; have QU_15 := QU_14.below hB_15; have hbel_15 := hbel_14.next hB_15; have hsz_15 := hB_15.size; clear X_14 cX_14_0 cX_14_1 cX_14_2 E_14 V_14 L_14 S_14 C_14 QV_14 QL_14 QA_14 QB_14 RX_14 RC_14 QU_14 hbel_14 hB_15; have acc_15 := acc_14.next (show Below _ _ _ from (bl.next hB)); (first | (have A := A.next (show Below _ _ _ from (bl.next hB)); have ltA := A.lt; have cA0 : _ = some (Value.bool false) := A.cell 0; have fA0 := A.free 0; have cA1 : _ = some (Value.slice none 0 0) := A.cell 1; have fA1 := A.free 1; have cA2 : _ = some (Value.slice none 0 0) := A.cell 2; have fA2 := A.free 2; have cA3 : _ = some (Value.bool false) := A.cell 3; have fA3 := A.free 3; have cA4 : _ = some (Value.slice none 0 0) := A.cell 4; have fA4 := A.free 4; have cA5 : _ = some (Value.slice none 0 0) := A.cell 5; have fA5 := A.free 5) | (have A := (blk_new' _ #[Value.bool false, Value.slice none 0 0, Value.slice none 0 0, Value.bool false, Value.slice none 0 0, Value.slice none 0 0] 51 (g := w14.heap.size) rfl).next (by first | exact hB | exact below_drew hB); have ltA := A.lt; have cA0 : _ = some (Value.bool false) := A.cell 0; have fA0 := A.free 0; have cA1 : _ = some (Value.slice none 0 0) := A.cell 1; have fA1 := A.free 1; have cA2 : _ = some (Value.slice none 0 0) := A.cell 2; have fA2 := A.free 2; have cA3 : _ = some (Value.bool false) := A.cell 3; have fA3 := A.free 3; have cA4 : _ = some (Value.slice none 0 0) := A.cell 4; have fA4 := A.free 4; have cA5 : _ = some (Value.slice none 0 0) := A.cell 5; have fA5 := A.free 5) | skip); try clear hB))))
          all_goals (go_wp2_with fail; go_meet; refine ⟨?_, rfl⟩; first | with_reducible exact boxS_new hO1 hO2 hO3 hO4 (by first | omega | (simp; omega) | simp) acc_15 | with_reducible exact boxS_set A hO1 hO2 hO3 hO4 (by first | omega | (simp; omega) | simp) (by first | omega | (simp; omega) | simp) acc_15)
        case rest =>
          obtain ⟨⟨gT, ta, tn, tc, tb, tm, td, ta', tn', tc', tb', tm', td', rfl, hbk, hgeT, hO1, hO2, hO3, hO4, hBc⟩, rfl⟩ := hcut
          have hB_14 : Below v13.heap.size v13 wc := hBc
          have X_14 := X_13.next hB_14
          have E_14 := E_13.next hB_14
          have V_14 := V_13.next hB_14
          have L_14 := L_13.next hB_14
          have S_14 := S_13.next hB_14
          have C_14 := C_13.next hB_14
          have QV_14 := QV_13.below hB_14
          have QL_14 := QL_13.below hB_14
          have QA_14 := QA_13.below hB_14
          have QB_14 := QB_13.below hB_14
          have RX_14 := RX_13.below hB_14
          have RC_14 := RC_13.below hB_14
          have hbel_14 := hbel_13.next hB_14
          have hsz_14 := hB_14.size
          clear X_13 E_13 V_13 L_13 S_13 C_13 QV_13 QL_13 QA_13 QB_13 RX_13 RC_13 hbel_13 hB_14
          clear hBc
          obtain ⟨wc14, hwc⟩ : ∃ y : World, y = wc := ⟨_, rfl⟩
          subst hwc
          have T_14 := hbk
          have hltT := hbk.lt
          clear hbk
          have OT_14 := hO1
          clear hO1
          have PT_14 := hO2
          clear hO2
          have UT_14 := hO3
          clear hO3
          have VT_14 := hO4
          clear hO4
          have cX_14_0 : _ = some (Value.bool s) := X_14.cell 0
          have cX_14_1 : _ = some (Value.slice a n1 c0) := X_14.cell 1
          have cX_14_2 : _ = some (Value.slice b m1 d0) := X_14.cell 2
          go_wp2_with fail
          refine ((kpower k (by omega) (rpw qx) rfl (fun _ _ => rfl) (RX_14.mono (by omega)) (by omega : 1 ≤ 20) (by omega) hrq.out).mono fun e w' h => retqe_ok h rfl).mono ?_
          rw [hpw.out]
          rintro e w15 ⟨fa, fn, fc, fb, fm, fd, rfl, hO, hO', hD, hB⟩
          have hB_15 : Below wc14.heap.size wc14 w15 := (bl.next hB)
          have X_15 := X_14.next hB_15
          have E_15 := E_14.next hB_15
          have V_15 := V_14.next hB_15
          have L_15 := L_14.next hB_15
          have S_15 := S_14.next hB_15
          have C_15 := C_14.next hB_15
          have T_15 := T_14.next hB_15
          have QV_15 := QV_14.below hB_15
          have QL_15 := QL_14.below hB_15
          have QA_15 := QA_14.below hB_15
          have QB_15 := QB_14.below hB_15
          have RX_15 := RX_14.below hB_15
          have RC_15 := RC_14.below hB_15
          have OT_15 := OT_14.below hB_15
          have PT_15 := PT_14.below hB_15
          have UT_15 := UT_14.below hB_15
          have VT_15 := VT_14.below hB_15
          have hbel_15 := hbel_14.next hB_15
          have hsz_15 := hB_15.size
          clear X_14 cX_14_0 cX_14_1 cX_14_2 E_14 V_14 L_14 S_14 C_14 T_14 QV_14 QL_14 QA_14 QB_14 RX_14 RC_14 OT_14 PT_14 UT_14 VT_14 hbel_14 hB_15
          have Of_15 := hO
          have ltOf := hO.ltB
          have Pf_15 := hO'
          have ltPf := hO'.ltB
          clear hO hO' hD
          try clear hB
          have hbx := blk_new w15 #[Value.bool (decide ((zpw).num < 0)), Value.slice fa fn fc, Value.slice fb fm fd] 29
          have hbB := (Below.refl w15.heap.size w15).alloc (Nat.le_refl _) (.cells #[Value.bool (decide ((zpw).num < 0)), Value.slice fa fn fc, Value.slice fb fm fd] 29)
          have hltQ := hbx.lt
          have hB_16 : Below w15.heap.size w15 (w15.alloc (.cells #[Value.bool (decide ((zpw).num < 0)), Value.slice fa fn fc, Value.slice fb fm fd] 29)) := hbB
          have X_16 := X_15.next hB_16
          have E_16 := E_15.next hB_16
          have V_16 := V_15.next hB_16
          have L_16 := L_15.next hB_16
          have S_16 := S_15.next hB_16
          have C_16 := C_15.next hB_16
          have T_16 := T_15.next hB_16
          have QV_16 := QV_15.below hB_16
          have QL_16 := QL_15.below hB_16
          have QA_16 := QA_15.below hB_16
          have QB_16 := QB_15.below hB_16
          have RX_16 := RX_15.below hB_16
          have RC_16 := RC_15.below hB_16
          have OT_16 := OT_15.below hB_16
          have PT_16 := PT_15.below hB_16
          have UT_16 := UT_15.below hB_16
          have VT_16 := VT_15.below hB_16
          have Of_16 := Of_15.below hB_16
          have Pf_16 := Pf_15.below hB_16
          have hbel_16 := hbel_15.next hB_16
          have hsz_16 := hB_16.size
          clear hB_16
          have Q_16 := hbx
          clear hbx hbB
          go_wp2_with fail
          clear X_15 E_15 V_15 L_15 S_15 C_15 T_15 QV_15 QL_15 QA_15 QB_15 RX_15 RC_15 OT_15 PT_15 UT_15 VT_15 Of_15 Pf_15 hbel_15
          generalize (w15.alloc (.cells #[Value.bool (decide ((zpw).num < 0)), Value.slice fa fn fc, Value.slice fb fm fd] 29)) = v16 at *
          go_wp2_with fail
          go_cut [] (fun wx => ∃ (p2a : Option Addr) (p2n p2c : Nat) (p2b : Option Addr) (p2m p2d : Nat) (p2a' : Option Addr) (p2n' p2c' : Nat) (p2b' : Option Addr) (p2m' p2d' : Nat), Blk wx g9 #[Value.bool (decide ((nv).num < 0)), Value.slice p2a p2n p2c, Value.slice p2b p2m p2d, Value.bool (decide ((nl).num < 0)), Value.slice p2a' p2n' p2c', Value.slice p2b' p2m' p2d'] ∧ Own v16.heap.size wx p2a p2n p2c (lm nv.num.natAbs) ∧ Own v16.heap.size wx p2b p2m p2d (lm nv.den) ∧ Own v16.heap.size wx p2a' p2n' p2c' (lm nl.num.natAbs) ∧ Own v16.heap.size wx p2b' p2m' p2d' (lm nl.den) ∧ Kp (fun j => j = g9) v16 wx)
          case first =>
            have acc_16 : Below v16.heap.size v16 v16 := Below.refl _ _
            have cC_16_0 : _ = some (Value.bool ys) := C_16.cell 0
            have cC_16_1 : _ = some (Value.slice ya n2 yc) := C_16.cell 1
            have cC_16_2 : _ = some (Value.slice yb m2 yd) := C_16.cell 2
            have cT_16_0 : _ = some (Value.bool (decide ((zpw).num < 0))) := T_16.cell 0
            have cT_16_1 : _ = some (Value.slice ta tn tc) := T_16.cell 1
            have cT_16_2 : _ = some (Value.slice tb tm td) := T_16.cell 2
            have cT_16_3 : _ = some (Value.bool (decide ((zpb).num < 0))) := T_16.cell 3
            have cT_16_4 : _ = some (Value.slice ta' tn' tc') := T_16.cell 4
            have cT_16_5 : _ = some (Value.slice tb' tm' td') := T_16.cell 5
            have cS_16_0 : _ = some (Value.bool (decide ((V).num < 0))) := S_16.cell 0
            have fS_16_0 := S_16.free 0
            have cS_16_1 : _ = some (Value.slice pa pn pc) := S_16.cell 1
            have fS_16_1 := S_16.free 1
            have cS_16_2 : _ = some (Value.slice pb pm pd) := S_16.cell 2
            have fS_16_2 := S_16.free 2
            have cS_16_3 : _ = some (Value.bool (decide ((L).num < 0))) := S_16.cell 3
            have fS_16_3 := S_16.free 3
            have cS_16_4 : _ = some (Value.slice pa' pn' pc') := S_16.cell 4
            have fS_16_4 := S_16.free 4
            have cS_16_5 : _ = some (Value.slice pb' pm' pd') := S_16.cell 5
            have fS_16_5 := S_16.free 5
            refine wp_region_noPanic ?_
            refine wp_region_held_drew (S := (fun w' => w'.cell? ⟨w12.heap.size, 0, none⟩ = some (Value.bool ys) ∧ w'.cell? ⟨w12.heap.size, 1, none⟩ = some (Value.slice ya n2 yc) ∧ w'.cell? ⟨w12.heap.size, 2, none⟩ = some (Value.slice yb m2 yd) ∧ w'.cell? ⟨gT, 0, none⟩ = some (Value.bool (decide ((zpw).num < 0))) ∧ w'.cell? ⟨gT, 1, none⟩ = some (Value.slice ta tn tc) ∧ w'.cell? ⟨gT, 2, none⟩ = some (Value.slice tb tm td) ∧ w'.cell? ⟨gT, 3, none⟩ = some (Value.bool (decide ((zpb).num < 0))) ∧ w'.cell? ⟨gT, 4, none⟩ = some (Value.slice ta' tn' tc') ∧ w'.cell? ⟨gT, 5, none⟩ = some (Value.slice tb' tm' td'))) (by kernel_rfl) ⟨cC_16_0, cC_16_1, cC_16_2, cT_16_0, cT_16_1, cT_16_2, cT_16_3, cT_16_4, cT_16_5⟩ (fun hHeld => ?_)
            refine take_run (i := 0) (d := some 65) (v := .agg #[]) rfl rfl (by kernel_rfl) (by kernel_rfl) (by kernel_rfl) (fun _ _ _ h => h) (by rfl) (fun w hSw => by (try dsimp only at hSw); go_simp) (by assumption) ?_
            (try simp only [Act.put, List.setIfInBounds_toArray, List.set_cons_zero, List.set_cons_succ])
            refine take_run (i := 2) (d := some 67) (v := .agg #[]) rfl rfl (by kernel_rfl) (by kernel_rfl) (by kernel_rfl) (fun _ _ _ h => h) (by rfl) (fun w hSw => by (try dsimp only at hSw); go_simp) (by assumption) ?_
            (try simp only [Act.put, List.setIfInBounds_toArray, List.set_cons_zero, List.set_cons_succ])
            refine take_run (i := 3) (d := some 68) (v := .agg #[.bool ys, .slice ya n2 yc, .slice yb m2 yd]) rfl rfl (by kernel_rfl) (by kernel_rfl) (by kernel_rfl) (fun _ _ _ h => h) (by rfl) (fun w hSw => by (try dsimp only at hSw); go_simp) (by assumption) ?_
            (try simp only [Act.put, List.setIfInBounds_toArray, List.set_cons_zero, List.set_cons_succ])
            refine take_run (i := 6) (d := some 71) (v := .agg #[Value.bool (decide ((zpw).num < 0)), Value.slice ta tn tc, Value.slice tb tm td, Value.bool (decide ((zpb).num < 0)), Value.slice ta' tn' tc', Value.slice tb' tm' td']) rfl rfl (by kernel_rfl) (by kernel_rfl) (by kernel_rfl) (fun _ _ _ h => h) (by rfl) (fun w hSw => by (try dsimp only at hSw); go_simp) (by assumption) ?_
            (try simp only [Act.put, List.setIfInBounds_toArray, List.set_cons_zero, List.set_cons_succ])
            refine wpAnyH_ready (rs := [1, 4]) (by kernel_rfl) (by simp) ?_
            refine AllReadyH.cons (o := _) rfl (fun K hK => ?_) (AllReadyH.cons (o := _) rfl (fun K hK => ?_) (AllReadyH.nil))
            · go_simp
              refine hK.out _ _ ⟨cC_16_0, cC_16_1, cC_16_2, cT_16_0, cT_16_1, cT_16_2, cT_16_3, cT_16_4, cT_16_5⟩ (fun hHeld => ?_)
              clear hK K
              (try simp only [Act.put, List.setIfInBounds_toArray, List.set_cons_zero, List.set_cons_succ])
              refine wpAnyH_ready (rs := [4]) (by kernel_rfl) (by simp) ?_
              refine AllReadyH.cons (o := _) rfl (fun K hK => ?_) (AllReadyH.nil)
              · go_simp
                refine (HO.out _).mono ?_
                rintro e w17 ⟨ua, un, uc, ub, um, ud, rfl, hO, hO', hD, hB⟩
                have hB_17 : Below v16.heap.size v16 w17 := (bl.next hB)
                have X_17 := X_16.next hB_17
                have E_17 := E_16.next hB_17
                have V_17 := V_16.next hB_17
                have L_17 := L_16.next hB_17
                have S_17 := S_16.next hB_17
                have cS_17_0 : _ = some (Value.bool (decide ((V).num < 0))) := S_17.cell 0
                have fS_17_0 := S_17.free 0
                have cS_17_1 : _ = some (Value.slice pa pn pc) := S_17.cell 1
                have fS_17_1 := S_17.free 1
                have cS_17_2 : _ = some (Value.slice pb pm pd) := S_17.cell 2
                have fS_17_2 := S_17.free 2
                have cS_17_3 : _ = some (Value.bool (decide ((L).num < 0))) := S_17.cell 3
                have fS_17_3 := S_17.free 3
                have cS_17_4 : _ = some (Value.slice pa' pn' pc') := S_17.cell 4
                have fS_17_4 := S_17.free 4
                have cS_17_5 : _ = some (Value.slice pb' pm' pd') := S_17.cell 5
                have fS_17_5 := S_17.free 5
                have C_17 := C_16.next hB_17
                have cC_17_0 : _ = some (Value.bool ys) := C_17.cell 0
                have cC_17_1 : _ = some (Value.slice ya n2 yc) := C_17.cell 1
                have cC_17_2 : _ = some (Value.slice yb m2 yd) := C_17.cell 2
                have T_17 := T_16.next hB_17
                have cT_17_0 : _ = some (Value.bool (decide ((zpw).num < 0))) := T_17.cell 0
                have cT_17_1 : _ = some (Value.slice ta tn tc) := T_17.cell 1
                have cT_17_2 : _ = some (Value.slice tb tm td) := T_17.cell 2
                have cT_17_3 : _ = some (Value.bool (decide ((zpb).num < 0))) := T_17.cell 3
                have cT_17_4 : _ = some (Value.slice ta' tn' tc') := T_17.cell 4
                have cT_17_5 : _ = some (Value.slice tb' tm' td') := T_17.cell 5
                have Q_17 := Q_16.next hB_17
                have QV_17 := QV_16.below hB_17
                have QL_17 := QL_16.below hB_17
                have QA_17 := QA_16.below hB_17
                have QB_17 := QB_16.below hB_17
                have RX_17 := RX_16.below hB_17
                have RC_17 := RC_16.below hB_17
                have OT_17 := OT_16.below hB_17
                have PT_17 := PT_16.below hB_17
                have UT_17 := UT_16.below hB_17
                have VT_17 := VT_16.below hB_17
                have Of_17 := Of_16.below hB_17
                have Pf_17 := Pf_16.below hB_17
                have hbel_17 := hbel_16.next hB_17
                have hsz_17 := hB_17.size
                clear X_16 E_16 V_16 L_16 S_16 cS_16_0 fS_16_0 cS_16_1 fS_16_1 cS_16_2 fS_16_2 cS_16_3 fS_16_3 cS_16_4 fS_16_4 cS_16_5 fS_16_5 C_16 cC_16_0 cC_16_1 cC_16_2 T_16 cT_16_0 cT_16_1 cT_16_2 cT_16_3 cT_16_4 cT_16_5 Q_16 QV_16 QL_16 QA_16 QB_16 RX_16 RC_16 OT_16 PT_16 UT_16 VT_16 Of_16 Pf_16 hbel_16 hB_17
                have acc_17 := acc_16.next (show Below _ _ _ from (bl.next hB))
                have QU_17 := hO.rdQ hO' hqo.out
                clear hO hO' hD
                try clear hB
                (try go_wp2_with fail)
                refine hK.out _ _ ⟨cC_17_0, cC_17_1, cC_17_2, cT_17_0, cT_17_1, cT_17_2, cT_17_3, cT_17_4, cT_17_5⟩ (fun hHeld => ?_)
                clear hK K
                (try simp only [Act.put, List.setIfInBounds_toArray, List.set_cons_zero, List.set_cons_succ])
                refine take_run (i := 5) (d := some 70) (v := .agg #[Value.bool ys, Value.slice ya n2 yc, Value.slice yb m2 yd, Value.bool (decide ((zo).num < 0)), Value.slice ua un uc, Value.slice ub um ud]) rfl rfl (by kernel_rfl) (by kernel_rfl) (by kernel_rfl) (fun _ _ _ h => h) (by rfl) (fun w hSw => by (try dsimp only at hSw); go_simp) (by assumption) ?_
                (try simp only [Act.put, List.setIfInBounds_toArray, List.set_cons_zero, List.set_cons_succ])
                refine wpAnyH_ready (rs := [7]) (by kernel_rfl) (by simp) ?_
                refine AllReadyH.cons (o := _) rfl (fun K hK => ?_) (AllReadyH.nil)
                · go_simp
                  refine (ksmul (J := 200) ((RC_17.below bl).mono (by omega)) ((QU_17.below bl).mono (by omega)) (((OT_17.below bl).rdQ (PT_17.below bl) qpw.out).mono (by omega)) (((UT_17.below bl).rdQ (VT_17.below bl) qpb.out).mono (by omega)) (by omega) (by omega)).mono ?_
                  rw [hmv.out, hml.out]
                  rintro e w18 ⟨ma, mn, mc, mb, mm, md, ma', mn', mc', mb', mm', md', rfl, hO1, hO2, hO3, hO4, hDs, hB⟩
                  have hB_18 : Below w17.heap.size w17 w18 := (bl.next hB)
                  have X_18 := X_17.next hB_18
                  have E_18 := E_17.next hB_18
                  have V_18 := V_17.next hB_18
                  have L_18 := L_17.next hB_18
                  have S_18 := S_17.next hB_18
                  have cS_18_0 : _ = some (Value.bool (decide ((V).num < 0))) := S_18.cell 0
                  have fS_18_0 := S_18.free 0
                  have cS_18_1 : _ = some (Value.slice pa pn pc) := S_18.cell 1
                  have fS_18_1 := S_18.free 1
                  have cS_18_2 : _ = some (Value.slice pb pm pd) := S_18.cell 2
                  have fS_18_2 := S_18.free 2
                  have cS_18_3 : _ = some (Value.bool (decide ((L).num < 0))) := S_18.cell 3
                  have fS_18_3 := S_18.free 3
                  have cS_18_4 : _ = some (Value.slice pa' pn' pc') := S_18.cell 4
                  have fS_18_4 := S_18.free 4
                  have cS_18_5 : _ = some (Value.slice pb' pm' pd') := S_18.cell 5
                  have fS_18_5 := S_18.free 5
                  have C_18 := C_17.next hB_18
                  have cC_18_0 : _ = some (Value.bool ys) := C_18.cell 0
                  have cC_18_1 : _ = some (Value.slice ya n2 yc) := C_18.cell 1
                  have cC_18_2 : _ = some (Value.slice yb m2 yd) := C_18.cell 2
                  have T_18 := T_17.next hB_18
                  have cT_18_0 : _ = some (Value.bool (decide ((zpw).num < 0))) := T_18.cell 0
                  have cT_18_1 : _ = some (Value.slice ta tn tc) := T_18.cell 1
                  have cT_18_2 : _ = some (Value.slice tb tm td) := T_18.cell 2
                  have cT_18_3 : _ = some (Value.bool (decide ((zpb).num < 0))) := T_18.cell 3
                  have cT_18_4 : _ = some (Value.slice ta' tn' tc') := T_18.cell 4
                  have cT_18_5 : _ = some (Value.slice tb' tm' td') := T_18.cell 5
                  have Q_18 := Q_17.next hB_18
                  have QV_18 := QV_17.below hB_18
                  have QL_18 := QL_17.below hB_18
                  have QA_18 := QA_17.below hB_18
                  have QB_18 := QB_17.below hB_18
                  have RX_18 := RX_17.below hB_18
                  have RC_18 := RC_17.below hB_18
                  have OT_18 := OT_17.below hB_18
                  have PT_18 := PT_17.below hB_18
                  have UT_18 := UT_17.below hB_18
                  have VT_18 := VT_17.below hB_18
                  have Of_18 := Of_17.below hB_18
                  have Pf_18 := Pf_17.below hB_18
                  have QU_18 := QU_17.below hB_18
                  have hbel_18 := hbel_17.next hB_18
                  have hsz_18 := hB_18.size
                  clear X_17 E_17 V_17 L_17 S_17 cS_17_0 fS_17_0 cS_17_1 fS_17_1 cS_17_2 fS_17_2 cS_17_3 fS_17_3 cS_17_4 fS_17_4 cS_17_5 fS_17_5 C_17 cC_17_0 cC_17_1 cC_17_2 T_17 cT_17_0 cT_17_1 cT_17_2 cT_17_3 cT_17_4 cT_17_5 Q_17 QV_17 QL_17 QA_17 QB_17 RX_17 RC_17 OT_17 PT_17 UT_17 VT_17 Of_17 Pf_17 QU_17 hbel_17 hB_18
                  have acc_18 := acc_17.next (show Below _ _ _ from (bl.next hB))
                  have QM_18 := hO1.rdQ hO2 qmv.out
                  have QN_18 := hO3.rdQ hO4 qml.out
                  clear hO1 hO2 hO3 hO4 hDs
                  try clear hB
                  (try go_wp2_with fail)
                  refine hK.out _ _ ⟨cC_18_0, cC_18_1, cC_18_2, cT_18_0, cT_18_1, cT_18_2, cT_18_3, cT_18_4, cT_18_5⟩ (fun hHeld => ?_)
                  clear hK K
                  (try simp only [Act.put, List.setIfInBounds_toArray, List.set_cons_zero, List.set_cons_succ])
                  refine wpAnyH_ready (rs := [8]) (by kernel_rfl) (by simp) ?_
                  refine AllReadyH.cons (o := _) rfl (fun K hK => ?_) (AllReadyH.nil)
                  · go_simp
                    refine (ksadd (J := 200) (((QA_18.below bl).rdQ hVq.out).mono (by omega)) (((QB_18.below bl).rdQ hLq.out).mono (by omega)) ((QM_18.below bl).mono (by omega)) ((QN_18.below bl).mono (by omega)) (by omega) (by omega)).mono ?_
                    rw [hnv.out, hnl.out]
                    rintro e w19 ⟨za, zn, zc, zb, zm, zd, za', zn', zc', zb', zm', zd', rfl, hO1, hO2, hO3, hO4, hDs, hB⟩
                    have hB_19 : Below w18.heap.size w18 w19 := (bl.next hB)
                    have X_19 := X_18.next hB_19
                    have E_19 := E_18.next hB_19
                    have V_19 := V_18.next hB_19
                    have L_19 := L_18.next hB_19
                    have S_19 := S_18.next hB_19
                    have cS_19_0 : _ = some (Value.bool (decide ((V).num < 0))) := S_19.cell 0
                    have fS_19_0 := S_19.free 0
                    have cS_19_1 : _ = some (Value.slice pa pn pc) := S_19.cell 1
                    have fS_19_1 := S_19.free 1
                    have cS_19_2 : _ = some (Value.slice pb pm pd) := S_19.cell 2
                    have fS_19_2 := S_19.free 2
                    have cS_19_3 : _ = some (Value.bool (decide ((L).num < 0))) := S_19.cell 3
                    have fS_19_3 := S_19.free 3
                    have cS_19_4 : _ = some (Value.slice pa' pn' pc') := S_19.cell 4
                    have fS_19_4 := S_19.free 4
                    have cS_19_5 : _ = some (Value.slice pb' pm' pd') := S_19.cell 5
                    have fS_19_5 := S_19.free 5
                    have C_19 := C_18.next hB_19
                    have cC_19_0 : _ = some (Value.bool ys) := C_19.cell 0
                    have cC_19_1 : _ = some (Value.slice ya n2 yc) := C_19.cell 1
                    have cC_19_2 : _ = some (Value.slice yb m2 yd) := C_19.cell 2
                    have T_19 := T_18.next hB_19
                    have cT_19_0 : _ = some (Value.bool (decide ((zpw).num < 0))) := T_19.cell 0
                    have cT_19_1 : _ = some (Value.slice ta tn tc) := T_19.cell 1
                    have cT_19_2 : _ = some (Value.slice tb tm td) := T_19.cell 2
                    have cT_19_3 : _ = some (Value.bool (decide ((zpb).num < 0))) := T_19.cell 3
                    have cT_19_4 : _ = some (Value.slice ta' tn' tc') := T_19.cell 4
                    have cT_19_5 : _ = some (Value.slice tb' tm' td') := T_19.cell 5
                    have Q_19 := Q_18.next hB_19
                    have QV_19 := QV_18.below hB_19
                    have QL_19 := QL_18.below hB_19
                    have QA_19 := QA_18.below hB_19
                    have QB_19 := QB_18.below hB_19
                    have RX_19 := RX_18.below hB_19
                    have RC_19 := RC_18.below hB_19
                    have OT_19 := OT_18.below hB_19
                    have PT_19 := PT_18.below hB_19
                    have UT_19 := UT_18.below hB_19
                    have VT_19 := VT_18.below hB_19
                    have Of_19 := Of_18.below hB_19
                    have Pf_19 := Pf_18.below hB_19
                    have QU_19 := QU_18.below hB_19
                    have QM_19 := QM_18.below hB_19
                    have QN_19 := QN_18.below hB_19
                    have hbel_19 := hbel_18.next hB_19
                    have hsz_19 := hB_19.size
                    clear X_18 E_18 V_18 L_18 S_18 cS_18_0 fS_18_0 cS_18_1 fS_18_1 cS_18_2 fS_18_2 cS_18_3 fS_18_3 cS_18_4 fS_18_4 cS_18_5 fS_18_5 C_18 cC_18_0 cC_18_1 cC_18_2 T_18 cT_18_0 cT_18_1 cT_18_2 cT_18_3 cT_18_4 cT_18_5 Q_18 QV_18 QL_18 QA_18 QB_18 RX_18 RC_18 OT_18 PT_18 UT_18 VT_18 Of_18 Pf_18 QU_18 QM_18 QN_18 hbel_18 hB_19
                    have acc_19 := acc_18.next (show Below _ _ _ from (bl.next hB))
                    try clear hB
                    (try go_wp2_with fail)
                    refine hK.out _ _ ⟨cC_19_0, cC_19_1, cC_19_2, cT_19_0, cT_19_1, cT_19_2, cT_19_3, cT_19_4, cT_19_5⟩ (fun hHeld => ?_)
                    clear hK K
                    (try simp only [Act.put, List.setIfInBounds_toArray, List.set_cons_zero, List.set_cons_succ])
                    refine wpAnyH_ready (rs := [9]) (by kernel_rfl) (by simp) ?_
                    refine AllReadyH.cons (o := _) rfl (fun K hK => ?_) (AllReadyH.nil)
                    · go_simp
                      refine hK.out _ _ ⟨(cell_set6 (by omega) _ _ _ _ _ _).trans cC_19_0, (cell_set6 (by omega) _ _ _ _ _ _).trans cC_19_1, (cell_set6 (by omega) _ _ _ _ _ _).trans cC_19_2, (cell_set6 (by omega) _ _ _ _ _ _).trans cT_19_0, (cell_set6 (by omega) _ _ _ _ _ _).trans cT_19_1, (cell_set6 (by omega) _ _ _ _ _ _).trans cT_19_2, (cell_set6 (by omega) _ _ _ _ _ _).trans cT_19_3, (cell_set6 (by omega) _ _ _ _ _ _).trans cT_19_4, (cell_set6 (by omega) _ _ _ _ _ _).trans cT_19_5⟩ (fun hHeld => ?_)
                      clear hK K
                      (try simp only [Act.put, List.setIfInBounds_toArray, List.set_cons_zero, List.set_cons_succ])
                      refine wpAnyH_done (by kernel_rfl) ?_ _
                      refine NoPanic.normal ?_
                      go_wp2_with fail
                      go_meet
                      with_reducible exact ⟨_, _, _, _, _, _, _, _, _, _, _, _, blk_put6 S_19 _ _ _ _ _ _, (hO1.set6 (by omega) _ _ _ _ _ _).mono (by omega), (hO2.set6 (by omega) _ _ _ _ _ _).mono (by omega), (hO3.set6 (by omega) _ _ _ _ _ _).mono (by omega), (hO4.set6 (by omega) _ _ _ _ _ _).mono (by omega), kp_put6 acc_19 g9 _ _ _ _ _ _⟩
            · go_simp
              refine (HO.out _).mono ?_
              rintro e w17 ⟨ua, un, uc, ub, um, ud, rfl, hO, hO', hD, hB⟩
              have hB_17 : Below v16.heap.size v16 w17 := (bl.next hB)
              have X_17 := X_16.next hB_17
              have E_17 := E_16.next hB_17
              have V_17 := V_16.next hB_17
              have L_17 := L_16.next hB_17
              have S_17 := S_16.next hB_17
              have cS_17_0 : _ = some (Value.bool (decide ((V).num < 0))) := S_17.cell 0
              have fS_17_0 := S_17.free 0
              have cS_17_1 : _ = some (Value.slice pa pn pc) := S_17.cell 1
              have fS_17_1 := S_17.free 1
              have cS_17_2 : _ = some (Value.slice pb pm pd) := S_17.cell 2
              have fS_17_2 := S_17.free 2
              have cS_17_3 : _ = some (Value.bool (decide ((L).num < 0))) := S_17.cell 3
              have fS_17_3 := S_17.free 3
              have cS_17_4 : _ = some (Value.slice pa' pn' pc') := S_17.cell 4
              have fS_17_4 := S_17.free 4
              have cS_17_5 : _ = some (Value.slice pb' pm' pd') := S_17.cell 5
              have fS_17_5 := S_17.free 5
              have C_17 := C_16.next hB_17
              have cC_17_0 : _ = some (Value.bool ys) := C_17.cell 0
              have cC_17_1 : _ = some (Value.slice ya n2 yc) := C_17.cell 1
              have cC_17_2 : _ = some (Value.slice yb m2 yd) := C_17.cell 2
              have T_17 := T_16.next hB_17
              have cT_17_0 : _ = some (Value.bool (decide ((zpw).num < 0))) := T_17.cell 0
              have cT_17_1 : _ = some (Value.slice ta tn tc) := T_17.cell 1
              have cT_17_2 : _ = some (Value.slice tb tm td) := T_17.cell 2
              have cT_17_3 : _ = some (Value.bool (decide ((zpb).num < 0))) := T_17.cell 3
              have cT_17_4 : _ = some (Value.slice ta' tn' tc') := T_17.cell 4
              have cT_17_5 : _ = some (Value.slice tb' tm' td') := T_17.cell 5
              have Q_17 := Q_16.next hB_17
              have QV_17 := QV_16.below hB_17
              have QL_17 := QL_16.below hB_17
              have QA_17 := QA_16.below hB_17
              have QB_17 := QB_16.below hB_17
              have RX_17 := RX_16.below hB_17
              have RC_17 := RC_16.below hB_17
              have OT_17 := OT_16.below hB_17
              have PT_17 := PT_16.below hB_17
              have UT_17 := UT_16.below hB_17
              have VT_17 := VT_16.below hB_17
              have Of_17 := Of_16.below hB_17
              have Pf_17 := Pf_16.below hB_17
              have hbel_17 := hbel_16.next hB_17
              have hsz_17 := hB_17.size
              clear X_16 E_16 V_16 L_16 S_16 cS_16_0 fS_16_0 cS_16_1 fS_16_1 cS_16_2 fS_16_2 cS_16_3 fS_16_3 cS_16_4 fS_16_4 cS_16_5 fS_16_5 C_16 cC_16_0 cC_16_1 cC_16_2 T_16 cT_16_0 cT_16_1 cT_16_2 cT_16_3 cT_16_4 cT_16_5 Q_16 QV_16 QL_16 QA_16 QB_16 RX_16 RC_16 OT_16 PT_16 UT_16 VT_16 Of_16 Pf_16 hbel_16 hB_17
              have acc_17 := acc_16.next (show Below _ _ _ from (bl.next hB))
              have QU_17 := hO.rdQ hO' hqo.out
              clear hO hO' hD
              try clear hB
              (try go_wp2_with fail)
              refine hK.out _ _ ⟨cC_17_0, cC_17_1, cC_17_2, cT_17_0, cT_17_1, cT_17_2, cT_17_3, cT_17_4, cT_17_5⟩ (fun hHeld => ?_)
              clear hK K
              (try simp only [Act.put, List.setIfInBounds_toArray, List.set_cons_zero, List.set_cons_succ])
              refine take_run (i := 5) (d := some 70) (v := .agg #[Value.bool ys, Value.slice ya n2 yc, Value.slice yb m2 yd, Value.bool (decide ((zo).num < 0)), Value.slice ua un uc, Value.slice ub um ud]) rfl rfl (by kernel_rfl) (by kernel_rfl) (by kernel_rfl) (fun _ _ _ h => h) (by rfl) (fun w hSw => by (try dsimp only at hSw); go_simp) (by assumption) ?_
              (try simp only [Act.put, List.setIfInBounds_toArray, List.set_cons_zero, List.set_cons_succ])
              refine wpAnyH_ready (rs := [1, 7]) (by kernel_rfl) (by simp) ?_
              refine AllReadyH.cons (o := _) rfl (fun K hK => ?_) (AllReadyH.cons (o := _) rfl (fun K hK => ?_) (AllReadyH.nil))
              · go_simp
                refine hK.out _ _ ⟨cC_17_0, cC_17_1, cC_17_2, cT_17_0, cT_17_1, cT_17_2, cT_17_3, cT_17_4, cT_17_5⟩ (fun hHeld => ?_)
                clear hK K
                (try simp only [Act.put, List.setIfInBounds_toArray, List.set_cons_zero, List.set_cons_succ])
                refine wpAnyH_ready (rs := [7]) (by kernel_rfl) (by simp) ?_
                refine AllReadyH.cons (o := _) rfl (fun K hK => ?_) (AllReadyH.nil)
                · go_simp
                  refine (ksmul (J := 200) ((RC_17.below bl).mono (by omega)) ((QU_17.below bl).mono (by omega)) (((OT_17.below bl).rdQ (PT_17.below bl) qpw.out).mono (by omega)) (((UT_17.below bl).rdQ (VT_17.below bl) qpb.out).mono (by omega)) (by omega) (by omega)).mono ?_
                  rw [hmv.out, hml.out]
                  rintro e w18 ⟨ma, mn, mc, mb, mm, md, ma', mn', mc', mb', mm', md', rfl, hO1, hO2, hO3, hO4, hDs, hB⟩
                  have hB_18 : Below w17.heap.size w17 w18 := (bl.next hB)
                  have X_18 := X_17.next hB_18
                  have E_18 := E_17.next hB_18
                  have V_18 := V_17.next hB_18
                  have L_18 := L_17.next hB_18
                  have S_18 := S_17.next hB_18
                  have cS_18_0 : _ = some (Value.bool (decide ((V).num < 0))) := S_18.cell 0
                  have fS_18_0 := S_18.free 0
                  have cS_18_1 : _ = some (Value.slice pa pn pc) := S_18.cell 1
                  have fS_18_1 := S_18.free 1
                  have cS_18_2 : _ = some (Value.slice pb pm pd) := S_18.cell 2
                  have fS_18_2 := S_18.free 2
                  have cS_18_3 : _ = some (Value.bool (decide ((L).num < 0))) := S_18.cell 3
                  have fS_18_3 := S_18.free 3
                  have cS_18_4 : _ = some (Value.slice pa' pn' pc') := S_18.cell 4
                  have fS_18_4 := S_18.free 4
                  have cS_18_5 : _ = some (Value.slice pb' pm' pd') := S_18.cell 5
                  have fS_18_5 := S_18.free 5
                  have C_18 := C_17.next hB_18
                  have cC_18_0 : _ = some (Value.bool ys) := C_18.cell 0
                  have cC_18_1 : _ = some (Value.slice ya n2 yc) := C_18.cell 1
                  have cC_18_2 : _ = some (Value.slice yb m2 yd) := C_18.cell 2
                  have T_18 := T_17.next hB_18
                  have cT_18_0 : _ = some (Value.bool (decide ((zpw).num < 0))) := T_18.cell 0
                  have cT_18_1 : _ = some (Value.slice ta tn tc) := T_18.cell 1
                  have cT_18_2 : _ = some (Value.slice tb tm td) := T_18.cell 2
                  have cT_18_3 : _ = some (Value.bool (decide ((zpb).num < 0))) := T_18.cell 3
                  have cT_18_4 : _ = some (Value.slice ta' tn' tc') := T_18.cell 4
                  have cT_18_5 : _ = some (Value.slice tb' tm' td') := T_18.cell 5
                  have Q_18 := Q_17.next hB_18
                  have QV_18 := QV_17.below hB_18
                  have QL_18 := QL_17.below hB_18
                  have QA_18 := QA_17.below hB_18
                  have QB_18 := QB_17.below hB_18
                  have RX_18 := RX_17.below hB_18
                  have RC_18 := RC_17.below hB_18
                  have OT_18 := OT_17.below hB_18
                  have PT_18 := PT_17.below hB_18
                  have UT_18 := UT_17.below hB_18
                  have VT_18 := VT_17.below hB_18
                  have Of_18 := Of_17.below hB_18
                  have Pf_18 := Pf_17.below hB_18
                  have QU_18 := QU_17.below hB_18
                  have hbel_18 := hbel_17.next hB_18
                  have hsz_18 := hB_18.size
                  clear X_17 E_17 V_17 L_17 S_17 cS_17_0 fS_17_0 cS_17_1 fS_17_1 cS_17_2 fS_17_2 cS_17_3 fS_17_3 cS_17_4 fS_17_4 cS_17_5 fS_17_5 C_17 cC_17_0 cC_17_1 cC_17_2 T_17 cT_17_0 cT_17_1 cT_17_2 cT_17_3 cT_17_4 cT_17_5 Q_17 QV_17 QL_17 QA_17 QB_17 RX_17 RC_17 OT_17 PT_17 UT_17 VT_17 Of_17 Pf_17 QU_17 hbel_17 hB_18
                  have acc_18 := acc_17.next (show Below _ _ _ from (bl.next hB))
                  have QM_18 := hO1.rdQ hO2 qmv.out
                  have QN_18 := hO3.rdQ hO4 qml.out
                  clear hO1 hO2 hO3 hO4 hDs
                  try clear hB
                  (try go_wp2_with fail)
                  refine hK.out _ _ ⟨cC_18_0, cC_18_1, cC_18_2, cT_18_0, cT_18_1, cT_18_2, cT_18_3, cT_18_4, cT_18_5⟩ (fun hHeld => ?_)
                  clear hK K
                  (try simp only [Act.put, List.setIfInBounds_toArray, List.set_cons_zero, List.set_cons_succ])
                  refine wpAnyH_ready (rs := [8]) (by kernel_rfl) (by simp) ?_
                  refine AllReadyH.cons (o := _) rfl (fun K hK => ?_) (AllReadyH.nil)
                  · go_simp
                    refine (ksadd (J := 200) (((QA_18.below bl).rdQ hVq.out).mono (by omega)) (((QB_18.below bl).rdQ hLq.out).mono (by omega)) ((QM_18.below bl).mono (by omega)) ((QN_18.below bl).mono (by omega)) (by omega) (by omega)).mono ?_
                    rw [hnv.out, hnl.out]
                    rintro e w19 ⟨za, zn, zc, zb, zm, zd, za', zn', zc', zb', zm', zd', rfl, hO1, hO2, hO3, hO4, hDs, hB⟩
                    have hB_19 : Below w18.heap.size w18 w19 := (bl.next hB)
                    have X_19 := X_18.next hB_19
                    have E_19 := E_18.next hB_19
                    have V_19 := V_18.next hB_19
                    have L_19 := L_18.next hB_19
                    have S_19 := S_18.next hB_19
                    have cS_19_0 : _ = some (Value.bool (decide ((V).num < 0))) := S_19.cell 0
                    have fS_19_0 := S_19.free 0
                    have cS_19_1 : _ = some (Value.slice pa pn pc) := S_19.cell 1
                    have fS_19_1 := S_19.free 1
                    have cS_19_2 : _ = some (Value.slice pb pm pd) := S_19.cell 2
                    have fS_19_2 := S_19.free 2
                    have cS_19_3 : _ = some (Value.bool (decide ((L).num < 0))) := S_19.cell 3
                    have fS_19_3 := S_19.free 3
                    have cS_19_4 : _ = some (Value.slice pa' pn' pc') := S_19.cell 4
                    have fS_19_4 := S_19.free 4
                    have cS_19_5 : _ = some (Value.slice pb' pm' pd') := S_19.cell 5
                    have fS_19_5 := S_19.free 5
                    have C_19 := C_18.next hB_19
                    have cC_19_0 : _ = some (Value.bool ys) := C_19.cell 0
                    have cC_19_1 : _ = some (Value.slice ya n2 yc) := C_19.cell 1
                    have cC_19_2 : _ = some (Value.slice yb m2 yd) := C_19.cell 2
                    have T_19 := T_18.next hB_19
                    have cT_19_0 : _ = some (Value.bool (decide ((zpw).num < 0))) := T_19.cell 0
                    have cT_19_1 : _ = some (Value.slice ta tn tc) := T_19.cell 1
                    have cT_19_2 : _ = some (Value.slice tb tm td) := T_19.cell 2
                    have cT_19_3 : _ = some (Value.bool (decide ((zpb).num < 0))) := T_19.cell 3
                    have cT_19_4 : _ = some (Value.slice ta' tn' tc') := T_19.cell 4
                    have cT_19_5 : _ = some (Value.slice tb' tm' td') := T_19.cell 5
                    have Q_19 := Q_18.next hB_19
                    have QV_19 := QV_18.below hB_19
                    have QL_19 := QL_18.below hB_19
                    have QA_19 := QA_18.below hB_19
                    have QB_19 := QB_18.below hB_19
                    have RX_19 := RX_18.below hB_19
                    have RC_19 := RC_18.below hB_19
                    have OT_19 := OT_18.below hB_19
                    have PT_19 := PT_18.below hB_19
                    have UT_19 := UT_18.below hB_19
                    have VT_19 := VT_18.below hB_19
                    have Of_19 := Of_18.below hB_19
                    have Pf_19 := Pf_18.below hB_19
                    have QU_19 := QU_18.below hB_19
                    have QM_19 := QM_18.below hB_19
                    have QN_19 := QN_18.below hB_19
                    have hbel_19 := hbel_18.next hB_19
                    have hsz_19 := hB_19.size
                    clear X_18 E_18 V_18 L_18 S_18 cS_18_0 fS_18_0 cS_18_1 fS_18_1 cS_18_2 fS_18_2 cS_18_3 fS_18_3 cS_18_4 fS_18_4 cS_18_5 fS_18_5 C_18 cC_18_0 cC_18_1 cC_18_2 T_18 cT_18_0 cT_18_1 cT_18_2 cT_18_3 cT_18_4 cT_18_5 Q_18 QV_18 QL_18 QA_18 QB_18 RX_18 RC_18 OT_18 PT_18 UT_18 VT_18 Of_18 Pf_18 QU_18 QM_18 QN_18 hbel_18 hB_19
                    have acc_19 := acc_18.next (show Below _ _ _ from (bl.next hB))
                    try clear hB
                    (try go_wp2_with fail)
                    refine hK.out _ _ ⟨cC_19_0, cC_19_1, cC_19_2, cT_19_0, cT_19_1, cT_19_2, cT_19_3, cT_19_4, cT_19_5⟩ (fun hHeld => ?_)
                    clear hK K
                    (try simp only [Act.put, List.setIfInBounds_toArray, List.set_cons_zero, List.set_cons_succ])
                    refine wpAnyH_ready (rs := [9]) (by kernel_rfl) (by simp) ?_
                    refine AllReadyH.cons (o := _) rfl (fun K hK => ?_) (AllReadyH.nil)
                    · go_simp
                      refine hK.out _ _ ⟨(cell_set6 (by omega) _ _ _ _ _ _).trans cC_19_0, (cell_set6 (by omega) _ _ _ _ _ _).trans cC_19_1, (cell_set6 (by omega) _ _ _ _ _ _).trans cC_19_2, (cell_set6 (by omega) _ _ _ _ _ _).trans cT_19_0, (cell_set6 (by omega) _ _ _ _ _ _).trans cT_19_1, (cell_set6 (by omega) _ _ _ _ _ _).trans cT_19_2, (cell_set6 (by omega) _ _ _ _ _ _).trans cT_19_3, (cell_set6 (by omega) _ _ _ _ _ _).trans cT_19_4, (cell_set6 (by omega) _ _ _ _ _ _).trans cT_19_5⟩ (fun hHeld => ?_)
                      clear hK K
                      (try simp only [Act.put, List.setIfInBounds_toArray, List.set_cons_zero, List.set_cons_succ])
                      refine wpAnyH_done (by kernel_rfl) ?_ _
                      refine NoPanic.normal ?_
                      go_wp2_with fail
                      go_meet
                      with_reducible exact ⟨_, _, _, _, _, _, _, _, _, _, _, _, blk_put6 S_19 _ _ _ _ _ _, (hO1.set6 (by omega) _ _ _ _ _ _).mono (by omega), (hO2.set6 (by omega) _ _ _ _ _ _).mono (by omega), (hO3.set6 (by omega) _ _ _ _ _ _).mono (by omega), (hO4.set6 (by omega) _ _ _ _ _ _).mono (by omega), kp_put6 acc_19 g9 _ _ _ _ _ _⟩
              · go_simp
                refine (ksmul (J := 200) ((RC_17.below bl).mono (by omega)) ((QU_17.below bl).mono (by omega)) (((OT_17.below bl).rdQ (PT_17.below bl) qpw.out).mono (by omega)) (((UT_17.below bl).rdQ (VT_17.below bl) qpb.out).mono (by omega)) (by omega) (by omega)).mono ?_
                rw [hmv.out, hml.out]
                rintro e w18 ⟨ma, mn, mc, mb, mm, md, ma', mn', mc', mb', mm', md', rfl, hO1, hO2, hO3, hO4, hDs, hB⟩
                have hB_18 : Below w17.heap.size w17 w18 := (bl.next hB)
                have X_18 := X_17.next hB_18
                have E_18 := E_17.next hB_18
                have V_18 := V_17.next hB_18
                have L_18 := L_17.next hB_18
                have S_18 := S_17.next hB_18
                have cS_18_0 : _ = some (Value.bool (decide ((V).num < 0))) := S_18.cell 0
                have fS_18_0 := S_18.free 0
                have cS_18_1 : _ = some (Value.slice pa pn pc) := S_18.cell 1
                have fS_18_1 := S_18.free 1
                have cS_18_2 : _ = some (Value.slice pb pm pd) := S_18.cell 2
                have fS_18_2 := S_18.free 2
                have cS_18_3 : _ = some (Value.bool (decide ((L).num < 0))) := S_18.cell 3
                have fS_18_3 := S_18.free 3
                have cS_18_4 : _ = some (Value.slice pa' pn' pc') := S_18.cell 4
                have fS_18_4 := S_18.free 4
                have cS_18_5 : _ = some (Value.slice pb' pm' pd') := S_18.cell 5
                have fS_18_5 := S_18.free 5
                have C_18 := C_17.next hB_18
                have cC_18_0 : _ = some (Value.bool ys) := C_18.cell 0
                have cC_18_1 : _ = some (Value.slice ya n2 yc) := C_18.cell 1
                have cC_18_2 : _ = some (Value.slice yb m2 yd) := C_18.cell 2
                have T_18 := T_17.next hB_18
                have cT_18_0 : _ = some (Value.bool (decide ((zpw).num < 0))) := T_18.cell 0
                have cT_18_1 : _ = some (Value.slice ta tn tc) := T_18.cell 1
                have cT_18_2 : _ = some (Value.slice tb tm td) := T_18.cell 2
                have cT_18_3 : _ = some (Value.bool (decide ((zpb).num < 0))) := T_18.cell 3
                have cT_18_4 : _ = some (Value.slice ta' tn' tc') := T_18.cell 4
                have cT_18_5 : _ = some (Value.slice tb' tm' td') := T_18.cell 5
                have Q_18 := Q_17.next hB_18
                have QV_18 := QV_17.below hB_18
                have QL_18 := QL_17.below hB_18
                have QA_18 := QA_17.below hB_18
                have QB_18 := QB_17.below hB_18
                have RX_18 := RX_17.below hB_18
                have RC_18 := RC_17.below hB_18
                have OT_18 := OT_17.below hB_18
                have PT_18 := PT_17.below hB_18
                have UT_18 := UT_17.below hB_18
                have VT_18 := VT_17.below hB_18
                have Of_18 := Of_17.below hB_18
                have Pf_18 := Pf_17.below hB_18
                have QU_18 := QU_17.below hB_18
                have hbel_18 := hbel_17.next hB_18
                have hsz_18 := hB_18.size
                clear X_17 E_17 V_17 L_17 S_17 cS_17_0 fS_17_0 cS_17_1 fS_17_1 cS_17_2 fS_17_2 cS_17_3 fS_17_3 cS_17_4 fS_17_4 cS_17_5 fS_17_5 C_17 cC_17_0 cC_17_1 cC_17_2 T_17 cT_17_0 cT_17_1 cT_17_2 cT_17_3 cT_17_4 cT_17_5 Q_17 QV_17 QL_17 QA_17 QB_17 RX_17 RC_17 OT_17 PT_17 UT_17 VT_17 Of_17 Pf_17 QU_17 hbel_17 hB_18
                have acc_18 := acc_17.next (show Below _ _ _ from (bl.next hB))
                have QM_18 := hO1.rdQ hO2 qmv.out
                have QN_18 := hO3.rdQ hO4 qml.out
                clear hO1 hO2 hO3 hO4 hDs
                try clear hB
                (try go_wp2_with fail)
                refine hK.out _ _ ⟨cC_18_0, cC_18_1, cC_18_2, cT_18_0, cT_18_1, cT_18_2, cT_18_3, cT_18_4, cT_18_5⟩ (fun hHeld => ?_)
                clear hK K
                (try simp only [Act.put, List.setIfInBounds_toArray, List.set_cons_zero, List.set_cons_succ])
                refine wpAnyH_ready (rs := [1]) (by kernel_rfl) (by simp) ?_
                refine AllReadyH.cons (o := _) rfl (fun K hK => ?_) (AllReadyH.nil)
                · go_simp
                  refine hK.out _ _ ⟨cC_18_0, cC_18_1, cC_18_2, cT_18_0, cT_18_1, cT_18_2, cT_18_3, cT_18_4, cT_18_5⟩ (fun hHeld => ?_)
                  clear hK K
                  (try simp only [Act.put, List.setIfInBounds_toArray, List.set_cons_zero, List.set_cons_succ])
                  refine wpAnyH_ready (rs := [8]) (by kernel_rfl) (by simp) ?_
                  refine AllReadyH.cons (o := _) rfl (fun K hK => ?_) (AllReadyH.nil)
                  · go_simp
                    refine (ksadd (J := 200) (((QA_18.below bl).rdQ hVq.out).mono (by omega)) (((QB_18.below bl).rdQ hLq.out).mono (by omega)) ((QM_18.below bl).mono (by omega)) ((QN_18.below bl).mono (by omega)) (by omega) (by omega)).mono ?_
                    rw [hnv.out, hnl.out]
                    rintro e w19 ⟨za, zn, zc, zb, zm, zd, za', zn', zc', zb', zm', zd', rfl, hO1, hO2, hO3, hO4, hDs, hB⟩
                    have hB_19 : Below w18.heap.size w18 w19 := (bl.next hB)
                    have X_19 := X_18.next hB_19
                    have E_19 := E_18.next hB_19
                    have V_19 := V_18.next hB_19
                    have L_19 := L_18.next hB_19
                    have S_19 := S_18.next hB_19
                    have cS_19_0 : _ = some (Value.bool (decide ((V).num < 0))) := S_19.cell 0
                    have fS_19_0 := S_19.free 0
                    have cS_19_1 : _ = some (Value.slice pa pn pc) := S_19.cell 1
                    have fS_19_1 := S_19.free 1
                    have cS_19_2 : _ = some (Value.slice pb pm pd) := S_19.cell 2
                    have fS_19_2 := S_19.free 2
                    have cS_19_3 : _ = some (Value.bool (decide ((L).num < 0))) := S_19.cell 3
                    have fS_19_3 := S_19.free 3
                    have cS_19_4 : _ = some (Value.slice pa' pn' pc') := S_19.cell 4
                    have fS_19_4 := S_19.free 4
                    have cS_19_5 : _ = some (Value.slice pb' pm' pd') := S_19.cell 5
                    have fS_19_5 := S_19.free 5
                    have C_19 := C_18.next hB_19
                    have cC_19_0 : _ = some (Value.bool ys) := C_19.cell 0
                    have cC_19_1 : _ = some (Value.slice ya n2 yc) := C_19.cell 1
                    have cC_19_2 : _ = some (Value.slice yb m2 yd) := C_19.cell 2
                    have T_19 := T_18.next hB_19
                    have cT_19_0 : _ = some (Value.bool (decide ((zpw).num < 0))) := T_19.cell 0
                    have cT_19_1 : _ = some (Value.slice ta tn tc) := T_19.cell 1
                    have cT_19_2 : _ = some (Value.slice tb tm td) := T_19.cell 2
                    have cT_19_3 : _ = some (Value.bool (decide ((zpb).num < 0))) := T_19.cell 3
                    have cT_19_4 : _ = some (Value.slice ta' tn' tc') := T_19.cell 4
                    have cT_19_5 : _ = some (Value.slice tb' tm' td') := T_19.cell 5
                    have Q_19 := Q_18.next hB_19
                    have QV_19 := QV_18.below hB_19
                    have QL_19 := QL_18.below hB_19
                    have QA_19 := QA_18.below hB_19
                    have QB_19 := QB_18.below hB_19
                    have RX_19 := RX_18.below hB_19
                    have RC_19 := RC_18.below hB_19
                    have OT_19 := OT_18.below hB_19
                    have PT_19 := PT_18.below hB_19
                    have UT_19 := UT_18.below hB_19
                    have VT_19 := VT_18.below hB_19
                    have Of_19 := Of_18.below hB_19
                    have Pf_19 := Pf_18.below hB_19
                    have QU_19 := QU_18.below hB_19
                    have QM_19 := QM_18.below hB_19
                    have QN_19 := QN_18.below hB_19
                    have hbel_19 := hbel_18.next hB_19
                    have hsz_19 := hB_19.size
                    clear X_18 E_18 V_18 L_18 S_18 cS_18_0 fS_18_0 cS_18_1 fS_18_1 cS_18_2 fS_18_2 cS_18_3 fS_18_3 cS_18_4 fS_18_4 cS_18_5 fS_18_5 C_18 cC_18_0 cC_18_1 cC_18_2 T_18 cT_18_0 cT_18_1 cT_18_2 cT_18_3 cT_18_4 cT_18_5 Q_18 QV_18 QL_18 QA_18 QB_18 RX_18 RC_18 OT_18 PT_18 UT_18 VT_18 Of_18 Pf_18 QU_18 QM_18 QN_18 hbel_18 hB_19
                    have acc_19 := acc_18.next (show Below _ _ _ from (bl.next hB))
                    try clear hB
                    (try go_wp2_with fail)
                    refine hK.out _ _ ⟨cC_19_0, cC_19_1, cC_19_2, cT_19_0, cT_19_1, cT_19_2, cT_19_3, cT_19_4, cT_19_5⟩ (fun hHeld => ?_)
                    clear hK K
                    (try simp only [Act.put, List.setIfInBounds_toArray, List.set_cons_zero, List.set_cons_succ])
                    refine wpAnyH_ready (rs := [9]) (by kernel_rfl) (by simp) ?_
                    refine AllReadyH.cons (o := _) rfl (fun K hK => ?_) (AllReadyH.nil)
                    · go_simp
                      refine hK.out _ _ ⟨(cell_set6 (by omega) _ _ _ _ _ _).trans cC_19_0, (cell_set6 (by omega) _ _ _ _ _ _).trans cC_19_1, (cell_set6 (by omega) _ _ _ _ _ _).trans cC_19_2, (cell_set6 (by omega) _ _ _ _ _ _).trans cT_19_0, (cell_set6 (by omega) _ _ _ _ _ _).trans cT_19_1, (cell_set6 (by omega) _ _ _ _ _ _).trans cT_19_2, (cell_set6 (by omega) _ _ _ _ _ _).trans cT_19_3, (cell_set6 (by omega) _ _ _ _ _ _).trans cT_19_4, (cell_set6 (by omega) _ _ _ _ _ _).trans cT_19_5⟩ (fun hHeld => ?_)
                      clear hK K
                      (try simp only [Act.put, List.setIfInBounds_toArray, List.set_cons_zero, List.set_cons_succ])
                      refine wpAnyH_done (by kernel_rfl) ?_ _
                      refine NoPanic.normal ?_
                      go_wp2_with fail
                      go_meet
                      with_reducible exact ⟨_, _, _, _, _, _, _, _, _, _, _, _, blk_put6 S_19 _ _ _ _ _ _, (hO1.set6 (by omega) _ _ _ _ _ _).mono (by omega), (hO2.set6 (by omega) _ _ _ _ _ _).mono (by omega), (hO3.set6 (by omega) _ _ _ _ _ _).mono (by omega), (hO4.set6 (by omega) _ _ _ _ _ _).mono (by omega), kp_put6 acc_19 g9 _ _ _ _ _ _⟩
          case rest =>
            obtain ⟨p2a, p2n, p2c, p2b, p2m, p2d, p2a', p2n', p2c', p2b', p2m', p2d', hbk, hN0, hN1, hN2, hN3, hK⟩ := hcut
            have X_17 := X_16.kp hK (by show ¬ (w.heap.size = g9); omega)
            have E_17 := E_16.kp hK (by show ¬ (gE = g9); omega)
            have V_17 := V_16.kp hK (by show ¬ (g7 = g9); omega)
            have L_17 := L_16.kp hK (by show ¬ (g8 = g9); omega)
            have C_17 := C_16.kp hK (by show ¬ (w12.heap.size = g9); omega)
            have T_17 := T_16.kp hK (by show ¬ (gT = g9); omega)
            have Q_17 := Q_16.kp hK (by show ¬ (w15.heap.size = g9); omega)
            have QV_17 := QV_16.kp hK (by first | exact .inl rfl | exact .inr (.inl rfl) | exact .inr (.inr rfl))
            have QL_17 := QL_16.kp hK (by first | exact .inl rfl | exact .inr (.inl rfl) | exact .inr (.inr rfl))
            have QA_17 := QA_16.kp hK (by first | exact .inl rfl | exact .inr (.inl rfl) | exact .inr (.inr rfl))
            have QB_17 := QB_16.kp hK (by first | exact .inl rfl | exact .inr (.inl rfl) | exact .inr (.inr rfl))
            have OT_17 := OT_16.kpg hK (by omega)
            have PT_17 := PT_16.kpg hK (by omega)
            have UT_17 := UT_16.kpg hK (by omega)
            have VT_17 := VT_16.kpg hK (by omega)
            have Of_17 := Of_16.kpg hK (by omega)
            have Pf_17 := Pf_16.kpg hK (by omega)
            have hbel_17 := hbel_16.kp hK hbel_16.size (fun j hj => by show ¬ (j = g9); omega)
            have hsz_17 := hK.size
            have S_17 := hbk
            clear hbk hK
            clear X_16 E_16 V_16 L_16 S_16 C_16 T_16 Q_16 QV_16 QL_16 QA_16 QB_16 RX_16 RC_16 OT_16 PT_16 UT_16 VT_16 Of_16 Pf_16 hbel_16
            obtain ⟨wc17, hwc⟩ : ∃ y : World, y = wc := ⟨_, rfl⟩
            subst hwc
            have hltS17 := S_17.lt
            have RX_17 := HX.out _ hbel_17
            have RC_17 := HC.out _ hbel_17
            clear QA_17 QB_17
            have QA_17 := VQ.new (g7 := g7) (g8 := g8) (g9 := g9) hN0 hN1 (by omega) (by omega) (by omega) (by omega) (by omega) (by omega)
            have QB_17 := VQ.new (g7 := g7) (g8 := g8) (g9 := g9) hN2 hN3 (by omega) (by omega) (by omega) (by omega) (by omega) (by omega)
            clear hN0 hN1 hN2 hN3
            clear OT_17
            clear PT_17
            clear UT_17
            clear VT_17
            go_wp2_with fail
            go_cut [] (fun wx => ∃ (v2a : Option Addr) (v2n v2c : Nat) (v2b : Option Addr) (v2m v2d : Nat), Blk wx g7 #[Value.bool (decide ((nv).num < 0)), Value.slice v2a v2n v2c, Value.slice v2b v2m v2d] ∧ Own wc17.heap.size wx v2a v2n v2c (lm nv.num.natAbs) ∧ Own wc17.heap.size wx v2b v2m v2d (lm nv.den) ∧ Kp (fun j => j = g7) wc17 wx)
            case first =>
              have acc_17 : Below wc17.heap.size wc17 wc17 := Below.refl _ _
              have cC_17_0 : _ = some (Value.bool ys) := C_17.cell 0
              have cC_17_1 : _ = some (Value.slice ya n2 yc) := C_17.cell 1
              have cC_17_2 : _ = some (Value.slice yb m2 yd) := C_17.cell 2
              have cQ_17_0 : _ = some (Value.bool (decide ((zpw).num < 0))) := Q_17.cell 0
              have cQ_17_1 : _ = some (Value.slice fa fn fc) := Q_17.cell 1
              have cQ_17_2 : _ = some (Value.slice fb fm fd) := Q_17.cell 2
              have cV_17_0 : _ = some (Value.bool (decide ((V).num < 0))) := V_17.cell 0
              have fV_17_0 := V_17.free 0
              have cV_17_1 : _ = some (Value.slice va vn vc) := V_17.cell 1
              have fV_17_1 := V_17.free 1
              have cV_17_2 : _ = some (Value.slice vb vm vd) := V_17.cell 2
              have fV_17_2 := V_17.free 2
              refine wp_region_noPanic ?_
              refine wp_region_held_drew (S := (fun w' => w'.cell? ⟨w12.heap.size, 0, none⟩ = some (Value.bool ys) ∧ w'.cell? ⟨w12.heap.size, 1, none⟩ = some (Value.slice ya n2 yc) ∧ w'.cell? ⟨w12.heap.size, 2, none⟩ = some (Value.slice yb m2 yd) ∧ w'.cell? ⟨w15.heap.size, 0, none⟩ = some (Value.bool (decide ((zpw).num < 0))) ∧ w'.cell? ⟨w15.heap.size, 1, none⟩ = some (Value.slice fa fn fc) ∧ w'.cell? ⟨w15.heap.size, 2, none⟩ = some (Value.slice fb fm fd))) (by kernel_rfl) ⟨cC_17_0, cC_17_1, cC_17_2, cQ_17_0, cQ_17_1, cQ_17_2⟩ (fun hHeld => ?_)
              refine take_run (i := 1) (d := some 75) (v := .agg #[.bool ys, .slice ya n2 yc, .slice yb m2 yd]) rfl rfl (by kernel_rfl) (by kernel_rfl) (by kernel_rfl) (fun _ _ _ h => h) (by rfl) (fun w hSw => by (try dsimp only at hSw); go_simp) (by assumption) ?_
              (try simp only [Act.put, List.setIfInBounds_toArray, List.set_cons_zero, List.set_cons_succ])
              refine take_run (i := 2) (d := some 76) (v := .agg #[Value.bool (decide ((zpw).num < 0)), Value.slice fa fn fc, Value.slice fb fm fd]) rfl rfl (by kernel_rfl) (by kernel_rfl) (by kernel_rfl) (fun _ _ _ h => h) (by rfl) (fun w hSw => by (try dsimp only at hSw); go_simp) (by assumption) ?_
              (try simp only [Act.put, List.setIfInBounds_toArray, List.set_cons_zero, List.set_cons_succ])
              refine wpAnyH_ready (rs := [0, 3]) (by kernel_rfl) (by simp) ?_
              refine AllReadyH.cons (o := _) rfl (fun K hK => ?_) (AllReadyH.cons (o := _) rfl (fun K hK => ?_) (AllReadyH.nil))
              · go_simp
                refine hK.out _ _ ⟨cC_17_0, cC_17_1, cC_17_2, cQ_17_0, cQ_17_1, cQ_17_2⟩ (fun hHeld => ?_)
                clear hK K
                (try simp only [Act.put, List.setIfInBounds_toArray, List.set_cons_zero, List.set_cons_succ])
                refine wpAnyH_ready (rs := [3]) (by kernel_rfl) (by simp) ?_
                refine AllReadyH.cons (o := _) rfl (fun K hK => ?_) (AllReadyH.nil)
                · go_simp
                  refine (qmul (RC_17.below bl) (by omega) ((Of_17.below bl).rdQ (Pf_17.below bl) qpw.out) (by omega)).mono ?_
                  rw [hmv.out]
                  rintro e w18 ⟨ma, mn, mc, mb, mm, md, rfl, hO, hO', hD, hB⟩
                  have hB_18 : Below wc17.heap.size wc17 w18 := (bl.next hB)
                  have X_18 := X_17.next hB_18
                  have E_18 := E_17.next hB_18
                  have V_18 := V_17.next hB_18
                  have cV_18_0 : _ = some (Value.bool (decide ((V).num < 0))) := V_18.cell 0
                  have fV_18_0 := V_18.free 0
                  have cV_18_1 : _ = some (Value.slice va vn vc) := V_18.cell 1
                  have fV_18_1 := V_18.free 1
                  have cV_18_2 : _ = some (Value.slice vb vm vd) := V_18.cell 2
                  have fV_18_2 := V_18.free 2
                  have L_18 := L_17.next hB_18
                  have S_18 := S_17.next hB_18
                  have C_18 := C_17.next hB_18
                  have cC_18_0 : _ = some (Value.bool ys) := C_18.cell 0
                  have cC_18_1 : _ = some (Value.slice ya n2 yc) := C_18.cell 1
                  have cC_18_2 : _ = some (Value.slice yb m2 yd) := C_18.cell 2
                  have T_18 := T_17.next hB_18
                  have Q_18 := Q_17.next hB_18
                  have cQ_18_0 : _ = some (Value.bool (decide ((zpw).num < 0))) := Q_18.cell 0
                  have cQ_18_1 : _ = some (Value.slice fa fn fc) := Q_18.cell 1
                  have cQ_18_2 : _ = some (Value.slice fb fm fd) := Q_18.cell 2
                  have QV_18 := QV_17.below hB_18
                  have QL_18 := QL_17.below hB_18
                  have QA_18 := QA_17.below hB_18
                  have QB_18 := QB_17.below hB_18
                  have Of_18 := Of_17.below hB_18
                  have Pf_18 := Pf_17.below hB_18
                  have RX_18 := RX_17.below hB_18
                  have RC_18 := RC_17.below hB_18
                  have hbel_18 := hbel_17.next hB_18
                  have hsz_18 := hB_18.size
                  clear X_17 E_17 V_17 cV_17_0 fV_17_0 cV_17_1 fV_17_1 cV_17_2 fV_17_2 L_17 S_17 C_17 cC_17_0 cC_17_1 cC_17_2 T_17 Q_17 cQ_17_0 cQ_17_1 cQ_17_2 QV_17 QL_17 QA_17 QB_17 Of_17 Pf_17 RX_17 RC_17 hbel_17 hB_18
                  have acc_18 := acc_17.next (show Below _ _ _ from (bl.next hB))
                  have QM_18 := hO.rdQ hO' qmv.out
                  clear hO hO' hD
                  try clear hB
                  (try go_wp2_with fail)
                  refine hK.out _ _ ⟨cC_18_0, cC_18_1, cC_18_2, cQ_18_0, cQ_18_1, cQ_18_2⟩ (fun hHeld => ?_)
                  clear hK K
                  (try simp only [Act.put, List.setIfInBounds_toArray, List.set_cons_zero, List.set_cons_succ])
                  refine wpAnyH_ready (rs := [4]) (by kernel_rfl) (by simp) ?_
                  refine AllReadyH.cons (o := _) rfl (fun K hK => ?_) (AllReadyH.nil)
                  · go_simp
                    refine (qadd ((QV_18.below bl).rdQ hVq.out) (by omega) (QM_18.below bl) (by omega)).mono ?_
                    rw [hnv.out]
                    rintro e w19 ⟨za, zn, zc, zb, zm, zd, rfl, hO, hO', hD, hB⟩
                    have hB_19 : Below w18.heap.size w18 w19 := (bl.next hB)
                    have X_19 := X_18.next hB_19
                    have E_19 := E_18.next hB_19
                    have V_19 := V_18.next hB_19
                    have cV_19_0 : _ = some (Value.bool (decide ((V).num < 0))) := V_19.cell 0
                    have fV_19_0 := V_19.free 0
                    have cV_19_1 : _ = some (Value.slice va vn vc) := V_19.cell 1
                    have fV_19_1 := V_19.free 1
                    have cV_19_2 : _ = some (Value.slice vb vm vd) := V_19.cell 2
                    have fV_19_2 := V_19.free 2
                    have L_19 := L_18.next hB_19
                    have S_19 := S_18.next hB_19
                    have C_19 := C_18.next hB_19
                    have cC_19_0 : _ = some (Value.bool ys) := C_19.cell 0
                    have cC_19_1 : _ = some (Value.slice ya n2 yc) := C_19.cell 1
                    have cC_19_2 : _ = some (Value.slice yb m2 yd) := C_19.cell 2
                    have T_19 := T_18.next hB_19
                    have Q_19 := Q_18.next hB_19
                    have cQ_19_0 : _ = some (Value.bool (decide ((zpw).num < 0))) := Q_19.cell 0
                    have cQ_19_1 : _ = some (Value.slice fa fn fc) := Q_19.cell 1
                    have cQ_19_2 : _ = some (Value.slice fb fm fd) := Q_19.cell 2
                    have QV_19 := QV_18.below hB_19
                    have QL_19 := QL_18.below hB_19
                    have QA_19 := QA_18.below hB_19
                    have QB_19 := QB_18.below hB_19
                    have Of_19 := Of_18.below hB_19
                    have Pf_19 := Pf_18.below hB_19
                    have RX_19 := RX_18.below hB_19
                    have RC_19 := RC_18.below hB_19
                    have QM_19 := QM_18.below hB_19
                    have hbel_19 := hbel_18.next hB_19
                    have hsz_19 := hB_19.size
                    clear X_18 E_18 V_18 cV_18_0 fV_18_0 cV_18_1 fV_18_1 cV_18_2 fV_18_2 L_18 S_18 C_18 cC_18_0 cC_18_1 cC_18_2 T_18 Q_18 cQ_18_0 cQ_18_1 cQ_18_2 QV_18 QL_18 QA_18 QB_18 Of_18 Pf_18 RX_18 RC_18 QM_18 hbel_18 hB_19
                    have acc_19 := acc_18.next (show Below _ _ _ from (bl.next hB))
                    try clear hB
                    (try go_wp2_with fail)
                    refine hK.out _ _ ⟨cC_19_0, cC_19_1, cC_19_2, cQ_19_0, cQ_19_1, cQ_19_2⟩ (fun hHeld => ?_)
                    clear hK K
                    (try simp only [Act.put, List.setIfInBounds_toArray, List.set_cons_zero, List.set_cons_succ])
                    refine wpAnyH_ready (rs := [5]) (by kernel_rfl) (by simp) ?_
                    refine AllReadyH.cons (o := _) rfl (fun K hK => ?_) (AllReadyH.nil)
                    · go_simp
                      refine hK.out _ _ ⟨(cell_set3 (by omega) _ _ _).trans cC_19_0, (cell_set3 (by omega) _ _ _).trans cC_19_1, (cell_set3 (by omega) _ _ _).trans cC_19_2, (cell_set3 (by omega) _ _ _).trans cQ_19_0, (cell_set3 (by omega) _ _ _).trans cQ_19_1, (cell_set3 (by omega) _ _ _).trans cQ_19_2⟩ (fun hHeld => ?_)
                      clear hK K
                      (try simp only [Act.put, List.setIfInBounds_toArray, List.set_cons_zero, List.set_cons_succ])
                      refine wpAnyH_done (by kernel_rfl) ?_ _
                      refine NoPanic.normal ?_
                      go_wp2_with fail
                      go_meet
                      with_reducible exact ⟨_, _, _, _, _, _, blk_put3 V_19 _ _ _, (hO.set3 (by omega) _ _ _).mono (by omega), (hO'.set3 (by omega) _ _ _).mono (by omega), kp_put3 acc_19 g7 _ _ _⟩
              · go_simp
                refine (qmul (RC_17.below bl) (by omega) ((Of_17.below bl).rdQ (Pf_17.below bl) qpw.out) (by omega)).mono ?_
                rw [hmv.out]
                rintro e w18 ⟨ma, mn, mc, mb, mm, md, rfl, hO, hO', hD, hB⟩
                have hB_18 : Below wc17.heap.size wc17 w18 := (bl.next hB)
                have X_18 := X_17.next hB_18
                have E_18 := E_17.next hB_18
                have V_18 := V_17.next hB_18
                have cV_18_0 : _ = some (Value.bool (decide ((V).num < 0))) := V_18.cell 0
                have fV_18_0 := V_18.free 0
                have cV_18_1 : _ = some (Value.slice va vn vc) := V_18.cell 1
                have fV_18_1 := V_18.free 1
                have cV_18_2 : _ = some (Value.slice vb vm vd) := V_18.cell 2
                have fV_18_2 := V_18.free 2
                have L_18 := L_17.next hB_18
                have S_18 := S_17.next hB_18
                have C_18 := C_17.next hB_18
                have cC_18_0 : _ = some (Value.bool ys) := C_18.cell 0
                have cC_18_1 : _ = some (Value.slice ya n2 yc) := C_18.cell 1
                have cC_18_2 : _ = some (Value.slice yb m2 yd) := C_18.cell 2
                have T_18 := T_17.next hB_18
                have Q_18 := Q_17.next hB_18
                have cQ_18_0 : _ = some (Value.bool (decide ((zpw).num < 0))) := Q_18.cell 0
                have cQ_18_1 : _ = some (Value.slice fa fn fc) := Q_18.cell 1
                have cQ_18_2 : _ = some (Value.slice fb fm fd) := Q_18.cell 2
                have QV_18 := QV_17.below hB_18
                have QL_18 := QL_17.below hB_18
                have QA_18 := QA_17.below hB_18
                have QB_18 := QB_17.below hB_18
                have Of_18 := Of_17.below hB_18
                have Pf_18 := Pf_17.below hB_18
                have RX_18 := RX_17.below hB_18
                have RC_18 := RC_17.below hB_18
                have hbel_18 := hbel_17.next hB_18
                have hsz_18 := hB_18.size
                clear X_17 E_17 V_17 cV_17_0 fV_17_0 cV_17_1 fV_17_1 cV_17_2 fV_17_2 L_17 S_17 C_17 cC_17_0 cC_17_1 cC_17_2 T_17 Q_17 cQ_17_0 cQ_17_1 cQ_17_2 QV_17 QL_17 QA_17 QB_17 Of_17 Pf_17 RX_17 RC_17 hbel_17 hB_18
                have acc_18 := acc_17.next (show Below _ _ _ from (bl.next hB))
                have QM_18 := hO.rdQ hO' qmv.out
                clear hO hO' hD
                try clear hB
                (try go_wp2_with fail)
                refine hK.out _ _ ⟨cC_18_0, cC_18_1, cC_18_2, cQ_18_0, cQ_18_1, cQ_18_2⟩ (fun hHeld => ?_)
                clear hK K
                (try simp only [Act.put, List.setIfInBounds_toArray, List.set_cons_zero, List.set_cons_succ])
                refine wpAnyH_ready (rs := [0]) (by kernel_rfl) (by simp) ?_
                refine AllReadyH.cons (o := _) rfl (fun K hK => ?_) (AllReadyH.nil)
                · go_simp
                  refine hK.out _ _ ⟨cC_18_0, cC_18_1, cC_18_2, cQ_18_0, cQ_18_1, cQ_18_2⟩ (fun hHeld => ?_)
                  clear hK K
                  (try simp only [Act.put, List.setIfInBounds_toArray, List.set_cons_zero, List.set_cons_succ])
                  refine wpAnyH_ready (rs := [4]) (by kernel_rfl) (by simp) ?_
                  refine AllReadyH.cons (o := _) rfl (fun K hK => ?_) (AllReadyH.nil)
                  · go_simp
                    refine (qadd ((QV_18.below bl).rdQ hVq.out) (by omega) (QM_18.below bl) (by omega)).mono ?_
                    rw [hnv.out]
                    rintro e w19 ⟨za, zn, zc, zb, zm, zd, rfl, hO, hO', hD, hB⟩
                    have hB_19 : Below w18.heap.size w18 w19 := (bl.next hB)
                    have X_19 := X_18.next hB_19
                    have E_19 := E_18.next hB_19
                    have V_19 := V_18.next hB_19
                    have cV_19_0 : _ = some (Value.bool (decide ((V).num < 0))) := V_19.cell 0
                    have fV_19_0 := V_19.free 0
                    have cV_19_1 : _ = some (Value.slice va vn vc) := V_19.cell 1
                    have fV_19_1 := V_19.free 1
                    have cV_19_2 : _ = some (Value.slice vb vm vd) := V_19.cell 2
                    have fV_19_2 := V_19.free 2
                    have L_19 := L_18.next hB_19
                    have S_19 := S_18.next hB_19
                    have C_19 := C_18.next hB_19
                    have cC_19_0 : _ = some (Value.bool ys) := C_19.cell 0
                    have cC_19_1 : _ = some (Value.slice ya n2 yc) := C_19.cell 1
                    have cC_19_2 : _ = some (Value.slice yb m2 yd) := C_19.cell 2
                    have T_19 := T_18.next hB_19
                    have Q_19 := Q_18.next hB_19
                    have cQ_19_0 : _ = some (Value.bool (decide ((zpw).num < 0))) := Q_19.cell 0
                    have cQ_19_1 : _ = some (Value.slice fa fn fc) := Q_19.cell 1
                    have cQ_19_2 : _ = some (Value.slice fb fm fd) := Q_19.cell 2
                    have QV_19 := QV_18.below hB_19
                    have QL_19 := QL_18.below hB_19
                    have QA_19 := QA_18.below hB_19
                    have QB_19 := QB_18.below hB_19
                    have Of_19 := Of_18.below hB_19
                    have Pf_19 := Pf_18.below hB_19
                    have RX_19 := RX_18.below hB_19
                    have RC_19 := RC_18.below hB_19
                    have QM_19 := QM_18.below hB_19
                    have hbel_19 := hbel_18.next hB_19
                    have hsz_19 := hB_19.size
                    clear X_18 E_18 V_18 cV_18_0 fV_18_0 cV_18_1 fV_18_1 cV_18_2 fV_18_2 L_18 S_18 C_18 cC_18_0 cC_18_1 cC_18_2 T_18 Q_18 cQ_18_0 cQ_18_1 cQ_18_2 QV_18 QL_18 QA_18 QB_18 Of_18 Pf_18 RX_18 RC_18 QM_18 hbel_18 hB_19
                    have acc_19 := acc_18.next (show Below _ _ _ from (bl.next hB))
                    try clear hB
                    (try go_wp2_with fail)
                    refine hK.out _ _ ⟨cC_19_0, cC_19_1, cC_19_2, cQ_19_0, cQ_19_1, cQ_19_2⟩ (fun hHeld => ?_)
                    clear hK K
                    (try simp only [Act.put, List.setIfInBounds_toArray, List.set_cons_zero, List.set_cons_succ])
                    refine wpAnyH_ready (rs := [5]) (by kernel_rfl) (by simp) ?_
                    refine AllReadyH.cons (o := _) rfl (fun K hK => ?_) (AllReadyH.nil)
                    · go_simp
                      refine hK.out _ _ ⟨(cell_set3 (by omega) _ _ _).trans cC_19_0, (cell_set3 (by omega) _ _ _).trans cC_19_1, (cell_set3 (by omega) _ _ _).trans cC_19_2, (cell_set3 (by omega) _ _ _).trans cQ_19_0, (cell_set3 (by omega) _ _ _).trans cQ_19_1, (cell_set3 (by omega) _ _ _).trans cQ_19_2⟩ (fun hHeld => ?_)
                      clear hK K
                      (try simp only [Act.put, List.setIfInBounds_toArray, List.set_cons_zero, List.set_cons_succ])
                      refine wpAnyH_done (by kernel_rfl) ?_ _
                      refine NoPanic.normal ?_
                      go_wp2_with fail
                      go_meet
                      with_reducible exact ⟨_, _, _, _, _, _, blk_put3 V_19 _ _ _, (hO.set3 (by omega) _ _ _).mono (by omega), (hO'.set3 (by omega) _ _ _).mono (by omega), kp_put3 acc_19 g7 _ _ _⟩
            case rest =>
              obtain ⟨v2a, v2n, v2c, v2b, v2m, v2d, hbk, hN0, hN1, hK⟩ := hcut
              have X_18 := X_17.kp hK (by show ¬ (w.heap.size = g7); omega)
              have E_18 := E_17.kp hK (by show ¬ (gE = g7); omega)
              have L_18 := L_17.kp hK (by show ¬ (g8 = g7); omega)
              have S_18 := S_17.kp hK (by show ¬ (g9 = g7); omega)
              have C_18 := C_17.kp hK (by show ¬ (w12.heap.size = g7); omega)
              have T_18 := T_17.kp hK (by show ¬ (gT = g7); omega)
              have Q_18 := Q_17.kp hK (by show ¬ (w15.heap.size = g7); omega)
              have QV_18 := QV_17.kp hK (by first | exact .inl rfl | exact .inr (.inl rfl) | exact .inr (.inr rfl))
              have QL_18 := QL_17.kp hK (by first | exact .inl rfl | exact .inr (.inl rfl) | exact .inr (.inr rfl))
              have QA_18 := QA_17.kp hK (by first | exact .inl rfl | exact .inr (.inl rfl) | exact .inr (.inr rfl))
              have QB_18 := QB_17.kp hK (by first | exact .inl rfl | exact .inr (.inl rfl) | exact .inr (.inr rfl))
              have Of_18 := Of_17.kpg hK (by omega)
              have Pf_18 := Pf_17.kpg hK (by omega)
              have hbel_18 := hbel_17.kp hK hbel_17.size (fun j hj => by show ¬ (j = g7); omega)
              have hsz_18 := hK.size
              have V_18 := hbk
              clear hbk hK
              clear X_17 E_17 V_17 L_17 S_17 C_17 T_17 Q_17 QV_17 QL_17 QA_17 QB_17 Of_17 Pf_17 RX_17 RC_17 hbel_17
              obtain ⟨wc18, hwc⟩ : ∃ y : World, y = wc := ⟨_, rfl⟩
              subst hwc
              have hltV18 := V_18.lt
              have RX_18 := HX.out _ hbel_18
              have RC_18 := HC.out _ hbel_18
              clear QV_18
              have QV_18 := VQ.new (g7 := g7) (g8 := g8) (g9 := g9) hN0 hN1 (by omega) (by omega) (by omega) (by omega) (by omega) (by omega)
              clear hN0 hN1
              clear Of_18
              clear Pf_18
              by_cases hk0 : k = 0
              · subst hk0
                have hLn : L = nl := by rw [← hnl.out, ← hml.out, ← hpb.out, ← hpw.out]; exact (grow_zero hzo1.out).symm
                subst hLn
                go_wp2
                go_roundw
                case rel => exact ⟨0 + 1, nv, L, v2a, v2n, v2c, v2b, v2m, v2d, ja, jn, jc, jb, jm, jd, p2a, p2n, p2c, p2b, p2m, p2d, p2a', p2n', p2c', p2b', p2m', p2d', by omega, by omega, by go_num, X_18, E_18, V_18, L_18, S_18, QV_18, QL_18, QA_18, QB_18, qnv, qnl, hbel_18⟩
                case measure => simp [intOf]
              · obtain ⟨j, rfl⟩ : ∃ j, k = j + 1 := ⟨k - 1, by omega⟩
                have hj1 : ((j + 1 : Nat) : Int) - 1 = (j : Int) := by omega
                have hj0 : (0 : Int) < ((j + 1 : Nat) : Int) := by omega
                have qzz := hid (hrq.out j (by omega))
                obtain ⟨zw, hzw0⟩ : ∃ z, rpw qx j = z := ⟨_, rfl⟩
                have hzw := hid hzw0
                rw [hzw0] at qzz
                obtain ⟨kq, hkq0⟩ : ∃ z, Rat.divInt ((j + 1 : Nat) : Int) 1 = z := ⟨_, rfl⟩
                have HK := hid (fun w => (show Calls Try.prog 19 #[.int .i64 ((j + 1 : Nat) : Int), .int .i64 1] w (RetQ w kq) by rw [← hkq0]; exact rqsmall _ 1 (by omega) (by omega) (by omega) (by omega) (by omega)))
                rw [show ((j + 1 : Nat) : Int) = (j : Int) + 1 by omega] at HK
                have qkq := hid (show QS kq 1 by rw [← hkq0, divInt_1]; exact qs_nat (k := j + 1) (by omega))
                have hml2 := hid (show qc * kq * zw = ml by rw [← hkq0, ← hzw0, ← hml.out, ← hpb.out, ← hpw.out]; exact grow_succ hzo1.out j)
                obtain ⟨mk, hmk0⟩ : ∃ z, qc * kq = z := ⟨_, rfl⟩
                have hmk := hid hmk0
                have qmk := hid (show QS mk 3 by rw [← hmk0]; exact hqc.out.mul qkq.out)
                rw [hmk0] at hml2
                clear hzw0 hkq0 hmk0
                have hrj := hid (fun i (hi : i ≤ j) => hrq.out i (by omega))
                have cX_18_0 : _ = some (Value.bool s) := X_18.cell 0
                have cX_18_1 : _ = some (Value.slice a n1 c0) := X_18.cell 1
                have cX_18_2 : _ = some (Value.slice b m1 d0) := X_18.cell 2
                go_wp2_with fail
                refine ((kpower j (by omega) (rpw qx) rfl (fun _ _ => rfl) (RX_18.mono (by omega)) (by omega : 1 ≤ 20) (by omega) hrj.out).mono fun e w' h => retqe_ok h rfl).mono ?_
                rw [hzw.out]
                rintro e w19 ⟨u2a, u2n, u2c, u2b, u2m, u2d, rfl, hO, hO', hD, hB⟩
                have hB_19 : Below wc18.heap.size wc18 w19 := (bl.next hB)
                have X_19 := X_18.next hB_19
                have E_19 := E_18.next hB_19
                have V_19 := V_18.next hB_19
                have L_19 := L_18.next hB_19
                have S_19 := S_18.next hB_19
                have C_19 := C_18.next hB_19
                have T_19 := T_18.next hB_19
                have Q_19 := Q_18.next hB_19
                have QV_19 := QV_18.below hB_19
                have QL_19 := QL_18.below hB_19
                have QA_19 := QA_18.below hB_19
                have QB_19 := QB_18.below hB_19
                have RX_19 := RX_18.below hB_19
                have RC_19 := RC_18.below hB_19
                have hbel_19 := hbel_18.next hB_19
                have hsz_19 := hB_19.size
                clear X_18 cX_18_0 cX_18_1 cX_18_2 E_18 V_18 L_18 S_18 C_18 T_18 Q_18 QV_18 QL_18 QA_18 QB_18 RX_18 RC_18 hbel_18 hB_19
                have Ou2_19 := hO
                have ltOu2 := hO.ltB
                have Pu2_19 := hO'
                have ltPu2 := hO'.ltB
                clear hO hO' hD
                try clear hB
                have hbx := blk_new w19 #[Value.bool (decide ((zw).num < 0)), Value.slice u2a u2n u2c, Value.slice u2b u2m u2d] 29
                have hbB := (Below.refl w19.heap.size w19).alloc (Nat.le_refl _) (.cells #[Value.bool (decide ((zw).num < 0)), Value.slice u2a u2n u2c, Value.slice u2b u2m u2d] 29)
                have hltY := hbx.lt
                have hB_20 : Below w19.heap.size w19 (w19.alloc (.cells #[Value.bool (decide ((zw).num < 0)), Value.slice u2a u2n u2c, Value.slice u2b u2m u2d] 29)) := hbB
                have X_20 := X_19.next hB_20
                have E_20 := E_19.next hB_20
                have V_20 := V_19.next hB_20
                have L_20 := L_19.next hB_20
                have S_20 := S_19.next hB_20
                have C_20 := C_19.next hB_20
                have T_20 := T_19.next hB_20
                have Q_20 := Q_19.next hB_20
                have QV_20 := QV_19.below hB_20
                have QL_20 := QL_19.below hB_20
                have QA_20 := QA_19.below hB_20
                have QB_20 := QB_19.below hB_20
                have RX_20 := RX_19.below hB_20
                have RC_20 := RC_19.below hB_20
                have Ou2_20 := Ou2_19.below hB_20
                have Pu2_20 := Pu2_19.below hB_20
                have hbel_20 := hbel_19.next hB_20
                have hsz_20 := hB_20.size
                clear hB_20
                have Y_20 := hbx
                clear hbx hbB
                go_wp2_with fail
                clear X_19 E_19 V_19 L_19 S_19 C_19 T_19 Q_19 QV_19 QL_19 QA_19 QB_19 RX_19 RC_19 Ou2_19 Pu2_19 hbel_19
                generalize (w19.alloc (.cells #[Value.bool (decide ((zw).num < 0)), Value.slice u2a u2n u2c, Value.slice u2b u2m u2d] 29)) = v20 at *
                go_wp2_with fail
                have cC_20_0 : _ = some (Value.bool ys) := C_20.cell 0
                have cC_20_1 : _ = some (Value.slice ya n2 yc) := C_20.cell 1
                have cC_20_2 : _ = some (Value.slice yb m2 yd) := C_20.cell 2
                have cY_20_0 : _ = some (Value.bool (decide ((zw).num < 0))) := Y_20.cell 0
                have cY_20_1 : _ = some (Value.slice u2a u2n u2c) := Y_20.cell 1
                have cY_20_2 : _ = some (Value.slice u2b u2m u2d) := Y_20.cell 2
                have cL_20_0 : _ = some (Value.bool (decide ((L).num < 0))) := L_20.cell 0
                have fL_20_0 := L_20.free 0
                have cL_20_1 : _ = some (Value.slice ja jn jc) := L_20.cell 1
                have fL_20_1 := L_20.free 1
                have cL_20_2 : _ = some (Value.slice jb jm jd) := L_20.cell 2
                have fL_20_2 := L_20.free 2
                refine wp_region_noPanic ?_
                refine wp_region_held_drew (S := (fun w' => w'.cell? ⟨w12.heap.size, 0, none⟩ = some (Value.bool ys) ∧ w'.cell? ⟨w12.heap.size, 1, none⟩ = some (Value.slice ya n2 yc) ∧ w'.cell? ⟨w12.heap.size, 2, none⟩ = some (Value.slice yb m2 yd) ∧ w'.cell? ⟨w19.heap.size, 0, none⟩ = some (Value.bool (decide ((zw).num < 0))) ∧ w'.cell? ⟨w19.heap.size, 1, none⟩ = some (Value.slice u2a u2n u2c) ∧ w'.cell? ⟨w19.heap.size, 2, none⟩ = some (Value.slice u2b u2m u2d))) (by kernel_rfl) ⟨cC_20_0, cC_20_1, cC_20_2, cY_20_0, cY_20_1, cY_20_2⟩ (fun hHeld => ?_)
                refine take_run (i := 1) (d := some 91) (v := .agg #[.bool ys, .slice ya n2 yc, .slice yb m2 yd]) rfl rfl (by kernel_rfl) (by kernel_rfl) (by kernel_rfl) (fun _ _ _ h => h) (by rfl) (fun w hSw => by (try dsimp only at hSw); go_simp) (by assumption) ?_
                (try simp only [Act.put, List.setIfInBounds_toArray, List.set_cons_zero, List.set_cons_succ])
                refine take_run (i := 2) (d := some 92) (v := .int .i64 ((j : Int) + 1)) rfl rfl (by kernel_rfl) (by kernel_rfl) (by kernel_rfl) (fun _ _ _ h => h) (by rfl) (fun w hSw => by (try dsimp only at hSw); go_simp) (by assumption) ?_
                (try simp only [Act.put, List.setIfInBounds_toArray, List.set_cons_zero, List.set_cons_succ])
                refine take_run (i := 5) (d := some 95) (v := .agg #[Value.bool (decide ((zw).num < 0)), Value.slice u2a u2n u2c, Value.slice u2b u2m u2d]) rfl rfl (by kernel_rfl) (by kernel_rfl) (by kernel_rfl) (fun _ _ _ h => h) (by rfl) (fun w hSw => by (try dsimp only at hSw); go_simp) (by assumption) ?_
                (try simp only [Act.put, List.setIfInBounds_toArray, List.set_cons_zero, List.set_cons_succ])
                refine wpAnyH_ready (rs := [0, 3]) (by kernel_rfl) (by simp) ?_
                refine AllReadyH.cons (o := _) rfl (fun K hK => ?_) (AllReadyH.cons (o := _) rfl (fun K hK => ?_) (AllReadyH.nil))
                · go_simp
                  refine hK.out _ _ ⟨cC_20_0, cC_20_1, cC_20_2, cY_20_0, cY_20_1, cY_20_2⟩ (fun hHeld => ?_)
                  clear hK K
                  (try simp only [Act.put, List.setIfInBounds_toArray, List.set_cons_zero, List.set_cons_succ])
                  refine wpAnyH_ready (rs := [3]) (by kernel_rfl) (by simp) ?_
                  refine AllReadyH.cons (o := _) rfl (fun K hK => ?_) (AllReadyH.nil)
                  · go_simp
                    refine (HK.out _).mono ?_
                    rintro e w21 ⟨ua, un, uc, ub, um, ud, rfl, hO, hO', hD, hB⟩
                    have hB_21 : Below v20.heap.size v20 w21 := (bl.next hB)
                    have X_21 := X_20.next hB_21
                    have E_21 := E_20.next hB_21
                    have V_21 := V_20.next hB_21
                    have L_21 := L_20.next hB_21
                    have cL_21_0 : _ = some (Value.bool (decide ((L).num < 0))) := L_21.cell 0
                    have fL_21_0 := L_21.free 0
                    have cL_21_1 : _ = some (Value.slice ja jn jc) := L_21.cell 1
                    have fL_21_1 := L_21.free 1
                    have cL_21_2 : _ = some (Value.slice jb jm jd) := L_21.cell 2
                    have fL_21_2 := L_21.free 2
                    have S_21 := S_20.next hB_21
                    have C_21 := C_20.next hB_21
                    have cC_21_0 : _ = some (Value.bool ys) := C_21.cell 0
                    have cC_21_1 : _ = some (Value.slice ya n2 yc) := C_21.cell 1
                    have cC_21_2 : _ = some (Value.slice yb m2 yd) := C_21.cell 2
                    have T_21 := T_20.next hB_21
                    have Q_21 := Q_20.next hB_21
                    have Y_21 := Y_20.next hB_21
                    have cY_21_0 : _ = some (Value.bool (decide ((zw).num < 0))) := Y_21.cell 0
                    have cY_21_1 : _ = some (Value.slice u2a u2n u2c) := Y_21.cell 1
                    have cY_21_2 : _ = some (Value.slice u2b u2m u2d) := Y_21.cell 2
                    have QV_21 := QV_20.below hB_21
                    have QL_21 := QL_20.below hB_21
                    have QA_21 := QA_20.below hB_21
                    have QB_21 := QB_20.below hB_21
                    have RX_21 := RX_20.below hB_21
                    have RC_21 := RC_20.below hB_21
                    have Ou2_21 := Ou2_20.below hB_21
                    have Pu2_21 := Pu2_20.below hB_21
                    have hbel_21 := hbel_20.next hB_21
                    have hsz_21 := hB_21.size
                    clear X_20 E_20 V_20 L_20 cL_20_0 fL_20_0 cL_20_1 fL_20_1 cL_20_2 fL_20_2 S_20 C_20 cC_20_0 cC_20_1 cC_20_2 T_20 Q_20 Y_20 cY_20_0 cY_20_1 cY_20_2 QV_20 QL_20 QA_20 QB_20 RX_20 RC_20 Ou2_20 Pu2_20 hbel_20 hB_21
                    have QU_21 := hO.rdQ hO' qkq.out
                    clear hO hO' hD
                    try clear hB
                    (try go_wp2_with fail)
                    refine hK.out _ _ ⟨cC_21_0, cC_21_1, cC_21_2, cY_21_0, cY_21_1, cY_21_2⟩ (fun hHeld => ?_)
                    clear hK K
                    (try simp only [Act.put, List.setIfInBounds_toArray, List.set_cons_zero, List.set_cons_succ])
                    refine wpAnyH_ready (rs := [4]) (by kernel_rfl) (by simp) ?_
                    refine AllReadyH.cons (o := _) rfl (fun K hK => ?_) (AllReadyH.nil)
                    · go_simp
                      refine (qmul (RC_21.below bl) (by omega) (QU_21.below bl) (by omega)).mono ?_
                      rw [hmk.out]
                      rintro e w22 ⟨ma, mn, mc, mb, mm, md, rfl, hO, hO', hD, hB⟩
                      have hB_22 : Below w21.heap.size w21 w22 := (bl.next hB)
                      have X_22 := X_21.next hB_22
                      have E_22 := E_21.next hB_22
                      have V_22 := V_21.next hB_22
                      have L_22 := L_21.next hB_22
                      have cL_22_0 : _ = some (Value.bool (decide ((L).num < 0))) := L_22.cell 0
                      have fL_22_0 := L_22.free 0
                      have cL_22_1 : _ = some (Value.slice ja jn jc) := L_22.cell 1
                      have fL_22_1 := L_22.free 1
                      have cL_22_2 : _ = some (Value.slice jb jm jd) := L_22.cell 2
                      have fL_22_2 := L_22.free 2
                      have S_22 := S_21.next hB_22
                      have C_22 := C_21.next hB_22
                      have cC_22_0 : _ = some (Value.bool ys) := C_22.cell 0
                      have cC_22_1 : _ = some (Value.slice ya n2 yc) := C_22.cell 1
                      have cC_22_2 : _ = some (Value.slice yb m2 yd) := C_22.cell 2
                      have T_22 := T_21.next hB_22
                      have Q_22 := Q_21.next hB_22
                      have Y_22 := Y_21.next hB_22
                      have cY_22_0 : _ = some (Value.bool (decide ((zw).num < 0))) := Y_22.cell 0
                      have cY_22_1 : _ = some (Value.slice u2a u2n u2c) := Y_22.cell 1
                      have cY_22_2 : _ = some (Value.slice u2b u2m u2d) := Y_22.cell 2
                      have QV_22 := QV_21.below hB_22
                      have QL_22 := QL_21.below hB_22
                      have QA_22 := QA_21.below hB_22
                      have QB_22 := QB_21.below hB_22
                      have RX_22 := RX_21.below hB_22
                      have RC_22 := RC_21.below hB_22
                      have Ou2_22 := Ou2_21.below hB_22
                      have Pu2_22 := Pu2_21.below hB_22
                      have QU_22 := QU_21.below hB_22
                      have hbel_22 := hbel_21.next hB_22
                      have hsz_22 := hB_22.size
                      clear X_21 E_21 V_21 L_21 cL_21_0 fL_21_0 cL_21_1 fL_21_1 cL_21_2 fL_21_2 S_21 C_21 cC_21_0 cC_21_1 cC_21_2 T_21 Q_21 Y_21 cY_21_0 cY_21_1 cY_21_2 QV_21 QL_21 QA_21 QB_21 RX_21 RC_21 Ou2_21 Pu2_21 QU_21 hbel_21 hB_22
                      have QM_22 := hO.rdQ hO' qmk.out
                      clear hO hO' hD
                      try clear hB
                      (try go_wp2_with fail)
                      refine hK.out _ _ ⟨cC_22_0, cC_22_1, cC_22_2, cY_22_0, cY_22_1, cY_22_2⟩ (fun hHeld => ?_)
                      clear hK K
                      (try simp only [Act.put, List.setIfInBounds_toArray, List.set_cons_zero, List.set_cons_succ])
                      refine wpAnyH_ready (rs := [6]) (by kernel_rfl) (by simp) ?_
                      refine AllReadyH.cons (o := _) rfl (fun K hK => ?_) (AllReadyH.nil)
                      · go_simp
                        refine (qmul (QM_22.below bl) (by omega) ((Ou2_22.below bl).rdQ (Pu2_22.below bl) qzz.out) (by omega)).mono ?_
                        rw [hml2.out]
                        rintro e w23 ⟨m2a, m2n, m2c, m2b, m2m, m2d, rfl, hO, hO', hD, hB⟩
                        have hB_23 : Below w22.heap.size w22 w23 := (bl.next hB)
                        have X_23 := X_22.next hB_23
                        have E_23 := E_22.next hB_23
                        have V_23 := V_22.next hB_23
                        have L_23 := L_22.next hB_23
                        have cL_23_0 : _ = some (Value.bool (decide ((L).num < 0))) := L_23.cell 0
                        have fL_23_0 := L_23.free 0
                        have cL_23_1 : _ = some (Value.slice ja jn jc) := L_23.cell 1
                        have fL_23_1 := L_23.free 1
                        have cL_23_2 : _ = some (Value.slice jb jm jd) := L_23.cell 2
                        have fL_23_2 := L_23.free 2
                        have S_23 := S_22.next hB_23
                        have C_23 := C_22.next hB_23
                        have cC_23_0 : _ = some (Value.bool ys) := C_23.cell 0
                        have cC_23_1 : _ = some (Value.slice ya n2 yc) := C_23.cell 1
                        have cC_23_2 : _ = some (Value.slice yb m2 yd) := C_23.cell 2
                        have T_23 := T_22.next hB_23
                        have Q_23 := Q_22.next hB_23
                        have Y_23 := Y_22.next hB_23
                        have cY_23_0 : _ = some (Value.bool (decide ((zw).num < 0))) := Y_23.cell 0
                        have cY_23_1 : _ = some (Value.slice u2a u2n u2c) := Y_23.cell 1
                        have cY_23_2 : _ = some (Value.slice u2b u2m u2d) := Y_23.cell 2
                        have QV_23 := QV_22.below hB_23
                        have QL_23 := QL_22.below hB_23
                        have QA_23 := QA_22.below hB_23
                        have QB_23 := QB_22.below hB_23
                        have RX_23 := RX_22.below hB_23
                        have RC_23 := RC_22.below hB_23
                        have Ou2_23 := Ou2_22.below hB_23
                        have Pu2_23 := Pu2_22.below hB_23
                        have QU_23 := QU_22.below hB_23
                        have QM_23 := QM_22.below hB_23
                        have hbel_23 := hbel_22.next hB_23
                        have hsz_23 := hB_23.size
                        clear X_22 E_22 V_22 L_22 cL_22_0 fL_22_0 cL_22_1 fL_22_1 cL_22_2 fL_22_2 S_22 C_22 cC_22_0 cC_22_1 cC_22_2 T_22 Q_22 Y_22 cY_22_0 cY_22_1 cY_22_2 QV_22 QL_22 QA_22 QB_22 RX_22 RC_22 Ou2_22 Pu2_22 QU_22 QM_22 hbel_22 hB_23
                        have QN_23 := hO.rdQ hO' qml.out
                        clear hO hO' hD
                        try clear hB
                        (try go_wp2_with fail)
                        refine hK.out _ _ ⟨cC_23_0, cC_23_1, cC_23_2, cY_23_0, cY_23_1, cY_23_2⟩ (fun hHeld => ?_)
                        clear hK K
                        (try simp only [Act.put, List.setIfInBounds_toArray, List.set_cons_zero, List.set_cons_succ])
                        refine wpAnyH_ready (rs := [7]) (by kernel_rfl) (by simp) ?_
                        refine AllReadyH.cons (o := _) rfl (fun K hK => ?_) (AllReadyH.nil)
                        · go_simp
                          refine (qadd ((QL_23.below bl).rdQ hLq.out) (by omega) (QN_23.below bl) (by omega)).mono ?_
                          rw [hnl.out]
                          rintro e w24 ⟨za, zn, zc, zb, zm, zd, rfl, hO, hO', hD, hB⟩
                          have hB_24 : Below w23.heap.size w23 w24 := (bl.next hB)
                          have X_24 := X_23.next hB_24
                          have E_24 := E_23.next hB_24
                          have V_24 := V_23.next hB_24
                          have L_24 := L_23.next hB_24
                          have cL_24_0 : _ = some (Value.bool (decide ((L).num < 0))) := L_24.cell 0
                          have fL_24_0 := L_24.free 0
                          have cL_24_1 : _ = some (Value.slice ja jn jc) := L_24.cell 1
                          have fL_24_1 := L_24.free 1
                          have cL_24_2 : _ = some (Value.slice jb jm jd) := L_24.cell 2
                          have fL_24_2 := L_24.free 2
                          have S_24 := S_23.next hB_24
                          have C_24 := C_23.next hB_24
                          have cC_24_0 : _ = some (Value.bool ys) := C_24.cell 0
                          have cC_24_1 : _ = some (Value.slice ya n2 yc) := C_24.cell 1
                          have cC_24_2 : _ = some (Value.slice yb m2 yd) := C_24.cell 2
                          have T_24 := T_23.next hB_24
                          have Q_24 := Q_23.next hB_24
                          have Y_24 := Y_23.next hB_24
                          have cY_24_0 : _ = some (Value.bool (decide ((zw).num < 0))) := Y_24.cell 0
                          have cY_24_1 : _ = some (Value.slice u2a u2n u2c) := Y_24.cell 1
                          have cY_24_2 : _ = some (Value.slice u2b u2m u2d) := Y_24.cell 2
                          have QV_24 := QV_23.below hB_24
                          have QL_24 := QL_23.below hB_24
                          have QA_24 := QA_23.below hB_24
                          have QB_24 := QB_23.below hB_24
                          have RX_24 := RX_23.below hB_24
                          have RC_24 := RC_23.below hB_24
                          have Ou2_24 := Ou2_23.below hB_24
                          have Pu2_24 := Pu2_23.below hB_24
                          have QU_24 := QU_23.below hB_24
                          have QM_24 := QM_23.below hB_24
                          have QN_24 := QN_23.below hB_24
                          have hbel_24 := hbel_23.next hB_24
                          have hsz_24 := hB_24.size
                          clear X_23 E_23 V_23 L_23 cL_23_0 fL_23_0 cL_23_1 fL_23_1 cL_23_2 fL_23_2 S_23 C_23 cC_23_0 cC_23_1 cC_23_2 T_23 Q_23 Y_23 cY_23_0 cY_23_1 cY_23_2 QV_23 QL_23 QA_23 QB_23 RX_23 RC_23 Ou2_23 Pu2_23 QU_23 QM_23 QN_23 hbel_23 hB_24
                          try clear hB
                          (try go_wp2_with fail)
                          refine hK.out _ _ ⟨cC_24_0, cC_24_1, cC_24_2, cY_24_0, cY_24_1, cY_24_2⟩ (fun hHeld => ?_)
                          clear hK K
                          (try simp only [Act.put, List.setIfInBounds_toArray, List.set_cons_zero, List.set_cons_succ])
                          refine wpAnyH_ready (rs := [8]) (by kernel_rfl) (by simp) ?_
                          refine AllReadyH.cons (o := _) rfl (fun K hK => ?_) (AllReadyH.nil)
                          · go_simp
                            refine hK.out _ _ ⟨(cell_set3 (by omega) _ _ _).trans cC_24_0, (cell_set3 (by omega) _ _ _).trans cC_24_1, (cell_set3 (by omega) _ _ _).trans cC_24_2, (cell_set3 (by omega) _ _ _).trans cY_24_0, (cell_set3 (by omega) _ _ _).trans cY_24_1, (cell_set3 (by omega) _ _ _).trans cY_24_2⟩ (fun hHeld => ?_)
                            clear hK K
                            (try simp only [Act.put, List.setIfInBounds_toArray, List.set_cons_zero, List.set_cons_succ])
                            refine wpAnyH_done (by kernel_rfl) ?_ _
                            refine NoPanic.normal ?_
                            (have hX := X_24.set3 (show w.heap.size ≠ g8 by omega) (.bool (decide (nl.num < 0))) (.slice za zn zc) (.slice zb zm zd); have hE := E_24.set3 (show gE ≠ g8 by omega) (.bool (decide (nl.num < 0))) (.slice za zn zc) (.slice zb zm zd); have hV := V_24.set3 (show g7 ≠ g8 by omega) (.bool (decide (nl.num < 0))) (.slice za zn zc) (.slice zb zm zd); have hS := S_24.set3 (show g9 ≠ g8 by omega) (.bool (decide (nl.num < 0))) (.slice za zn zc) (.slice zb zm zd); have hL := blk_put3 L_24 (.bool (decide (nl.num < 0))) (.slice za zn zc) (.slice zb zm zd); have hqv := QV_24.kp (kp_put3 (Below.refl _ _) g8 (.bool (decide (nl.num < 0))) (.slice za zn zc) (.slice zb zm zd)) (.inr (.inl rfl)); have hqa := QA_24.kp (kp_put3 (Below.refl _ _) g8 (.bool (decide (nl.num < 0))) (.slice za zn zc) (.slice zb zm zd)) (.inr (.inl rfl)); have hqb := QB_24.kp (kp_put3 (Below.refl _ _) g8 (.bool (decide (nl.num < 0))) (.slice za zn zc) (.slice zb zm zd)) (.inr (.inl rfl)); have hql := VQ.new (g7 := g7) (g8 := g8) (g9 := g9) (hO.set3 (show g8 < _ by omega) (.bool (decide (nl.num < 0))) (.slice za zn zc) (.slice zb zm zd)) (hO'.set3 (show g8 < _ by omega) (.bool (decide (nl.num < 0))) (.slice za zn zc) (.slice zb zm zd)) (by omega) (by omega) (by omega) (by omega) (by omega) (by omega); have hbl := Below.set3 hbel_24 (show w.heap.size ≤ g8 by omega) (.bool (decide (nl.num < 0))) (.slice za zn zc) (.slice zb zm zd); clear X_24 E_24 V_24 S_24 L_24 C_24 T_24 Q_24 Y_24 QV_24 QA_24 QB_24 QL_24 hO hO' hD hbel_24; go_wp2; go_roundw; (case rel => exact ⟨j + 1 + 1, nv, nl, v2a, v2n, v2c, v2b, v2m, v2d, za, zn, zc, zb, zm, zd, p2a, p2n, p2c, p2b, p2m, p2d, p2a', p2n', p2c', p2b', p2m', p2d', by omega, by omega, by go_num, hX, hE, hV, hL, hS, hqv, hql, hqa, hqb, qnv, qnl, hbl⟩); (case measure => (simp [intOf]; omega)))
                · go_simp
                  refine (HK.out _).mono ?_
                  rintro e w21 ⟨ua, un, uc, ub, um, ud, rfl, hO, hO', hD, hB⟩
                  have hB_21 : Below v20.heap.size v20 w21 := (bl.next hB)
                  have X_21 := X_20.next hB_21
                  have E_21 := E_20.next hB_21
                  have V_21 := V_20.next hB_21
                  have L_21 := L_20.next hB_21
                  have cL_21_0 : _ = some (Value.bool (decide ((L).num < 0))) := L_21.cell 0
                  have fL_21_0 := L_21.free 0
                  have cL_21_1 : _ = some (Value.slice ja jn jc) := L_21.cell 1
                  have fL_21_1 := L_21.free 1
                  have cL_21_2 : _ = some (Value.slice jb jm jd) := L_21.cell 2
                  have fL_21_2 := L_21.free 2
                  have S_21 := S_20.next hB_21
                  have C_21 := C_20.next hB_21
                  have cC_21_0 : _ = some (Value.bool ys) := C_21.cell 0
                  have cC_21_1 : _ = some (Value.slice ya n2 yc) := C_21.cell 1
                  have cC_21_2 : _ = some (Value.slice yb m2 yd) := C_21.cell 2
                  have T_21 := T_20.next hB_21
                  have Q_21 := Q_20.next hB_21
                  have Y_21 := Y_20.next hB_21
                  have cY_21_0 : _ = some (Value.bool (decide ((zw).num < 0))) := Y_21.cell 0
                  have cY_21_1 : _ = some (Value.slice u2a u2n u2c) := Y_21.cell 1
                  have cY_21_2 : _ = some (Value.slice u2b u2m u2d) := Y_21.cell 2
                  have QV_21 := QV_20.below hB_21
                  have QL_21 := QL_20.below hB_21
                  have QA_21 := QA_20.below hB_21
                  have QB_21 := QB_20.below hB_21
                  have RX_21 := RX_20.below hB_21
                  have RC_21 := RC_20.below hB_21
                  have Ou2_21 := Ou2_20.below hB_21
                  have Pu2_21 := Pu2_20.below hB_21
                  have hbel_21 := hbel_20.next hB_21
                  have hsz_21 := hB_21.size
                  clear X_20 E_20 V_20 L_20 cL_20_0 fL_20_0 cL_20_1 fL_20_1 cL_20_2 fL_20_2 S_20 C_20 cC_20_0 cC_20_1 cC_20_2 T_20 Q_20 Y_20 cY_20_0 cY_20_1 cY_20_2 QV_20 QL_20 QA_20 QB_20 RX_20 RC_20 Ou2_20 Pu2_20 hbel_20 hB_21
                  have QU_21 := hO.rdQ hO' qkq.out
                  clear hO hO' hD
                  try clear hB
                  (try go_wp2_with fail)
                  refine hK.out _ _ ⟨cC_21_0, cC_21_1, cC_21_2, cY_21_0, cY_21_1, cY_21_2⟩ (fun hHeld => ?_)
                  clear hK K
                  (try simp only [Act.put, List.setIfInBounds_toArray, List.set_cons_zero, List.set_cons_succ])
                  refine wpAnyH_ready (rs := [0, 4]) (by kernel_rfl) (by simp) ?_
                  refine AllReadyH.cons (o := _) rfl (fun K hK => ?_) (AllReadyH.cons (o := _) rfl (fun K hK => ?_) (AllReadyH.nil))
                  · go_simp
                    refine hK.out _ _ ⟨cC_21_0, cC_21_1, cC_21_2, cY_21_0, cY_21_1, cY_21_2⟩ (fun hHeld => ?_)
                    clear hK K
                    (try simp only [Act.put, List.setIfInBounds_toArray, List.set_cons_zero, List.set_cons_succ])
                    refine wpAnyH_ready (rs := [4]) (by kernel_rfl) (by simp) ?_
                    refine AllReadyH.cons (o := _) rfl (fun K hK => ?_) (AllReadyH.nil)
                    · go_simp
                      refine (qmul (RC_21.below bl) (by omega) (QU_21.below bl) (by omega)).mono ?_
                      rw [hmk.out]
                      rintro e w22 ⟨ma, mn, mc, mb, mm, md, rfl, hO, hO', hD, hB⟩
                      have hB_22 : Below w21.heap.size w21 w22 := (bl.next hB)
                      have X_22 := X_21.next hB_22
                      have E_22 := E_21.next hB_22
                      have V_22 := V_21.next hB_22
                      have L_22 := L_21.next hB_22
                      have cL_22_0 : _ = some (Value.bool (decide ((L).num < 0))) := L_22.cell 0
                      have fL_22_0 := L_22.free 0
                      have cL_22_1 : _ = some (Value.slice ja jn jc) := L_22.cell 1
                      have fL_22_1 := L_22.free 1
                      have cL_22_2 : _ = some (Value.slice jb jm jd) := L_22.cell 2
                      have fL_22_2 := L_22.free 2
                      have S_22 := S_21.next hB_22
                      have C_22 := C_21.next hB_22
                      have cC_22_0 : _ = some (Value.bool ys) := C_22.cell 0
                      have cC_22_1 : _ = some (Value.slice ya n2 yc) := C_22.cell 1
                      have cC_22_2 : _ = some (Value.slice yb m2 yd) := C_22.cell 2
                      have T_22 := T_21.next hB_22
                      have Q_22 := Q_21.next hB_22
                      have Y_22 := Y_21.next hB_22
                      have cY_22_0 : _ = some (Value.bool (decide ((zw).num < 0))) := Y_22.cell 0
                      have cY_22_1 : _ = some (Value.slice u2a u2n u2c) := Y_22.cell 1
                      have cY_22_2 : _ = some (Value.slice u2b u2m u2d) := Y_22.cell 2
                      have QV_22 := QV_21.below hB_22
                      have QL_22 := QL_21.below hB_22
                      have QA_22 := QA_21.below hB_22
                      have QB_22 := QB_21.below hB_22
                      have RX_22 := RX_21.below hB_22
                      have RC_22 := RC_21.below hB_22
                      have Ou2_22 := Ou2_21.below hB_22
                      have Pu2_22 := Pu2_21.below hB_22
                      have QU_22 := QU_21.below hB_22
                      have hbel_22 := hbel_21.next hB_22
                      have hsz_22 := hB_22.size
                      clear X_21 E_21 V_21 L_21 cL_21_0 fL_21_0 cL_21_1 fL_21_1 cL_21_2 fL_21_2 S_21 C_21 cC_21_0 cC_21_1 cC_21_2 T_21 Q_21 Y_21 cY_21_0 cY_21_1 cY_21_2 QV_21 QL_21 QA_21 QB_21 RX_21 RC_21 Ou2_21 Pu2_21 QU_21 hbel_21 hB_22
                      have QM_22 := hO.rdQ hO' qmk.out
                      clear hO hO' hD
                      try clear hB
                      (try go_wp2_with fail)
                      refine hK.out _ _ ⟨cC_22_0, cC_22_1, cC_22_2, cY_22_0, cY_22_1, cY_22_2⟩ (fun hHeld => ?_)
                      clear hK K
                      (try simp only [Act.put, List.setIfInBounds_toArray, List.set_cons_zero, List.set_cons_succ])
                      refine wpAnyH_ready (rs := [6]) (by kernel_rfl) (by simp) ?_
                      refine AllReadyH.cons (o := _) rfl (fun K hK => ?_) (AllReadyH.nil)
                      · go_simp
                        refine (qmul (QM_22.below bl) (by omega) ((Ou2_22.below bl).rdQ (Pu2_22.below bl) qzz.out) (by omega)).mono ?_
                        rw [hml2.out]
                        rintro e w23 ⟨m2a, m2n, m2c, m2b, m2m, m2d, rfl, hO, hO', hD, hB⟩
                        have hB_23 : Below w22.heap.size w22 w23 := (bl.next hB)
                        have X_23 := X_22.next hB_23
                        have E_23 := E_22.next hB_23
                        have V_23 := V_22.next hB_23
                        have L_23 := L_22.next hB_23
                        have cL_23_0 : _ = some (Value.bool (decide ((L).num < 0))) := L_23.cell 0
                        have fL_23_0 := L_23.free 0
                        have cL_23_1 : _ = some (Value.slice ja jn jc) := L_23.cell 1
                        have fL_23_1 := L_23.free 1
                        have cL_23_2 : _ = some (Value.slice jb jm jd) := L_23.cell 2
                        have fL_23_2 := L_23.free 2
                        have S_23 := S_22.next hB_23
                        have C_23 := C_22.next hB_23
                        have cC_23_0 : _ = some (Value.bool ys) := C_23.cell 0
                        have cC_23_1 : _ = some (Value.slice ya n2 yc) := C_23.cell 1
                        have cC_23_2 : _ = some (Value.slice yb m2 yd) := C_23.cell 2
                        have T_23 := T_22.next hB_23
                        have Q_23 := Q_22.next hB_23
                        have Y_23 := Y_22.next hB_23
                        have cY_23_0 : _ = some (Value.bool (decide ((zw).num < 0))) := Y_23.cell 0
                        have cY_23_1 : _ = some (Value.slice u2a u2n u2c) := Y_23.cell 1
                        have cY_23_2 : _ = some (Value.slice u2b u2m u2d) := Y_23.cell 2
                        have QV_23 := QV_22.below hB_23
                        have QL_23 := QL_22.below hB_23
                        have QA_23 := QA_22.below hB_23
                        have QB_23 := QB_22.below hB_23
                        have RX_23 := RX_22.below hB_23
                        have RC_23 := RC_22.below hB_23
                        have Ou2_23 := Ou2_22.below hB_23
                        have Pu2_23 := Pu2_22.below hB_23
                        have QU_23 := QU_22.below hB_23
                        have QM_23 := QM_22.below hB_23
                        have hbel_23 := hbel_22.next hB_23
                        have hsz_23 := hB_23.size
                        clear X_22 E_22 V_22 L_22 cL_22_0 fL_22_0 cL_22_1 fL_22_1 cL_22_2 fL_22_2 S_22 C_22 cC_22_0 cC_22_1 cC_22_2 T_22 Q_22 Y_22 cY_22_0 cY_22_1 cY_22_2 QV_22 QL_22 QA_22 QB_22 RX_22 RC_22 Ou2_22 Pu2_22 QU_22 QM_22 hbel_22 hB_23
                        have QN_23 := hO.rdQ hO' qml.out
                        clear hO hO' hD
                        try clear hB
                        (try go_wp2_with fail)
                        refine hK.out _ _ ⟨cC_23_0, cC_23_1, cC_23_2, cY_23_0, cY_23_1, cY_23_2⟩ (fun hHeld => ?_)
                        clear hK K
                        (try simp only [Act.put, List.setIfInBounds_toArray, List.set_cons_zero, List.set_cons_succ])
                        refine wpAnyH_ready (rs := [7]) (by kernel_rfl) (by simp) ?_
                        refine AllReadyH.cons (o := _) rfl (fun K hK => ?_) (AllReadyH.nil)
                        · go_simp
                          refine (qadd ((QL_23.below bl).rdQ hLq.out) (by omega) (QN_23.below bl) (by omega)).mono ?_
                          rw [hnl.out]
                          rintro e w24 ⟨za, zn, zc, zb, zm, zd, rfl, hO, hO', hD, hB⟩
                          have hB_24 : Below w23.heap.size w23 w24 := (bl.next hB)
                          have X_24 := X_23.next hB_24
                          have E_24 := E_23.next hB_24
                          have V_24 := V_23.next hB_24
                          have L_24 := L_23.next hB_24
                          have cL_24_0 : _ = some (Value.bool (decide ((L).num < 0))) := L_24.cell 0
                          have fL_24_0 := L_24.free 0
                          have cL_24_1 : _ = some (Value.slice ja jn jc) := L_24.cell 1
                          have fL_24_1 := L_24.free 1
                          have cL_24_2 : _ = some (Value.slice jb jm jd) := L_24.cell 2
                          have fL_24_2 := L_24.free 2
                          have S_24 := S_23.next hB_24
                          have C_24 := C_23.next hB_24
                          have cC_24_0 : _ = some (Value.bool ys) := C_24.cell 0
                          have cC_24_1 : _ = some (Value.slice ya n2 yc) := C_24.cell 1
                          have cC_24_2 : _ = some (Value.slice yb m2 yd) := C_24.cell 2
                          have T_24 := T_23.next hB_24
                          have Q_24 := Q_23.next hB_24
                          have Y_24 := Y_23.next hB_24
                          have cY_24_0 : _ = some (Value.bool (decide ((zw).num < 0))) := Y_24.cell 0
                          have cY_24_1 : _ = some (Value.slice u2a u2n u2c) := Y_24.cell 1
                          have cY_24_2 : _ = some (Value.slice u2b u2m u2d) := Y_24.cell 2
                          have QV_24 := QV_23.below hB_24
                          have QL_24 := QL_23.below hB_24
                          have QA_24 := QA_23.below hB_24
                          have QB_24 := QB_23.below hB_24
                          have RX_24 := RX_23.below hB_24
                          have RC_24 := RC_23.below hB_24
                          have Ou2_24 := Ou2_23.below hB_24
                          have Pu2_24 := Pu2_23.below hB_24
                          have QU_24 := QU_23.below hB_24
                          have QM_24 := QM_23.below hB_24
                          have QN_24 := QN_23.below hB_24
                          have hbel_24 := hbel_23.next hB_24
                          have hsz_24 := hB_24.size
                          clear X_23 E_23 V_23 L_23 cL_23_0 fL_23_0 cL_23_1 fL_23_1 cL_23_2 fL_23_2 S_23 C_23 cC_23_0 cC_23_1 cC_23_2 T_23 Q_23 Y_23 cY_23_0 cY_23_1 cY_23_2 QV_23 QL_23 QA_23 QB_23 RX_23 RC_23 Ou2_23 Pu2_23 QU_23 QM_23 QN_23 hbel_23 hB_24
                          try clear hB
                          (try go_wp2_with fail)
                          refine hK.out _ _ ⟨cC_24_0, cC_24_1, cC_24_2, cY_24_0, cY_24_1, cY_24_2⟩ (fun hHeld => ?_)
                          clear hK K
                          (try simp only [Act.put, List.setIfInBounds_toArray, List.set_cons_zero, List.set_cons_succ])
                          refine wpAnyH_ready (rs := [8]) (by kernel_rfl) (by simp) ?_
                          refine AllReadyH.cons (o := _) rfl (fun K hK => ?_) (AllReadyH.nil)
                          · go_simp
                            refine hK.out _ _ ⟨(cell_set3 (by omega) _ _ _).trans cC_24_0, (cell_set3 (by omega) _ _ _).trans cC_24_1, (cell_set3 (by omega) _ _ _).trans cC_24_2, (cell_set3 (by omega) _ _ _).trans cY_24_0, (cell_set3 (by omega) _ _ _).trans cY_24_1, (cell_set3 (by omega) _ _ _).trans cY_24_2⟩ (fun hHeld => ?_)
                            clear hK K
                            (try simp only [Act.put, List.setIfInBounds_toArray, List.set_cons_zero, List.set_cons_succ])
                            refine wpAnyH_done (by kernel_rfl) ?_ _
                            refine NoPanic.normal ?_
                            (have hX := X_24.set3 (show w.heap.size ≠ g8 by omega) (.bool (decide (nl.num < 0))) (.slice za zn zc) (.slice zb zm zd); have hE := E_24.set3 (show gE ≠ g8 by omega) (.bool (decide (nl.num < 0))) (.slice za zn zc) (.slice zb zm zd); have hV := V_24.set3 (show g7 ≠ g8 by omega) (.bool (decide (nl.num < 0))) (.slice za zn zc) (.slice zb zm zd); have hS := S_24.set3 (show g9 ≠ g8 by omega) (.bool (decide (nl.num < 0))) (.slice za zn zc) (.slice zb zm zd); have hL := blk_put3 L_24 (.bool (decide (nl.num < 0))) (.slice za zn zc) (.slice zb zm zd); have hqv := QV_24.kp (kp_put3 (Below.refl _ _) g8 (.bool (decide (nl.num < 0))) (.slice za zn zc) (.slice zb zm zd)) (.inr (.inl rfl)); have hqa := QA_24.kp (kp_put3 (Below.refl _ _) g8 (.bool (decide (nl.num < 0))) (.slice za zn zc) (.slice zb zm zd)) (.inr (.inl rfl)); have hqb := QB_24.kp (kp_put3 (Below.refl _ _) g8 (.bool (decide (nl.num < 0))) (.slice za zn zc) (.slice zb zm zd)) (.inr (.inl rfl)); have hql := VQ.new (g7 := g7) (g8 := g8) (g9 := g9) (hO.set3 (show g8 < _ by omega) (.bool (decide (nl.num < 0))) (.slice za zn zc) (.slice zb zm zd)) (hO'.set3 (show g8 < _ by omega) (.bool (decide (nl.num < 0))) (.slice za zn zc) (.slice zb zm zd)) (by omega) (by omega) (by omega) (by omega) (by omega) (by omega); have hbl := Below.set3 hbel_24 (show w.heap.size ≤ g8 by omega) (.bool (decide (nl.num < 0))) (.slice za zn zc) (.slice zb zm zd); clear X_24 E_24 V_24 S_24 L_24 C_24 T_24 Q_24 Y_24 QV_24 QA_24 QB_24 QL_24 hO hO' hD hbel_24; go_wp2; go_roundw; (case rel => exact ⟨j + 1 + 1, nv, nl, v2a, v2n, v2c, v2b, v2m, v2d, za, zn, zc, zb, zm, zd, p2a, p2n, p2c, p2b, p2m, p2d, p2a', p2n', p2c', p2b', p2m', p2d', by omega, by omega, by go_num, hX, hE, hV, hL, hS, hqv, hql, hqa, hqb, qnv, qnl, hbl⟩); (case measure => (simp [intOf]; omega)))
                  · go_simp
                    refine (qmul (RC_21.below bl) (by omega) (QU_21.below bl) (by omega)).mono ?_
                    rw [hmk.out]
                    rintro e w22 ⟨ma, mn, mc, mb, mm, md, rfl, hO, hO', hD, hB⟩
                    have hB_22 : Below w21.heap.size w21 w22 := (bl.next hB)
                    have X_22 := X_21.next hB_22
                    have E_22 := E_21.next hB_22
                    have V_22 := V_21.next hB_22
                    have L_22 := L_21.next hB_22
                    have cL_22_0 : _ = some (Value.bool (decide ((L).num < 0))) := L_22.cell 0
                    have fL_22_0 := L_22.free 0
                    have cL_22_1 : _ = some (Value.slice ja jn jc) := L_22.cell 1
                    have fL_22_1 := L_22.free 1
                    have cL_22_2 : _ = some (Value.slice jb jm jd) := L_22.cell 2
                    have fL_22_2 := L_22.free 2
                    have S_22 := S_21.next hB_22
                    have C_22 := C_21.next hB_22
                    have cC_22_0 : _ = some (Value.bool ys) := C_22.cell 0
                    have cC_22_1 : _ = some (Value.slice ya n2 yc) := C_22.cell 1
                    have cC_22_2 : _ = some (Value.slice yb m2 yd) := C_22.cell 2
                    have T_22 := T_21.next hB_22
                    have Q_22 := Q_21.next hB_22
                    have Y_22 := Y_21.next hB_22
                    have cY_22_0 : _ = some (Value.bool (decide ((zw).num < 0))) := Y_22.cell 0
                    have cY_22_1 : _ = some (Value.slice u2a u2n u2c) := Y_22.cell 1
                    have cY_22_2 : _ = some (Value.slice u2b u2m u2d) := Y_22.cell 2
                    have QV_22 := QV_21.below hB_22
                    have QL_22 := QL_21.below hB_22
                    have QA_22 := QA_21.below hB_22
                    have QB_22 := QB_21.below hB_22
                    have RX_22 := RX_21.below hB_22
                    have RC_22 := RC_21.below hB_22
                    have Ou2_22 := Ou2_21.below hB_22
                    have Pu2_22 := Pu2_21.below hB_22
                    have QU_22 := QU_21.below hB_22
                    have hbel_22 := hbel_21.next hB_22
                    have hsz_22 := hB_22.size
                    clear X_21 E_21 V_21 L_21 cL_21_0 fL_21_0 cL_21_1 fL_21_1 cL_21_2 fL_21_2 S_21 C_21 cC_21_0 cC_21_1 cC_21_2 T_21 Q_21 Y_21 cY_21_0 cY_21_1 cY_21_2 QV_21 QL_21 QA_21 QB_21 RX_21 RC_21 Ou2_21 Pu2_21 QU_21 hbel_21 hB_22
                    have QM_22 := hO.rdQ hO' qmk.out
                    clear hO hO' hD
                    try clear hB
                    (try go_wp2_with fail)
                    refine hK.out _ _ ⟨cC_22_0, cC_22_1, cC_22_2, cY_22_0, cY_22_1, cY_22_2⟩ (fun hHeld => ?_)
                    clear hK K
                    (try simp only [Act.put, List.setIfInBounds_toArray, List.set_cons_zero, List.set_cons_succ])
                    refine wpAnyH_ready (rs := [0, 6]) (by kernel_rfl) (by simp) ?_
                    refine AllReadyH.cons (o := _) rfl (fun K hK => ?_) (AllReadyH.cons (o := _) rfl (fun K hK => ?_) (AllReadyH.nil))
                    · go_simp
                      refine hK.out _ _ ⟨cC_22_0, cC_22_1, cC_22_2, cY_22_0, cY_22_1, cY_22_2⟩ (fun hHeld => ?_)
                      clear hK K
                      (try simp only [Act.put, List.setIfInBounds_toArray, List.set_cons_zero, List.set_cons_succ])
                      refine wpAnyH_ready (rs := [6]) (by kernel_rfl) (by simp) ?_
                      refine AllReadyH.cons (o := _) rfl (fun K hK => ?_) (AllReadyH.nil)
                      · go_simp
                        refine (qmul (QM_22.below bl) (by omega) ((Ou2_22.below bl).rdQ (Pu2_22.below bl) qzz.out) (by omega)).mono ?_
                        rw [hml2.out]
                        rintro e w23 ⟨m2a, m2n, m2c, m2b, m2m, m2d, rfl, hO, hO', hD, hB⟩
                        have hB_23 : Below w22.heap.size w22 w23 := (bl.next hB)
                        have X_23 := X_22.next hB_23
                        have E_23 := E_22.next hB_23
                        have V_23 := V_22.next hB_23
                        have L_23 := L_22.next hB_23
                        have cL_23_0 : _ = some (Value.bool (decide ((L).num < 0))) := L_23.cell 0
                        have fL_23_0 := L_23.free 0
                        have cL_23_1 : _ = some (Value.slice ja jn jc) := L_23.cell 1
                        have fL_23_1 := L_23.free 1
                        have cL_23_2 : _ = some (Value.slice jb jm jd) := L_23.cell 2
                        have fL_23_2 := L_23.free 2
                        have S_23 := S_22.next hB_23
                        have C_23 := C_22.next hB_23
                        have cC_23_0 : _ = some (Value.bool ys) := C_23.cell 0
                        have cC_23_1 : _ = some (Value.slice ya n2 yc) := C_23.cell 1
                        have cC_23_2 : _ = some (Value.slice yb m2 yd) := C_23.cell 2
                        have T_23 := T_22.next hB_23
                        have Q_23 := Q_22.next hB_23
                        have Y_23 := Y_22.next hB_23
                        have cY_23_0 : _ = some (Value.bool (decide ((zw).num < 0))) := Y_23.cell 0
                        have cY_23_1 : _ = some (Value.slice u2a u2n u2c) := Y_23.cell 1
                        have cY_23_2 : _ = some (Value.slice u2b u2m u2d) := Y_23.cell 2
                        have QV_23 := QV_22.below hB_23
                        have QL_23 := QL_22.below hB_23
                        have QA_23 := QA_22.below hB_23
                        have QB_23 := QB_22.below hB_23
                        have RX_23 := RX_22.below hB_23
                        have RC_23 := RC_22.below hB_23
                        have Ou2_23 := Ou2_22.below hB_23
                        have Pu2_23 := Pu2_22.below hB_23
                        have QU_23 := QU_22.below hB_23
                        have QM_23 := QM_22.below hB_23
                        have hbel_23 := hbel_22.next hB_23
                        have hsz_23 := hB_23.size
                        clear X_22 E_22 V_22 L_22 cL_22_0 fL_22_0 cL_22_1 fL_22_1 cL_22_2 fL_22_2 S_22 C_22 cC_22_0 cC_22_1 cC_22_2 T_22 Q_22 Y_22 cY_22_0 cY_22_1 cY_22_2 QV_22 QL_22 QA_22 QB_22 RX_22 RC_22 Ou2_22 Pu2_22 QU_22 QM_22 hbel_22 hB_23
                        have QN_23 := hO.rdQ hO' qml.out
                        clear hO hO' hD
                        try clear hB
                        (try go_wp2_with fail)
                        refine hK.out _ _ ⟨cC_23_0, cC_23_1, cC_23_2, cY_23_0, cY_23_1, cY_23_2⟩ (fun hHeld => ?_)
                        clear hK K
                        (try simp only [Act.put, List.setIfInBounds_toArray, List.set_cons_zero, List.set_cons_succ])
                        refine wpAnyH_ready (rs := [7]) (by kernel_rfl) (by simp) ?_
                        refine AllReadyH.cons (o := _) rfl (fun K hK => ?_) (AllReadyH.nil)
                        · go_simp
                          refine (qadd ((QL_23.below bl).rdQ hLq.out) (by omega) (QN_23.below bl) (by omega)).mono ?_
                          rw [hnl.out]
                          rintro e w24 ⟨za, zn, zc, zb, zm, zd, rfl, hO, hO', hD, hB⟩
                          have hB_24 : Below w23.heap.size w23 w24 := (bl.next hB)
                          have X_24 := X_23.next hB_24
                          have E_24 := E_23.next hB_24
                          have V_24 := V_23.next hB_24
                          have L_24 := L_23.next hB_24
                          have cL_24_0 : _ = some (Value.bool (decide ((L).num < 0))) := L_24.cell 0
                          have fL_24_0 := L_24.free 0
                          have cL_24_1 : _ = some (Value.slice ja jn jc) := L_24.cell 1
                          have fL_24_1 := L_24.free 1
                          have cL_24_2 : _ = some (Value.slice jb jm jd) := L_24.cell 2
                          have fL_24_2 := L_24.free 2
                          have S_24 := S_23.next hB_24
                          have C_24 := C_23.next hB_24
                          have cC_24_0 : _ = some (Value.bool ys) := C_24.cell 0
                          have cC_24_1 : _ = some (Value.slice ya n2 yc) := C_24.cell 1
                          have cC_24_2 : _ = some (Value.slice yb m2 yd) := C_24.cell 2
                          have T_24 := T_23.next hB_24
                          have Q_24 := Q_23.next hB_24
                          have Y_24 := Y_23.next hB_24
                          have cY_24_0 : _ = some (Value.bool (decide ((zw).num < 0))) := Y_24.cell 0
                          have cY_24_1 : _ = some (Value.slice u2a u2n u2c) := Y_24.cell 1
                          have cY_24_2 : _ = some (Value.slice u2b u2m u2d) := Y_24.cell 2
                          have QV_24 := QV_23.below hB_24
                          have QL_24 := QL_23.below hB_24
                          have QA_24 := QA_23.below hB_24
                          have QB_24 := QB_23.below hB_24
                          have RX_24 := RX_23.below hB_24
                          have RC_24 := RC_23.below hB_24
                          have Ou2_24 := Ou2_23.below hB_24
                          have Pu2_24 := Pu2_23.below hB_24
                          have QU_24 := QU_23.below hB_24
                          have QM_24 := QM_23.below hB_24
                          have QN_24 := QN_23.below hB_24
                          have hbel_24 := hbel_23.next hB_24
                          have hsz_24 := hB_24.size
                          clear X_23 E_23 V_23 L_23 cL_23_0 fL_23_0 cL_23_1 fL_23_1 cL_23_2 fL_23_2 S_23 C_23 cC_23_0 cC_23_1 cC_23_2 T_23 Q_23 Y_23 cY_23_0 cY_23_1 cY_23_2 QV_23 QL_23 QA_23 QB_23 RX_23 RC_23 Ou2_23 Pu2_23 QU_23 QM_23 QN_23 hbel_23 hB_24
                          try clear hB
                          (try go_wp2_with fail)
                          refine hK.out _ _ ⟨cC_24_0, cC_24_1, cC_24_2, cY_24_0, cY_24_1, cY_24_2⟩ (fun hHeld => ?_)
                          clear hK K
                          (try simp only [Act.put, List.setIfInBounds_toArray, List.set_cons_zero, List.set_cons_succ])
                          refine wpAnyH_ready (rs := [8]) (by kernel_rfl) (by simp) ?_
                          refine AllReadyH.cons (o := _) rfl (fun K hK => ?_) (AllReadyH.nil)
                          · go_simp
                            refine hK.out _ _ ⟨(cell_set3 (by omega) _ _ _).trans cC_24_0, (cell_set3 (by omega) _ _ _).trans cC_24_1, (cell_set3 (by omega) _ _ _).trans cC_24_2, (cell_set3 (by omega) _ _ _).trans cY_24_0, (cell_set3 (by omega) _ _ _).trans cY_24_1, (cell_set3 (by omega) _ _ _).trans cY_24_2⟩ (fun hHeld => ?_)
                            clear hK K
                            (try simp only [Act.put, List.setIfInBounds_toArray, List.set_cons_zero, List.set_cons_succ])
                            refine wpAnyH_done (by kernel_rfl) ?_ _
                            refine NoPanic.normal ?_
                            (have hX := X_24.set3 (show w.heap.size ≠ g8 by omega) (.bool (decide (nl.num < 0))) (.slice za zn zc) (.slice zb zm zd); have hE := E_24.set3 (show gE ≠ g8 by omega) (.bool (decide (nl.num < 0))) (.slice za zn zc) (.slice zb zm zd); have hV := V_24.set3 (show g7 ≠ g8 by omega) (.bool (decide (nl.num < 0))) (.slice za zn zc) (.slice zb zm zd); have hS := S_24.set3 (show g9 ≠ g8 by omega) (.bool (decide (nl.num < 0))) (.slice za zn zc) (.slice zb zm zd); have hL := blk_put3 L_24 (.bool (decide (nl.num < 0))) (.slice za zn zc) (.slice zb zm zd); have hqv := QV_24.kp (kp_put3 (Below.refl _ _) g8 (.bool (decide (nl.num < 0))) (.slice za zn zc) (.slice zb zm zd)) (.inr (.inl rfl)); have hqa := QA_24.kp (kp_put3 (Below.refl _ _) g8 (.bool (decide (nl.num < 0))) (.slice za zn zc) (.slice zb zm zd)) (.inr (.inl rfl)); have hqb := QB_24.kp (kp_put3 (Below.refl _ _) g8 (.bool (decide (nl.num < 0))) (.slice za zn zc) (.slice zb zm zd)) (.inr (.inl rfl)); have hql := VQ.new (g7 := g7) (g8 := g8) (g9 := g9) (hO.set3 (show g8 < _ by omega) (.bool (decide (nl.num < 0))) (.slice za zn zc) (.slice zb zm zd)) (hO'.set3 (show g8 < _ by omega) (.bool (decide (nl.num < 0))) (.slice za zn zc) (.slice zb zm zd)) (by omega) (by omega) (by omega) (by omega) (by omega) (by omega); have hbl := Below.set3 hbel_24 (show w.heap.size ≤ g8 by omega) (.bool (decide (nl.num < 0))) (.slice za zn zc) (.slice zb zm zd); clear X_24 E_24 V_24 S_24 L_24 C_24 T_24 Q_24 Y_24 QV_24 QA_24 QB_24 QL_24 hO hO' hD hbel_24; go_wp2; go_roundw; (case rel => exact ⟨j + 1 + 1, nv, nl, v2a, v2n, v2c, v2b, v2m, v2d, za, zn, zc, zb, zm, zd, p2a, p2n, p2c, p2b, p2m, p2d, p2a', p2n', p2c', p2b', p2m', p2d', by omega, by omega, by go_num, hX, hE, hV, hL, hS, hqv, hql, hqa, hqb, qnv, qnl, hbl⟩); (case measure => (simp [intOf]; omega)))
                    · go_simp
                      refine (qmul (QM_22.below bl) (by omega) ((Ou2_22.below bl).rdQ (Pu2_22.below bl) qzz.out) (by omega)).mono ?_
                      rw [hml2.out]
                      rintro e w23 ⟨m2a, m2n, m2c, m2b, m2m, m2d, rfl, hO, hO', hD, hB⟩
                      have hB_23 : Below w22.heap.size w22 w23 := (bl.next hB)
                      have X_23 := X_22.next hB_23
                      have E_23 := E_22.next hB_23
                      have V_23 := V_22.next hB_23
                      have L_23 := L_22.next hB_23
                      have cL_23_0 : _ = some (Value.bool (decide ((L).num < 0))) := L_23.cell 0
                      have fL_23_0 := L_23.free 0
                      have cL_23_1 : _ = some (Value.slice ja jn jc) := L_23.cell 1
                      have fL_23_1 := L_23.free 1
                      have cL_23_2 : _ = some (Value.slice jb jm jd) := L_23.cell 2
                      have fL_23_2 := L_23.free 2
                      have S_23 := S_22.next hB_23
                      have C_23 := C_22.next hB_23
                      have cC_23_0 : _ = some (Value.bool ys) := C_23.cell 0
                      have cC_23_1 : _ = some (Value.slice ya n2 yc) := C_23.cell 1
                      have cC_23_2 : _ = some (Value.slice yb m2 yd) := C_23.cell 2
                      have T_23 := T_22.next hB_23
                      have Q_23 := Q_22.next hB_23
                      have Y_23 := Y_22.next hB_23
                      have cY_23_0 : _ = some (Value.bool (decide ((zw).num < 0))) := Y_23.cell 0
                      have cY_23_1 : _ = some (Value.slice u2a u2n u2c) := Y_23.cell 1
                      have cY_23_2 : _ = some (Value.slice u2b u2m u2d) := Y_23.cell 2
                      have QV_23 := QV_22.below hB_23
                      have QL_23 := QL_22.below hB_23
                      have QA_23 := QA_22.below hB_23
                      have QB_23 := QB_22.below hB_23
                      have RX_23 := RX_22.below hB_23
                      have RC_23 := RC_22.below hB_23
                      have Ou2_23 := Ou2_22.below hB_23
                      have Pu2_23 := Pu2_22.below hB_23
                      have QU_23 := QU_22.below hB_23
                      have QM_23 := QM_22.below hB_23
                      have hbel_23 := hbel_22.next hB_23
                      have hsz_23 := hB_23.size
                      clear X_22 E_22 V_22 L_22 cL_22_0 fL_22_0 cL_22_1 fL_22_1 cL_22_2 fL_22_2 S_22 C_22 cC_22_0 cC_22_1 cC_22_2 T_22 Q_22 Y_22 cY_22_0 cY_22_1 cY_22_2 QV_22 QL_22 QA_22 QB_22 RX_22 RC_22 Ou2_22 Pu2_22 QU_22 QM_22 hbel_22 hB_23
                      have QN_23 := hO.rdQ hO' qml.out
                      clear hO hO' hD
                      try clear hB
                      (try go_wp2_with fail)
                      refine hK.out _ _ ⟨cC_23_0, cC_23_1, cC_23_2, cY_23_0, cY_23_1, cY_23_2⟩ (fun hHeld => ?_)
                      clear hK K
                      (try simp only [Act.put, List.setIfInBounds_toArray, List.set_cons_zero, List.set_cons_succ])
                      refine wpAnyH_ready (rs := [0]) (by kernel_rfl) (by simp) ?_
                      refine AllReadyH.cons (o := _) rfl (fun K hK => ?_) (AllReadyH.nil)
                      · go_simp
                        refine hK.out _ _ ⟨cC_23_0, cC_23_1, cC_23_2, cY_23_0, cY_23_1, cY_23_2⟩ (fun hHeld => ?_)
                        clear hK K
                        (try simp only [Act.put, List.setIfInBounds_toArray, List.set_cons_zero, List.set_cons_succ])
                        refine wpAnyH_ready (rs := [7]) (by kernel_rfl) (by simp) ?_
                        refine AllReadyH.cons (o := _) rfl (fun K hK => ?_) (AllReadyH.nil)
                        · go_simp
                          refine (qadd ((QL_23.below bl).rdQ hLq.out) (by omega) (QN_23.below bl) (by omega)).mono ?_
                          rw [hnl.out]
                          rintro e w24 ⟨za, zn, zc, zb, zm, zd, rfl, hO, hO', hD, hB⟩
                          have hB_24 : Below w23.heap.size w23 w24 := (bl.next hB)
                          have X_24 := X_23.next hB_24
                          have E_24 := E_23.next hB_24
                          have V_24 := V_23.next hB_24
                          have L_24 := L_23.next hB_24
                          have cL_24_0 : _ = some (Value.bool (decide ((L).num < 0))) := L_24.cell 0
                          have fL_24_0 := L_24.free 0
                          have cL_24_1 : _ = some (Value.slice ja jn jc) := L_24.cell 1
                          have fL_24_1 := L_24.free 1
                          have cL_24_2 : _ = some (Value.slice jb jm jd) := L_24.cell 2
                          have fL_24_2 := L_24.free 2
                          have S_24 := S_23.next hB_24
                          have C_24 := C_23.next hB_24
                          have cC_24_0 : _ = some (Value.bool ys) := C_24.cell 0
                          have cC_24_1 : _ = some (Value.slice ya n2 yc) := C_24.cell 1
                          have cC_24_2 : _ = some (Value.slice yb m2 yd) := C_24.cell 2
                          have T_24 := T_23.next hB_24
                          have Q_24 := Q_23.next hB_24
                          have Y_24 := Y_23.next hB_24
                          have cY_24_0 : _ = some (Value.bool (decide ((zw).num < 0))) := Y_24.cell 0
                          have cY_24_1 : _ = some (Value.slice u2a u2n u2c) := Y_24.cell 1
                          have cY_24_2 : _ = some (Value.slice u2b u2m u2d) := Y_24.cell 2
                          have QV_24 := QV_23.below hB_24
                          have QL_24 := QL_23.below hB_24
                          have QA_24 := QA_23.below hB_24
                          have QB_24 := QB_23.below hB_24
                          have RX_24 := RX_23.below hB_24
                          have RC_24 := RC_23.below hB_24
                          have Ou2_24 := Ou2_23.below hB_24
                          have Pu2_24 := Pu2_23.below hB_24
                          have QU_24 := QU_23.below hB_24
                          have QM_24 := QM_23.below hB_24
                          have QN_24 := QN_23.below hB_24
                          have hbel_24 := hbel_23.next hB_24
                          have hsz_24 := hB_24.size
                          clear X_23 E_23 V_23 L_23 cL_23_0 fL_23_0 cL_23_1 fL_23_1 cL_23_2 fL_23_2 S_23 C_23 cC_23_0 cC_23_1 cC_23_2 T_23 Q_23 Y_23 cY_23_0 cY_23_1 cY_23_2 QV_23 QL_23 QA_23 QB_23 RX_23 RC_23 Ou2_23 Pu2_23 QU_23 QM_23 QN_23 hbel_23 hB_24
                          try clear hB
                          (try go_wp2_with fail)
                          refine hK.out _ _ ⟨cC_24_0, cC_24_1, cC_24_2, cY_24_0, cY_24_1, cY_24_2⟩ (fun hHeld => ?_)
                          clear hK K
                          (try simp only [Act.put, List.setIfInBounds_toArray, List.set_cons_zero, List.set_cons_succ])
                          refine wpAnyH_ready (rs := [8]) (by kernel_rfl) (by simp) ?_
                          refine AllReadyH.cons (o := _) rfl (fun K hK => ?_) (AllReadyH.nil)
                          · go_simp
                            refine hK.out _ _ ⟨(cell_set3 (by omega) _ _ _).trans cC_24_0, (cell_set3 (by omega) _ _ _).trans cC_24_1, (cell_set3 (by omega) _ _ _).trans cC_24_2, (cell_set3 (by omega) _ _ _).trans cY_24_0, (cell_set3 (by omega) _ _ _).trans cY_24_1, (cell_set3 (by omega) _ _ _).trans cY_24_2⟩ (fun hHeld => ?_)
                            clear hK K
                            (try simp only [Act.put, List.setIfInBounds_toArray, List.set_cons_zero, List.set_cons_succ])
                            refine wpAnyH_done (by kernel_rfl) ?_ _
                            refine NoPanic.normal ?_
                            (have hX := X_24.set3 (show w.heap.size ≠ g8 by omega) (.bool (decide (nl.num < 0))) (.slice za zn zc) (.slice zb zm zd); have hE := E_24.set3 (show gE ≠ g8 by omega) (.bool (decide (nl.num < 0))) (.slice za zn zc) (.slice zb zm zd); have hV := V_24.set3 (show g7 ≠ g8 by omega) (.bool (decide (nl.num < 0))) (.slice za zn zc) (.slice zb zm zd); have hS := S_24.set3 (show g9 ≠ g8 by omega) (.bool (decide (nl.num < 0))) (.slice za zn zc) (.slice zb zm zd); have hL := blk_put3 L_24 (.bool (decide (nl.num < 0))) (.slice za zn zc) (.slice zb zm zd); have hqv := QV_24.kp (kp_put3 (Below.refl _ _) g8 (.bool (decide (nl.num < 0))) (.slice za zn zc) (.slice zb zm zd)) (.inr (.inl rfl)); have hqa := QA_24.kp (kp_put3 (Below.refl _ _) g8 (.bool (decide (nl.num < 0))) (.slice za zn zc) (.slice zb zm zd)) (.inr (.inl rfl)); have hqb := QB_24.kp (kp_put3 (Below.refl _ _) g8 (.bool (decide (nl.num < 0))) (.slice za zn zc) (.slice zb zm zd)) (.inr (.inl rfl)); have hql := VQ.new (g7 := g7) (g8 := g8) (g9 := g9) (hO.set3 (show g8 < _ by omega) (.bool (decide (nl.num < 0))) (.slice za zn zc) (.slice zb zm zd)) (hO'.set3 (show g8 < _ by omega) (.bool (decide (nl.num < 0))) (.slice za zn zc) (.slice zb zm zd)) (by omega) (by omega) (by omega) (by omega) (by omega) (by omega); have hbl := Below.set3 hbel_24 (show w.heap.size ≤ g8 by omega) (.bool (decide (nl.num < 0))) (.slice za zn zc) (.slice zb zm zd); clear X_24 E_24 V_24 S_24 L_24 C_24 T_24 Q_24 Y_24 QV_24 QA_24 QB_24 QL_24 hO hO' hD hbel_24; go_wp2; go_roundw; (case rel => exact ⟨j + 1 + 1, nv, nl, v2a, v2n, v2c, v2b, v2m, v2d, za, zn, zc, zb, zm, zd, p2a, p2n, p2c, p2b, p2m, p2d, p2a', p2n', p2c', p2b', p2m', p2d', by omega, by omega, by go_num, hX, hE, hV, hL, hS, hqv, hql, hqa, hqb, qnv, qnl, hbl⟩); (case measure => (simp [intOf]; omega)))
      · skip
        have cS_11_0 : _ = some (Value.bool (decide ((V).num < 0))) := S_11.cell 0
        have fS_11_0 := S_11.free 0
        have cS_11_1 : _ = some (Value.slice pa pn pc) := S_11.cell 1
        have fS_11_1 := S_11.free 1
        have cS_11_2 : _ = some (Value.slice pb pm pd) := S_11.cell 2
        have fS_11_2 := S_11.free 2
        have cS_11_3 : _ = some (Value.bool (decide ((L).num < 0))) := S_11.cell 3
        have fS_11_3 := S_11.free 3
        have cS_11_4 : _ = some (Value.slice pa' pn' pc') := S_11.cell 4
        have fS_11_4 := S_11.free 4
        have cS_11_5 : _ = some (Value.slice pb' pm' pd') := S_11.cell 5
        have fS_11_5 := S_11.free 5
        have cV_11_0 : _ = some (Value.bool (decide ((V).num < 0))) := V_11.cell 0
        have fV_11_0 := V_11.free 0
        have cV_11_1 : _ = some (Value.slice va vn vc) := V_11.cell 1
        have fV_11_1 := V_11.free 1
        have cV_11_2 : _ = some (Value.slice vb vm vd) := V_11.cell 2
        have fV_11_2 := V_11.free 2
        go_wp2_with fail
        refine (qcmp (QA_11.rdQ hVq.out) (by omega) (QV_11.rdQ hVq.out) (by omega)).mono ?_
        rw [cmpQ_self]
        rintro e w12 ⟨rfl, hB⟩
        have hB_12 : Below wr.heap.size wr w12 := (bl.next hB)
        have X_12 := X_11.next hB_12
        have E_12 := E_11.next hB_12
        have V_12 := V_11.next hB_12
        have L_12 := L_11.next hB_12
        have S_12 := S_11.next hB_12
        have QV_12 := QV_11.below hB_12
        have QL_12 := QL_11.below hB_12
        have QA_12 := QA_11.below hB_12
        have QB_12 := QB_11.below hB_12
        have hbel_12 := hbel_11.next hB_12
        have hsz_12 := hB_12.size
        clear X_11 E_11 V_11 cV_11_0 fV_11_0 cV_11_1 fV_11_1 cV_11_2 fV_11_2 L_11 S_11 cS_11_0 fS_11_0 cS_11_1 fS_11_1 cS_11_2 fS_11_2 cS_11_3 fS_11_3 cS_11_4 fS_11_4 cS_11_5 fS_11_5 QV_11 QL_11 QA_11 QB_11 hbel_11 hB_12
        try clear hB
        have cS_12_0 : _ = some (Value.bool (decide ((V).num < 0))) := S_12.cell 0
        have fS_12_0 := S_12.free 0
        have cS_12_1 : _ = some (Value.slice pa pn pc) := S_12.cell 1
        have fS_12_1 := S_12.free 1
        have cS_12_2 : _ = some (Value.slice pb pm pd) := S_12.cell 2
        have fS_12_2 := S_12.free 2
        have cS_12_3 : _ = some (Value.bool (decide ((L).num < 0))) := S_12.cell 3
        have fS_12_3 := S_12.free 3
        have cS_12_4 : _ = some (Value.slice pa' pn' pc') := S_12.cell 4
        have fS_12_4 := S_12.free 4
        have cS_12_5 : _ = some (Value.slice pb' pm' pd') := S_12.cell 5
        have fS_12_5 := S_12.free 5
        have cL_12_0 : _ = some (Value.bool (decide ((L).num < 0))) := L_12.cell 0
        have fL_12_0 := L_12.free 0
        have cL_12_1 : _ = some (Value.slice ja jn jc) := L_12.cell 1
        have fL_12_1 := L_12.free 1
        have cL_12_2 : _ = some (Value.slice jb jm jd) := L_12.cell 2
        have fL_12_2 := L_12.free 2
        go_wp2_with fail
        refine (qcmp (QB_12.rdQ hLq.out) (by omega) (QL_12.rdQ hLq.out) (by omega)).mono ?_
        rw [cmpQ_self]
        rintro e w13 ⟨rfl, hB⟩
        have hB_13 : Below w12.heap.size w12 w13 := (bl.next hB)
        have X_13 := X_12.next hB_13
        have E_13 := E_12.next hB_13
        have V_13 := V_12.next hB_13
        have L_13 := L_12.next hB_13
        have S_13 := S_12.next hB_13
        have QV_13 := QV_12.below hB_13
        have QL_13 := QL_12.below hB_13
        have QA_13 := QA_12.below hB_13
        have QB_13 := QB_12.below hB_13
        have hbel_13 := hbel_12.next hB_13
        have hsz_13 := hB_13.size
        clear X_12 E_12 V_12 L_12 cL_12_0 fL_12_0 cL_12_1 fL_12_1 cL_12_2 fL_12_2 S_12 cS_12_0 fS_12_0 cS_12_1 fS_12_1 cS_12_2 fS_12_2 cS_12_3 fS_12_3 cS_12_4 fS_12_4 cS_12_5 fS_12_5 QV_12 QL_12 QA_12 QB_12 hbel_12 hB_13
        try clear hB
        go_wp2
        go_ret
        exact ⟨rfl, hbel_13⟩
    · skip
      have cS_11_0 : _ = some (Value.bool (decide ((V).num < 0))) := S_11.cell 0
      have fS_11_0 := S_11.free 0
      have cS_11_1 : _ = some (Value.slice pa pn pc) := S_11.cell 1
      have fS_11_1 := S_11.free 1
      have cS_11_2 : _ = some (Value.slice pb pm pd) := S_11.cell 2
      have fS_11_2 := S_11.free 2
      have cS_11_3 : _ = some (Value.bool (decide ((L).num < 0))) := S_11.cell 3
      have fS_11_3 := S_11.free 3
      have cS_11_4 : _ = some (Value.slice pa' pn' pc') := S_11.cell 4
      have fS_11_4 := S_11.free 4
      have cS_11_5 : _ = some (Value.slice pb' pm' pd') := S_11.cell 5
      have fS_11_5 := S_11.free 5
      have cV_11_0 : _ = some (Value.bool (decide ((V).num < 0))) := V_11.cell 0
      have fV_11_0 := V_11.free 0
      have cV_11_1 : _ = some (Value.slice va vn vc) := V_11.cell 1
      have fV_11_1 := V_11.free 1
      have cV_11_2 : _ = some (Value.slice vb vm vd) := V_11.cell 2
      have fV_11_2 := V_11.free 2
      go_wp2_with fail
      refine (qcmp (QA_11.rdQ hVq.out) (by omega) (QV_11.rdQ hVq.out) (by omega)).mono ?_
      rw [cmpQ_self]
      rintro e w12 ⟨rfl, hB⟩
      have hB_12 : Below wr.heap.size wr w12 := (bl.next hB)
      have X_12 := X_11.next hB_12
      have E_12 := E_11.next hB_12
      have V_12 := V_11.next hB_12
      have L_12 := L_11.next hB_12
      have S_12 := S_11.next hB_12
      have QV_12 := QV_11.below hB_12
      have QL_12 := QL_11.below hB_12
      have QA_12 := QA_11.below hB_12
      have QB_12 := QB_11.below hB_12
      have hbel_12 := hbel_11.next hB_12
      have hsz_12 := hB_12.size
      clear X_11 E_11 V_11 cV_11_0 fV_11_0 cV_11_1 fV_11_1 cV_11_2 fV_11_2 L_11 S_11 cS_11_0 fS_11_0 cS_11_1 fS_11_1 cS_11_2 fS_11_2 cS_11_3 fS_11_3 cS_11_4 fS_11_4 cS_11_5 fS_11_5 QV_11 QL_11 QA_11 QB_11 hbel_11 hB_12
      try clear hB
      have cS_12_0 : _ = some (Value.bool (decide ((V).num < 0))) := S_12.cell 0
      have fS_12_0 := S_12.free 0
      have cS_12_1 : _ = some (Value.slice pa pn pc) := S_12.cell 1
      have fS_12_1 := S_12.free 1
      have cS_12_2 : _ = some (Value.slice pb pm pd) := S_12.cell 2
      have fS_12_2 := S_12.free 2
      have cS_12_3 : _ = some (Value.bool (decide ((L).num < 0))) := S_12.cell 3
      have fS_12_3 := S_12.free 3
      have cS_12_4 : _ = some (Value.slice pa' pn' pc') := S_12.cell 4
      have fS_12_4 := S_12.free 4
      have cS_12_5 : _ = some (Value.slice pb' pm' pd') := S_12.cell 5
      have fS_12_5 := S_12.free 5
      have cL_12_0 : _ = some (Value.bool (decide ((L).num < 0))) := L_12.cell 0
      have fL_12_0 := L_12.free 0
      have cL_12_1 : _ = some (Value.slice ja jn jc) := L_12.cell 1
      have fL_12_1 := L_12.free 1
      have cL_12_2 : _ = some (Value.slice jb jm jd) := L_12.cell 2
      have fL_12_2 := L_12.free 2
      go_wp2_with fail
      refine (qcmp (QB_12.rdQ hLq.out) (by omega) (QL_12.rdQ hLq.out) (by omega)).mono ?_
      rw [cmpQ_self]
      rintro e w13 ⟨rfl, hB⟩
      have hB_13 : Below w12.heap.size w12 w13 := (bl.next hB)
      have X_13 := X_12.next hB_13
      have E_13 := E_12.next hB_13
      have V_13 := V_12.next hB_13
      have L_13 := L_12.next hB_13
      have S_13 := S_12.next hB_13
      have QV_13 := QV_12.below hB_13
      have QL_13 := QL_12.below hB_13
      have QA_13 := QA_12.below hB_13
      have QB_13 := QB_12.below hB_13
      have hbel_13 := hbel_12.next hB_13
      have hsz_13 := hB_13.size
      clear X_12 E_12 V_12 L_12 cL_12_0 fL_12_0 cL_12_1 fL_12_1 cL_12_2 fL_12_2 S_12 cS_12_0 fS_12_0 cS_12_1 fS_12_1 cS_12_2 fS_12_2 cS_12_3 fS_12_3 cS_12_4 fS_12_4 cS_12_5 fS_12_5 QV_12 QL_12 QA_12 QB_12 hbel_12 hB_13
      try clear hB
      go_wp2
      go_ret
      exact ⟨rfl, hbel_13⟩

end Go.Proofs.Ytnbhfgpnjhbkaaa
