/- WALKS OF FRACTIONS, 14: two answers alike; an answer in lowest terms. -/
import Derived.Test.YtenmjgnhneofjaaQm
namespace Go.Proofs.Ytenmjgnhneofjaa
set_option linter.unusedVariables false
set_option linter.unusedSimpArgs false
open Go.ChangeShapes Go.WideShapes Go.ChangeAt Go.RowKit Go.NatP

theorem Own.set_lt3 {B N : Nat} {w : World} {a : Option Addr} {n c : Nat} {l : List Nat} (h : Own B w a n c l) (hl : LtB a N) {g : Nat} (hg : N ≤ g) (v0 v1 v2 : Value) : Own B (((w.setCell ⟨g, 0, none⟩ v0).setCell ⟨g, 1, none⟩ v1).setCell ⟨g, 2, none⟩ v2) a n c l :=
  ((h.set_other v0 (fun g' e => by have := hl g' e; omega)).set_other v1 (fun g' e => by have := hl g' e; omega)).set_other v2 (fun g' e => by have := hl g' e; omega)
theorem rdq_of {K : Nat} {W : World} {a b : Option Addr} {n c m d : Nat} {l k : List Nat} (s : Bool) (h : Rd W a n c l) (hn : n ≤ K) (h' : Rd W b m d k) (hm : m ≤ K) : RdQ K W s a n c b m d (qv s (val l) (val k)) :=
  ⟨_, _, h.rdN hn, h'.rdN hm, rfl⟩

set_option maxRecDepth 100000 in
set_option maxHeartbeats 4000000 in
theorem falike {w : World} {a1 b1 : Option Addr} {n1 c1 m1 d1 : Nat} {x y : Rat} {a2 b2 : Option Addr} {n2 c2 m2 d2 : Nat} {K B1 B2 B3 B4 : Nat} (o1 : Own B1 w a1 n1 c1 (lm x.num.natAbs)) (p1 : Own B2 w b1 m1 d1 (lm x.den)) (o2 : Own B3 w a2 n2 c2 (lm y.num.natAbs)) (p2 : Own B4 w b2 m2 d2 (lm y.den)) (hs : QS x K) (hK : K ≤ 1000000) (he : x = y) :
    Calls Try.prog 41 #[.agg #[.bool (decide (x.num < 0)), .slice a1 n1 c1, .slice b1 m1 d1], .agg #[.bool (decide (y.num < 0)), .slice a2 n2 c2, .slice b2 m2 d2]] w (fun e w' => e = .returned (.bool true) ∧ Below w.heap.size w w') := by
  subst he
  have hs1 := hid hs.1
  have hs2 := hid hs.2
  have hN1 := o1.rdN hs.1
  have hN2 := o2.rdN hs.1
  have hD1 := p1.rdN hs.2
  have hD2 := p2.rdN hs.2
  have hQ1 := o1.rdQ p1 hs
  have hQ2 := o2.rdQ p2 hs
  clear o1 o2 p1 p2 hs
  have hc1 := hid (cmpI_eq (show x.num.natAbs = x.num.natAbs from rfl))
  have hc2 := hid (cmpI_eq (show x.den = x.den from rfl))
  have hc3 := hid (cmpQ_self x)
  generalize decide (x.num < 0) = sg at *
  have hent := ent2 w #[Value.bool sg, Value.slice a1 n1 c1, Value.slice b1 m1 d1] #[Value.bool sg, Value.slice a2 n2 c2, Value.slice b2 m2 d2] 32 32
  go_enter Try.func41, Try.ntmps41
  go_wp2_with fail
  generalize ((w.alloc (.cells #[Value.bool sg, Value.slice a1 n1 c1, Value.slice b1 m1 d1] 32)).alloc (.cells #[Value.bool sg, Value.slice a2 n2 c2, Value.slice b2 m2 d2] 32)) = W0 at hent ⊢
  obtain ⟨X_0, Y_0, hbel_0, hsz_0⟩ := hent
  have cX_0_0 : _ = some (Value.bool sg) := X_0.cell 0
  have cX_0_1 : _ = some (Value.slice a1 n1 c1) := X_0.cell 1
  have cX_0_2 : _ = some (Value.slice b1 m1 d1) := X_0.cell 2
  have cY_0_0 : _ = some (Value.bool sg) := Y_0.cell 0
  have cY_0_1 : _ = some (Value.slice a2 n2 c2) := Y_0.cell 1
  have cY_0_2 : _ = some (Value.slice b2 m2 d2) := Y_0.cell 2
  have hN1_0 := hN1.below hbel_0
  clear hN1
  have hN2_0 := hN2.below hbel_0
  clear hN2
  have hD1_0 := hD1.below hbel_0
  clear hD1
  have hD2_0 := hD2.below hbel_0
  clear hD2
  have hQ1_0 := hQ1.below hbel_0
  clear hQ1
  have hQ2_0 := hQ2.below hbel_0
  clear hQ2
  go_wp2_with fail
  refine (ncmpR hN1_0 hN2_0).mono ?_
  rw [hc1.out]
  rintro e w1 ⟨rfl, hB⟩
  have hB_1 : Below W0.heap.size W0 w1 := (by first | exact hB | exact below_drew hB | exact bel_alloc hB | exact below_drew (bel_alloc hB) | exact bel_alloc (below_drew hB) | exact bel_alloc (bel_alloc hB))
  have X_1 := X_0.next hB_1
  have cX_1_0 : _ = some (Value.bool sg) := X_1.cell 0
  have cX_1_1 : _ = some (Value.slice a1 n1 c1) := X_1.cell 1
  have cX_1_2 : _ = some (Value.slice b1 m1 d1) := X_1.cell 2
  have Y_1 := Y_0.next hB_1
  have cY_1_0 : _ = some (Value.bool sg) := Y_1.cell 0
  have cY_1_1 : _ = some (Value.slice a2 n2 c2) := Y_1.cell 1
  have cY_1_2 : _ = some (Value.slice b2 m2 d2) := Y_1.cell 2
  have hN1_1 := hN1_0.below hB_1
  have hN2_1 := hN2_0.below hB_1
  have hD1_1 := hD1_0.below hB_1
  have hD2_1 := hD2_0.below hB_1
  have hQ1_1 := hQ1_0.below hB_1
  have hQ2_1 := hQ2_0.below hB_1
  have hbel_1 := hbel_0.next hB_1
  have hsz_1 := hB_1.size
  clear X_0 cX_0_0 cX_0_1 cX_0_2 Y_0 cY_0_0 cY_0_1 cY_0_2 hN1_0 hN2_0 hD1_0 hD2_0 hQ1_0 hQ2_0 hbel_0 hB_1
  try clear hB
  go_wp2_with fail
  refine (ncmpR hD1_1 hD2_1).mono ?_
  rw [hc2.out]
  rintro e w2 ⟨rfl, hB⟩
  have hB_2 : Below w1.heap.size w1 w2 := (by first | exact hB | exact below_drew hB | exact bel_alloc hB | exact below_drew (bel_alloc hB) | exact bel_alloc (below_drew hB) | exact bel_alloc (bel_alloc hB))
  have X_2 := X_1.next hB_2
  have cX_2_0 : _ = some (Value.bool sg) := X_2.cell 0
  have cX_2_1 : _ = some (Value.slice a1 n1 c1) := X_2.cell 1
  have cX_2_2 : _ = some (Value.slice b1 m1 d1) := X_2.cell 2
  have Y_2 := Y_1.next hB_2
  have cY_2_0 : _ = some (Value.bool sg) := Y_2.cell 0
  have cY_2_1 : _ = some (Value.slice a2 n2 c2) := Y_2.cell 1
  have cY_2_2 : _ = some (Value.slice b2 m2 d2) := Y_2.cell 2
  have hN1_2 := hN1_1.below hB_2
  have hN2_2 := hN2_1.below hB_2
  have hD1_2 := hD1_1.below hB_2
  have hD2_2 := hD2_1.below hB_2
  have hQ1_2 := hQ1_1.below hB_2
  have hQ2_2 := hQ2_1.below hB_2
  have hbel_2 := hbel_1.next hB_2
  have hsz_2 := hB_2.size
  clear X_1 cX_1_0 cX_1_1 cX_1_2 Y_1 cY_1_0 cY_1_1 cY_1_2 hN1_1 hN2_1 hD1_1 hD2_1 hQ1_1 hQ2_1 hbel_1 hB_2
  try clear hB
  go_wp2_with fail
  refine (qcmp hQ1_2 hK hQ2_2 hK).mono ?_
  rw [hc3.out]
  rintro e w3 ⟨rfl, hB⟩
  have hB_3 : Below w2.heap.size w2 w3 := (by first | exact hB | exact below_drew hB | exact bel_alloc hB | exact below_drew (bel_alloc hB) | exact bel_alloc (below_drew hB) | exact bel_alloc (bel_alloc hB))
  have X_3 := X_2.next hB_3
  have cX_3_0 : _ = some (Value.bool sg) := X_3.cell 0
  have cX_3_1 : _ = some (Value.slice a1 n1 c1) := X_3.cell 1
  have cX_3_2 : _ = some (Value.slice b1 m1 d1) := X_3.cell 2
  have Y_3 := Y_2.next hB_3
  have cY_3_0 : _ = some (Value.bool sg) := Y_3.cell 0
  have cY_3_1 : _ = some (Value.slice a2 n2 c2) := Y_3.cell 1
  have cY_3_2 : _ = some (Value.slice b2 m2 d2) := Y_3.cell 2
  have hN1_3 := hN1_2.below hB_3
  have hN2_3 := hN2_2.below hB_3
  have hD1_3 := hD1_2.below hB_3
  have hD2_3 := hD2_2.below hB_3
  have hQ1_3 := hQ1_2.below hB_3
  have hQ2_3 := hQ2_2.below hB_3
  have hbel_3 := hbel_2.next hB_3
  have hsz_3 := hB_3.size
  clear X_2 cX_2_0 cX_2_1 cX_2_2 Y_2 cY_2_0 cY_2_1 cY_2_2 hN1_2 hN2_2 hD1_2 hD2_2 hQ1_2 hQ2_2 hbel_2 hB_3
  try clear hB
  go_wp2
  go_ret
  exact ⟨rfl, hbel_3⟩

set_option maxRecDepth 100000 in
set_option maxHeartbeats 4000000 in
theorem flowest0 {w : World} {a1 b1 : Option Addr} {n1 c1 m1 d1 : Nat} {x : Rat} {K B1 B2 : Nat} (o1 : Own B1 w a1 n1 c1 (lm x.num.natAbs)) (p1 : Own B2 w b1 m1 d1 (lm x.den)) (hs : QS x K) (hK : K ≤ 1000000) (hz : x.num = 0) :
    Calls Try.prog 40 #[.agg #[.bool (decide (x.num < 0)), .slice a1 n1 c1, .slice b1 m1 d1]] w (fun e w' => e = .returned (.bool true) ∧ Below w.heap.size w w') := by
  have hN1 := o1.rdN hs.1
  have hD1 := p1.rdN hs.2
  have hg : Nat.gcd x.num.natAbs x.den = 1 := x.reduced
  have hgh := hid hg
  have hbm := p1.bnd
  have hbn := o1.bnd
  have hd0 := x.den_nz
  obtain ⟨gb, rfl⟩ : ∃ g, b1 = some ⟨g, 0, none⟩ := by rcases p1.cases with ⟨_, _, _, h⟩ | ⟨g, h, _⟩; exact absurd (lm_eq_nil.1 h) hd0; exact ⟨g, h⟩
  have hm0 : 0 < m1 := by have := p1.len; have := lm_len_pos (v := x.den); omega
  have htop : (lm x.den).getD (m1 - 1) 0 ≠ 0 := by have := p1.len; rw [← this]; exact lm_last' hd0
  have hct := p1.cell (show m1 - 1 < m1 by omega)
  have htl := (lim_lm x.den).getD (m1 - 1)
  have hmm : ((m1 : Int) == 0) = false := by simp; omega
  have hm1 : (m1 : Int) - 1 = ((m1 - 1 : Nat) : Int) := by omega
  have hw1 : IntKind.i64.wrap ((m1 : Int) - 1) = ((m1 - 1 : Nat) : Int) := by rw [IntKind.wrap_i64]; omega
  have hn0 : n1 = 0 := by have := o1.len; rw [hz] at this; exact this.symm
  subst hn0
  have hsg : decide (x.num < 0) = false := by rw [hz]; rfl
  rw [hsg]
  have hltB := hid (p1.lt.2)
  generalize (lm x.den).getD (m1 - 1) 0 = T1 at *
  have ht1 : ((T1 : Int) == 0) = false := by simp; omega
  have HC1 := hid (fun W (h : Below w.heap.size w W) => (h.cell (p := ⟨gb, m1 - 1, none⟩) hltB.out).trans hct)
  clear hct o1 p1
  clear hg hd0 hs
  have hent := ent1 w #[Value.bool false, Value.slice a1 0 c1, Value.slice (some ⟨gb, 0, none⟩) m1 d1] 32
  go_enter Try.func40, Try.ntmps40
  go_wp2_with fail
  generalize (w.alloc (.cells #[Value.bool false, Value.slice a1 0 c1, Value.slice (some ⟨gb, 0, none⟩) m1 d1] 32)) = W0 at hent ⊢
  obtain ⟨X_0, hbel_0, hsz_0⟩ := hent
  have cX_0_0 : _ = some (Value.bool false) := X_0.cell 0
  have cX_0_1 : _ = some (Value.slice a1 0 c1) := X_0.cell 1
  have cX_0_2 : _ = some (Value.slice (some ⟨gb, 0, none⟩) m1 d1) := X_0.cell 2
  have hN1_0 := hN1.below hbel_0
  clear hN1
  have hD1_0 := hD1.below hbel_0
  clear hD1
  go_wp2_with fail
  refine (ngcdR hN1_0 hD1_0 (by omega) (by omega)).mono ?_
  rw [hgh.out, lm_one]
  rintro e w1 ⟨ra, rn, rc, rfl, hO, hB⟩
  have hB_1 : Below W0.heap.size W0 w1 := (by first | exact hB | exact below_drew hB | exact bel_alloc hB | exact below_drew (bel_alloc hB) | exact bel_alloc (below_drew hB) | exact bel_alloc (bel_alloc hB))
  have X_1 := X_0.next hB_1
  have cX_1_0 : _ = some (Value.bool false) := X_1.cell 0
  have cX_1_1 : _ = some (Value.slice a1 0 c1) := X_1.cell 1
  have cX_1_2 : _ = some (Value.slice (some ⟨gb, 0, none⟩) m1 d1) := X_1.cell 2
  have hN1_1 := hN1_0.below hB_1
  have hD1_1 := hD1_0.below hB_1
  have hbel_1 := hbel_0.next hB_1
  have hsz_1 := hB_1.size
  clear X_0 cX_0_0 cX_0_1 cX_0_2 hN1_0 hD1_0 hbel_0 hB_1
  have O_1 := hO
  have ltO := hO.ltB
  clear hO
  try clear hB
  have hrn : rn = 1 := O_1.len.symm
  subst hrn
  obtain ⟨gr, rfl⟩ : ∃ g, ra = some ⟨g, 0, none⟩ := by rcases O_1.cases with ⟨_, h, _⟩ | ⟨g, h, _⟩; cases h; exact ⟨g, h⟩
  have hcr := O_1.cell (show 0 < 1 by omega)
  have hcr' : _ = some (Value.int .u32 ((1 : Nat) : Int)) := hcr
  clear hcr
  have hcb := HC1.out _ hbel_1
  have hbO := O_1.bnd
  go_wp2
  go_ret
  exact ⟨rfl, hbel_1⟩

set_option maxRecDepth 100000 in
set_option maxHeartbeats 4000000 in
theorem flowest1 {w : World} {a1 b1 : Option Addr} {n1 c1 m1 d1 : Nat} {x : Rat} {K B1 B2 : Nat} (o1 : Own B1 w a1 n1 c1 (lm x.num.natAbs)) (p1 : Own B2 w b1 m1 d1 (lm x.den)) (hs : QS x K) (hK : K ≤ 1000000) (hz : x.num ≠ 0) :
    Calls Try.prog 40 #[.agg #[.bool (decide (x.num < 0)), .slice a1 n1 c1, .slice b1 m1 d1]] w (fun e w' => e = .returned (.bool true) ∧ Below w.heap.size w w') := by
  have hN1 := o1.rdN hs.1
  have hD1 := p1.rdN hs.2
  have hg : Nat.gcd x.num.natAbs x.den = 1 := x.reduced
  have hgh := hid hg
  have hbm := p1.bnd
  have hbn := o1.bnd
  have hd0 := x.den_nz
  obtain ⟨gb, rfl⟩ : ∃ g, b1 = some ⟨g, 0, none⟩ := by rcases p1.cases with ⟨_, _, _, h⟩ | ⟨g, h, _⟩; exact absurd (lm_eq_nil.1 h) hd0; exact ⟨g, h⟩
  have hm0 : 0 < m1 := by have := p1.len; have := lm_len_pos (v := x.den); omega
  have htop : (lm x.den).getD (m1 - 1) 0 ≠ 0 := by have := p1.len; rw [← this]; exact lm_last' hd0
  have hct := p1.cell (show m1 - 1 < m1 by omega)
  have htl := (lim_lm x.den).getD (m1 - 1)
  have hmm : ((m1 : Int) == 0) = false := by simp; omega
  have hm1 : (m1 : Int) - 1 = ((m1 - 1 : Nat) : Int) := by omega
  have hw1 : IntKind.i64.wrap ((m1 : Int) - 1) = ((m1 - 1 : Nat) : Int) := by rw [IntKind.wrap_i64]; omega
  obtain ⟨ga, rfl⟩ : ∃ g, a1 = some ⟨g, 0, none⟩ := by rcases o1.cases with ⟨_, _, _, h⟩ | ⟨g, h, _⟩; exact absurd (lm_eq_nil.1 h) (by omega); exact ⟨g, h⟩
  have hn0 : 0 < n1 := by have := o1.len; have := lm_len_pos (v := x.num.natAbs); omega
  have htop2 : (lm x.num.natAbs).getD (n1 - 1) 0 ≠ 0 := by have := o1.len; rw [← this]; exact lm_last' (by omega)
  have hct2 := o1.cell (show n1 - 1 < n1 by omega)
  have htl2 := (lim_lm x.num.natAbs).getD (n1 - 1)
  have hnn : ((n1 : Int) == 0) = false := by simp; omega
  have hn1 : (n1 : Int) - 1 = ((n1 - 1 : Nat) : Int) := by omega
  have hw2 : IntKind.i64.wrap ((n1 : Int) - 1) = ((n1 - 1 : Nat) : Int) := by rw [IntKind.wrap_i64]; omega
  have hltA := hid (o1.lt.2)
  generalize (lm x.num.natAbs).getD (n1 - 1) 0 = T2 at *
  have ht2 : ((T2 : Int) == 0) = false := by simp; omega
  have hltB := hid (p1.lt.2)
  generalize (lm x.den).getD (m1 - 1) 0 = T1 at *
  have ht1 : ((T1 : Int) == 0) = false := by simp; omega
  have HC1 := hid (fun W (h : Below w.heap.size w W) => (h.cell (p := ⟨gb, m1 - 1, none⟩) hltB.out).trans hct)
  have HC2 := hid (fun W (h : Below w.heap.size w W) => (h.cell (p := ⟨ga, n1 - 1, none⟩) hltA.out).trans hct2)
  clear hct hct2 o1 p1 hg hd0 hs
  generalize decide (x.num < 0) = sg at *
  have hent := ent1 w #[Value.bool sg, Value.slice (some ⟨ga, 0, none⟩) n1 c1, Value.slice (some ⟨gb, 0, none⟩) m1 d1] 32
  go_enter Try.func40, Try.ntmps40
  go_wp2_with fail
  generalize (w.alloc (.cells #[Value.bool sg, Value.slice (some ⟨ga, 0, none⟩) n1 c1, Value.slice (some ⟨gb, 0, none⟩) m1 d1] 32)) = W0 at hent ⊢
  obtain ⟨X_0, hbel_0, hsz_0⟩ := hent
  have cX_0_0 : _ = some (Value.bool sg) := X_0.cell 0
  have cX_0_1 : _ = some (Value.slice (some ⟨ga, 0, none⟩) n1 c1) := X_0.cell 1
  have cX_0_2 : _ = some (Value.slice (some ⟨gb, 0, none⟩) m1 d1) := X_0.cell 2
  have hN1_0 := hN1.below hbel_0
  clear hN1
  have hD1_0 := hD1.below hbel_0
  clear hD1
  go_wp2_with fail
  refine (ngcdR hN1_0 hD1_0 (by omega) (by omega)).mono ?_
  rw [hgh.out, lm_one]
  rintro e w1 ⟨ra, rn, rc, rfl, hO, hB⟩
  have hB_1 : Below W0.heap.size W0 w1 := (by first | exact hB | exact below_drew hB | exact bel_alloc hB | exact below_drew (bel_alloc hB) | exact bel_alloc (below_drew hB) | exact bel_alloc (bel_alloc hB))
  have X_1 := X_0.next hB_1
  have cX_1_0 : _ = some (Value.bool sg) := X_1.cell 0
  have cX_1_1 : _ = some (Value.slice (some ⟨ga, 0, none⟩) n1 c1) := X_1.cell 1
  have cX_1_2 : _ = some (Value.slice (some ⟨gb, 0, none⟩) m1 d1) := X_1.cell 2
  have hN1_1 := hN1_0.below hB_1
  have hD1_1 := hD1_0.below hB_1
  have hbel_1 := hbel_0.next hB_1
  have hsz_1 := hB_1.size
  clear X_0 cX_0_0 cX_0_1 cX_0_2 hN1_0 hD1_0 hbel_0 hB_1
  have O_1 := hO
  have ltO := hO.ltB
  clear hO
  try clear hB
  have hrn : rn = 1 := O_1.len.symm
  subst hrn
  obtain ⟨gr, rfl⟩ : ∃ g, ra = some ⟨g, 0, none⟩ := by rcases O_1.cases with ⟨_, h, _⟩ | ⟨g, h, _⟩; cases h; exact ⟨g, h⟩
  have hcr := O_1.cell (show 0 < 1 by omega)
  have hcr' : _ = some (Value.int .u32 ((1 : Nat) : Int)) := hcr
  clear hcr
  have hcb := HC1.out _ hbel_1
  have hca := HC2.out _ hbel_1
  have hbO := O_1.bnd
  go_wp2
  go_ret
  exact ⟨rfl, hbel_1⟩

theorem flowest {w : World} {a1 b1 : Option Addr} {n1 c1 m1 d1 : Nat} {x : Rat} {K B1 B2 : Nat} (o1 : Own B1 w a1 n1 c1 (lm x.num.natAbs)) (p1 : Own B2 w b1 m1 d1 (lm x.den)) (hs : QS x K) (hK : K ≤ 1000000) : Calls Try.prog 40 #[.agg #[.bool (decide (x.num < 0)), .slice a1 n1 c1, .slice b1 m1 d1]] w (fun e w' => e = .returned (.bool true) ∧ Below w.heap.size w w') := by
  by_cases h : x.num = 0
  · exact flowest0 o1 p1 hs hK h
  · exact flowest1 o1 p1 hs hK h

end Go.Proofs.Ytenmjgnhneofjaa
