/- MEMORY, 4: numbers as values (natural, whole, fractions): what can be read, what is answered; the contracts of layers 1 and 2 over these. -/
import Derived.Test.YtennilapmcgnbaaAw
import Derived.Deep.DeepCutAuto
import Derived.Test.YtennilapmcgnbaaPP
namespace Go.Proofs.Ytennilapmcgnbaa
set_option linter.unusedVariables false
open Go.ChangeShapes Go.WideShapes Go.ChangeAt Go.RowKit Go.NatP

/-- a world that is another one, drawn from or with new blocks -/
class BW (W W' : World) : Prop where
  go : Below W.heap.size W W'
instance bwRefl (W : World) : BW W W := ⟨Below.refl _ _⟩
instance bwDrew (W V : World) [h : BW W V] : BW W V.drew := ⟨h.go.drew⟩
instance bwAlloc (W V : World) (o : Obj) [h : BW W V] : BW W (V.alloc o) := ⟨h.go.alloc h.go.size o⟩
theorem bl {W W' : World} [h : BW W W'] : Below W.heap.size W W' := h.go
/-- a natural number that can be read, in at most k limbs -/
def RdN (k : Nat) (W : World) (a : Option Addr) (n c : Nat) (v : Nat) : Prop := ∃ l, Rd W a n c l ∧ val l = v ∧ n ≤ k
/-- a whole number that can be read -/
def RdZ (k : Nat) (W : World) (s : Bool) (a : Option Addr) (n c : Nat) (z : Int) : Prop := ∃ v, RdN k W a n c v ∧ zv s v = z
/-- a fraction that can be read -/
def RdQ (k : Nat) (W : World) (s : Bool) (a : Option Addr) (n c : Nat) (b : Option Addr) (m d : Nat) (q : Rat) : Prop := ∃ v u, RdN k W a n c v ∧ RdN k W b m d u ∧ qv s v u = q
section
variable {k j B : Nat} {W W' : World} {s : Bool} {a b : Option Addr} {n c m d v u : Nat} {z : Int} {q : Rat} {l : List Nat}
theorem Rd.rdN (h : Rd W a n c l) (hn : n ≤ k) : RdN k W a n c (val l) := ⟨l, h, rfl, hn⟩
theorem RdN.below (h : RdN k W a n c v) (hB : Below W.heap.size W W') : RdN k W' a n c v := by obtain ⟨l, h, r⟩ := h; exact ⟨l, h.below hB, r⟩
theorem RdN.mono (h : RdN k W a n c v) (hj : k ≤ j) : RdN j W a n c v := by obtain ⟨l, h, e, hn⟩ := h; exact ⟨l, h, e, by omega⟩
theorem RdN.sz (h : RdN k W a n c v) : Sz v k := by obtain ⟨l, h, rfl, hn⟩ := h; exact h.lim.sz (by rw [h.len]; exact hn)
theorem RdN.len (h : RdN k W a n c v) : n ≤ k := by obtain ⟨l, h, rfl, hn⟩ := h; exact hn
theorem RdN.toZ (h : RdN k W a n c v) : RdZ k W s a n c (zv s v) := ⟨v, h, rfl⟩
theorem RdN.toI (h : RdN k W a n c v) : RdZ k W false a n c (v : Int) := ⟨v, h, rfl⟩
theorem RdZ.below (h : RdZ k W s a n c z) (hB : Below W.heap.size W W') : RdZ k W' s a n c z := by obtain ⟨v, h, r⟩ := h; exact ⟨v, h.below hB, r⟩
theorem RdZ.mono (h : RdZ k W s a n c z) (hj : k ≤ j) : RdZ j W s a n c z := by obtain ⟨l, h, e⟩ := h; exact ⟨l, h.mono hj, e⟩
theorem RdZ.sz (h : RdZ k W s a n c z) : Sz z.natAbs k := by obtain ⟨v, h, rfl⟩ := h; rw [zv_abs]; exact h.sz
theorem RdQ.below (h : RdQ k W s a n c b m d q) (hB : Below W.heap.size W W') : RdQ k W' s a n c b m d q := by obtain ⟨v, u, h, h', r⟩ := h; exact ⟨v, u, h.below hB, h'.below hB, r⟩
theorem RdQ.mono (h : RdQ k W s a n c b m d q) (hj : k ≤ j) : RdQ j W s a n c b m d q := by obtain ⟨v, u, h, h', r⟩ := h; exact ⟨v, u, h.mono hj, h'.mono hj, r⟩
theorem RdQ.qs (h : RdQ k W s a n c b m d q) (hk : 1 ≤ k) : QS q k := by obtain ⟨v, u, h, h', rfl⟩ := h; exact QS.qv hk h.sz h'.sz
theorem Own.rdN (h : Own B W a n c (lm v)) (hs : Sz v k) : RdN k W a n c v := ⟨_, h.rd, val_lm v, by have := h.len; have := hs.len; omega⟩
theorem Own.rdZ (h : Own B W a n c (lm z.natAbs)) (hs : Sz z.natAbs k) : RdZ k W (decide (z < 0)) a n c z := ⟨_, h.rdN hs, zv_self z⟩
theorem Own.rdQ {B' : Nat} (h : Own B W a n c (lm q.num.natAbs)) (h' : Own B' W b m d (lm q.den)) (hs : QS q k) : RdQ k W (decide (q.num < 0)) a n c b m d q :=
  ⟨_, _, h.rdN hs.1, h'.rdN hs.2, by have := qv_self q; rwa [val_lm, val_lm] at this⟩
theorem RdQ.z1 (h : RdQ k W s a n c b m d q) : ∃ v, RdN k W a n c v := by obtain ⟨v, u, h, _⟩ := h; exact ⟨v, h⟩
theorem bel_alloc {w1 : World} {o : Obj} (h : Below (W.alloc o).heap.size (W.alloc o) w1) : Below W.heap.size W w1 := ((Below.refl _ W).alloc (Nat.le_refl _) o).next h
end

/-- a slice begins in a block before N, or in none -/
def LtB (a : Option Addr) (N : Nat) : Prop := ∀ g, a = some ⟨g, 0, none⟩ → g < N
theorem Own.ltB {B : Nat} {w : World} {a : Option Addr} {n c : Nat} {l : List Nat} (h : Own B w a n c l) : LtB a w.heap.size := fun g e => (h.lt' g e).2
theorem LtB.diff {a b : Option Addr} {N C : Nat} {w : World} {n c : Nat} {l : List Nat} (h : LtB a N) (h' : Own C w b n c l) (hC : N ≤ C) : Diff b a := fun g e e2 => by
  have h1 := h g e2
  have h2 := h'.lt' g e
  omega

/-- ONE FRACTION, normal, its limbs the call's own. -/
def RetQ (w : World) (q : Rat) (e : Ending) (w' : World) : Prop :=
  ∃ a n c b m d, e = .returned (.agg #[.bool (decide (q.num < 0)), .slice a n c, .slice b m d]) ∧ Own w.heap.size w' a n c (lm q.num.natAbs) ∧ Own w.heap.size w' b m d (lm q.den) ∧ Diff a b ∧ Below w.heap.size w w'
/-- what stands in an answer beside an error -/
def qsg (q : Rat) (er : Int) : Bool := if er = 0 then decide (q.num < 0) else false
def qnl (q : Rat) (er : Int) : List Nat := if er = 0 then lm q.num.natAbs else []
def qdl (q : Rat) (er : Int) : List Nat := if er = 0 then lm q.den else []
theorem qsg_ok (q : Rat) : qsg q 0 = decide (q.num < 0) := rfl
theorem qnl_ok (q : Rat) : qnl q 0 = lm q.num.natAbs := rfl
theorem qdl_ok (q : Rat) : qdl q 0 = lm q.den := rfl
theorem q_err (q : Rat) {er : Int} (h : er ≠ 0) : qsg q er = false ∧ qnl q er = [] ∧ qdl q er = [] := by unfold qsg qnl qdl; simp [h]
/-- A FRACTION AND AN ERROR. -/
def RetQE (w : World) (q : Rat) (er : Int) (e : Ending) (w' : World) : Prop :=
  ∃ a n c b m d, e = .returned (.tuple #[.agg #[.bool (qsg q er), .slice a n c, .slice b m d], .int .i64 er]) ∧ Own w.heap.size w' a n c (qnl q er) ∧ Own w.heap.size w' b m d (qdl q er) ∧ Diff a b ∧ Below w.heap.size w w'

theorem Own.set3 {B : Nat} {w : World} {a : Option Addr} {n c : Nat} {l : List Nat} (h : Own B w a n c l) {g : Nat} (hg : g < B) (v0 v1 v2 : Value) : Own B (((w.setCell ⟨g, 0, none⟩ v0).setCell ⟨g, 1, none⟩ v1).setCell ⟨g, 2, none⟩ v2) a n c l :=
  (h.set2 hg v0 v1).set_other v2 (fun g' e => by have := h.lt' g' e; omega)
theorem Below.set3 {B g : Nat} {a w : World} (h : Below B a w) (hg : B ≤ g) (v0 v1 v2 : Value) : Below B a (((w.setCell ⟨g, 0, none⟩ v0).setCell ⟨g, 1, none⟩ v1).setCell ⟨g, 2, none⟩ v2) := (Below.set2 h hg v0 v1).setCell (p := ⟨g, 2, none⟩) hg v2
theorem Blk.set3 {w : World} {g g' : Nat} {cs : Array Value} (h : Blk w g' cs) (hne : g' ≠ g) (v0 v1 v2 : Value) : Blk (((w.setCell ⟨g, 0, none⟩ v0).setCell ⟨g, 1, none⟩ v1).setCell ⟨g, 2, none⟩ v2) g' cs :=
  ((h.set_other hne).set_other hne).set_other hne
theorem cell_set3 {w : World} {g g' k : Nat} (h : g' ≠ g) (v0 v1 v2 : Value) : (((w.setCell ⟨g, 0, none⟩ v0).setCell ⟨g, 1, none⟩ v1).setCell ⟨g, 2, none⟩ v2).cell? ⟨g', k, none⟩ = w.cell? ⟨g', k, none⟩ :=
  World.cell?_of_block ((heap_setCell_other _ _ g' v2 h).trans ((heap_setCell_other _ _ g' v1 h).trans (heap_setCell_other _ _ g' v0 h)))
/-- the answer laid into its block -/
theorem retq_set {w w2 : World} {q : Rat} {B g : Nat} {a b : Option Addr} {n c m d : Nat} {v0 v1 v2 : Value} (hO : Own B w2 a n c (lm q.num.natAbs)) (hO2 : Own B w2 b m d (lm q.den)) (hD : Diff a b) (hB : Below w.heap.size w w2) (hg : w.heap.size ≤ g) (hgB : g < B) :
    RetQ w q (.returned (.agg #[.bool (decide (q.num < 0)), .slice a n c, .slice b m d])) (((w2.setCell ⟨g, 0, none⟩ v0).setCell ⟨g, 1, none⟩ v1).setCell ⟨g, 2, none⟩ v2) :=
  ⟨a, n, c, b, m, d, rfl, (hO.set3 hgB _ _ _).mono (by omega), (hO2.set3 hgB _ _ _).mono (by omega), hD, Below.set3 hB hg _ _ _⟩
/-- the same, its number and its denominator said otherwise -/
theorem retq_set' {w w2 : World} {q : Rat} {z : Int} {v B B' g : Nat} {a b : Option Addr} {n c m d : Nat} {v0 v1 v2 : Value} (hz : q.num = z) (hv : q.den = v) (hO : Own B w2 a n c (lm z.natAbs)) (hO2 : Own B' w2 b m d (lm v)) (hD : Diff a b) (hB : Below w.heap.size w w2) (hg : w.heap.size ≤ g) (hgB : g < B) (hgB' : g < B') :
    RetQ w q (.returned (.agg #[.bool (decide (z < 0)), .slice a n c, .slice b m d])) (((w2.setCell ⟨g, 0, none⟩ v0).setCell ⟨g, 1, none⟩ v1).setCell ⟨g, 2, none⟩ v2) := by
  subst hz hv
  exact ⟨a, n, c, b, m, d, rfl, (hO.set3 hgB _ _ _).mono (by omega), (hO2.set3 hgB' _ _ _).mono (by omega), hD, Below.set3 hB hg _ _ _⟩
theorem retqe_set {w w2 : World} {q : Rat} {er : Int} {B g : Nat} {a b : Option Addr} {n c m d : Nat} {v0 v1 v2 : Value} (hO : Own B w2 a n c (qnl q er)) (hO2 : Own B w2 b m d (qdl q er)) (hD : Diff a b) (hB : Below w.heap.size w w2) (hg : w.heap.size ≤ g) (hgB : g < B) :
    RetQE w q er (.returned (.tuple #[.agg #[.bool (qsg q er), .slice a n c, .slice b m d], .int .i64 er])) (((w2.setCell ⟨g, 0, none⟩ v0).setCell ⟨g, 1, none⟩ v1).setCell ⟨g, 2, none⟩ v2) :=
  ⟨a, n, c, b, m, d, rfl, (hO.set3 hgB _ _ _).mono (by omega), (hO2.set3 hgB _ _ _).mono (by omega), hD, Below.set3 hB hg _ _ _⟩
theorem retqe_nil {w w2 : World} {q : Rat} {er : Int} {g : Nat} {v0 v1 v2 : Value} (he : er ≠ 0) (hB : Below w.heap.size w w2) (hg : w.heap.size ≤ g) :
    RetQE w q er (.returned (.tuple #[.agg #[.bool false, .slice none 0 0, .slice none 0 0], .int .i64 er])) (((w2.setCell ⟨g, 0, none⟩ v0).setCell ⟨g, 1, none⟩ v1).setCell ⟨g, 2, none⟩ v2) := by
  obtain ⟨h1, h2, h3⟩ := q_err q he
  refine ⟨none, 0, 0, none, 0, 0, by rw [h1], ?_, ?_, diff_nil _, Below.set3 hB hg _ _ _⟩
  · rw [h2]; exact own_nil _ _
  · rw [h3]; exact own_nil _ _

/-! ### a struct's variable, laid in a region that draws -/
/-- slot s holds a new block with the whole number z -/
def BoxZ (w0 : World) (z : Int) (s : Value) (wx : World) : Prop :=
  ∃ g qa qn qc, s = .pointer (some ⟨g, 0, none⟩) ∧ Blk wx g #[.bool (decide (z < 0)), .slice qa qn qc] ∧ w0.heap.size ≤ g ∧ Own w0.heap.size wx qa qn qc (lm z.natAbs) ∧ Aw qa g ∧ Below w0.heap.size w0 wx
theorem boxZ_set {w0 w5 : World} {z : Int} {g B : Nat} {qa : Option Addr} {qn qc : Nat} (A : Blk w5 g #[.bool false, .slice none 0 0]) (hO : Own B w5 qa qn qc (lm z.natAbs)) (hg : w0.heap.size ≤ g) (hgB : g < B) (hB : Below w0.heap.size w0 w5) :
    BoxZ w0 z (.pointer (some ⟨g, 0, none⟩)) ((w5.setCell ⟨g, 0, none⟩ (.bool (decide (z < 0)))).setCell ⟨g, 1, none⟩ (.slice qa qn qc)) :=
  ⟨g, qa, qn, qc, rfl, (show Blk _ _ #[_, _] from (A.setCell (i := 0) (v := .bool (decide (z < 0))) (by simp)).setCell (i := 1) (v := .slice qa qn qc) (by simp)), hg, (hO.set2 hgB _ _).mono (by omega), hO.awNew hgB, Below.set2 hB hg _ _⟩
theorem boxZ_new {w0 w5 : World} {z : Int} {B : Nat} {qa : Option Addr} {qn qc : Nat} {T : TypeId} (hO : Own B w5 qa qn qc (lm z.natAbs)) (hgB : w0.heap.size ≤ B) (hB : Below w0.heap.size w0 w5) :
    BoxZ w0 z (.pointer (some ⟨w5.heap.size, 0, none⟩)) (w5.alloc (.cells #[.bool (decide (z < 0)), .slice qa qn qc] T)) :=
  ⟨_, qa, qn, qc, rfl, blk_new _ _ _, hB.size, (hO.alloc _).mono hgB, hO.awOld (Nat.le_refl _), hB.alloc hB.size _⟩
/-- slot s holds a new block with the fraction q -/
def BoxQ (w0 : World) (q : Rat) (s : Value) (wx : World) : Prop :=
  ∃ g qa qn qc da dn dc, s = .pointer (some ⟨g, 0, none⟩) ∧ Blk wx g #[.bool (decide (q.num < 0)), .slice qa qn qc, .slice da dn dc] ∧ w0.heap.size ≤ g ∧ Own w0.heap.size wx qa qn qc (lm q.num.natAbs) ∧ Own w0.heap.size wx da dn dc (lm q.den) ∧ Aw qa g ∧ Aw da g ∧ Below w0.heap.size w0 wx
theorem boxQ_set {w0 w5 : World} {q : Rat} {g B : Nat} {qa da : Option Addr} {qn qc dn dc : Nat} (A : Blk w5 g #[.bool false, .slice none 0 0, .slice none 0 0]) (hO : Own B w5 qa qn qc (lm q.num.natAbs)) (hO2 : Own B w5 da dn dc (lm q.den)) (hg : w0.heap.size ≤ g) (hgB : g < B) (hB : Below w0.heap.size w0 w5) :
    BoxQ w0 q (.pointer (some ⟨g, 0, none⟩)) (((w5.setCell ⟨g, 0, none⟩ (.bool (decide (q.num < 0)))).setCell ⟨g, 1, none⟩ (.slice qa qn qc)).setCell ⟨g, 2, none⟩ (.slice da dn dc)) :=
  ⟨g, qa, qn, qc, da, dn, dc, rfl, (show Blk _ _ #[_, _, _] from ((A.setCell (i := 0) (v := .bool (decide (q.num < 0))) (by simp)).setCell (i := 1) (v := .slice qa qn qc) (by simp)).setCell (i := 2) (v := .slice da dn dc) (by simp)), hg, (hO.set3 hgB _ _ _).mono (by omega), (hO2.set3 hgB _ _ _).mono (by omega), hO.awNew hgB, hO2.awNew hgB, Below.set3 hB hg _ _ _⟩
theorem boxQ_new {w0 w5 : World} {q : Rat} {B : Nat} {qa da : Option Addr} {qn qc dn dc : Nat} {T : TypeId} (hO : Own B w5 qa qn qc (lm q.num.natAbs)) (hO2 : Own B w5 da dn dc (lm q.den)) (hgB : w0.heap.size ≤ B) (hB : Below w0.heap.size w0 w5) :
    BoxQ w0 q (.pointer (some ⟨w5.heap.size, 0, none⟩)) (w5.alloc (.cells #[.bool (decide (q.num < 0)), .slice qa qn qc, .slice da dn dc] T)) :=
  ⟨_, qa, qn, qc, da, dn, dc, rfl, blk_new _ _ _, hB.size, (hO.alloc _).mono hgB, (hO2.alloc _).mono hgB, hO.awOld (Nat.le_refl _), hO2.awOld (Nat.le_refl _), hB.alloc hB.size _⟩
theorem szMulN {z : Int} {v j k : Nat} (h : Sz z.natAbs j) (h' : Sz v k) : Sz (z * (v : Int)).natAbs (j + k) := by rw [Int.natAbs_mul, Int.natAbs_natCast]; exact h.mul h'
theorem szAddZ {x y : Int} {k : Nat} (h : Sz x.natAbs k) (h' : Sz y.natAbs k) : Sz (x + y).natAbs (k + 1) := (h.add h').mono (by omega) (Nat.le_refl _)
theorem szSubZ {x y : Int} {k : Nat} (h : Sz x.natAbs k) (h' : Sz y.natAbs k) : Sz (x - y).natAbs (k + 1) := (h.add h').mono (by omega) (Nat.le_refl _)

section
variable {W : World} {a b : Option Addr} {n c m d u v j k : Nat} {s t : Bool} {x y : Int}
theorem nnormR (ha : RdN j W a n c u) (hj : j ≤ 16777216) :
    Calls Try.prog 52 #[.slice a n c] W (Ret1 W (lm u)) := by
  obtain ⟨la, ha, rfl, hn⟩ := ha
  exact norm_any ha (by omega)
theorem nmulR (ha : RdN j W a n c u) (hb : RdN k W b m d v) (hj : j ≤ 4194304) (hk : k ≤ 4194304) :
    Calls Try.prog 36 #[.slice a n c, .slice b m d] W (Ret1 W (lm (u * v))) := by
  obtain ⟨la, ha, rfl, hn⟩ := ha
  obtain ⟨lb, hb, rfl, hm⟩ := hb
  exact mul_any ha hb (by omega) (by omega)
theorem ngcdR (ha : RdN j W a n c u) (hb : RdN k W b m d v) (hj : j ≤ 4194304) (hk : k ≤ 4194304) :
    Calls Try.prog 53 #[.slice a n c, .slice b m d] W (Ret1 W (lm (Nat.gcd u v))) := by
  obtain ⟨la, ha, rfl, hn⟩ := ha
  obtain ⟨lb, hb, rfl, hm⟩ := hb
  exact gcd_any (K := 4194304) ha hb (by omega) (by omega) (Nat.le_refl _)
theorem ndivR (ha : RdN j W a n c u) (hb : RdN k W b m d v) (hj : j ≤ 4194304) (hk : k ≤ 4194304) (hv : v ≠ 0) :
    Calls Try.prog 54 #[.slice a n c, .slice b m d] W (RetD W (lm (u / v)) (lm (u % v)) 0) := by
  obtain ⟨la, ha, rfl, hn⟩ := ha
  obtain ⟨lb, hb, rfl, hm⟩ := hb
  have h := divmod_any ha hb (by omega)
  rwa [dvE_pos hv, dvR_pos hv] at h
theorem ncmpR (ha : RdN j W a n c u) (hb : RdN k W b m d v) :
    Calls Try.prog 43 #[.slice a n c, .slice b m d] W (RetIb W (cmpI u v)) := by
  obtain ⟨la, ha, rfl, hn⟩ := ha
  obtain ⟨lb, hb, rfl, hm⟩ := hb
  exact (cmp_any ha hb).mono fun e w' ⟨h1, h2⟩ => ⟨h1, h2.below _⟩
theorem ntextR (ha : RdN j W a n c u) (hj : j ≤ 16777216) :
    Calls Try.prog 47 #[.slice a n c] W (RetT W (txt (tx u))) := by
  obtain ⟨la, ha, rfl, hn⟩ := ha
  exact text_any ha (by omega)
theorem zaddR (ha : RdZ j W s a n c x) (hb : RdZ k W t b m d y) (hj : j ≤ 4194304) (hk : k ≤ 4194304) :
    Calls Try.prog 32 #[.agg #[.bool s, .slice a n c], .agg #[.bool t, .slice b m d]] W (RetZ W (x + y)) := by
  obtain ⟨u, ⟨la, ha, rfl, hn⟩, rfl⟩ := ha
  obtain ⟨v, ⟨lb, hb, rfl, hm⟩, rfl⟩ := hb
  exact zadd_any s t ha hb (by omega) (by omega)
theorem zsubR (ha : RdZ j W s a n c x) (hb : RdZ k W t b m d y) (hj : j ≤ 4194304) (hk : k ≤ 4194304) :
    Calls Try.prog 37 #[.agg #[.bool s, .slice a n c], .agg #[.bool t, .slice b m d]] W (RetZ W (x - y)) := by
  obtain ⟨u, ⟨la, ha, rfl, hn⟩, rfl⟩ := ha
  obtain ⟨v, ⟨lb, hb, rfl, hm⟩, rfl⟩ := hb
  exact zsub_any s t ha (by omega) hb (by omega)
theorem zmulR (ha : RdZ j W s a n c x) (hb : RdZ k W t b m d y) (hj : j ≤ 4194304) (hk : k ≤ 4194304) :
    Calls Try.prog 51 #[.agg #[.bool s, .slice a n c], .agg #[.bool t, .slice b m d]] W (RetZ W (x * y)) := by
  obtain ⟨u, ⟨la, ha, rfl, hn⟩, rfl⟩ := ha
  obtain ⟨v, ⟨lb, hb, rfl, hm⟩, rfl⟩ := hb
  exact zmul_any s t ha hb (by omega) (by omega)
theorem zcmpR (ha : RdZ j W s a n c x) (hb : RdZ k W t b m d y) (hj : j ≤ 4194304) (hk : k ≤ 4194304) :
    Calls Try.prog 25 #[.agg #[.bool s, .slice a n c], .agg #[.bool t, .slice b m d]] W (RetIb W (cmpZ x y)) := by
  obtain ⟨u, ⟨la, ha, rfl, hn⟩, rfl⟩ := ha
  obtain ⟨v, ⟨lb, hb, rfl, hm⟩, rfl⟩ := hb
  exact zcmp_any s t ha (by omega) hb (by omega)
theorem zsignR (ha : RdZ j W s a n c x) (hj : j ≤ 16777216) :
    Calls Try.prog 24 #[.agg #[.bool s, .slice a n c]] W (RetIb W (sgn x)) := by
  obtain ⟨u, ⟨la, ha, rfl, hn⟩, rfl⟩ := ha
  exact zsign_any s ha (by omega)
theorem znormR (ha : RdZ j W s a n c x) (hj : j ≤ 16777216) :
    Calls Try.prog 55 #[.agg #[.bool s, .slice a n c]] W (RetZ W x) := by
  obtain ⟨u, ⟨la, ha, rfl, hn⟩, rfl⟩ := ha
  exact znorm_any s ha (by omega)
theorem ztextR (ha : RdZ j W s a n c x) (hj : j ≤ 16777216) :
    Calls Try.prog 46 #[.agg #[.bool s, .slice a n c]] W (RetT W (ztx x)) := by
  obtain ⟨u, ⟨la, ha, rfl, hn⟩, rfl⟩ := ha
  exact ztext_any s ha (by omega)
end
end Go.Proofs.Ytennilapmcgnbaa
