/- WALKS OF EXPRESSIONS, 2: what parts and lines are worth. -/
import Derived.Test.YtennilapmcgnbaaVe
import Derived.Test.YtennilapmcgnbaaAw
namespace Go.Proofs.Ytennilapmcgnbaa
set_option linter.unusedVariables false
open Go.ChangeShapes Go.WideShapes Go.ChangeAt Go.RowKit Go.NatP

/-- a normal fraction, its limbs in blocks of N -/
structure FN (N : Nat → Prop) (W : World) (y : FX) (q : Rat) : Prop where
  s : y.s = decide (q.num < 0)
  o1 : Own 0 W y.a y.n y.c (lm q.num.natAbs)
  o2 : Own 0 W y.b y.m y.d (lm q.den)
  df : Diff y.a y.b
  n1 : ∀ g, y.a = some ⟨g, 0, none⟩ → N g
  n2 : ∀ g, y.b = some ⟨g, 0, none⟩ → N g
/-- nothing: worth 0 -/
structure FE (N : Nat → Prop) (W : World) (y : FX) (q : Rat) : Prop where
  s : y.s = false
  z : q = 0
  o1 : Own 0 W y.a y.n y.c []
  o2 : Own 0 W y.b y.m y.d []
  df : Diff y.a y.b
  n1 : ∀ g, y.a = some ⟨g, 0, none⟩ → N g
  n2 : ∀ g, y.b = some ⟨g, 0, none⟩ → N g
/-- a normal fraction, or nothing -/
def FA (N : Nat → Prop) (W : World) (y : FX) (q : Rat) : Prop := FN N W y q ∨ FE N W y q
section
variable {N p : Nat → Prop} {W W' : World} {y : FX} {q : Rat} {B B' J : Nat} {a b : Option Addr} {n c m d : Nat}
theorem FN.below (h : FN N W y q) (hB : Below W.heap.size W W') : FN N W' y q := ⟨h.s, h.o1.below hB, h.o2.below hB, h.df, h.n1, h.n2⟩
theorem FE.below (h : FE N W y q) (hB : Below W.heap.size W W') : FE N W' y q := ⟨h.s, h.z, h.o1.below hB, h.o2.below hB, h.df, h.n1, h.n2⟩
theorem FE.kp (h : FE N W y q) (hk : Kp p W W') (hp : ∀ j, p j → ¬ N j) : FE N W' y q := ⟨h.s, h.z, h.o1.kp hk fun g e hg => hp g hg (h.n1 g e), h.o2.kp hk fun g e hg => hp g hg (h.n2 g e), h.df, h.n1, h.n2⟩
theorem FE.mono {M : Nat → Prop} (h : FE N W y q) (hM : ∀ g, g < W.heap.size → N g → M g) : FE M W y q := ⟨h.s, h.z, h.o1, h.o2, h.df, fun g e => hM g (h.o1.lt' g e).2 (h.n1 g e), fun g e => hM g (h.o2.lt' g e).2 (h.n2 g e)⟩
theorem FE.new (h1 : Own B W a n c []) (h2 : Own B' W b m d []) (hD : Diff a b) (hN : ∀ g, B ≤ g → N g) (hN' : ∀ g, B' ≤ g → N g) : FE N W ⟨false, a, n, c, b, m, d⟩ 0 :=
  ⟨rfl, rfl, h1.mono (Nat.zero_le _), h2.mono (Nat.zero_le _), hD, fun g e => hN g (h1.lt' g e).1, fun g e => hN' g (h2.lt' g e).1⟩
theorem FA.below (h : FA N W y q) (hB : Below W.heap.size W W') : FA N W' y q := h.elim (fun h => .inl (h.below hB)) (fun h => .inr (h.below hB))
theorem FN.kp (h : FN N W y q) (hk : Kp p W W') (hp : ∀ j, p j → ¬ N j) : FN N W' y q := ⟨h.s, h.o1.kp hk fun g e hg => hp g hg (h.n1 g e), h.o2.kp hk fun g e hg => hp g hg (h.n2 g e), h.df, h.n1, h.n2⟩
theorem FA.kp (h : FA N W y q) (hk : Kp p W W') (hp : ∀ j, p j → ¬ N j) : FA N W' y q := h.elim (fun h => .inl (h.kp hk hp)) (fun h => .inr (h.kp hk hp))
theorem FN.mono {M : Nat → Prop} (h : FN N W y q) (hM : ∀ g, g < W.heap.size → N g → M g) : FN M W y q := ⟨h.s, h.o1, h.o2, h.df, fun g e => hM g (h.o1.lt' g e).2 (h.n1 g e), fun g e => hM g (h.o2.lt' g e).2 (h.n2 g e)⟩
theorem FA.mono {M : Nat → Prop} (h : FA N W y q) (hM : ∀ g, g < W.heap.size → N g → M g) : FA M W y q := h.elim (fun h => .inl (h.mono hM)) (fun h => .inr (h.mono hM))
theorem FN.new (h1 : Own B W a n c (lm q.num.natAbs)) (h2 : Own B' W b m d (lm q.den)) (hD : Diff a b) (hN : ∀ g, B ≤ g → N g) (hN' : ∀ g, B' ≤ g → N g) : FN N W ⟨decide (q.num < 0), a, n, c, b, m, d⟩ q :=
  ⟨rfl, h1.mono (Nat.zero_le _), h2.mono (Nat.zero_le _), hD, fun g e => hN g (h1.lt' g e).1, fun g e => hN' g (h2.lt' g e).1⟩
theorem FN.rdQ (h : FN N W y q) (hq : QS q J) : RdQ J W y.s y.a y.n y.c y.b y.m y.d q := by rw [h.s]; exact h.o1.rdQ h.o2 hq
theorem FE.rdQ (h : FE N W y q) : RdQ J W y.s y.a y.n y.c y.b y.m y.d q := by
  have h1 := h.o1.rd.len
  have h2 := h.o2.rd.len
  rw [h.s, h.z]
  exact ⟨0, 0, ⟨[], h.o1.rd, rfl, by rw [← h1]; exact Nat.zero_le _⟩, ⟨[], h.o2.rd, rfl, by rw [← h2]; exact Nat.zero_le _⟩, by decide⟩
theorem FA.rdQ (h : FA N W y q) (hq : QS q J) : RdQ J W y.s y.a y.n y.c y.b y.m y.d q := h.elim (fun h => h.rdQ hq) (fun h => h.rdQ)
theorem FA.o (N : Nat → Prop) (W : World) : FA N W FX.o 0 := .inr ⟨rfl, rfl, own_nil _ _, own_nil _ _, fun g e => (by cases e), fun g e => (by cases e), fun g e => (by cases e)⟩
end
/-- a function of x: (a x + b) / (c x + d) -/
structure LV where
  a : Rat
  b : Rat
  c : Rat
  d : Rat
def LV.z : LV := ⟨0, 0, 0, 0⟩
structure LineOK (N : Nat → Prop) (W : World) (f : LX) (F : LV) : Prop where
  A : FA N W f.A F.a
  B : FA N W f.B F.b
  C : FA N W f.C F.c
  D : FA N W f.D F.d
structure LS (F : LV) (J : Nat) : Prop where
  a : QS F.a J
  b : QS F.b J
  c : QS F.c J
  d : QS F.d J
/-- what a part is worth -/
structure PV where
  kind : Int
  deep : Int
  v : Rat
  bad : Bool
  opn : Bool
  L : LV
structure PartOK (N : Nat → Prop) (W : World) (p : PX) (P : PV) : Prop where
  kind : p.kind = P.kind
  deep : p.deep = P.deep
  bad : p.bad = P.bad
  opn : p.opn = P.opn
  v : FA N W p.v P.v
  nv : P.bad = false → P.opn = false → FN N W p.v P.v
  L : LineOK N W ⟨p.A, p.B, p.C, p.D⟩ P.L
section
variable {N q : Nat → Prop} {W W' : World} {f : LX} {F : LV} {p : PX} {P : PV} {J K : Nat}
theorem LineOK.below (h : LineOK N W f F) (hB : Below W.heap.size W W') : LineOK N W' f F := ⟨h.A.below hB, h.B.below hB, h.C.below hB, h.D.below hB⟩
theorem LineOK.kp (h : LineOK N W f F) (hk : Kp q W W') (hp : ∀ j, q j → ¬ N j) : LineOK N W' f F := ⟨h.A.kp hk hp, h.B.kp hk hp, h.C.kp hk hp, h.D.kp hk hp⟩
theorem LineOK.mono {M : Nat → Prop} (h : LineOK N W f F) (hM : ∀ g, g < W.heap.size → N g → M g) : LineOK M W f F := ⟨h.A.mono hM, h.B.mono hM, h.C.mono hM, h.D.mono hM⟩
theorem LineOK.z (N : Nat → Prop) (W : World) : LineOK N W LX.o LV.z := ⟨FA.o N W, FA.o N W, FA.o N W, FA.o N W⟩
theorem PartOK.below (h : PartOK N W p P) (hB : Below W.heap.size W W') : PartOK N W' p P := ⟨h.kind, h.deep, h.bad, h.opn, h.v.below hB, fun a b => (h.nv a b).below hB, h.L.below hB⟩
theorem PartOK.kp (h : PartOK N W p P) (hk : Kp q W W') (hp : ∀ j, q j → ¬ N j) : PartOK N W' p P := ⟨h.kind, h.deep, h.bad, h.opn, h.v.kp hk hp, fun a b => (h.nv a b).kp hk hp, h.L.kp hk hp⟩
theorem PartOK.mono {M : Nat → Prop} (h : PartOK N W p P) (hM : ∀ g, g < W.heap.size → N g → M g) : PartOK M W p P := ⟨h.kind, h.deep, h.bad, h.opn, h.v.mono hM, fun a b => (h.nv a b).mono hM, h.L.mono hM⟩
theorem LS.mono (h : LS F J) (hJ : J ≤ K) : LS F K := ⟨h.a.mono hJ, h.b.mono hJ, h.c.mono hJ, h.d.mono hJ⟩
theorem LS.z (hJ : 1 ≤ J) : LS LV.z J := ⟨qs_zero.mono hJ, qs_zero.mono hJ, qs_zero.mono hJ, qs_zero.mono hJ⟩
end
/-- answers: a line and its error -/
def RetLine (N : Nat → Prop) (w : World) (F : LV) (er : Int) (e : Ending) (w' : World) : Prop :=
  ∃ f : LX, e = .returned (.tuple #[.agg f.arr, .int .i64 er]) ∧ LineOK N w' f F ∧ Below w.heap.size w w'
def RetPart (N : Nat → Prop) (w : World) (P : PV) (e : Ending) (w' : World) : Prop :=
  ∃ p : PX, e = .returned (.agg p.arr) ∧ PartOK N w' p P ∧ Below w.heap.size w w'
/-- a quotient by nothing -/
def RetQZ (w : World) (e : Ending) (w' : World) : Prop :=
  ∃ a n c b m d, e = .returned (.tuple #[.agg #[.bool false, .slice a n c, .slice b m d], .int .i64 11]) ∧ Own w.heap.size w' a n c [] ∧ Own w.heap.size w' b m d [] ∧ Diff a b ∧ Below w.heap.size w w'
/-- a number on the right -/
def rgP (F : LV) (k : Rat) : LV := ⟨F.a + k * F.c, F.b + k * F.d, F.c, F.d⟩
def rgT (F : LV) (k : Rat) : LV := ⟨k * F.a, k * F.b, F.c, F.d⟩
end Go.Proofs.Ytennilapmcgnbaa
