/- EXPRESSIONS, plain: what a list comes to, and how great its numbers grow. -/
import Derived.Test.YtennilapmcgnbaaVi
import Derived.Test.YtennilapmcgnbaaVj
namespace Go.Proofs.Ytennilapmcgnbaa
set_option linter.unusedVariables false
set_option linter.unusedSimpArgs false
open Go.ChangeShapes Go.WideShapes Go.ChangeAt Go.RowKit Go.NatP

/-- a term, and its number's value -/
structure TI where
  k : Int
  x : QI
def TI.o : TI := ⟨0, QI.o⟩
/-- a list of terms that can be read -/
def RdTs (K : Nat) (W : World) (sa : Option Addr) (n c : Nat) (xs : List TI) : Prop :=
  xs.length = n ∧ n ≤ c ∧ c ≤ maxLen ∧ ∀ i, i < n → RdQ K W (xs.getD i TI.o).x.s (xs.getD i TI.o).x.a (xs.getD i TI.o).x.n (xs.getD i TI.o).x.c (xs.getD i TI.o).x.b (xs.getD i TI.o).x.m (xs.getD i TI.o).x.d (xs.getD i TI.o).x.q ∧
    ∃ g o, sa = some ⟨g, o, none⟩ ∧ W.cell? ⟨g, o + i * 4, none⟩ = some (.int .i8 (xs.getD i TI.o).k) ∧ W.cell? ⟨g, o + i * 4 + 1, none⟩ = some (.bool (xs.getD i TI.o).x.s) ∧ W.cell? ⟨g, o + i * 4 + 2, none⟩ = some (.slice (xs.getD i TI.o).x.a (xs.getD i TI.o).x.n (xs.getD i TI.o).x.c) ∧
      W.cell? ⟨g, o + i * 4 + 3, none⟩ = some (.slice (xs.getD i TI.o).x.b (xs.getD i TI.o).x.m (xs.getD i TI.o).x.d)
theorem RdTs.below {K : Nat} {W W' : World} {sa : Option Addr} {n c : Nat} {xs : List TI} (h : RdTs K W sa n c xs) (hB : Below W.heap.size W W') : RdTs K W' sa n c xs := by
  obtain ⟨h1, h2, h3, h4⟩ := h
  refine ⟨h1, h2, h3, fun i hi => ?_⟩
  obtain ⟨h5, g, o, e, c1, c2, c3, c4⟩ := h4 i hi
  have hl := World.block_lt_of_cell? _ _ c1
  exact ⟨h5.below hB, g, o, e, by rw [hB.cell (p := ⟨g, o + i * 4, none⟩) hl]; exact c1, by rw [hB.cell (p := ⟨g, o + i * 4 + 1, none⟩) hl]; exact c2, by rw [hB.cell (p := ⟨g, o + i * 4 + 2, none⟩) hl]; exact c3, by rw [hB.cell (p := ⟨g, o + i * 4 + 3, none⟩) hl]; exact c4⟩
theorem RdTs.bnd {K : Nat} {W : World} {sa : Option Addr} {n c : Nat} {xs : List TI} (h : RdTs K W sa n c xs) : n ≤ c ∧ c ≤ 9223372036854775807 := ⟨h.2.1, by have := h.2.2.1; unfold maxLen at this; omega⟩

/-- x itself; a number -/
def xPV : PV := ⟨1, 0, 0, false, true, ⟨1, 0, 0, 1⟩⟩
def nPV (q : Rat) : PV := ⟨1, 0, q, false, false, LV.z⟩
open Classical in
/-- one term more: the parts that lie there, the last one first -/
noncomputable def stpV (at_ : Int) (i : Nat) (k : Int) (q : Rat) (S : List PV) : Option (List PV) :=
  if k = 1 then (if (i : Int) = at_ then some (xPV :: S) else some (nPV q :: S))
  else if k = 6 then (match S with | P :: R => some (oppV P :: R) | [] => none)
  else if 2 ≤ k ∧ k ≤ 5 then (match S with | Q :: P :: R => some (joinV k P Q :: R) | _ => none)
  else none
/-- the first k terms -/
noncomputable def wrkV (at_ : Int) (ts : List TI) : Nat → Option (List PV)
  | 0 => some []
  | k + 1 => (wrkV at_ ts k).bind (stpV at_ k (ts.getD k TI.o).k (ts.getD k TI.o).x.q)
/-- what a list comes to -/
noncomputable def ansV (at_ : Int) (ts : List TI) : Option PV := match wrkV at_ ts ts.length with | some [P] => some P | _ => none

/-! ### how great -/
/-- a function of x, its numbers over one and the same below -/
def LC (F : LV) (J : Nat) : Prop := ∃ (D : Nat) (a b c d : Int), D ≠ 0 ∧ Sz D J ∧ Sz a.natAbs J ∧ Sz b.natAbs J ∧ Sz c.natAbs J ∧ Sz d.natAbs J ∧ F.a = mkRat a D ∧ F.b = mkRat b D ∧ F.c = mkRat c D ∧ F.d = mkRat d D
theorem LC.ls {F : LV} {J : Nat} (h : LC F J) : LS F J := by
  obtain ⟨D, a, b, c, d, h0, hD, ha, hb, hc, hd, ea, eb, ec, ed⟩ := h
  exact ⟨by rw [ea]; exact QS.mk h0 ha hD, by rw [eb]; exact QS.mk h0 hb hD, by rw [ec]; exact QS.mk h0 hc hD, by rw [ed]; exact QS.mk h0 hd hD⟩
theorem LC.mono {F : LV} {J K : Nat} (h : LC F J) (hj : J ≤ K) : LC F K := by
  obtain ⟨D, a, b, c, d, h0, hD, ha, hb, hc, hd, e⟩ := h
  have m : ∀ {n : Nat}, Sz n J → Sz n K := fun h => h.mono (Nat.le_refl _) hj
  exact ⟨D, a, b, c, d, h0, m hD, m ha, m hb, m hc, m hd, e⟩
theorem LC.one {J : Nat} (hJ : 1 ≤ J) : LC ⟨1, 0, 0, 1⟩ J :=
  (show LC ⟨1, 0, 0, 1⟩ 1 from ⟨1, 1, 0, 0, 1, by decide, by unfold Sz; decide, by unfold Sz; decide, by unfold Sz; decide, by unfold Sz; decide, by unfold Sz; decide, rfl, rfl, rfl, rfl⟩).mono hJ
theorem LC.z {J : Nat} (hJ : 1 ≤ J) : LC LV.z J :=
  (show LC LV.z 1 from ⟨1, 0, 0, 0, 0, by decide, by unfold Sz; decide, by unfold Sz; decide, by unfold Sz; decide, by unfold Sz; decide, by unfold Sz; decide, rfl, rfl, rfl, rfl⟩).mono hJ
theorem LC.neg {F : LV} {J : Nat} (h : LC F J) : LC ⟨-F.a, -F.b, F.c, F.d⟩ J := by
  obtain ⟨D, a, b, c, d, h0, hD, ha, hb, hc, hd, ea, eb, ec, ed⟩ := h
  exact ⟨D, -a, -b, c, d, h0, hD, by rw [Int.natAbs_neg]; exact ha, by rw [Int.natAbs_neg]; exact hb, hc, hd, by show -F.a = _; rw [ea, Rat.neg_mkRat], by show -F.b = _; rw [eb, Rat.neg_mkRat], ec, ed⟩
theorem mk_mul {k : Rat} {a : Int} {D : Nat} : k * mkRat a D = mkRat (k.num * a) (D * k.den) := by
  conv => lhs; rw [← Rat.mkRat_self k]
  rw [Rat.mkRat_mul_mkRat, Nat.mul_comm]
theorem mk_up {k : Rat} {a : Int} {D : Nat} : mkRat a D = mkRat (a * k.den) (D * k.den) := (Rat.mkRat_mul_right k.den_nz).symm
theorem mk_add {a b : Int} {D : Nat} (h : D ≠ 0) : mkRat a D + mkRat b D = mkRat (a + b) D := by
  rw [Rat.mkRat_add_mkRat _ _ h h, ← Int.add_mul]
  exact Rat.mkRat_mul_right h
theorem sz_im {x y : Int} {j k : Nat} (h : Sz x.natAbs j) (h' : Sz y.natAbs k) : Sz (x * y).natAbs (j + k) := by rw [Int.natAbs_mul]; exact h.mul h'
theorem sz_id {x : Int} {d j k : Nat} (h : Sz x.natAbs j) (h' : Sz d k) : Sz (x * (d : Int)).natAbs (j + k) := by rw [Int.natAbs_mul]; exact h.mul (by rw [Int.natAbs_natCast]; exact h')
theorem sz_ia {x y : Int} {j : Nat} (h : Sz x.natAbs j) (h' : Sz y.natAbs j) : Sz (x + y).natAbs (j + 1) := (h.add h').mono (Int.natAbs_add_le _ _) (Nat.le_refl _)
theorem LC.rgP {F : LV} {k : Rat} {J K : Nat} (h : LC F J) (hk : QS k K) : LC (rgP F k) (J + K + 1) := by
  obtain ⟨D, a, b, c, d, h0, hD, ha, hb, hc, hd, ea, eb, ec, ed⟩ := h
  have hn : D * k.den ≠ 0 := Nat.mul_ne_zero h0 k.den_nz
  have w1 : ∀ {n : Nat}, Sz n (J + K) → Sz n (J + K + 1) := fun h => h.mono (Nat.le_refl _) (by omega)
  have w2 : ∀ {x : Int}, Sz x.natAbs J → Sz (k.num * x).natAbs (J + K) := fun h => by rw [Nat.add_comm]; exact sz_im hk.1 h
  exact ⟨D * k.den, a * k.den + k.num * c, b * k.den + k.num * d, c * k.den, d * k.den, hn, w1 (hD.mul hk.2), sz_ia (sz_id ha hk.2) (w2 hc), sz_ia (sz_id hb hk.2) (w2 hd), w1 (sz_id hc hk.2), w1 (sz_id hd hk.2),
    by show F.a + k * F.c = _; rw [ea, ec, mk_mul, mk_up (k := k) (a := a), mk_add hn], by show F.b + k * F.d = _; rw [eb, ed, mk_mul, mk_up (k := k) (a := b), mk_add hn], by show F.c = _; rw [ec]; exact mk_up, by show F.d = _; rw [ed]; exact mk_up⟩
theorem LC.rgT {F : LV} {k : Rat} {J K : Nat} (h : LC F J) (hk : QS k K) : LC (rgT F k) (J + K) := by
  obtain ⟨D, a, b, c, d, h0, hD, ha, hb, hc, hd, ea, eb, ec, ed⟩ := h
  have hn : D * k.den ≠ 0 := Nat.mul_ne_zero h0 k.den_nz
  have w2 : ∀ {x : Int}, Sz x.natAbs J → Sz (k.num * x).natAbs (J + K) := fun h => by rw [Nat.add_comm]; exact sz_im hk.1 h
  exact ⟨D * k.den, k.num * a, k.num * b, c * k.den, d * k.den, hn, hD.mul hk.2, w2 ha, w2 hb, sz_id hc hk.2, sz_id hd hk.2,
    by show k * F.a = _; rw [ea, mk_mul], by show k * F.b = _; rw [eb, mk_mul], by show F.c = _; rw [ec]; exact mk_up, by show F.d = _; rw [ed]; exact mk_up⟩
theorem LC.ovr {F : LV} {k : Rat} {J K : Nat} (h : LC F J) (hk : QS k K) : LC ⟨k * F.c, k * F.d, F.a, F.b⟩ (J + K) := by
  obtain ⟨D, a, b, c, d, h0, hD, ha, hb, hc, hd, ea, eb, ec, ed⟩ := h
  have hn : D * k.den ≠ 0 := Nat.mul_ne_zero h0 k.den_nz
  have w2 : ∀ {x : Int}, Sz x.natAbs J → Sz (k.num * x).natAbs (J + K) := fun h => by rw [Nat.add_comm]; exact sz_im hk.1 h
  exact ⟨D * k.den, k.num * c, k.num * d, a * k.den, b * k.den, hn, hD.mul hk.2, w2 hc, w2 hd, sz_id ha hk.2, sz_id hb hk.2,
    by show k * F.c = _; rw [ec, mk_mul], by show k * F.d = _; rw [ed, mk_mul], by show F.a = _; rw [ea]; exact mk_up, by show F.b = _; rw [eb]; exact mk_up⟩
theorem rgtV_lc {F : LV} {q : Rat} {J K : Nat} (kind : Int) (h : LC F J) (hq : QS q K) (hJ : 1 ≤ J) (hK : 1 ≤ K) : LC (rgtV kind F q).1 (J + K + 2) := by
  unfold rgtV
  split
  · exact (h.rgP hq).mono (by omega)
  · split
    · exact (h.rgP hq.neg).mono (by omega)
    · split
      · exact (h.rgT hq).mono (by omega)
      · split
        · exact LC.z (by omega)
        · exact (h.rgT (qs_one.div hq hK)).mono (by omega)
theorem lftV_lc {F : LV} {q : Rat} {J K : Nat} (kind : Int) (h : LC F J) (hq : QS q K) (hJ : 1 ≤ J) (hK : 1 ≤ K) : LC (lftV kind F q).1 (J + K + 2) := by
  unfold lftV
  split
  · exact (h.rgP hq).mono (by omega)
  · split
    · exact (h.neg.rgP hq).mono (by omega)
    · split
      · exact (h.rgT hq).mono (by omega)
      · split
        · exact LC.z (by omega)
        · exact (h.ovr hq).mono (by omega)
theorem bthV_qs {x y : Rat} {J K : Nat} (kind : Int) (h : QS x J) (hq : QS y K) (hK : 1 ≤ K) : QS (bthV kind x y).1 (J + K + 2) := by
  unfold bthV
  split
  · exact (h.add hq).mono (by omega)
  · split
    · exact (h.sub hq).mono (by omega)
    · split
      · exact (h.mul hq).mono (by omega)
      · split
        · exact qs_zero.mono (by omega)
        · exact (h.div hq hK).mono (by omega)
/-- a part of m terms -/
structure PZ (T : Nat) (P : PV) (m : Nat) : Prop where
  v : QS P.v (m * T)
  L : LC P.L (m * T)
  lo : 0 ≤ P.deep
  hi : P.deep ≤ 2 * m
  m1 : 1 ≤ m
theorem PZ.ps {T m J : Nat} {P : PV} (h : PZ T P m) (hJ : m * T ≤ J) : PS P J := ⟨h.v.mono hJ, h.L.ls.mono hJ⟩
theorem pz_num {T : Nat} {q : Rat} (hq : QS q T) (hT : 2 ≤ T) : PZ T (nPV q) 1 := ⟨by rw [Nat.one_mul]; exact hq, LC.z (by omega), Int.le_refl _, by show (0 : Int) ≤ _; omega, Nat.le_refl _⟩
theorem pz_x {T : Nat} (hT : 2 ≤ T) : PZ T xPV 1 := ⟨qs_zero.mono (by omega), LC.one (by omega), Int.le_refl _, by show (0 : Int) ≤ _; omega, Nat.le_refl _⟩
theorem dpB_bd (b : Bool) (d : Int) : d ≤ dpB b d ∧ dpB b d ≤ d + 1 := by unfold dpB; split <;> omega
theorem mxI_bd (a b : Int) : a ≤ mxI a b ∧ b ≤ mxI a b ∧ (mxI a b = a ∨ mxI a b = b) := by unfold mxI; split <;> omega
theorem pz_opp {T m : Nat} {P : PV} (h : PZ T P m) : PZ T (oppV P) (m + 1) := by
  have hm : m * T ≤ (m + 1) * T := Nat.mul_le_mul_right _ (by omega)
  have hb := dpB_bd (!(P.kind == 1 || P.kind == 6)) P.deep
  have h1 := h.lo
  have h2 := h.hi
  exact ⟨(h.v.neg).mono hm, h.L.neg.mono hm, by show 0 ≤ dpB _ _ + 1; omega, by show dpB _ _ + 1 ≤ _; omega, by omega⟩
theorem dpJ_bd (kind : Int) (P Q : PV) (hP : 0 ≤ P.deep) (hQ : 0 ≤ Q.deep) : 0 ≤ dpJ kind P Q ∧ (dpJ kind P Q ≤ P.deep + 1 ∨ dpJ kind P Q ≤ Q.deep + 1) := by
  have a1 := dpB_bd (P.kind == 2 || P.kind == 3) P.deep
  have a2 := dpB_bd (!(Q.kind == 1 || Q.kind == 6)) Q.deep
  have a3 := dpB_bd (Q.kind == 2 || Q.kind == 3) Q.deep
  have m1 := mxI_bd (dpB (P.kind == 2 || P.kind == 3) P.deep) (dpB (!(Q.kind == 1 || Q.kind == 6)) Q.deep)
  have m2 := mxI_bd P.deep (dpB (Q.kind == 2 || Q.kind == 3) Q.deep)
  unfold dpJ
  split <;> omega
theorem pz_join {T m k : Nat} {P Q : PV} (kind : Int) (h : PZ T P m) (h' : PZ T Q k) (hT : 2 ≤ T) : PZ T (joinV kind P Q) (m + k + 1) := by
  have e : (m + k + 1) * T = m * T + k * T + T := by rw [Nat.add_mul, Nat.add_mul, Nat.one_mul]
  have hm : 1 ≤ m * T := Nat.mul_pos h.m1 (by omega)
  have hk : 1 ≤ k * T := Nat.mul_pos h'.m1 (by omega)
  have hd := dpJ_bd kind P Q h.lo h'.lo
  have p1 := h.hi
  have p2 := h'.hi
  have z : (∀ (v : Rat) (b o : Bool) (L : LV), QS v (m * T + k * T + 2) → LC L (m * T + k * T + 2) → PZ T ⟨kind, dpJ kind P Q, v, b, o, L⟩ (m + k + 1)) := fun v b o L hv hL => ⟨hv.mono (by omega), hL.mono (by omega), hd.1, by show dpJ kind P Q ≤ _; omega, by omega⟩
  unfold joinV
  split
  · exact z _ _ _ _ (qs_zero.mono (by omega)) (LC.z (by omega))
  · split
    · exact z _ _ _ _ (qs_zero.mono (by omega)) (rgtV_lc kind h.L h'.v hm hk)
    · split
      · exact z _ _ _ _ (qs_zero.mono (by omega)) ((lftV_lc kind h'.L h.v hk hm).mono (by omega))
      · exact z _ _ _ _ (bthV_qs kind h.v h'.v hk) (LC.z (by omega))
/-- a stack of k terms -/
def PZs (T : Nat) : List PV → Nat → Prop
  | [], _ => True
  | P :: R, k => ∃ m, PZ T P m ∧ m ≤ k ∧ PZs T R (k - m)
theorem PZs.up {T : Nat} : ∀ {S : List PV} {k j : Nat}, PZs T S k → k ≤ j → PZs T S j
  | [], _, _, _, _ => trivial
  | P :: R, k, j, h, hj => by obtain ⟨m, h1, h2, h3⟩ := h; exact ⟨m, h1, by omega, h3.up (by omega)⟩
theorem stpV_pz {T : Nat} {at_ : Int} {i : Nat} {kk : Int} {q : Rat} {S S' : List PV} {k : Nat} (h : PZs T S k) (hT : 2 ≤ T) (hq : QS q T) (e : stpV at_ i kk q S = some S') : PZs T S' (k + 1) := by
  unfold stpV at e
  split at e
  · split at e
    · injection e with e; subst e; exact ⟨1, pz_x hT, by omega, h⟩
    · injection e with e; subst e; exact ⟨1, pz_num hq hT, by omega, h⟩
  · split at e
    · split at e
      · injection e with e; subst e
        obtain ⟨m, h1, h2, h3⟩ := h
        exact ⟨m + 1, pz_opp h1, by omega, h3.up (by omega)⟩
      · cases e
    · split at e
      · split at e
        · injection e with e; subst e
          obtain ⟨m, h1, h2, m', h3, h4, h5⟩ := h
          exact ⟨m' + m + 1, pz_join kk h3 h1 hT, by omega, h5.up (by omega)⟩
        · cases e
      · cases e
theorem wrkV_pz {T : Nat} {at_ : Int} {ts : List TI} (hT : 2 ≤ T) : ∀ {k : Nat} {S : List PV}, (∀ i, i < k → QS (ts.getD i TI.o).x.q T) → wrkV at_ ts k = some S → PZs T S k
  | 0, S, _, e => by injection e with e; subst e; exact trivial
  | k + 1, S, hq, e => by
    rw [wrkV, Option.bind_eq_some_iff] at e
    obtain ⟨S0, e0, e1⟩ := e
    exact stpV_pz (wrkV_pz hT (fun i hi => hq i (by omega)) e0) hT (hq k (by omega)) e1
end Go.Proofs.Ytennilapmcgnbaa
