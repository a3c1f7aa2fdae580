/- WALKS OF EXPRESSIONS, 8: lists of terms in memory. -/
import Derived.Test.YtennilapmcgnbaaVk
import Derived.Test.YtennilapmcgnbaaQv
import Derived.Test.YtennilapmcgnbaaVl
namespace Go.Proofs.Ytennilapmcgnbaa
set_option linter.unusedVariables false
set_option linter.unusedSimpArgs false
open Go.ChangeShapes Go.WideShapes Go.ChangeAt Go.RowKit Go.NatP

theorem Rd.kp0 {p : Nat → Prop} {w w' : World} {a : Option Addr} {n c : Nat} {l : List Nat} (h : Rd w a n c l) (hk : Kp p w w') (hp : ∀ b o, 0 < n → a = some ⟨b, o, none⟩ → ¬ p b) : Rd w' a n c l := by
  by_cases h0 : n = 0
  · exact ⟨h.1, h.2.1, h.2.2.1, h.2.2.2.1, fun i hi => absurd hi (by omega)⟩
  · exact h.kp hk fun b o e => hp b o (by omega) e
theorem Rd.lt0 {w : World} {b o n c : Nat} {l : List Nat} (h : Rd w (some ⟨b, o, none⟩) n c l) (hn : 0 < n) : b < w.heap.size := by
  obtain ⟨b', o', e, hc⟩ := h.get hn
  cases e; exact World.block_lt_of_cell? _ _ hc
theorem infoT : (Try.prog.info? 38).map (fun i => (i.zero, i.size, i.bytes)) = some (some (.agg #[.int .i8 0, .bool false, .slice none 0 0, .slice none 0 0]), 4, 64) := by kernel_rfl
/-- a term as it lies: its kind, its number -/
structure TA where
  k : Int
  x : QA
def TA.o : TA := ⟨0, QA.o⟩
def TA.cs (t : TA) : List Value := [.int .i8 t.k, .bool t.x.s, .slice t.x.a t.x.n t.x.c, .slice t.x.b t.x.m t.x.d]
def QA.q (x : QA) : Rat := qv x.s (val x.l) (val x.k)
def TA.ti (t : TA) : TI := ⟨t.k, ⟨t.x.s, t.x.a, t.x.n, t.x.c, t.x.b, t.x.m, t.x.d, t.x.q⟩⟩
instance instTA : Inhabited TA := ⟨TA.o⟩
/-- a number that can be read, in at most K limbs, and lies not in the block of la -/
structure TOK (K : Nat) (W : World) (la : Option Addr) (x : QA) : Prop where
  ra : Rd W x.a x.n x.c x.l
  rb : Rd W x.b x.m x.d x.k
  ga : ∀ g o, 0 < x.n → x.a = some ⟨g, o, none⟩ → la ≠ some ⟨g, 0, none⟩
  gb : ∀ g o, 0 < x.m → x.b = some ⟨g, o, none⟩ → la ≠ some ⟨g, 0, none⟩
  na : x.n ≤ K
  nb : x.m ≤ K
theorem tflat_len (ts : List TA) : (ts.flatMap TA.cs).length = ts.length * 4 := by
  induction ts with
  | nil => rfl
  | cons t ts ih => rw [List.flatMap_cons, List.length_append, ih, List.length_cons]; show 4 + _ = _; omega
theorem tflat_get (ts : List TA) : ∀ i, i < ts.length → (ts.flatMap TA.cs)[i * 4]? = some (.int .i8 (ts.getD i TA.o).k) ∧ (ts.flatMap TA.cs)[i * 4 + 1]? = some (.bool (ts.getD i TA.o).x.s) ∧ (ts.flatMap TA.cs)[i * 4 + 2]? = some (.slice (ts.getD i TA.o).x.a (ts.getD i TA.o).x.n (ts.getD i TA.o).x.c) ∧ (ts.flatMap TA.cs)[i * 4 + 3]? = some (.slice (ts.getD i TA.o).x.b (ts.getD i TA.o).x.m (ts.getD i TA.o).x.d) := by
  induction ts with
  | nil => intro i h; exact absurd h (Nat.not_lt_zero _)
  | cons x xs ih =>
    intro i h
    rcases i with _ | i
    · exact ⟨rfl, rfl, rfl, rfl⟩
    · have := ih i (by simpa using h)
      rw [show (i + 1) * 4 = i * 4 + 1 + 1 + 1 + 1 by omega, List.flatMap_cons]
      exact this
theorem ta_one (ts : List TA) : ∀ u ∈ ts.flatMap TA.cs, u.oneCell' = true := by
  intro u hu
  obtain ⟨t, _, h⟩ := List.mem_flatMap.1 hu
  have : u ∈ [Value.int .i8 t.k, .bool t.x.s, .slice t.x.a t.x.n t.x.c, .slice t.x.b t.x.m t.x.d] := h
  simp only [List.mem_cons, List.not_mem_nil, or_false] at this
  rcases this with rfl | rfl | rfl | rfl <;> rfl
theorem ta_get {ts : List TA} {i : Nat} (h : i < ts.length) : (ts.map TA.ti).getD i TI.o = (ts.getD i TA.o).ti := by
  simp [List.getD_eq_getElem?_getD, h]
theorem ta_mem {ts : List TA} {i : Nat} (h : i < ts.length) : ts.getD i TA.o ∈ ts := by
  rw [List.getD_eq_getElem?_getD, List.getElem?_eq_getElem h]; exact List.getElem_mem _
section
variable {K J B : Nat} {W W' : World} {la la' : Option Addr} {x : QA} {c n : Nat} {a : Option Addr} {ts us : List TA} {p : Nat → Prop}
theorem TOK.below (h : TOK K W la x) (hB : Below W.heap.size W W') : TOK K W' la x := ⟨h.ra.below hB, h.rb.below hB, h.ga, h.gb, h.na, h.nb⟩
theorem TOK.mono (h : TOK K W la x) (hJ : K ≤ J) : TOK J W la x := ⟨h.ra, h.rb, h.ga, h.gb, Nat.le_trans h.na hJ, Nat.le_trans h.nb hJ⟩
theorem TOK.qs (h : TOK K W la x) (hK : 1 ≤ K) : QS x.q K := QS.qv hK ((h.ra.lim.sz (by rw [h.ra.len]; exact h.na))) ((h.rb.lim.sz (by rw [h.rb.len]; exact h.nb)))
theorem TOK.rdQ (h : TOK K W la x) : RdQ K W x.s x.a x.n x.c x.b x.m x.d x.q := ⟨_, _, h.ra.rdN h.na, h.rb.rdN h.nb, rfl⟩
/-- behind writes to the block of la, and with another block in its place -/
theorem TOK.grown (h : TOK K W la x) (hk : Kp (fun k => la = some ⟨k, 0, none⟩) W W') (hl : la' = la ∨ ∀ g, la' = some ⟨g, 0, none⟩ → W.heap.size ≤ g) : TOK K W' la' x :=
  ⟨h.ra.kp0 hk (fun b o h0 e e2 => h.ga b o h0 e e2), h.rb.kp0 hk (fun b o h0 e e2 => h.gb b o h0 e e2),
    fun g o h0 e => by
      rcases hl with rfl | hl
      · exact h.ga g o h0 e
      · intro e2; have h1 := hl g e2; have h2 := Rd.lt0 (e ▸ h.ra) h0; omega,
    fun g o h0 e => by
      rcases hl with rfl | hl
      · exact h.gb g o h0 e
      · intro e2; have h1 := hl g e2; have h2 := Rd.lt0 (e ▸ h.rb) h0; omega, h.na, h.nb⟩
/-- a row's block that is not there yet -/
theorem TOK.none_ (h : TOK K W la x) : TOK K W none x := ⟨h.ra, h.rb, fun _ _ _ _ e => by (cases e), fun _ _ _ _ e => by (cases e), h.na, h.nb⟩
theorem TOK.kp (h : TOK K W la x) (hk : Kp p W W') (hp : ∀ b o, (0 < x.n ∧ x.a = some ⟨b, o, none⟩) ∨ (0 < x.m ∧ x.b = some ⟨b, o, none⟩) → ¬ p b) : TOK K W' la x :=
  ⟨h.ra.kp0 hk fun b o h0 e => hp b o (.inl ⟨h0, e⟩), h.rb.kp0 hk fun b o h0 e => hp b o (.inr ⟨h0, e⟩), h.ga, h.gb, h.na, h.nb⟩
/-- numbers just made -/
theorem tok_new {W0 : World} {q : Rat} {s : Bool} {a b : Option Addr} {n c m d : Nat} (h1 : Own W0.heap.size W a n c (lm q.num.natAbs)) (h2 : Own W0.heap.size W b m d (lm q.den)) (hq : QS q K) (hla : ∀ g, la = some ⟨g, 0, none⟩ → g < W0.heap.size) : TOK K W la ⟨s, a, n, c, lm q.num.natAbs, b, m, d, lm q.den⟩ :=
  ⟨h1.rd, h2.rd, fun g o h0 e e2 => by
      have h3 := hla g e2
      rcases h1.cases with ⟨h4, _⟩ | ⟨g', h4, h5, _⟩
      · rw [h4] at e; cases e
      · rw [h4] at e; cases e; omega,
    fun g o h0 e e2 => by
      have h3 := hla g e2
      rcases h2.cases with ⟨h4, _⟩ | ⟨g', h4, h5, _⟩
      · rw [h4] at e; cases e
      · rw [h4] at e; cases e; omega, by have := h1.len; have := hq.len1; show n ≤ K; omega, by have := h2.len; have := hq.len2; show m ≤ K; omega⟩
/-- a list of terms that is the call's own -/
structure TRw (K B : Nat) (W : World) (a : Option Addr) (c : Nat) (ts : List TA) : Prop where
  row : W.ownsRow B 38 4 (.slice a ts.length c) ts.length (ts.flatMap TA.cs)
  ok : ∀ t ∈ ts, TOK K W a t.x
theorem trw_nil (K B : Nat) (W : World) : TRw K B W none 0 [] := ⟨World.ownsRow_nil _ _ _ _, fun t h => by cases h⟩
theorem TRw.blk (h : TRw K B W a c ts) : ∀ g, a = some ⟨g, 0, none⟩ → B ≤ g ∧ g < W.heap.size := by
  rintro g rfl
  rcases h.row.2 with ⟨h1, _⟩ | ⟨g', cap, cur, hv, hb, hg, _⟩
  · cases h1
  · cases hv; exact ⟨hb, (Array.getElem?_eq_some_iff.1 hg).1⟩
theorem TRw.keep {xs : List Value} (h : W.ownsRow B 38 4 (.slice a n c) n xs) (hk : ∀ g, a = some ⟨g, 0, none⟩ → W'.heap[g]? = W.heap[g]?) : W'.ownsRow B 38 4 (.slice a n c) n xs := by
  refine ⟨h.1, ?_⟩
  rcases h.2 with h2 | ⟨g, cap, cur, hv, hB, hg, rr⟩
  · exact .inl h2
  · cases hv; exact .inr ⟨g, _, cur, rfl, hB, by rw [hk g rfl]; exact hg, rr⟩
theorem TRw.below (h : TRw K B W a c ts) (hB : Below W.heap.size W W') : TRw K B W' a c ts :=
  ⟨TRw.keep h.row fun g e => hB.block g (h.blk g e).2, fun t ht => (h.ok t ht).below hB⟩
theorem TRw.mono (h : TRw K B W a c ts) (hJ : K ≤ J) : TRw J B W a c ts := ⟨h.row, fun t ht => (h.ok t ht).mono hJ⟩
theorem TRw.addr (h : TRw K B W a c ts) (h0 : 0 < ts.length) : ∃ g, a = some ⟨g, 0, none⟩ ∧ B ≤ g ∧ g < W.heap.size := by
  rcases h.row.2 with ⟨h1, h2⟩ | ⟨g, cap, cur, hv, hb, hg, hnc, hcm, _⟩
  · omega
  · cases hv; exact ⟨g, rfl, hb, (Array.getElem?_eq_some_iff.1 hg).1⟩
theorem TRw.bnd (h : TRw K B W a c ts) : ts.length ≤ c ∧ c ≤ maxLen := by
  rcases h.row.2 with ⟨h1, h2⟩ | ⟨g, cap, cur, hv, hb, hg, hnc, hcm, _⟩
  · injection h1 with e1 e2 e3
    rw [e2, e3]; exact ⟨Nat.le_refl _, Nat.zero_le _⟩
  · cases hv; exact ⟨hnc, hcm⟩
theorem TRw.cells (h : TRw K B W a c ts) {i : Nat} (hi : i < ts.length) : ∃ g, a = some ⟨g, 0, none⟩ ∧ W.cell? ⟨g, i * 4, none⟩ = some (.int .i8 (ts.getD i TA.o).k) ∧ W.cell? ⟨g, i * 4 + 1, none⟩ = some (.bool (ts.getD i TA.o).x.s) ∧ W.cell? ⟨g, i * 4 + 2, none⟩ = some (.slice (ts.getD i TA.o).x.a (ts.getD i TA.o).x.n (ts.getD i TA.o).x.c) ∧ W.cell? ⟨g, i * 4 + 3, none⟩ = some (.slice (ts.getD i TA.o).x.b (ts.getD i TA.o).x.m (ts.getD i TA.o).x.d) := by
  obtain ⟨g, rfl, _⟩ := h.addr (by omega)
  obtain ⟨e0, e1, e2, e3⟩ := tflat_get ts i hi
  refine ⟨g, rfl, ?_, ?_, ?_, ?_⟩
  · rw [World.ownsRow.cellAt h.row _ (by omega), e0]
  · rw [World.ownsRow.cellAt h.row _ (by omega), e1]
  · rw [World.ownsRow.cellAt h.row _ (by omega), e2]
  · rw [World.ownsRow.cellAt h.row _ (by omega), e3]
theorem TRw.rdTs (h : TRw K B W a c ts) : RdTs K W a ts.length c (ts.map TA.ti) := by
  refine ⟨by simp, h.bnd.1, h.bnd.2, fun i hi => ?_⟩
  rw [ta_get hi]
  obtain ⟨g, e, h0, h1, h2, h3⟩ := h.cells hi
  exact ⟨(h.ok _ (ta_mem hi)).rdQ, g, 0, e, by rw [Nat.zero_add]; exact h0, by rw [Nat.zero_add]; exact h1, by rw [Nat.zero_add]; exact h2, by rw [Nat.zero_add]; exact h3⟩
/-- a list of terms that can be read -/
def TRow (W : World) (sa : Option Addr) (N : Nat) (ts : List TA) : Prop :=
  ∀ i, i < N → Rd W (ts.getD i TA.o).x.a (ts.getD i TA.o).x.n (ts.getD i TA.o).x.c (ts.getD i TA.o).x.l ∧ Rd W (ts.getD i TA.o).x.b (ts.getD i TA.o).x.m (ts.getD i TA.o).x.d (ts.getD i TA.o).x.k ∧
    ∃ g o, sa = some ⟨g, o, none⟩ ∧ W.cell? ⟨g, o + i * 4, none⟩ = some (.int .i8 (ts.getD i TA.o).k) ∧ W.cell? ⟨g, o + i * 4 + 1, none⟩ = some (.bool (ts.getD i TA.o).x.s) ∧ W.cell? ⟨g, o + i * 4 + 2, none⟩ = some (.slice (ts.getD i TA.o).x.a (ts.getD i TA.o).x.n (ts.getD i TA.o).x.c) ∧ W.cell? ⟨g, o + i * 4 + 3, none⟩ = some (.slice (ts.getD i TA.o).x.b (ts.getD i TA.o).x.m (ts.getD i TA.o).x.d)
theorem TRow.below {sa : Option Addr} {N : Nat} (h : TRow W sa N ts) (hB : Below W.heap.size W W') : TRow W' sa N ts := fun i hi => by
  obtain ⟨h4, h5, g, o, e, c0, c1, c2, c3⟩ := h i hi
  have hl := World.block_lt_of_cell? _ _ c1
  exact ⟨h4.below hB, h5.below hB, g, o, e, by rw [hB.cell (p := ⟨g, o + i * 4, none⟩) hl]; exact c0, by rw [hB.cell (p := ⟨g, o + i * 4 + 1, none⟩) hl]; exact c1, by rw [hB.cell (p := ⟨g, o + i * 4 + 2, none⟩) hl]; exact c2, by rw [hB.cell (p := ⟨g, o + i * 4 + 3, none⟩) hl]; exact c3⟩
theorem TRw.trow (h : TRw K B W a c ts) : TRow W a ts.length ts := fun i hi => by
  obtain ⟨g, e, h0, h1, h2, h3⟩ := h.cells hi
  have hm := h.ok _ (ta_mem hi)
  exact ⟨hm.ra, hm.rb, g, 0, e, by rw [Nat.zero_add]; exact h0, by rw [Nat.zero_add]; exact h1, by rw [Nat.zero_add]; exact h2, by rw [Nat.zero_add]; exact h3⟩
end
section
variable {w : World} {o : Oper} {A : Act} {Q : Exit → Act → World → Prop}
/-- terms behind a list -/
theorem wp_appTs {K : Act → World → Prop} {J B : Nat} {sa : Option Addr} {n c m : Nat} {ts us : List TA} (s y : Operand)
    (ho : o.op = .call { callee := .builtin .append, args := #[s, y], argTypes := #[22, 22] })
    (hS : TRw J B w sa c ts) (hnn : n = ts.length) (hs : A.eval s = .slice sa n c) (ad : Addr) (d : Nat) (hm : us.length = m) (hx : A.eval y = .slice (some ad) m d)
    (hy : ∀ j u, (us.flatMap TA.cs)[j]? = some u → w.cell? (ad.add j) = some u) (hP : ∀ t ∈ us, TOK J w sa t.x) (hB : B ≤ w.heap.size) (hn : ts.length + us.length ≤ 1048576)
    (h : ∀ a' c' w', TRw J B w' a' c' (ts ++ us) → Kp (fun k => sa = some ⟨k, 0, none⟩) w w' → (a' = sa ∨ ∀ g, a' = some ⟨g, 0, none⟩ → w.heap.size ≤ g) → K (A.put o.dst (.slice a' (n + m) c')) w') :
    o.wp Try.prog A w K Q := by
  subst hnn hm
  obtain ⟨a', c', w', hr, hown, hk, hf⟩ := rowL_append (w := w) 22 o.type Try.underlying22 infoT rfl (by decide) hS.row ad us.length d (news := us.flatMap TA.cs) (tflat_len us) hy (ta_one us) hB (by omega) (by omega)
  unfold Oper.wp execOp
  simp only [ho, resolve, invoke, builtin, Sem.run_bind, Sem.run_pure, Result.andThen_ok, List.map_toArray, List.map_cons, List.map_nil, hs, hx, hr]
  refine h a' c' w' ⟨by rw [List.length_append, List.flatMap_append]; exact hown, fun t ht => ?_⟩ hk hf
  rcases List.mem_append.1 ht with ht | ht
  · exact (hS.ok t ht).grown hk hf
  · exact (hP t ht).grown hk hf
/-- one term behind a list -/
theorem wp_appT {K : Act → World → Prop} {J B : Nat} {sa : Option Addr} {n c : Nat} {ts : List TA} {t : TA} (s y : Operand)
    (ho : o.op = .call { callee := .builtin .append, args := #[s, y], argTypes := #[22, 22] })
    (hS : TRw J B w sa c ts) (hnn : n = ts.length) (hs : A.eval s = .slice sa n c) (g d : Nat) (hx : A.eval y = .slice (some ⟨g, 0, none⟩) 1 d)
    (hp : Blk w g t.cs.toArray) (hP : TOK J w sa t.x) (hB : B ≤ w.heap.size) (hn : ts.length + 1 ≤ 1048576)
    (h : ∀ a' c' w', TRw J B w' a' c' (ts ++ [t]) → Kp (fun k => sa = some ⟨k, 0, none⟩) w w' → (a' = sa ∨ ∀ g, a' = some ⟨g, 0, none⟩ → w.heap.size ≤ g) → K (A.put o.dst (.slice a' (n + 1) c')) w') :
    o.wp Try.prog A w K Q :=
  wp_appTs (us := [t]) (m := 1) s y ho hS hnn hs ⟨g, 0, none⟩ d rfl hx (fun j u hj => by
      have := hp.cell j
      rw [show (Addr.add ⟨g, 0, none⟩ j) = ⟨g, j, none⟩ by simp [Addr.add]; intro e; rw [e], this]
      simpa using hj) (fun u hu => by rw [List.mem_singleton.1 hu]; exact hP) hB hn h
end
end Go.Proofs.Ytennilapmcgnbaa
/- EXPRESSIONS, plain 2: lists one behind the other; one number left open and filled in. -/
namespace Go.Proofs.Ytennilapmcgnbaa
set_option linter.unusedVariables false
set_option linter.unusedSimpArgs false

/-! ### lists without x -/
/-- terms worked through, from a stack on -/
noncomputable def runV : List TI → List PV → Option (List PV)
  | [], S => some S
  | t :: r, S => (stpV (-1) 0 t.k t.x.q S).bind (runV r)
theorem stpV_i (i : Nat) (k : Int) (q : Rat) (S : List PV) : stpV (-1) i k q S = stpV (-1) 0 k q S := by
  unfold stpV
  have h1 : ¬ ((i : Int) = -1) := by omega
  have h2 : ¬ (((0 : Nat) : Int) = -1) := by omega
  rw [if_neg h1, if_neg h2]
theorem runV_app (a b : List TI) : ∀ S, runV (a ++ b) S = (runV a S).bind (runV b) := by
  induction a with
  | nil => intro S; rfl
  | cons t r ih =>
    intro S
    show (stpV (-1) 0 t.k t.x.q S).bind (runV (r ++ b)) = ((stpV (-1) 0 t.k t.x.q S).bind (runV r)).bind (runV b)
    cases stpV (-1) 0 t.k t.x.q S with
    | none => rfl
    | some S' => exact ih S'
theorem wrkV_run (ts : List TI) : ∀ k, k ≤ ts.length → wrkV (-1) ts k = runV (ts.take k) []
  | 0, _ => by rw [List.take_zero]; rfl
  | k + 1, h => by
    rw [wrkV, wrkV_run ts k (by omega), List.take_add_one, runV_app]
    have e : ts[k]? = some (ts.getD k TI.o) := by rw [List.getD_eq_getElem?_getD, List.getElem?_eq_getElem (show k < ts.length by omega)]; rfl
    rw [e]
    cases runV (ts.take k) [] with
    | none => rfl
    | some S =>
      show stpV (-1) k _ _ S = (stpV (-1) 0 _ _ S).bind (runV [])
      rw [stpV_i]
      cases stpV (-1) 0 (ts.getD k TI.o).k (ts.getD k TI.o).x.q S <;> rfl
theorem wrkV_all (ts : List TI) : wrkV (-1) ts ts.length = runV ts [] := by rw [wrkV_run ts _ (Nat.le_refl _), List.take_length]
theorem stpV_frame {k : Int} {q : Rat} {S S' : List PV} (T : List PV) (h : stpV (-1) 0 k q S = some S') : stpV (-1) 0 k q (S ++ T) = some (S' ++ T) := by
  unfold stpV at h ⊢
  have h2 : ¬ (((0 : Nat) : Int) = -1) := by omega
  rw [if_neg h2] at h ⊢
  by_cases k1 : k = 1
  · rw [if_pos k1] at h ⊢; injection h with h; subst h; rfl
  rw [if_neg k1] at h ⊢
  by_cases k6 : k = 6
  · rw [if_pos k6] at h ⊢
    match S, h with
    | P :: R, h => injection h with h; subst h; rfl
  rw [if_neg k6] at h ⊢
  by_cases k25 : 2 ≤ k ∧ k ≤ 5
  · rw [if_pos k25] at h ⊢
    match S, h with
    | Q :: P :: R, h => injection h with h; subst h; rfl
  · rw [if_neg k25] at h; cases h
theorem runV_frame (T : List PV) : ∀ {a : List TI} {S S' : List PV}, runV a S = some S' → runV a (S ++ T) = some (S' ++ T)
  | [], S, S', h => by injection h with h; subst h; rfl
  | t :: r, S, S', h => by
    rw [runV, Option.bind_eq_some_iff] at h
    obtain ⟨S0, h0, h1⟩ := h
    rw [runV, stpV_frame T h0]
    exact runV_frame T h1
theorem ansV_run {ts : List TI} {P : PV} : ansV (-1) ts = some P ↔ runV ts [] = some [P] := by
  unfold ansV
  rw [wrkV_all]
  constructor
  · intro h
    split at h
    · next Q e => injection h with h; subst h; exact e
    · cases h
  · intro h; rw [h]
theorem ans_one (t : TI) (h : t.k = 1) : ansV (-1) [t] = some (nPV t.x.q) := by
  rw [ansV_run]
  show (stpV (-1) 0 t.k t.x.q []).bind (runV []) = _
  unfold stpV
  rw [if_pos h, if_neg (by decide)]
  rfl
theorem ans_neg {a : List TI} {P : PV} (ha : ansV (-1) a = some P) (x : QI) : ansV (-1) (a ++ [⟨6, x⟩]) = some (oppV P) := by
  rw [ansV_run] at ha ⊢
  rw [runV_app, ha]
  show (stpV (-1) 0 6 x.q [P]).bind (runV []) = _
  unfold stpV
  rw [if_neg (by decide), if_pos rfl]
  rfl
theorem ans_join {a b : List TI} {P Q : PV} (ha : ansV (-1) a = some P) (hb : ansV (-1) b = some Q) {k : Int} (h2 : 2 ≤ k) (h5 : k ≤ 5) (x : QI) : ansV (-1) (a ++ b ++ [⟨k, x⟩]) = some (joinV k P Q) := by
  rw [ansV_run] at ha hb ⊢
  rw [runV_app, runV_app, ha]
  show ((runV b [P]).bind _) = _
  have e : runV b [P] = some [Q, P] := runV_frame [P] hb
  rw [e]
  show (stpV (-1) 0 k x.q [Q, P]).bind (runV []) = _
  unfold stpV
  rw [if_neg (by omega), if_neg (by omega), if_pos ⟨h2, h5⟩]
  rfl
theorem ans_nil (at_ : Int) : ansV at_ [] = none := rfl

/-! ### how many parts are open -/
def opS : List PV → Nat
  | [] => 0
  | P :: R => (if P.opn then 1 else 0) + opS R
theorem joinV_kind (k : Int) (P Q : PV) : (joinV k P Q).kind = k := by
  unfold joinV
  split
  · rfl
  · split
    · rfl
    · split <;> rfl
theorem joinV_deep (k : Int) (P Q : PV) : (joinV k P Q).deep = dpJ k P Q := by
  unfold joinV
  split
  · rfl
  · split
    · rfl
    · split <;> rfl
theorem joinV_opn (k : Int) (P Q : PV) : (joinV k P Q).opn = (P.opn || Q.opn) := by
  unfold joinV
  cases P.opn <;> cases Q.opn <;> cases (P.bad || Q.bad) <;> rfl
theorem opS_stp {at_ : Int} {i : Nat} {k : Int} {q : Rat} {S S' : List PV} (h : stpV at_ i k q S = some S') (h1 : opS S ≤ 1) : opS S' = opS S + (if (i : Int) = at_ ∧ k = 1 then 1 else 0) := by
  unfold stpV at h
  split at h
  · next hk =>
    split at h
    · next hi => injection h with h; subst h; rw [if_pos ⟨hi, hk⟩]; show 1 + opS S = _; omega
    · next hi => injection h with h; subst h; rw [if_neg (fun e => hi e.1)]; show 0 + opS S = _; omega
  · next hk =>
    rw [if_neg (fun e => hk e.2)]
    split at h
    · split at h
      · next P R => injection h with h; subst h; rfl
      · cases h
    · split at h
      · split at h
        · next Q P R =>
          injection h with h; subst h
          show (if (joinV k P Q).opn then 1 else 0) + opS R = (if Q.opn then 1 else 0) + ((if P.opn then 1 else 0) + opS R) + 0
          rw [joinV_opn]
          have h1' : (if Q.opn then 1 else 0) + ((if P.opn then 1 else 0) + opS R) ≤ 1 := h1
          generalize opS R = r at h1' ⊢
          clear h1
          revert h1'
          cases P.opn <;> cases Q.opn <;> simp <;> omega
        · cases h
      · cases h
theorem opS_wrk {at_ : Int} {ts : List TI} : ∀ {k : Nat} {S : List PV}, wrkV at_ ts k = some S → opS S = if 0 ≤ at_ ∧ at_ < k ∧ (ts.getD at_.toNat TI.o).k = 1 then 1 else 0
  | 0, S, h => by injection h with h; subst h; rw [if_neg (by omega)]; rfl
  | k + 1, S, h => by
    rw [wrkV, Option.bind_eq_some_iff] at h
    obtain ⟨S0, h0, h1⟩ := h
    have h2 := opS_wrk h0
    rw [opS_stp h1 (by rw [h2]; split <;> omega), h2]
    by_cases ha : (k : Int) = at_
    · have e : at_.toNat = k := by omega
      rw [e, if_neg (by omega)]
      by_cases hk : (ts.getD k TI.o).k = 1
      · rw [if_pos ⟨ha, hk⟩, if_pos ⟨by omega, by omega, hk⟩]
      · rw [if_neg (fun e => hk e.2), if_neg (fun e => hk e.2.2)]
    · rw [if_neg (fun e : (k : Int) = at_ ∧ _ => ha e.1), Nat.add_zero]
      by_cases hc : 0 ≤ at_ ∧ at_ < k ∧ (ts.getD at_.toNat TI.o).k = 1
      · rw [if_pos hc, if_pos ⟨hc.1, by omega, hc.2.2⟩]
      · rw [if_neg hc, if_neg (fun e => hc ⟨e.1, by omega, e.2.2⟩)]
theorem ansV_wrk {at_ : Int} {ts : List TI} {P : PV} : ansV at_ ts = some P ↔ wrkV at_ ts ts.length = some [P] := by
  unfold ansV
  constructor
  · intro h
    split at h
    · next Q e => injection h with h; subst h; exact e
    · cases h
  · intro h; rw [h]
theorem ans_open {at_ : Int} {ts : List TI} {P : PV} (h : ansV at_ ts = some P) : P.opn = decide (0 ≤ at_ ∧ at_ < ts.length ∧ (ts.getD at_.toNat TI.o).k = 1) := by
  have h1 := opS_wrk (ansV_wrk.1 h)
  have h2 : (if P.opn then 1 else 0) + 0 = if 0 ≤ at_ ∧ at_ < ts.length ∧ (ts.getD at_.toNat TI.o).k = 1 then 1 else 0 := h1
  by_cases hc : 0 ≤ at_ ∧ at_ < ts.length ∧ (ts.getD at_.toNat TI.o).k = 1
  · rw [if_pos hc] at h2; rw [decide_eq_true hc]; cases hP : P.opn
    · rw [hP] at h2; simp at h2
    · rfl
  · rw [if_neg hc] at h2; rw [decide_eq_false hc]; cases hP : P.opn
    · rfl
    · rw [hP] at h2; simp at h2
theorem ans_closed {ts : List TI} {P : PV} (h : ansV (-1) ts = some P) : P.opn = false := by
  rw [ans_open h]; exact decide_eq_false (by omega)

/-! ### filled in -/
/-- P' is P with x filled in -/
structure Fil (x : Rat) (P P' : PV) : Prop where
  kind : P'.kind = P.kind
  deep : P'.deep = P.deep
  cl : P'.opn = false
  same : P.opn = false → P'.v = P.v ∧ P'.bad = P.bad
  fill : P.opn = true → P'.bad = false → P.bad = false ∧ P.L.c * x + P.L.d ≠ 0 ∧ P'.v * (P.L.c * x + P.L.d) = P.L.a * x + P.L.b
theorem fil_x (x : Rat) : Fil x xPV (nPV x) := ⟨rfl, rfl, rfl, fun h => by (cases h), fun _ _ => ⟨rfl, by show (0 : Rat) * x + 1 ≠ 0; grind, by show x * ((0 : Rat) * x + 1) = 1 * x + 0; grind⟩⟩
theorem fil_n (x q : Rat) : Fil x (nPV q) (nPV q) := ⟨rfl, rfl, rfl, fun _ => ⟨rfl, rfl⟩, fun h => by (cases h)⟩
theorem fil_opp {x : Rat} {P P' : PV} (h : Fil x P P') : Fil x (oppV P) (oppV P') := by
  refine ⟨rfl, ?_, h.cl, fun ho => ?_, fun ho hb => ?_⟩
  · show dpB _ P'.deep + 1 = dpB _ P.deep + 1; rw [h.kind, h.deep]
  · obtain ⟨h1, h2⟩ := h.same ho
    exact ⟨by show -P'.v = -P.v; rw [h1], h2⟩
  · obtain ⟨h1, h2, h3⟩ := h.fill ho hb
    refine ⟨h1, h2, ?_⟩
    show -P'.v * (P.L.c * x + P.L.d) = -P.L.a * x + -P.L.b
    generalize P.L.a = a at *; generalize P.L.b = b at *; generalize P.L.c = c at *; generalize P.L.d = d at *; generalize P'.v = v at *
    grind
theorem rgt_fil {x : Rat} {k : Int} {F : LV} {v q : Rat} (h2 : F.c * x + F.d ≠ 0) (h3 : v * (F.c * x + F.d) = F.a * x + F.b) (hb : (bthV k v q).2 = false) :
    (rgtV k F q).2 = false ∧ (rgtV k F q).1.c * x + (rgtV k F q).1.d ≠ 0 ∧ (bthV k v q).1 * ((rgtV k F q).1.c * x + (rgtV k F q).1.d) = (rgtV k F q).1.a * x + (rgtV k F q).1.b := by
  obtain ⟨a, b, c, d⟩ := F
  dsimp only at h2 h3
  unfold bthV at hb ⊢
  unfold rgtV
  by_cases k2 : k = 2
  · rw [if_pos k2, if_pos k2]
    refine ⟨rfl, h2, ?_⟩
    show (v + q) * (c * x + d) = (a + q * c) * x + (b + q * d)
    grind
  rw [if_neg k2] at hb ⊢; rw [if_neg k2]
  by_cases k3 : k = 3
  · rw [if_pos k3, if_pos k3]
    refine ⟨rfl, h2, ?_⟩
    show (v - q) * (c * x + d) = (a + -q * c) * x + (b + -q * d)
    grind
  rw [if_neg k3] at hb ⊢; rw [if_neg k3]
  by_cases k4 : k = 4
  · rw [if_pos k4, if_pos k4]
    refine ⟨rfl, h2, ?_⟩
    show (v * q) * (c * x + d) = (q * a) * x + (q * b)
    grind
  rw [if_neg k4] at hb ⊢; rw [if_neg k4]
  by_cases hq : q = 0
  · rw [if_pos hq] at hb; cases hb
  · rw [if_neg hq, if_neg hq]
    refine ⟨rfl, h2, ?_⟩
    show (v / q) * (c * x + d) = (1 / q * a) * x + (1 / q * b)
    grind
theorem lft_fil {x : Rat} {k : Int} {F : LV} {v q : Rat} (h2 : F.c * x + F.d ≠ 0) (h3 : v * (F.c * x + F.d) = F.a * x + F.b) (hb : (bthV k q v).2 = false) :
    (lftV k F q).2 = false ∧ (lftV k F q).1.c * x + (lftV k F q).1.d ≠ 0 ∧ (bthV k q v).1 * ((lftV k F q).1.c * x + (lftV k F q).1.d) = (lftV k F q).1.a * x + (lftV k F q).1.b := by
  obtain ⟨a, b, c, d⟩ := F
  dsimp only at h2 h3
  unfold bthV at hb ⊢
  unfold lftV
  by_cases k2 : k = 2
  · rw [if_pos k2, if_pos k2]
    refine ⟨rfl, h2, ?_⟩
    show (q + v) * (c * x + d) = (a + q * c) * x + (b + q * d)
    grind
  rw [if_neg k2] at hb ⊢; rw [if_neg k2]
  by_cases k3 : k = 3
  · rw [if_pos k3, if_pos k3]
    refine ⟨rfl, h2, ?_⟩
    show (q - v) * (c * x + d) = (-a + q * c) * x + (-b + q * d)
    grind
  rw [if_neg k3] at hb ⊢; rw [if_neg k3]
  by_cases k4 : k = 4
  · rw [if_pos k4, if_pos k4]
    refine ⟨rfl, h2, ?_⟩
    show (q * v) * (c * x + d) = (q * a) * x + (q * b)
    grind
  rw [if_neg k4] at hb ⊢; rw [if_neg k4]
  by_cases hv : v = 0
  · rw [if_pos hv] at hb; cases hb
  · rw [if_neg hv]
    have hn : ¬ (a = 0 ∧ b = 0) := by
      rintro ⟨rfl, rfl⟩
      grind
    dsimp only
    rw [if_neg hn]
    refine ⟨rfl, ?_, ?_⟩
    · show a * x + b ≠ 0
      grind
    · show (q / v) * (a * x + b) = (q * c) * x + (q * d)
      grind
theorem fil_join {x : Rat} {k : Int} {P P' Q Q' : PV} (h : Fil x P P') (h' : Fil x Q Q') (hno : ¬ (P.opn = true ∧ Q.opn = true)) : Fil x (joinV k P Q) (joinV k P' Q') := by
  have hd : dpJ k P' Q' = dpJ k P Q := by unfold dpJ; rw [h.kind, h.deep, h'.kind, h'.deep]
  have hk : (joinV k P' Q').kind = (joinV k P Q).kind := by rw [joinV_kind, joinV_kind]
  have hdp : (joinV k P' Q').deep = (joinV k P Q).deep := by rw [joinV_deep, joinV_deep, hd]
  have hcl : (joinV k P' Q').opn = false := by rw [joinV_opn, h.cl, h'.cl]; rfl
  refine ⟨hk, hdp, hcl, fun ho => ?_, fun ho hb => ?_⟩
  · rw [joinV_opn] at ho
    have hp : P.opn = false := by cases hP : P.opn; rfl; rw [hP] at ho; cases ho
    have hq : Q.opn = false := by cases hQ : Q.opn; rfl; rw [hQ, hp] at ho; cases ho
    obtain ⟨e1, e2⟩ := h.same hp
    obtain ⟨e3, e4⟩ := h'.same hq
    unfold joinV
    rw [e1, e2, e3, e4, h.cl, h'.cl, hp, hq]
    cases (P.bad || Q.bad) <;> exact ⟨rfl, rfl⟩
  · have hb' : P'.bad = false ∧ Q'.bad = false ∧ (bthV k P'.v Q'.v).2 = false := by
      unfold joinV at hb
      cases hP : P'.bad <;> cases hQ : Q'.bad <;> rw [hP, hQ, h.cl, h'.cl] at hb
      · exact ⟨rfl, rfl, hb⟩
      · cases hb
      · cases hb
      · cases hb
    obtain ⟨hpb, hqb, hbt⟩ := hb'
    have hv : (joinV k P' Q').v = (bthV k P'.v Q'.v).1 := by
      unfold joinV
      rw [hpb, hqb, h.cl, h'.cl]; rfl
    rw [hv]
    rw [joinV_opn] at ho
    by_cases hp : P.opn = true
    · have hq : Q.opn = false := by cases hQ : Q.opn; rfl; exact absurd ⟨hp, hQ⟩ hno
      obtain ⟨f1, f2, f3⟩ := h.fill hp hpb
      obtain ⟨e3, e4⟩ := h'.same hq
      have r := rgt_fil (k := k) (q := Q'.v) f2 f3 hbt
      unfold joinV
      rw [f1, ← e4, hqb, hp, hq, ← e3]
      exact r
    · have hp : P.opn = false := by cases hP : P.opn; rfl; exact absurd hP hp
      have hq : Q.opn = true := by rw [hp] at ho; exact ho
      obtain ⟨f1, f2, f3⟩ := h'.fill hq hqb
      obtain ⟨e3, e4⟩ := h.same hp
      have r := lft_fil (k := k) (q := P'.v) f2 f3 hbt
      unfold joinV
      rw [f1, ← e4, hpb, hp, hq, ← e3]
      exact r
def Fils (x : Rat) : List PV → List PV → Prop
  | [], [] => True
  | P :: R, P' :: R' => Fil x P P' ∧ Fils x R R'
  | _, _ => False
/-- one step of both -/
theorem fil_stp {x : Rat} {at_ : Int} {i : Nat} {k : Int} {q q' : Rat} {S S' : List PV} (h : Fils x S S') (h1 : opS S ≤ 1) (hq : (i : Int) ≠ at_ → q' = q) (hx : (i : Int) = at_ → k = 1 ∧ q' = x) :
    (stpV at_ i k q S = none ∧ stpV (-1) i k q' S' = none) ∨ ∃ T T', stpV at_ i k q S = some T ∧ stpV (-1) i k q' S' = some T' ∧ Fils x T T' := by
  have hm : ¬ ((i : Int) = -1) := by omega
  unfold stpV
  by_cases k1 : k = 1
  · rw [if_pos k1, if_pos k1, if_neg hm]
    by_cases ha : (i : Int) = at_
    · rw [if_pos ha, (hx ha).2]
      exact .inr ⟨_, _, rfl, rfl, fil_x x, h⟩
    · rw [if_neg ha, hq ha]
      exact .inr ⟨_, _, rfl, rfl, fil_n x q, h⟩
  rw [if_neg k1, if_neg k1]
  by_cases k6 : k = 6
  · rw [if_pos k6, if_pos k6]
    cases S with
    | nil => cases S' with
      | nil => exact .inl ⟨rfl, rfl⟩
      | cons P' R' => exact h.elim
    | cons P R => cases S' with
      | nil => exact h.elim
      | cons P' R' => exact .inr ⟨_, _, rfl, rfl, fil_opp h.1, h.2⟩
  rw [if_neg k6, if_neg k6]
  by_cases k25 : 2 ≤ k ∧ k ≤ 5
  · rw [if_pos k25, if_pos k25]
    match S, S', h with
    | [], [], _ => exact .inl ⟨rfl, rfl⟩
    | [P], [P'], _ => exact .inl ⟨rfl, rfl⟩
    | [_], _ :: _ :: _, h => exact h.2.elim
    | _ :: _ :: _, [_], h => exact h.2.elim
    | [], _ :: _, h => exact h.elim
    | _ :: _, [], h => exact h.elim
    | Q :: P :: R, Q' :: P' :: R', h =>
      have h1' : (if Q.opn then 1 else 0) + ((if P.opn then 1 else 0) + opS R) ≤ 1 := h1
      exact .inr ⟨_, _, rfl, rfl, fil_join h.2.1 h.1 (by rintro ⟨hp, hq⟩; rw [hp, hq] at h1'; simp at h1'; omega), h.2.2⟩
  · rw [if_neg k25, if_neg k25]
    exact .inl ⟨rfl, rfl⟩
theorem fil_wrk {x : Rat} {at_ : Int} {ts us : List TI} (hk : ∀ i, (us.getD i TI.o).k = (ts.getD i TI.o).k) (hq : ∀ i : Nat, (i : Int) ≠ at_ → (us.getD i TI.o).x.q = (ts.getD i TI.o).x.q)
    (hx : ∀ i : Nat, (i : Int) = at_ → (ts.getD i TI.o).k = 1 ∧ (us.getD i TI.o).x.q = x) :
    ∀ k, (wrkV at_ ts k = none ∧ wrkV (-1) us k = none) ∨ ∃ T T', wrkV at_ ts k = some T ∧ wrkV (-1) us k = some T' ∧ Fils x T T'
  | 0 => .inr ⟨[], [], rfl, rfl, trivial⟩
  | k + 1 => by
    rcases fil_wrk hk hq hx k with ⟨h1, h2⟩ | ⟨T, T', h1, h2, h3⟩
    · exact .inl ⟨by rw [wrkV, h1]; rfl, by rw [wrkV, h2]; rfl⟩
    · have ho := opS_wrk h1
      have := fil_stp (i := k) (k := (ts.getD k TI.o).k) (q := (ts.getD k TI.o).x.q) (q' := (us.getD k TI.o).x.q) h3 (by rw [ho]; split <;> omega) (hq k) (hx k)
      rw [wrkV, wrkV, h1, h2, hk k]
      exact this
theorem fil_ans {x : Rat} {at_ : Int} {ts us : List TI} (hl : us.length = ts.length) (hk : ∀ i, (us.getD i TI.o).k = (ts.getD i TI.o).k) (hq : ∀ i : Nat, (i : Int) ≠ at_ → (us.getD i TI.o).x.q = (ts.getD i TI.o).x.q)
    (hx : ∀ i : Nat, (i : Int) = at_ → (ts.getD i TI.o).k = 1 ∧ (us.getD i TI.o).x.q = x) :
    (ansV at_ ts = none ∧ ansV (-1) us = none) ∨ ∃ P P', ansV at_ ts = some P ∧ ansV (-1) us = some P' ∧ Fil x P P' := by
  unfold ansV
  rw [hl]
  rcases fil_wrk hk hq hx ts.length with ⟨h1, h2⟩ | ⟨T, T', h1, h2, h3⟩
  · rw [h1, h2]; exact .inl ⟨rfl, rfl⟩
  · rw [h1, h2]
    match T, T', h3 with
    | [], [], _ => exact .inl ⟨rfl, rfl⟩
    | [P], [P'], h => exact .inr ⟨P, P', rfl, rfl, h.1⟩
    | _ :: _ :: _, _ :: _ :: _, _ => exact .inl ⟨rfl, rfl⟩
    | [_], _ :: _ :: _, h => exact h.2.elim
    | _ :: _ :: _, [_], h => exact h.2.elim
    | [], _ :: _, h => exact h.elim
    | _ :: _, [], h => exact h.elim

/-! ### what is answered -/
def chkE (r : Option PV) : Int := match r with | none => 30 | some P => if P.deep > 64 then 31 else 0
def evE (r : Option PV) : Int := match r with | none => 30 | some P => if P.deep > 64 then 31 else if P.bad then 11 else 0
def evQ (r : Option PV) : Rat := match r with | none => 0 | some P => P.v
def dpE (r : Option PV) : Int := match r with | none => 30 | some _ => 0
def dpI (r : Option PV) : Int := match r with | none => 0 | some P => P.deep
def lnE (r : Option PV) : Int := match r with | none => 30 | some P => if P.deep > 64 then 31 else if P.opn then (if P.bad then 11 else 0) else 3
open Classical in
/-- by what a function is divided -/
noncomputable def byV (F : LV) : Rat := if F.c = 0 then F.d else F.c
noncomputable def dvV (F : LV) : LV := ⟨F.a / byV F, F.b / byV F, F.c / byV F, F.d / byV F⟩
/-! the last function is not nothing -/
def NZ (P : PV) : Prop := P.opn = true → P.bad = false → ¬ (P.L.c = 0 ∧ P.L.d = 0)
theorem nz_join {k : Int} {P Q : PV} (h : NZ P) (h' : NZ Q) : NZ (joinV k P Q) := by
  intro ho hb
  rw [joinV_opn] at ho
  have hpq : (P.bad || Q.bad) = false := by
    cases hc : (P.bad || Q.bad)
    · rfl
    · unfold joinV at hb; rw [if_pos hc] at hb; cases hb
  have hp : P.bad = false := by cases e : P.bad; rfl; rw [e] at hpq; cases hpq
  have hq : Q.bad = false := by cases e : Q.bad; rfl; rw [e, hp] at hpq; cases hpq
  have hn : ¬ ((P.bad || Q.bad) = true) := by rw [hpq]; decide
  unfold joinV at hb ⊢
  rw [if_neg hn] at hb ⊢
  by_cases ho1 : P.opn = true
  · rw [if_pos ho1] at hb ⊢
    have hz := h ho1 hp
    dsimp only at hb ⊢
    unfold rgtV at hb ⊢
    split
    · exact hz
    · split
      · exact hz
      · split
        · exact hz
        · split at hb
          · simp_all
          · split
            · simp_all
            · exact hz
  · have hq1 : Q.opn = true := by cases e : P.opn; rw [e] at ho; exact ho; exact absurd e ho1
    rw [if_neg ho1, if_pos hq1] at hb ⊢
    have hz := h' hq1 hq
    dsimp only at hb ⊢
    unfold lftV at hb ⊢
    split
    · exact hz
    · split
      · exact hz
      · split
        · exact hz
        · split
          · simp_all
          · next hne => exact hne
theorem nz_opp {P : PV} (h : NZ P) : NZ (oppV P) := fun ho hb => h ho hb
theorem nz_stp {at_ : Int} {i : Nat} {k : Int} {q : Rat} {S S' : List PV} (h : stpV at_ i k q S = some S') (hS : ∀ P ∈ S, NZ P) : ∀ P ∈ S', NZ P := by
  unfold stpV at h
  by_cases k1 : k = 1
  · rw [if_pos k1] at h
    by_cases hi : (i : Int) = at_
    · rw [if_pos hi] at h
      injection h with h; subst h
      intro P hP
      rcases List.mem_cons.1 hP with rfl | hP
      · intro _ _ e; exact absurd e.2 (by show ¬ ((1 : Rat) = 0); decide)
      · exact hS P hP
    · rw [if_neg hi] at h
      injection h with h; subst h
      intro P hP
      rcases List.mem_cons.1 hP with rfl | hP
      · intro ho; cases ho
      · exact hS P hP
  rw [if_neg k1] at h
  by_cases k6 : k = 6
  · rw [if_pos k6] at h
    match S, h, hS with
    | P0 :: R, h, hS =>
      injection h with h; subst h
      intro P hP
      rcases List.mem_cons.1 hP with rfl | hP
      · exact nz_opp (hS P0 (List.mem_cons_self ..))
      · exact hS P (List.mem_cons_of_mem _ hP)
  rw [if_neg k6] at h
  by_cases k25 : 2 ≤ k ∧ k ≤ 5
  · rw [if_pos k25] at h
    match S, h, hS with
    | Q0 :: P0 :: R, h, hS =>
      injection h with h; subst h
      intro P hP
      rcases List.mem_cons.1 hP with rfl | hP
      · exact nz_join (hS P0 (List.mem_cons_of_mem _ (List.mem_cons_self ..))) (hS Q0 (List.mem_cons_self ..))
      · exact hS P (List.mem_cons_of_mem _ (List.mem_cons_of_mem _ hP))
  · rw [if_neg k25] at h; cases h
theorem nz_wrk {at_ : Int} {ts : List TI} : ∀ {k : Nat} {S : List PV}, wrkV at_ ts k = some S → ∀ P ∈ S, NZ P
  | 0, S, h => by injection h with h; subst h; intro P hP; cases hP
  | k + 1, S, h => by
    rw [wrkV, Option.bind_eq_some_iff] at h
    obtain ⟨S0, h0, h1⟩ := h
    exact nz_stp h1 (nz_wrk h0)
theorem ans_nz {at_ : Int} {ts : List TI} {P : PV} (h : ansV at_ ts = some P) : NZ P := nz_wrk (ansV_wrk.1 h) P (List.mem_singleton.2 rfl)
theorem byV_ne {P : PV} (h : NZ P) (ho : P.opn = true) (hb : P.bad = false) : byV P.L ≠ 0 := by
  have h1 := h ho hb
  unfold byV
  split
  · next h2 => exact fun h3 => h1 ⟨h2, h3⟩
  · next h2 => exact h2
end Go.Proofs.Ytennilapmcgnbaa
/- WALKS OF EXPRESSIONS, 8b: what a list comes to: checked, Eval, Deep, Line. -/
namespace Go.Proofs.Ytennilapmcgnbaa
set_option linter.unusedVariables false
set_option linter.unusedSimpArgs false
open Go.ChangeShapes Go.WideShapes Go.ChangeAt Go.RowKit Go.NatP

def RetChk (w : World) (r : Option PV) (e : Ending) (w' : World) : Prop :=
  Below w.heap.size w w' ∧ ∃ p : PX, e = .returned (.tuple #[.agg p.arr, .int .i64 (chkE r)]) ∧ match r with | some P => PartOK (fun g => w.heap.size ≤ g) w' p P | none => p = PX.o
theorem Own.up {B : Nat} {w : World} {a : Option Addr} {n c : Nat} {l : List Nat} (h : Own 0 w a n c l) (hg : ∀ g, a = some ⟨g, 0, none⟩ → B ≤ g) : Own B w a n c l := by
  refine ⟨h.1, h.2.1, h.2.2.1, ?_⟩
  rcases h.2.2.2 with h1 | ⟨g, cap, cur, h1, h2, h3⟩
  · exact .inl h1
  · refine .inr ⟨g, cap, cur, h1, hg g ?_, h3⟩
    injection h1

set_option maxRecDepth 100000 in
set_option maxHeartbeats 4000000 in
theorem chk_any {w : World} {sa : Option Addr} {n c K : Nat} {xs : List TI} {at_ : Int} (hx : RdTs K w sa n c xs) (hK : 2 ≤ K) (hn : (n + 1) * K ≤ 250000) :
    Calls Try.prog 31 #[.slice sa n c, .int .i64 at_] w (RetChk w (ansV at_ xs)) := by
  have HW := hid (fun (w' : World) (hB : Below w.heap.size w w') => work_any (at_ := at_) (hx.below hB) hK hn)
  generalize ansV at_ xs = r at HW ⊢
  clear hx hn
  have hent := ent1 w #[Value.int .i8 0, Value.int .i64 0, Value.bool false, Value.slice none 0 0, Value.slice none 0 0, Value.bool false, Value.bool false, Value.bool false, Value.slice none 0 0, Value.slice none 0 0, Value.bool false, Value.slice none 0 0, Value.slice none 0 0, Value.bool false, Value.slice none 0 0, Value.slice none 0 0, Value.bool false, Value.slice none 0 0, Value.slice none 0 0] 67
  go_enter Try.func31, Try.ntmps31
  go_wp2_with fail
  obtain ⟨R1, hbel0, hsz0⟩ := hent
  generalize w.alloc (.cells #[Value.int .i8 0, Value.int .i64 0, Value.bool false, Value.slice none 0 0, Value.slice none 0 0, Value.bool false, Value.bool false, Value.bool false, Value.slice none 0 0, Value.slice none 0 0, Value.bool false, Value.slice none 0 0, Value.slice none 0 0, Value.bool false, Value.slice none 0 0, Value.slice none 0 0, Value.bool false, Value.slice none 0 0, Value.slice none 0 0] 67) = W0 at R1 hbel0 hsz0 ⊢
  have R1 : Blk W0 w.heap.size PX.o.arr := R1
  refine (HW.out W0 hbel0).mono ?_
  rintro e w1 ⟨hB1, hr⟩
  have hR := hid (R1.next hB1)
  have hbel := hid (hbel0.next hB1)
  have hs1 := hB1.size
  clear HW R1 hbel0 hB1
  have hnew : Blk (w1.alloc (.cells #[Value.int .i8 0, Value.int .i64 0, Value.bool false, Value.slice none 0 0, Value.slice none 0 0, Value.bool false, Value.bool false, Value.bool false, Value.slice none 0 0, Value.slice none 0 0, Value.bool false, Value.slice none 0 0, Value.slice none 0 0, Value.bool false, Value.slice none 0 0, Value.slice none 0 0, Value.bool false, Value.slice none 0 0, Value.slice none 0 0] 67)) w1.heap.size PX.o.arr := blk_new _ _ _
  have hbn := (Below.refl w1.heap.size w1).alloc (Nat.le_refl _) (.cells #[Value.int .i8 0, Value.int .i64 0, Value.bool false, Value.slice none 0 0, Value.slice none 0 0, Value.bool false, Value.bool false, Value.bool false, Value.slice none 0 0, Value.slice none 0 0, Value.bool false, Value.slice none 0 0, Value.slice none 0 0, Value.bool false, Value.slice none 0 0, Value.slice none 0 0, Value.bool false, Value.slice none 0 0, Value.slice none 0 0] 67)
  rcases r with _ | P
  ·
    obtain rfl := hr
    go_upto_region 2 with (refine BigFrame.wpList_want (by rfl) (fun Kq hKq => wp_storeP (p := PX.o) (q := PX.o) _ _ rfl rfl rfl hnew (fun ws hbs hks => hKq _ _ ?_)))
    have hbq := hid (hbn.kp hks hbn.size (fun j hj (e : j = _) => by omega))
    have hR2 := (hR.out.next hbq.out)
    have hbl := hbel.out.next hbq.out
    have hlt := hR2.lt
    have hs2 := hks.size
    have hl1 := hR.out.lt
    obtain ⟨wt, hwt⟩ : ∃ y : World, y = ws := ⟨_, rfl⟩
    subst hwt
    clear hnew hbn hR hbel
    go_wp2_with (first | (refine BigFrame.wpList_want (by rfl) (fun Kq hKq => wp_loadP (p := PX.o) _ rfl rfl hbs (hKq _ _ ?_))) | (refine BigFrame.wpList_want (by rfl) (fun Kq hKq => wp_storeP (p := PX.o) (q := PX.o) _ _ rfl rfl rfl hR2 (fun ws hbs hks => hKq _ _ ?_))))
    have hbl3 := hbl.kp hks hbl.size (fun j hj (e : j = _) => by omega)
    refine bodyPost_ret (res_blk_tmp Try.results31 rfl rfl hbs Try.underlying67 rfl (by kernel_rfl)) rfl ?_
    exact ⟨hbl3, PX.o, rfl, rfl⟩
  ·
    obtain ⟨p, rfl, hp⟩ := hr
    have hpd := hid hp.deep
    go_upto_region 2 with (refine BigFrame.wpList_want (by rfl) (fun Kq hKq => wp_storeP (p := p) (q := PX.o) _ _ rfl rfl rfl hnew (fun ws hbs hks => hKq _ _ ?_)))
    have hbq := hid (hbn.kp hks hbn.size (fun j hj (e : j = _) => by omega))
    have hR2 := (hR.out.next hbq.out)
    have hbl := hbel.out.next hbq.out
    have hlt := hR2.lt
    have hs2 := hks.size
    have hl1 := hR.out.lt
    obtain ⟨wt, hwt⟩ : ∃ y : World, y = ws := ⟨_, rfl⟩
    subst hwt
    clear hnew hbn hR hbel
    have hpp := hid (hp.below hbq.out)
    clear hp
    have c1 : _ = some (Value.int .i64 p.deep) := hbs.cell 1
    by_cases hd : P.deep > 64
    ·
      have hce := hid (show chkE (some P) = 31 from if_pos hd)
      have hdd : decide (p.deep > 64) = true := by rw [hpd.out]; simp; omega
      clear hd
      go_wp2_with (first | (refine BigFrame.wpList_want (by rfl) (fun Kq hKq => wp_loadP (p := p) _ rfl rfl hbs (hKq _ _ ?_))) | (refine BigFrame.wpList_want (by rfl) (fun Kq hKq => wp_storeP (p := p) (q := PX.o) _ _ rfl rfl rfl hR2 (fun ws hbs hks => hKq _ _ ?_))))
      have hbl3 := hbl.kp hks hbl.size (fun j hj (e : j = _) => by omega)
      refine bodyPost_ret (res_blk_tmp Try.results31 rfl rfl hbs Try.underlying67 rfl (by kernel_rfl)) rfl ?_
      exact ⟨hbl3, p, by rw [hce.out]; rfl, (hpp.out.kp hks (fun j (e : j = _) hn => by omega)).mono (fun g _ hn => by omega)⟩
    ·
      have hce := hid (show chkE (some P) = 0 from if_neg hd)
      have hdd : decide (p.deep > 64) = false := by rw [hpd.out]; simp; omega
      clear hd
      go_wp2_with (first | (refine BigFrame.wpList_want (by rfl) (fun Kq hKq => wp_loadP (p := p) _ rfl rfl hbs (hKq _ _ ?_))) | (refine BigFrame.wpList_want (by rfl) (fun Kq hKq => wp_storeP (p := p) (q := PX.o) _ _ rfl rfl rfl hR2 (fun ws hbs hks => hKq _ _ ?_))))
      have hbl3 := hbl.kp hks hbl.size (fun j hj (e : j = _) => by omega)
      refine bodyPost_ret (res_blk_tmp Try.results31 rfl rfl hbs Try.underlying67 rfl (by kernel_rfl)) rfl ?_
      exact ⟨hbl3, p, by rw [hce.out]; rfl, (hpp.out.kp hks (fun j (e : j = _) hn => by omega)).mono (fun g _ hn => by omega)⟩

set_option maxRecDepth 100000 in
set_option maxHeartbeats 4000000 in
theorem evl_any {w : World} {sa : Option Addr} {n c K : Nat} {xs : List TI} (hx : RdTs K w sa n c xs) (hK : 2 ≤ K) (hn : (n + 1) * K ≤ 250000) :
    Calls Try.prog 10 #[.slice sa n c] w (RetQE w (evQ (ansV (-1) xs)) (evE (ansV (-1) xs))) := by
  have HW := hid (fun (w' : World) (hB : Below w.heap.size w w') => chk_any (at_ := -1) (hx.below hB) hK hn)
  have hcl := hid (fun P (h : ansV (-1) xs = some P) => ans_closed h)
  generalize ansV (-1) xs = r at HW hcl ⊢
  clear hx hn
  have hent := ent1 w #[Value.bool false, Value.slice none 0 0, Value.slice none 0 0] 28
  go_enter Try.func10, Try.ntmps10
  go_wp2_with fail
  generalize (w.alloc (.cells #[Value.bool false, Value.slice none 0 0, Value.slice none 0 0] 28)) = W0 at hent ⊢
  obtain ⟨R0_0, hbel_0, hsz_0⟩ := hent
  refine (HW.out W0 hbel_0).mono ?_
  clear HW
  rintro e w1 ⟨hB1, p, rfl, hp⟩
  have hB_1 : Below W0.heap.size W0 w1 := hB1
  have R0_1 := R0_0.next hB_1
  have hbel_1 := hbel_0.next hB_1
  have hsz_1 := hB_1.size
  clear R0_0 hbel_0 hB_1
  clear hB1
  have hnew : Blk (w1.alloc (.cells #[Value.int .i8 0, Value.int .i64 0, Value.bool false, Value.slice none 0 0, Value.slice none 0 0, Value.bool false, Value.bool false, Value.bool false, Value.slice none 0 0, Value.slice none 0 0, Value.bool false, Value.slice none 0 0, Value.slice none 0 0, Value.bool false, Value.slice none 0 0, Value.slice none 0 0, Value.bool false, Value.slice none 0 0, Value.slice none 0 0] 67)) w1.heap.size PX.o.arr := blk_new _ _ _
  have hbn := (Below.refl w1.heap.size w1).alloc (Nat.le_refl _) (.cells #[Value.int .i8 0, Value.int .i64 0, Value.bool false, Value.slice none 0 0, Value.slice none 0 0, Value.bool false, Value.bool false, Value.bool false, Value.slice none 0 0, Value.slice none 0 0, Value.bool false, Value.slice none 0 0, Value.slice none 0 0, Value.bool false, Value.slice none 0 0, Value.slice none 0 0, Value.bool false, Value.slice none 0 0, Value.slice none 0 0] 67)
  go_upto_region 2 with (refine BigFrame.wpList_want (by rfl) (fun Kq hKq => wp_storeP (p := p) (q := PX.o) _ _ rfl rfl rfl hnew (fun ws hbs hks => hKq _ _ ?_)))
  have hbq := hbn.kp hks hbn.size (fun j hj (e : j = _) => by omega)
  obtain ⟨wt, hwt⟩ : ∃ y : World, y = ws := ⟨_, rfl⟩
  subst hwt
  have hq0 := hid hbq
  have hp := hid hp
  have hB_2 : Below w1.heap.size w1 wt := hbq
  have R0_2 := R0_1.next hB_2
  have hbel_2 := hbel_1.next hB_2
  have hsz_2 := hB_2.size
  clear R0_1 hbel_1 hB_2
  clear hbq hks hbn hnew
  have Pp_2 := hbs
  have hltP := hbs.lt
  clear hbs
  rcases r with _ | P
  ·
    rw [show chkE none = 30 from rfl]
    have hpp := hid (show p = PX.o from hp.out)
    clear hp
    have cR0_2_0 : _ = some (Value.bool false) := R0_2.cell 0
    have fR0_2_0 := R0_2.free 0
    have cR0_2_1 : _ = some (Value.slice none 0 0) := R0_2.cell 1
    have fR0_2_1 := R0_2.free 1
    have cR0_2_2 : _ = some (Value.slice none 0 0) := R0_2.cell 2
    have fR0_2_2 := R0_2.free 2
    go_wp2
    refine bodyPost_ret (v := .tuple #[.agg #[.bool false, .slice none 0 0, .slice none 0 0], .int .i64 30]) (by simp [results, Try.results10, go_sem, cR0_2_0, cR0_2_1, cR0_2_2]) rfl ?_
    rw [show evE none = 30 from rfl]
    exact retqe_nil (by decide) hbel_2 (by omega)
  ·
    have hpp := hid ((show PartOK (fun g => W0.heap.size ≤ g) w1 p P from hp.out).below hq0.out)
    clear hp
    by_cases hd : P.deep > 64
    ·
      rw [show chkE (some P) = 31 from if_pos hd]
      have hd1 := hid (show evE (some P) = 31 from if_pos hd)
      have hdl := hid (show lnE (some P) = 31 from if_pos hd)
      clear hd
      have cR0_2_0 : _ = some (Value.bool false) := R0_2.cell 0
      have fR0_2_0 := R0_2.free 0
      have cR0_2_1 : _ = some (Value.slice none 0 0) := R0_2.cell 1
      have fR0_2_1 := R0_2.free 1
      have cR0_2_2 : _ = some (Value.slice none 0 0) := R0_2.cell 2
      have fR0_2_2 := R0_2.free 2
      go_wp2
      refine bodyPost_ret (v := .tuple #[.agg #[.bool false, .slice none 0 0, .slice none 0 0], .int .i64 31]) (by simp [results, Try.results10, go_sem, cR0_2_0, cR0_2_1, cR0_2_2]) rfl ?_
      rw [show evE (some P) = 31 from hd1.out]
      exact retqe_nil (by decide) hbel_2 (by omega)
    ·
      rw [show chkE (some P) = 0 from if_neg hd]
      have hd1 := hid (show evE (some P) = if P.bad = true then 11 else 0 from if_neg hd)
      have hdl := hid (show lnE (some P) = if P.opn = true then (if P.bad = true then 11 else 0) else 3 from if_neg hd)
      clear hd
      have hbq := hid hpp.out.bad
      have c5 : _ = some (Value.bool p.bad) := Pp_2.cell 5
      cases hpb0 : P.bad
      ·
        rw [show p.bad = false from hbq.out.trans hpb0] at c5
        have hpb := hid hpb0
        clear hpb0
        have hFN := hid (hpp.out.nv hpb.out (hcl.out P rfl))
        have cPp_2_2 : _ = some (Value.bool p.v.s) := Pp_2.cell 2
        have fPp_2_2 := Pp_2.free 2
        have cPp_2_3 : _ = some (Value.slice p.v.a p.v.n p.v.c) := Pp_2.cell 3
        have fPp_2_3 := Pp_2.free 3
        have cPp_2_4 : _ = some (Value.slice p.v.b p.v.m p.v.d) := Pp_2.cell 4
        have fPp_2_4 := Pp_2.free 4
        have cR0_2_0 : _ = some (Value.bool false) := R0_2.cell 0
        have fR0_2_0 := R0_2.free 0
        have cR0_2_1 : _ = some (Value.slice none 0 0) := R0_2.cell 1
        have fR0_2_1 := R0_2.free 1
        have cR0_2_2 : _ = some (Value.slice none 0 0) := R0_2.cell 2
        have fR0_2_2 := R0_2.free 2
        go_wp2
        refine bodyPost_ret (v := .tuple #[.agg #[.bool p.v.s, .slice p.v.a p.v.n p.v.c, .slice p.v.b p.v.m p.v.d], .int .i64 0]) (by simp [results, Try.results10, go_sem, cPp_2_2, cPp_2_3, cPp_2_4, cR0_2_0, cR0_2_1, cR0_2_2]) rfl ?_
        rw [show evE (some P) = 0 from by rw [hd1.out, hpb.out]; rfl]
        have h1 := hFN.out.s
        rw [h1]
        exact retqe_set (q := P.v) (er := 0) (B := W0.heap.size) (hFN.out.o1.up hFN.out.n1) (hFN.out.o2.up hFN.out.n2) hFN.out.df hbel_2 (Nat.le_refl _) (by omega)
      ·
        rw [show p.bad = true from hbq.out.trans hpb0] at c5
        have hpb := hid hpb0
        clear hpb0
        have cR0_2_0 : _ = some (Value.bool false) := R0_2.cell 0
        have fR0_2_0 := R0_2.free 0
        have cR0_2_1 : _ = some (Value.slice none 0 0) := R0_2.cell 1
        have fR0_2_1 := R0_2.free 1
        have cR0_2_2 : _ = some (Value.slice none 0 0) := R0_2.cell 2
        have fR0_2_2 := R0_2.free 2
        go_wp2
        refine bodyPost_ret (v := .tuple #[.agg #[.bool false, .slice none 0 0, .slice none 0 0], .int .i64 11]) (by simp [results, Try.results10, go_sem, cR0_2_0, cR0_2_1, cR0_2_2]) rfl ?_
        rw [show evE (some P) = 11 from by rw [hd1.out, hpb.out]; rfl]
        exact retqe_nil (by decide) hbel_2 (by omega)

def RetIE (w : World) (d er : Int) (e : Ending) (w' : World) : Prop := e = .returned (.tuple #[.int .i64 d, .int .i64 er]) ∧ Below w.heap.size w w'

set_option maxRecDepth 100000 in
set_option maxHeartbeats 4000000 in
theorem dep_any {w : World} {sa : Option Addr} {n c K : Nat} {xs : List TI} (hx : RdTs K w sa n c xs) (hK : 2 ≤ K) (hn : (n + 1) * K ≤ 250000) :
    Calls Try.prog 15 #[.slice sa n c] w (RetIE w (dpI (ansV (-1) xs)) (dpE (ansV (-1) xs))) := by
  have HW := hid (fun (w' : World) (hB : Below w.heap.size w w') => chk_any (at_ := -1) (hx.below hB) hK hn)
  generalize ansV (-1) xs = r at HW ⊢
  clear hx hn
  go_enter Try.func15, Try.ntmps15
  go_wp2_with fail
  have hbel_0 : Below w.heap.size w w := Below.refl _ _
  have hsz_0 : w.heap.size ≤ w.heap.size := Nat.le_refl _
  refine (HW.out w hbel_0).mono ?_
  clear HW
  rintro e w1 ⟨hB1, p, rfl, hp⟩
  have hB_1 : Below w.heap.size w w1 := hB1
  have hbel_1 := hbel_0.next hB_1
  have hsz_1 := hB_1.size
  clear hbel_0 hB_1
  clear hB1
  have hnew : Blk (w1.alloc (.cells #[Value.int .i8 0, Value.int .i64 0, Value.bool false, Value.slice none 0 0, Value.slice none 0 0, Value.bool false, Value.bool false, Value.bool false, Value.slice none 0 0, Value.slice none 0 0, Value.bool false, Value.slice none 0 0, Value.slice none 0 0, Value.bool false, Value.slice none 0 0, Value.slice none 0 0, Value.bool false, Value.slice none 0 0, Value.slice none 0 0] 67)) w1.heap.size PX.o.arr := blk_new _ _ _
  have hbn := (Below.refl w1.heap.size w1).alloc (Nat.le_refl _) (.cells #[Value.int .i8 0, Value.int .i64 0, Value.bool false, Value.slice none 0 0, Value.slice none 0 0, Value.bool false, Value.bool false, Value.bool false, Value.slice none 0 0, Value.slice none 0 0, Value.bool false, Value.slice none 0 0, Value.slice none 0 0, Value.bool false, Value.slice none 0 0, Value.slice none 0 0, Value.bool false, Value.slice none 0 0, Value.slice none 0 0] 67)
  go_upto_region 2 with (refine BigFrame.wpList_want (by rfl) (fun Kq hKq => wp_storeP (p := p) (q := PX.o) _ _ rfl rfl rfl hnew (fun ws hbs hks => hKq _ _ ?_)))
  have hbq := hbn.kp hks hbn.size (fun j hj (e : j = _) => by omega)
  obtain ⟨wt, hwt⟩ : ∃ y : World, y = ws := ⟨_, rfl⟩
  subst hwt
  have hq0 := hid hbq
  have hp := hid hp
  have hB_2 : Below w1.heap.size w1 wt := hbq
  have hbel_2 := hbel_1.next hB_2
  have hsz_2 := hB_2.size
  clear hbel_1 hB_2
  clear hbq hks hbn hnew
  have Pp_2 := hbs
  have hltP := hbs.lt
  clear hbs
  rcases r with _ | P
  ·
    rw [show chkE none = 30 from rfl]
    have hpp := hid (show p = PX.o from hp.out)
    clear hp
    have hdv := hid (show True from trivial)
    have c1 : _ = some (Value.int .i64 p.deep) := Pp_2.cell 1
    go_wp2
    refine bodyPost_ret (v := .tuple #[.int .i64 (0), .int .i64 30]) (by simp [results, Try.results15, go_sem]) rfl ?_
    exact ⟨rfl, hbel_2⟩
  ·
    have hpp := hid ((show PartOK (fun g => w.heap.size ≤ g) w1 p P from hp.out).below hq0.out)
    clear hp
    by_cases hd : P.deep > 64
    ·
      rw [show chkE (some P) = 31 from if_pos hd]
      have hd1 := hid (show evE (some P) = 31 from if_pos hd)
      have hdl := hid (show lnE (some P) = 31 from if_pos hd)
      clear hd
      have hdv := hid (hpp.out.deep)
      have c1 : _ = some (Value.int .i64 p.deep) := Pp_2.cell 1
      go_wp2
      refine bodyPost_ret (v := .tuple #[.int .i64 (p.deep), .int .i64 0]) (by simp [results, Try.results15, go_sem]) rfl ?_
      exact ⟨by rw [hdv.out]; rfl, hbel_2⟩
    ·
      rw [show chkE (some P) = 0 from if_neg hd]
      have hd1 := hid (show evE (some P) = if P.bad = true then 11 else 0 from if_neg hd)
      have hdl := hid (show lnE (some P) = if P.opn = true then (if P.bad = true then 11 else 0) else 3 from if_neg hd)
      clear hd
      have hdv := hid (hpp.out.deep)
      have c1 : _ = some (Value.int .i64 p.deep) := Pp_2.cell 1
      go_wp2
      refine bodyPost_ret (v := .tuple #[.int .i64 (p.deep), .int .i64 0]) (by simp [results, Try.results15, go_sem]) rfl ?_
      exact ⟨by rw [hdv.out]; rfl, hbel_2⟩

end Go.Proofs.Ytennilapmcgnbaa
/- WALKS OF EXPRESSIONS, 8c: a list with one number open: Line. -/
namespace Go.Proofs.Ytennilapmcgnbaa
set_option linter.unusedVariables false
set_option linter.unusedSimpArgs false
open Go.ChangeShapes Go.WideShapes Go.ChangeAt Go.RowKit Go.NatP

def LtX (x : FX) (N : Nat) : Prop := LtB x.a N ∧ LtB x.b N
structure FO (B : Nat) (W : World) (x : FX) (q : Rat) : Prop where
  s : x.s = decide (q.num < 0)
  o1 : Own B W x.a x.n x.c (lm q.num.natAbs)
  o2 : Own B W x.b x.m x.d (lm q.den)
  df : Diff x.a x.b
section
variable {B B' : Nat} {W W' : World} {x : FX} {q : Rat} {p : Nat → Prop} {J : Nat}
theorem FO.below (h : FO B W x q) (hB : Below W.heap.size W W') : FO B W' x q := ⟨h.s, h.o1.below hB, h.o2.below hB, h.df⟩
theorem FO.kp (h : FO B W x q) (hk : Kp p W W') (hp : ∀ j, p j → j < B) : FO B W' x q := ⟨h.s, h.o1.kp hk (fun g e hg => by have := (h.o1.lt' g e).1; have := hp g hg; omega), h.o2.kp hk (fun g e hg => by have := (h.o2.lt' g e).1; have := hp g hg; omega), h.df⟩
theorem FO.mono (h : FO B W x q) (hB : B' ≤ B) : FO B' W x q := ⟨h.s, h.o1.mono hB, h.o2.mono hB, h.df⟩
theorem FO.ltx (h : FO B W x q) : LtX x W.heap.size := ⟨h.o1.ltB, h.o2.ltB⟩
theorem LtX.mono {N M : Nat} (h : LtX x N) (hN : N ≤ M) : LtX x M := ⟨fun g e => Nat.lt_of_lt_of_le (h.1 g e) hN, fun g e => Nat.lt_of_lt_of_le (h.2 g e) hN⟩
theorem FO.rdQ (h : FO B W x q) (hq : QS q J) : RdQ J W x.s x.a x.n x.c x.b x.m x.d q := by rw [h.s]; exact h.o1.rdQ h.o2 hq
end
/-- the four numbers of an answer, each behind the one ahead of it -/
structure LinOK (B : Nat) (W : World) (f : LX) (F : LV) : Prop where
  ex : ∃ N1 N2 N3, B ≤ N1 ∧ N1 ≤ N2 ∧ N2 ≤ N3 ∧ FO B W f.A F.a ∧ LtX f.A N1 ∧ FO N1 W f.B F.b ∧ LtX f.B N2 ∧ FO N2 W f.C F.c ∧ LtX f.C N3 ∧ FO N3 W f.D F.d
noncomputable def lnV (r : Option PV) : LV := match r with | none => LV.z | some P => dvV P.L
def RetLn (w : World) (F : LV) (er : Int) (e : Ending) (w' : World) : Prop :=
  ∃ f : LX, e = .returned (.tuple #[.agg f.arr, .int .i64 er]) ∧ (er ≠ 0 → f = LX.o) ∧ (er = 0 → LinOK w.heap.size w' f F) ∧ Below w.heap.size w w'
theorem ans_ls {xs : List TI} {n K : Nat} {at_ : Int} (hl : xs.length = n) (hK : 2 ≤ K) (hn : (n + 1) * K ≤ 250000) (hq : ∀ i, i < n → QS (xs.getD i TI.o).x.q K) {P : PV} (h : ansV at_ xs = some P) : LS P.L 250000 := by
  subst hl
  obtain ⟨m, hm, hk, _⟩ := wrkV_pz hK hq (ansV_wrk.1 h)
  exact hm.L.ls.mono (Nat.le_trans (Nat.mul_le_mul_right K (by omega)) hn)

set_option maxRecDepth 100000 in
set_option maxHeartbeats 6000000 in
theorem ln_any {w : World} {sa : Option Addr} {n c K : Nat} {xs : List TI} {at_ : Int} (hx : RdTs K w sa n c xs) (hK : 2 ≤ K) (hn : (n + 1) * K ≤ 250000) :
    Calls Try.prog 9 #[.slice sa n c, .int .i64 at_] w (RetLn w (lnV (ansV at_ xs)) (lnE (ansV at_ xs))) := by
  have HW := hid (fun (w' : World) (hB : Below w.heap.size w w') => chk_any (at_ := at_) (hx.below hB) hK hn)
  have hnz := hid (fun P (h : ansV at_ xs = some P) => ans_nz h)
  have hls := hid (fun P (h : ansV at_ xs = some P) => ans_ls hx.1 hK hn (fun i hi => (hx.2.2.2 i hi).1.qs (by omega)) h)
  generalize ansV at_ xs = r at HW hnz hls ⊢
  clear hx hn
  have hent := ent1 w #[Value.bool false, Value.slice none 0 0, Value.slice none 0 0, Value.bool false, Value.slice none 0 0, Value.slice none 0 0, Value.bool false, Value.slice none 0 0, Value.slice none 0 0, Value.bool false, Value.slice none 0 0, Value.slice none 0 0] 32
  go_enter Try.func9, Try.ntmps9
  go_wp2_with fail
  generalize (w.alloc (.cells #[Value.bool false, Value.slice none 0 0, Value.slice none 0 0, Value.bool false, Value.slice none 0 0, Value.slice none 0 0, Value.bool false, Value.slice none 0 0, Value.slice none 0 0, Value.bool false, Value.slice none 0 0, Value.slice none 0 0] 32)) = W0 at hent ⊢
  obtain ⟨R0_0, hbel_0, hsz_0⟩ := hent
  have R0_0 : Blk W0 w.heap.size LX.o.arr := R0_0
  refine (HW.out W0 hbel_0).mono ?_
  clear HW
  rintro e w1 ⟨hB1, p, rfl, hp⟩
  have hB_1 : Below W0.heap.size W0 w1 := hB1
  have R0_1 := R0_0.next hB_1
  have hbel_1 := hbel_0.next hB_1
  have hsz_1 := hB_1.size
  clear R0_0 hbel_0 hB_1
  clear hB1
  have hnew : Blk (w1.alloc (.cells #[Value.int .i8 0, Value.int .i64 0, Value.bool false, Value.slice none 0 0, Value.slice none 0 0, Value.bool false, Value.bool false, Value.bool false, Value.slice none 0 0, Value.slice none 0 0, Value.bool false, Value.slice none 0 0, Value.slice none 0 0, Value.bool false, Value.slice none 0 0, Value.slice none 0 0, Value.bool false, Value.slice none 0 0, Value.slice none 0 0] 67)) w1.heap.size PX.o.arr := blk_new _ _ _
  have hbn := (Below.refl w1.heap.size w1).alloc (Nat.le_refl _) (.cells #[Value.int .i8 0, Value.int .i64 0, Value.bool false, Value.slice none 0 0, Value.slice none 0 0, Value.bool false, Value.bool false, Value.bool false, Value.slice none 0 0, Value.slice none 0 0, Value.bool false, Value.slice none 0 0, Value.slice none 0 0, Value.bool false, Value.slice none 0 0, Value.slice none 0 0, Value.bool false, Value.slice none 0 0, Value.slice none 0 0] 67)
  go_upto_region 2 with (refine BigFrame.wpList_want (by rfl) (fun Kq hKq => wp_storeP (p := p) (q := PX.o) _ _ rfl rfl rfl hnew (fun ws hbs hks => hKq _ _ ?_)))
  have hbq := hbn.kp hks hbn.size (fun j hj (e : j = _) => by omega)
  obtain ⟨wt, hwt⟩ : ∃ y : World, y = ws := ⟨_, rfl⟩
  subst hwt
  have hq0 := hid hbq
  have hp := hid hp
  have hB_2 : Below w1.heap.size w1 wt := hbq
  have R0_2 := R0_1.next hB_2
  have hbel_2 := hbel_1.next hB_2
  have hsz_2 := hB_2.size
  clear R0_1 hbel_1 hB_2
  clear hbq hks hbn hnew
  have Pp_2 := hbs
  have hltP := hbs.lt
  clear hbs
  rcases r with _ | P
  ·
    rw [show chkE none = 30 from rfl]
    have hpp := hid (show p = PX.o from hp.out)
    clear hp
    have hle := hid (show lnE none = 30 from rfl)
    go_wp2_with (refine BigFrame.wpList_want (by rfl) (fun Kq hKq => wp_storeL (p := LX.o) (q := LX.o) _ _ rfl rfl rfl R0_2 (fun ws hbs hks => hKq _ _ ?_)))
    have hbl3 := hbel_2.kp hks hbel_2.size (fun j hj (e : j = _) => by omega)
    refine bodyPost_ret (res_blk_tmp Try.results9 rfl rfl hbs Try.underlying32 rfl (by kernel_rfl)) rfl ?_
    rw [hle.out]
    exact ⟨LX.o, rfl, fun _ => rfl, fun h => absurd h (by decide), hbl3⟩
  ·
    have hpp := hid ((show PartOK (fun g => W0.heap.size ≤ g) w1 p P from hp.out).below hq0.out)
    clear hp
    have hnz1 := hid (hnz.out P rfl)
    have hls1 := hid (hls.out P rfl)
    clear hnz hls
    by_cases hd : P.deep > 64
    ·
      rw [show chkE (some P) = 31 from if_pos hd]
      have hdl := hid (show lnE (some P) = 31 from if_pos hd)
      clear hd
      have hle := hid (hdl.out)
      go_wp2_with (refine BigFrame.wpList_want (by rfl) (fun Kq hKq => wp_storeL (p := LX.o) (q := LX.o) _ _ rfl rfl rfl R0_2 (fun ws hbs hks => hKq _ _ ?_)))
      have hbl3 := hbel_2.kp hks hbel_2.size (fun j hj (e : j = _) => by omega)
      refine bodyPost_ret (res_blk_tmp Try.results9 rfl rfl hbs Try.underlying32 rfl (by kernel_rfl)) rfl ?_
      rw [hle.out]
      exact ⟨LX.o, rfl, fun _ => rfl, fun h => absurd h (by decide), hbl3⟩
    ·
      rw [show chkE (some P) = 0 from if_neg hd]
      have hdl := hid (show lnE (some P) = if P.opn = true then (if P.bad = true then 11 else 0) else 3 from if_neg hd)
      clear hd
      have hbo := hid hpp.out.opn
      have c6 : _ = some (Value.bool p.opn) := Pp_2.cell 6
      cases hpo : P.opn
      ·
        rw [show p.opn = false from hbo.out.trans hpo] at c6
        have hle := hid (show lnE (some P) = 3 by rw [hdl.out, hpo]; rfl)
        clear hpo
        have hle := hid (hle.out)
        go_wp2_with (refine BigFrame.wpList_want (by rfl) (fun Kq hKq => wp_storeL (p := LX.o) (q := LX.o) _ _ rfl rfl rfl R0_2 (fun ws hbs hks => hKq _ _ ?_)))
        have hbl3 := hbel_2.kp hks hbel_2.size (fun j hj (e : j = _) => by omega)
        refine bodyPost_ret (res_blk_tmp Try.results9 rfl rfl hbs Try.underlying32 rfl (by kernel_rfl)) rfl ?_
        rw [hle.out]
        exact ⟨LX.o, rfl, fun _ => rfl, fun h => absurd h (by decide), hbl3⟩
      ·
        rw [show p.opn = true from hbo.out.trans hpo] at c6
        have hpoh := hid hpo
        clear hpo
        have hbq := hid hpp.out.bad
        have c5 : _ = some (Value.bool p.bad) := Pp_2.cell 5
        cases hpb : P.bad
        ·
          rw [show p.bad = false from hbq.out.trans hpb] at c5
          have hle := hid (show lnE (some P) = 0 by rw [hdl.out, hpoh.out, hpb]; rfl)
          have hby := hid (byV_ne hnz1.out hpoh.out hpb)
          clear hpb
          obtain ⟨by_, hbyq⟩ : ∃ z, byV P.L = z := ⟨_, rfl⟩
          rw [hbyq] at hby
          have hdv := hid (show lnV (some P) = ⟨P.L.a / by_, P.L.b / by_, P.L.c / by_, P.L.d / by_⟩ by rw [← hbyq]; rfl)
          have hbyh := hid hbyq
          clear hbyq
          have FAA_2 : FA (fun g => g < wt.heap.size) wt p.A P.L.a := hpp.out.L.A.mono (fun g hg _ => hg)
          have hqA := hid hls1.out.a
          have FAB_2 : FA (fun g => g < wt.heap.size) wt p.B P.L.b := hpp.out.L.B.mono (fun g hg _ => hg)
          have hqB := hid hls1.out.b
          have FAC_2 : FA (fun g => g < wt.heap.size) wt p.C P.L.c := hpp.out.L.C.mono (fun g hg _ => hg)
          have hqC := hid hls1.out.c
          have FAD_2 : FA (fun g => g < wt.heap.size) wt p.D P.L.d := hpp.out.L.D.mono (fun g hg _ => hg)
          have hqD := hid hls1.out.d
          have hqy : Hid (QS by_ 250000) := hid (by rw [← hbyh.out]; unfold byV; split; exact hqD.out; exact hqC.out)
          have cPp_2_7 : _ = some (Value.bool p.A.s) := Pp_2.cell 7
          have fPp_2_7 := Pp_2.free 7
          have cPp_2_8 : _ = some (Value.slice p.A.a p.A.n p.A.c) := Pp_2.cell 8
          have fPp_2_8 := Pp_2.free 8
          have cPp_2_9 : _ = some (Value.slice p.A.b p.A.m p.A.d) := Pp_2.cell 9
          have fPp_2_9 := Pp_2.free 9
          have cPp_2_10 : _ = some (Value.bool p.B.s) := Pp_2.cell 10
          have fPp_2_10 := Pp_2.free 10
          have cPp_2_11 : _ = some (Value.slice p.B.a p.B.n p.B.c) := Pp_2.cell 11
          have fPp_2_11 := Pp_2.free 11
          have cPp_2_12 : _ = some (Value.slice p.B.b p.B.m p.B.d) := Pp_2.cell 12
          have fPp_2_12 := Pp_2.free 12
          have cPp_2_13 : _ = some (Value.bool p.C.s) := Pp_2.cell 13
          have fPp_2_13 := Pp_2.free 13
          have cPp_2_14 : _ = some (Value.slice p.C.a p.C.n p.C.c) := Pp_2.cell 14
          have fPp_2_14 := Pp_2.free 14
          have cPp_2_15 : _ = some (Value.slice p.C.b p.C.m p.C.d) := Pp_2.cell 15
          have fPp_2_15 := Pp_2.free 15
          have cPp_2_16 : _ = some (Value.bool p.D.s) := Pp_2.cell 16
          have fPp_2_16 := Pp_2.free 16
          have cPp_2_17 : _ = some (Value.slice p.D.a p.D.n p.D.c) := Pp_2.cell 17
          have fPp_2_17 := Pp_2.free 17
          have cPp_2_18 : _ = some (Value.slice p.D.b p.D.m p.D.d) := Pp_2.cell 18
          have fPp_2_18 := Pp_2.free 18
          go_upto_region 9 with fail
          clear cPp_2_7 fPp_2_7 cPp_2_8 fPp_2_8 cPp_2_9 fPp_2_9 cPp_2_10 fPp_2_10 cPp_2_11 fPp_2_11 cPp_2_12 fPp_2_12 cPp_2_13 fPp_2_13 cPp_2_14 fPp_2_14 cPp_2_15 fPp_2_15 cPp_2_16 fPp_2_16 cPp_2_17 fPp_2_17 cPp_2_18 fPp_2_18
          have hbx := blk_new wt #[Value.bool p.A.s, Value.slice p.A.a p.A.n p.A.c, Value.slice p.A.b p.A.m p.A.d, Value.bool p.B.s, Value.slice p.B.a p.B.n p.B.c, Value.slice p.B.b p.B.m p.B.d, Value.bool p.C.s, Value.slice p.C.a p.C.n p.C.c, Value.slice p.C.b p.C.m p.C.d, Value.bool p.D.s, Value.slice p.D.a p.D.n p.D.c, Value.slice p.D.b p.D.m p.D.d] 32
          have hbB := (Below.refl wt.heap.size wt).alloc (Nat.le_refl _) (.cells #[Value.bool p.A.s, Value.slice p.A.a p.A.n p.A.c, Value.slice p.A.b p.A.m p.A.d, Value.bool p.B.s, Value.slice p.B.a p.B.n p.B.c, Value.slice p.B.b p.B.m p.B.d, Value.bool p.C.s, Value.slice p.C.a p.C.n p.C.c, Value.slice p.C.b p.C.m p.C.d, Value.bool p.D.s, Value.slice p.D.a p.D.n p.D.c, Value.slice p.D.b p.D.m p.D.d] 32)
          have hltFb := hbx.lt
          have hB_3 : Below wt.heap.size wt (wt.alloc (.cells #[Value.bool p.A.s, Value.slice p.A.a p.A.n p.A.c, Value.slice p.A.b p.A.m p.A.d, Value.bool p.B.s, Value.slice p.B.a p.B.n p.B.c, Value.slice p.B.b p.B.m p.B.d, Value.bool p.C.s, Value.slice p.C.a p.C.n p.C.c, Value.slice p.C.b p.C.m p.C.d, Value.bool p.D.s, Value.slice p.D.a p.D.n p.D.c, Value.slice p.D.b p.D.m p.D.d] 32)) := hbB
          have R0_3 := R0_2.next hB_3
          have Pp_3 := Pp_2.next hB_3
          have FAA_3 := FAA_2.below hB_3
          have FAB_3 := FAB_2.below hB_3
          have FAC_3 := FAC_2.below hB_3
          have FAD_3 := FAD_2.below hB_3
          have hbel_3 := hbel_2.next hB_3
          have hsz_3 := hB_3.size
          clear R0_2 Pp_2 FAA_2 FAB_2 FAC_2 FAD_2 hbel_2 hB_3
          have Fb_3 := hbx
          clear hbx hbB
          generalize (wt.alloc (.cells #[Value.bool p.A.s, Value.slice p.A.a p.A.n p.A.c, Value.slice p.A.b p.A.m p.A.d, Value.bool p.B.s, Value.slice p.B.a p.B.n p.B.c, Value.slice p.B.b p.B.m p.B.d, Value.bool p.C.s, Value.slice p.C.a p.C.n p.C.c, Value.slice p.C.b p.C.m p.C.d, Value.bool p.D.s, Value.slice p.D.a p.D.n p.D.c, Value.slice p.D.b p.D.m p.D.d] 32)) = va3 at *
          have cFb_3_6 : _ = some (Value.bool p.C.s) := Fb_3.cell 6
          have fFb_3_6 := Fb_3.free 6
          have cFb_3_7 : _ = some (Value.slice p.C.a p.C.n p.C.c) := Fb_3.cell 7
          have fFb_3_7 := Fb_3.free 7
          have cFb_3_8 : _ = some (Value.slice p.C.b p.C.m p.C.d) := Fb_3.cell 8
          have fFb_3_8 := Fb_3.free 8
          go_upto_region 10 with fail
          clear cFb_3_6 fFb_3_6 cFb_3_7 fFb_3_7 cFb_3_8 fFb_3_8
          have hbx := blk_new va3 #[Value.bool p.C.s, Value.slice p.C.a p.C.n p.C.c, Value.slice p.C.b p.C.m p.C.d] 28
          have hbB := (Below.refl va3.heap.size va3).alloc (Nat.le_refl _) (.cells #[Value.bool p.C.s, Value.slice p.C.a p.C.n p.C.c, Value.slice p.C.b p.C.m p.C.d] 28)
          have hltBY := hbx.lt
          have hB_4 : Below va3.heap.size va3 (va3.alloc (.cells #[Value.bool p.C.s, Value.slice p.C.a p.C.n p.C.c, Value.slice p.C.b p.C.m p.C.d] 28)) := hbB
          have R0_4 := R0_3.next hB_4
          have Pp_4 := Pp_3.next hB_4
          have Fb_4 := Fb_3.next hB_4
          have FAA_4 := FAA_3.below hB_4
          have FAB_4 := FAB_3.below hB_4
          have FAC_4 := FAC_3.below hB_4
          have FAD_4 := FAD_3.below hB_4
          have hbel_4 := hbel_3.next hB_4
          have hsz_4 := hB_4.size
          clear R0_3 Pp_3 Fb_3 FAA_3 FAB_3 FAC_3 FAD_3 hbel_3 hB_4
          have BY_4 := hbx
          clear hbx hbB
          generalize (va3.alloc (.cells #[Value.bool p.C.s, Value.slice p.C.a p.C.n p.C.c, Value.slice p.C.b p.C.m p.C.d] 28)) = va4 at *
          obtain ⟨y, hyC, hyD⟩ : ∃ y : FX, (P.L.c ≠ 0 → y = p.C) ∧ (P.L.c = 0 → y = p.D) := by
            by_cases h : P.L.c = 0
            · exact ⟨p.D, fun h2 => absurd h h2, fun _ => rfl⟩
            · exact ⟨p.C, fun _ => rfl, fun h2 => absurd h2 h⟩
          have hyC := hid hyC
          have hyD := hid hyD
          have FY_4 : FA (fun g => g < wt.heap.size) va4 y by_ := by
            by_cases h : P.L.c = 0
            · rw [hyD.out h, ← hbyh.out, show byV P.L = P.L.d from if_pos h]; exact FAD_4
            · rw [hyC.out h, ← hbyh.out, show byV P.L = P.L.c from if_neg h]; exact FAC_4
          obtain ⟨sg, hsg⟩ : ∃ s, sgnQ P.L.c = s := ⟨_, rfl⟩
          obtain ⟨z, hz⟩ : ∃ z, (sg == 0) = z := ⟨_, rfl⟩
          have hzt := hid (show z = true → P.L.c = 0 by
            intro h; by_cases h0 : P.L.c = 0
            · exact h0
            · obtain ⟨u, hu, hn⟩ := sgnQ_ne h0; rw [← hu, hsg, hz, h] at hn; cases hn)
          have hzf := hid (show z = false → P.L.c ≠ 0 by
            intro h h0; have := sgnQ_zero h0; rw [hsg] at this; rw [this, h] at hz; cases hz)
          have cBY_4_0 : _ = some (Value.bool p.C.s) := BY_4.cell 0
          have fBY_4_0 := BY_4.free 0
          have cBY_4_1 : _ = some (Value.slice p.C.a p.C.n p.C.c) := BY_4.cell 1
          have fBY_4_1 := BY_4.free 1
          have cBY_4_2 : _ = some (Value.slice p.C.b p.C.m p.C.d) := BY_4.cell 2
          have fBY_4_2 := BY_4.free 2
          go_wp2_with fail
          refine (hsg ▸ qsign (FAC_4.rdQ hqC.out) (by omega)).mono ?_
          clear hsg
          rintro e w5 ⟨rfl, hB⟩
          have hB_5 : Below va4.heap.size va4 w5 := (bl.next hB)
          have R0_5 := R0_4.next hB_5
          have Pp_5 := Pp_4.next hB_5
          have Fb_5 := Fb_4.next hB_5
          have BY_5 := BY_4.next hB_5
          have FAA_5 := FAA_4.below hB_5
          have FAB_5 := FAB_4.below hB_5
          have FAC_5 := FAC_4.below hB_5
          have FAD_5 := FAD_4.below hB_5
          have FY_5 := FY_4.below hB_5
          have hbel_5 := hbel_4.next hB_5
          have hsz_5 := hB_5.size
          clear R0_4 Pp_4 Fb_4 BY_4 FAA_4 FAB_4 FAC_4 FAD_4 FY_4 hbel_4 hB_5
          clear cBY_4_0 fBY_4_0 cBY_4_1 fBY_4_1 cBY_4_2 fBY_4_2
          try clear hB
          go_upto_if 35 with fail
          go_cut [] (fun wx => Blk wx (va3.heap.size) #[Value.bool y.s, Value.slice y.a y.n y.c, Value.slice y.b y.m y.d] ∧ Kp (fun j => j = va3.heap.size) w5 wx)
          case first =>
            cases z
            ·
              have hy := hid (hyC.out (hzf.out rfl))
              go_wp2_with fail
              go_meet
              rw [hy.out]
              exact ⟨BY_5, Kp.refl _ _⟩
            ·
              have hy := hid (hyD.out (hzt.out rfl))
              have cFb_5_9 : _ = some (Value.bool p.D.s) := Fb_5.cell 9
              have fFb_5_9 := Fb_5.free 9
              have cFb_5_10 : _ = some (Value.slice p.D.a p.D.n p.D.c) := Fb_5.cell 10
              have fFb_5_10 := Fb_5.free 10
              have cFb_5_11 : _ = some (Value.slice p.D.b p.D.m p.D.d) := Fb_5.cell 11
              have fFb_5_11 := Fb_5.free 11
              have cBY_5_0 : _ = some (Value.bool p.C.s) := BY_5.cell 0
              have fBY_5_0 := BY_5.free 0
              have cBY_5_1 : _ = some (Value.slice p.C.a p.C.n p.C.c) := BY_5.cell 1
              have fBY_5_1 := BY_5.free 1
              have cBY_5_2 : _ = some (Value.slice p.C.b p.C.m p.C.d) := BY_5.cell 2
              have fBY_5_2 := BY_5.free 2
              go_wp2_with fail
              go_meet
              rw [hy.out]
              exact ⟨(show Blk _ _ #[_, _, _] from ((BY_5.setCell (i := 0) (v := _) (by simp)).setCell (i := 1) (v := _) (by simp)).setCell (i := 2) (v := _) (by simp)), kp_put3v (q := fun j => j = va3.heap.size) (Kp.refl _ _) rfl _ _ _ _ _ _⟩
          case rest =>
            obtain ⟨hbk, hks0⟩ := hcut
            have BY_6 := hbk
            have R0_6 := R0_5.kp hks0 (show ¬ (w.heap.size = va3.heap.size) by omega)
            have Pp_6 := Pp_5.kp hks0 (show ¬ (w1.heap.size = va3.heap.size) by omega)
            have Fb_6 := Fb_5.kp hks0 (show ¬ (wt.heap.size = va3.heap.size) by omega)
            have FAA_6 := FAA_5.kp hks0 (fun j (e : j = _) (hn : j < wt.heap.size) => by omega)
            have FAB_6 := FAB_5.kp hks0 (fun j (e : j = _) (hn : j < wt.heap.size) => by omega)
            have FAC_6 := FAC_5.kp hks0 (fun j (e : j = _) (hn : j < wt.heap.size) => by omega)
            have FAD_6 := FAD_5.kp hks0 (fun j (e : j = _) (hn : j < wt.heap.size) => by omega)
            have FY_6 := FY_5.kp hks0 (fun j (e : j = _) (hn : j < wt.heap.size) => by omega)
            have hbel_6 := hbel_5.kp hks0 hbel_5.size (fun j hj (e : j = _) => by omega)
            have hsz_6 := hks0.size
            clear hyC hyD hbk hks0 hbel_5 R0_5 Pp_5 Fb_5 BY_5 FAA_5 FAB_5 FAC_5 FAD_5 FY_5
            obtain ⟨wv, hwc⟩ : ∃ y : World, y = wc := ⟨_, rfl⟩
            subst hwc
            go_wp2_with fail
            have hbx := blk_new wv #[Value.pointer (some ⟨wt.heap.size, 0, none⟩), Value.pointer (some ⟨wt.heap.size, 3, none⟩), Value.pointer (some ⟨wt.heap.size, 6, none⟩), Value.pointer (some ⟨wt.heap.size, 9, none⟩)] 70
            have hbB := (Below.refl wv.heap.size wv).alloc (Nat.le_refl _) (.cells #[Value.pointer (some ⟨wt.heap.size, 0, none⟩), Value.pointer (some ⟨wt.heap.size, 3, none⟩), Value.pointer (some ⟨wt.heap.size, 6, none⟩), Value.pointer (some ⟨wt.heap.size, 9, none⟩)] 70)
            have hltPT := hbx.lt
            have hB_7 : Below wv.heap.size wv (wv.alloc (.cells #[Value.pointer (some ⟨wt.heap.size, 0, none⟩), Value.pointer (some ⟨wt.heap.size, 3, none⟩), Value.pointer (some ⟨wt.heap.size, 6, none⟩), Value.pointer (some ⟨wt.heap.size, 9, none⟩)] 70)) := hbB
            have R0_7 := R0_6.next hB_7
            have Pp_7 := Pp_6.next hB_7
            have Fb_7 := Fb_6.next hB_7
            have BY_7 := BY_6.next hB_7
            have FAA_7 := FAA_6.below hB_7
            have FAB_7 := FAB_6.below hB_7
            have FAC_7 := FAC_6.below hB_7
            have FAD_7 := FAD_6.below hB_7
            have FY_7 := FY_6.below hB_7
            have hbel_7 := hbel_6.next hB_7
            have hsz_7 := hB_7.size
            clear R0_6 Pp_6 Fb_6 BY_6 FAA_6 FAB_6 FAC_6 FAD_6 FY_6 hbel_6 hB_7
            have PT_7 := hbx
            clear hbx hbB
            generalize (wv.alloc (.cells #[Value.pointer (some ⟨wt.heap.size, 0, none⟩), Value.pointer (some ⟨wt.heap.size, 3, none⟩), Value.pointer (some ⟨wt.heap.size, 6, none⟩), Value.pointer (some ⟨wt.heap.size, 9, none⟩)] 70)) = va7 at *
            refine wp_loop_rounds 5 ?_
            rw [rounds_succ]
            have cPT_7_0 : _ = some (Value.pointer (some ⟨wt.heap.size, 0, none⟩)) := PT_7.cell 0
            have fPT_7_0 := PT_7.free 0
            go_wp2_with fail
            clear cPT_7_0 fPT_7_0
            have hB : Below va7.heap.size va7 va7.drew := (Below.refl _ _).drew
            have hB_8 : Below va7.heap.size va7 va7.drew := hB
            have R0_8 := R0_7.next hB_8
            have Pp_8 := Pp_7.next hB_8
            have Fb_8 := Fb_7.next hB_8
            have BY_8 := BY_7.next hB_8
            have PT_8 := PT_7.next hB_8
            have FAA_8 := FAA_7.below hB_8
            have FAB_8 := FAB_7.below hB_8
            have FAC_8 := FAC_7.below hB_8
            have FAD_8 := FAD_7.below hB_8
            have FY_8 := FY_7.below hB_8
            have hbel_8 := hbel_7.next hB_8
            have hsz_8 := hB_8.size
            clear R0_7 Pp_7 Fb_7 BY_7 PT_7 FAA_7 FAB_7 FAC_7 FAD_7 FY_7 hbel_7 hB_8
            clear hB
            refine wp_region_noPanic ?_
            refine D_region (S := (fun w' => Blk w' (wt.heap.size) #[Value.bool p.A.s, Value.slice p.A.a p.A.n p.A.c, Value.slice p.A.b p.A.m p.A.d, Value.bool p.B.s, Value.slice p.B.a p.B.n p.B.c, Value.slice p.B.b p.B.m p.B.d, Value.bool p.C.s, Value.slice p.C.a p.C.n p.C.c, Value.slice p.C.b p.C.m p.C.d, Value.bool p.D.s, Value.slice p.D.a p.D.n p.D.c, Value.slice p.D.b p.D.m p.D.d] ∧ Blk w' (va3.heap.size) #[Value.bool y.s, Value.slice y.a y.n y.c, Value.slice y.b y.m y.d])) (T := [10]) (by kernel_rfl) ⟨Fb_8, BY_8⟩ (fun hHeld => ?_)
            clear hHeld
            generalize va7.drew = vd8 at *
            refine D_pure (i := 0) (d := some 49) (v := (.pointer (some ⟨wt.heap.size, 0, none⟩))) rfl rfl (by kernel_rfl) (by kernel_rfl) (by kernel_rfl) (fun _ _ _ h => h) (by rfl) (fun _ => by go_simp) ?_
            (try simp only [Act.put, List.setIfInBounds_toArray, List.set_cons_zero, List.set_cons_succ])
            refine D_pure (i := 1) (d := some 50) (v := (.pointer (some ⟨wt.heap.size, 0, none⟩))) rfl rfl (by kernel_rfl) (by kernel_rfl) (by kernel_rfl) (fun _ _ _ h => h) (by rfl) (fun _ => by go_simp) ?_
            (try simp only [Act.put, List.setIfInBounds_toArray, List.set_cons_zero, List.set_cons_succ])
            refine D_pure (i := 2) (d := some 51) (v := (.pointer (some ⟨wt.heap.size, 0, none⟩))) rfl rfl (by kernel_rfl) (by kernel_rfl) (by kernel_rfl) (fun _ _ _ h => h) (by rfl) (fun _ => by go_simp) ?_
            (try simp only [Act.put, List.setIfInBounds_toArray, List.set_cons_zero, List.set_cons_succ])
            refine D_load (i := 3) (d := some 52) (v := (.agg #[Value.bool p.A.s, Value.slice p.A.a p.A.n p.A.c, Value.slice p.A.b p.A.m p.A.d])) [3, 4] rfl rfl (by kernel_rfl) (by kernel_rfl) (by kernel_rfl) (by kernel_rfl) (by kernel_rfl) (by kernel_rfl) (fun _ _ _ h => h) (by rfl) (fun w hSw => by (obtain ⟨b0, b1⟩ := hSw); have l0 : _ = some (Value.bool p.A.s) := b0.cell (0); have l1 : _ = some (Value.slice p.A.a p.A.n p.A.c) := b0.cell (1); have l2 : _ = some (Value.slice p.A.b p.A.m p.A.d) := b0.cell (2); (clear b0 b1); go_simp) ⟨Fb_8, BY_8⟩ ?_
            (try simp only [Act.put, List.setIfInBounds_toArray, List.set_cons_zero, List.set_cons_succ])
            refine D_load (i := 4) (d := some 53) (v := (.agg #[Value.bool y.s, Value.slice y.a y.n y.c, Value.slice y.b y.m y.d])) [3, 4] rfl rfl (by kernel_rfl) (by kernel_rfl) (by kernel_rfl) (by kernel_rfl) (by kernel_rfl) (by kernel_rfl) (fun _ _ _ h => h) (by rfl) (fun w hSw => by (obtain ⟨b0, b1⟩ := hSw); have l0 : _ = some (Value.bool y.s) := b1.cell (0); have l1 : _ = some (Value.slice y.a y.n y.c) := b1.cell (1); have l2 : _ = some (Value.slice y.b y.m y.d) := b1.cell (2); (clear b0 b1); go_simp) ⟨Fb_8, BY_8⟩ ?_
            (try simp only [Act.put, List.setIfInBounds_toArray, List.set_cons_zero, List.set_cons_succ])
            refine D_one (i := 5) (by kernel_rfl) rfl (fun Kq hKq => ?_)
            go_simp
            refine (qdiv_nz (FAA_8.rdQ hqA.out) (by omega) (FY_8.rdQ hqy.out) (by omega) hby.out).mono ?_
            rintro e w9 ⟨x1a, x1n, x1c, x1b, x1m, x1d, rfl, hO, hO', hD, hB⟩
            have hB_9 : Below vd8.heap.size vd8 w9 := (bl.next hB)
            have R0_9 := R0_8.next hB_9
            have Pp_9 := Pp_8.next hB_9
            have Fb_9 := Fb_8.next hB_9
            have BY_9 := BY_8.next hB_9
            have PT_9 := PT_8.next hB_9
            have FAA_9 := FAA_8.below hB_9
            have FAB_9 := FAB_8.below hB_9
            have FAC_9 := FAC_8.below hB_9
            have FAD_9 := FAD_8.below hB_9
            have FY_9 := FY_8.below hB_9
            have hbel_9 := hbel_8.next hB_9
            have hsz_9 := hB_9.size
            clear R0_8 Pp_8 Fb_8 BY_8 PT_8 FAA_8 FAB_8 FAC_8 FAD_8 FY_8 hbel_8 hB_9
            have FOA_9 := (show FO vd8.heap.size _ (⟨decide ((P.L.a / by_).num < 0), x1a, x1n, x1c, x1b, x1m, x1d⟩ : FX) (P.L.a / by_) from ⟨rfl, hO, hO', hD⟩)
            clear hO hO' hD
            try clear hB
            (try go_wp2_with fail)
            refine hKq.out _ _ ⟨Fb_9, BY_9⟩ (fun hHeld => ?_)
            clear hHeld hKq Kq
            (try simp only [Act.put, List.setIfInBounds_toArray, List.set_cons_zero, List.set_cons_succ])
            refine D_pure (i := 6) (d := some 48) (v := (.tuple #[(.agg #[Value.bool (decide ((P.L.a / by_).num < 0)), Value.slice x1a x1n x1c, Value.slice x1b x1m x1d]), (.int .i64 0)])) rfl rfl (by kernel_rfl) (by kernel_rfl) (by kernel_rfl) (fun _ _ _ h => h) (by rfl) (fun _ => by go_simp) ?_
            (try simp only [Act.put, List.setIfInBounds_toArray, List.set_cons_zero, List.set_cons_succ])
            refine D_pure (i := 7) (d := some 55) (v := (.agg #[Value.bool (decide ((P.L.a / by_).num < 0)), Value.slice x1a x1n x1c, Value.slice x1b x1m x1d])) rfl rfl (by kernel_rfl) (by kernel_rfl) (by kernel_rfl) (fun _ _ _ h => h) (by rfl) (fun _ => by go_simp) ?_
            (try simp only [Act.put, List.setIfInBounds_toArray, List.set_cons_zero, List.set_cons_succ])
            refine D_pure (i := 8) (d := some 56) (v := (.int .i64 0)) rfl rfl (by kernel_rfl) (by kernel_rfl) (by kernel_rfl) (fun _ _ _ h => h) (by rfl) (fun _ => by go_simp) ?_
            (try simp only [Act.put, List.setIfInBounds_toArray, List.set_cons_zero, List.set_cons_succ])
            refine D_pure (i := 9) (d := some 57) (v := (.pointer (some ⟨wt.heap.size, 0, none⟩))) rfl rfl (by kernel_rfl) (by kernel_rfl) (by kernel_rfl) (fun _ _ _ h => h) (by rfl) (fun _ => by go_simp) ?_
            (try simp only [Act.put, List.setIfInBounds_toArray, List.set_cons_zero, List.set_cons_succ])
            have cFb_9_0 : _ = some (Value.bool p.A.s) := Fb_9.cell 0
            have fFb_9_0 := Fb_9.free 0
            have cFb_9_1 : _ = some (Value.slice p.A.a p.A.n p.A.c) := Fb_9.cell 1
            have fFb_9_1 := Fb_9.free 1
            have cFb_9_2 : _ = some (Value.slice p.A.b p.A.m p.A.d) := Fb_9.cell 2
            have fFb_9_2 := Fb_9.free 2
            refine D_late (i := 10) (by kernel_rfl) rfl (by kernel_rfl) (fun Kq hKq => ?_)
            go_simp
            refine hKq.out _ _ ?_
            clear hKq Kq
            (try simp only [Act.put, List.setIfInBounds_toArray, List.set_cons_zero, List.set_cons_succ])
            refine D_done (by kernel_rfl) ?_ _
            refine NoPanic.normal ?_
            have hkp := ((((Kp.refl (fun j => j = wt.heap.size) w9).setCell (ad := ⟨wt.heap.size, 0, none⟩) rfl (Value.bool (decide ((P.L.a / by_).num < 0)))).setCell (ad := ⟨wt.heap.size, 1, none⟩) rfl (Value.slice x1a x1n x1c)).setCell (ad := ⟨wt.heap.size, 2, none⟩) rfl (Value.slice x1b x1m x1d))
            have Fb_10 := (show Blk _ _ #[Value.bool (decide ((P.L.a / by_).num < 0)), Value.slice x1a x1n x1c, Value.slice x1b x1m x1d, Value.bool p.B.s, Value.slice p.B.a p.B.n p.B.c, Value.slice p.B.b p.B.m p.B.d, Value.bool p.C.s, Value.slice p.C.a p.C.n p.C.c, Value.slice p.C.b p.C.m p.C.d, Value.bool p.D.s, Value.slice p.D.a p.D.n p.D.c, Value.slice p.D.b p.D.m p.D.d] from (((Fb_9).setCell (i := 0) (v := Value.bool (decide ((P.L.a / by_).num < 0))) (by simp)).setCell (i := 1) (v := Value.slice x1a x1n x1c) (by simp)).setCell (i := 2) (v := Value.slice x1b x1m x1d) (by simp))
            have R0_10 := R0_9.kp hkp (show ¬ (w.heap.size = wt.heap.size) by omega)
            have Pp_10 := Pp_9.kp hkp (show ¬ (w1.heap.size = wt.heap.size) by omega)
            have BY_10 := BY_9.kp hkp (show ¬ (va3.heap.size = wt.heap.size) by omega)
            have PT_10 := PT_9.kp hkp (show ¬ (wv.heap.size = wt.heap.size) by omega)
            have FAA_10 := FAA_9.kp hkp (fun j (e : j = _) (hn : j < wt.heap.size) => by omega)
            have FAB_10 := FAB_9.kp hkp (fun j (e : j = _) (hn : j < wt.heap.size) => by omega)
            have FAC_10 := FAC_9.kp hkp (fun j (e : j = _) (hn : j < wt.heap.size) => by omega)
            have FAD_10 := FAD_9.kp hkp (fun j (e : j = _) (hn : j < wt.heap.size) => by omega)
            have FY_10 := FY_9.kp hkp (fun j (e : j = _) (hn : j < wt.heap.size) => by omega)
            have FOA_10 := FOA_9.kp hkp (fun j (e : j = _) => by omega)
            have hbel_10 := hbel_9.kp hkp hbel_9.size (fun j hj (e : j = _) => by omega)
            have hsz_10 := hkp.size
            clear hkp hbel_9 R0_9 Pp_9 Fb_9 BY_9 PT_9 FAA_9 FAB_9 FAC_9 FAD_9 FY_9 FOA_9 cFb_9_0 fFb_9_0 cFb_9_1 fFb_9_1 cFb_9_2 fFb_9_2
            generalize (((w9.setCell ⟨wt.heap.size, 0, none⟩ (Value.bool (decide ((P.L.a / by_).num < 0)))).setCell ⟨wt.heap.size, 1, none⟩ (Value.slice x1a x1n x1c)).setCell ⟨wt.heap.size, 2, none⟩ (Value.slice x1b x1m x1d)) = vw10 at *
            have ltA := FOA_10.ltx
            go_wp2_with fail
            rw [rounds_succ]
            have cPT_10_1 : _ = some (Value.pointer (some ⟨wt.heap.size, 3, none⟩)) := PT_10.cell 1
            have fPT_10_1 := PT_10.free 1
            go_wp2_with fail
            clear cPT_10_1 fPT_10_1
            have hB : Below vw10.heap.size vw10 vw10.drew := (Below.refl _ _).drew
            have hB_11 : Below vw10.heap.size vw10 vw10.drew := hB
            have R0_11 := R0_10.next hB_11
            have Pp_11 := Pp_10.next hB_11
            have Fb_11 := Fb_10.next hB_11
            have BY_11 := BY_10.next hB_11
            have PT_11 := PT_10.next hB_11
            have FAA_11 := FAA_10.below hB_11
            have FAB_11 := FAB_10.below hB_11
            have FAC_11 := FAC_10.below hB_11
            have FAD_11 := FAD_10.below hB_11
            have FY_11 := FY_10.below hB_11
            have FOA_11 := FOA_10.below hB_11
            have hbel_11 := hbel_10.next hB_11
            have hsz_11 := hB_11.size
            clear R0_10 Pp_10 Fb_10 BY_10 PT_10 FAA_10 FAB_10 FAC_10 FAD_10 FY_10 FOA_10 hbel_10 hB_11
            clear hB
            refine wp_region_noPanic ?_
            refine D_region (S := (fun w' => Blk w' (wt.heap.size) #[Value.bool (decide ((P.L.a / by_).num < 0)), Value.slice x1a x1n x1c, Value.slice x1b x1m x1d, Value.bool p.B.s, Value.slice p.B.a p.B.n p.B.c, Value.slice p.B.b p.B.m p.B.d, Value.bool p.C.s, Value.slice p.C.a p.C.n p.C.c, Value.slice p.C.b p.C.m p.C.d, Value.bool p.D.s, Value.slice p.D.a p.D.n p.D.c, Value.slice p.D.b p.D.m p.D.d] ∧ Blk w' (va3.heap.size) #[Value.bool y.s, Value.slice y.a y.n y.c, Value.slice y.b y.m y.d])) (T := [10]) (by kernel_rfl) ⟨Fb_11, BY_11⟩ (fun hHeld => ?_)
            clear hHeld
            generalize vw10.drew = vd11 at *
            refine D_pure (i := 0) (d := some 49) (v := (.pointer (some ⟨wt.heap.size, 3, none⟩))) rfl rfl (by kernel_rfl) (by kernel_rfl) (by kernel_rfl) (fun _ _ _ h => h) (by rfl) (fun _ => by go_simp) ?_
            (try simp only [Act.put, List.setIfInBounds_toArray, List.set_cons_zero, List.set_cons_succ])
            refine D_pure (i := 1) (d := some 50) (v := (.pointer (some ⟨wt.heap.size, 3, none⟩))) rfl rfl (by kernel_rfl) (by kernel_rfl) (by kernel_rfl) (fun _ _ _ h => h) (by rfl) (fun _ => by go_simp) ?_
            (try simp only [Act.put, List.setIfInBounds_toArray, List.set_cons_zero, List.set_cons_succ])
            refine D_pure (i := 2) (d := some 51) (v := (.pointer (some ⟨wt.heap.size, 3, none⟩))) rfl rfl (by kernel_rfl) (by kernel_rfl) (by kernel_rfl) (fun _ _ _ h => h) (by rfl) (fun _ => by go_simp) ?_
            (try simp only [Act.put, List.setIfInBounds_toArray, List.set_cons_zero, List.set_cons_succ])
            refine D_load (i := 3) (d := some 52) (v := (.agg #[Value.bool p.B.s, Value.slice p.B.a p.B.n p.B.c, Value.slice p.B.b p.B.m p.B.d])) [3, 4] rfl rfl (by kernel_rfl) (by kernel_rfl) (by kernel_rfl) (by kernel_rfl) (by kernel_rfl) (by kernel_rfl) (fun _ _ _ h => h) (by rfl) (fun w hSw => by (obtain ⟨b0, b1⟩ := hSw); have l0 : _ = some (Value.bool p.B.s) := b0.cell (3); have l1 : _ = some (Value.slice p.B.a p.B.n p.B.c) := b0.cell (4); have l2 : _ = some (Value.slice p.B.b p.B.m p.B.d) := b0.cell (5); (clear b0 b1); go_simp) ⟨Fb_11, BY_11⟩ ?_
            (try simp only [Act.put, List.setIfInBounds_toArray, List.set_cons_zero, List.set_cons_succ])
            refine D_load (i := 4) (d := some 53) (v := (.agg #[Value.bool y.s, Value.slice y.a y.n y.c, Value.slice y.b y.m y.d])) [3, 4] rfl rfl (by kernel_rfl) (by kernel_rfl) (by kernel_rfl) (by kernel_rfl) (by kernel_rfl) (by kernel_rfl) (fun _ _ _ h => h) (by rfl) (fun w hSw => by (obtain ⟨b0, b1⟩ := hSw); have l0 : _ = some (Value.bool y.s) := b1.cell (0); have l1 : _ = some (Value.slice y.a y.n y.c) := b1.cell (1); have l2 : _ = some (Value.slice y.b y.m y.d) := b1.cell (2); (clear b0 b1); go_simp) ⟨Fb_11, BY_11⟩ ?_
            (try simp only [Act.put, List.setIfInBounds_toArray, List.set_cons_zero, List.set_cons_succ])
            refine D_one (i := 5) (by kernel_rfl) rfl (fun Kq hKq => ?_)
            go_simp
            refine (qdiv_nz (FAB_11.rdQ hqB.out) (by omega) (FY_11.rdQ hqy.out) (by omega) hby.out).mono ?_
            rintro e w12 ⟨y1a, y1n, y1c, y1b, y1m, y1d, rfl, hO, hO', hD, hB⟩
            have hB_12 : Below vd11.heap.size vd11 w12 := (bl.next hB)
            have R0_12 := R0_11.next hB_12
            have Pp_12 := Pp_11.next hB_12
            have Fb_12 := Fb_11.next hB_12
            have BY_12 := BY_11.next hB_12
            have PT_12 := PT_11.next hB_12
            have FAA_12 := FAA_11.below hB_12
            have FAB_12 := FAB_11.below hB_12
            have FAC_12 := FAC_11.below hB_12
            have FAD_12 := FAD_11.below hB_12
            have FY_12 := FY_11.below hB_12
            have FOA_12 := FOA_11.below hB_12
            have hbel_12 := hbel_11.next hB_12
            have hsz_12 := hB_12.size
            clear R0_11 Pp_11 Fb_11 BY_11 PT_11 FAA_11 FAB_11 FAC_11 FAD_11 FY_11 FOA_11 hbel_11 hB_12
            have FOB_12 := (show FO vd11.heap.size _ (⟨decide ((P.L.b / by_).num < 0), y1a, y1n, y1c, y1b, y1m, y1d⟩ : FX) (P.L.b / by_) from ⟨rfl, hO, hO', hD⟩)
            clear hO hO' hD
            try clear hB
            (try go_wp2_with fail)
            refine hKq.out _ _ ⟨Fb_12, BY_12⟩ (fun hHeld => ?_)
            clear hHeld hKq Kq
            (try simp only [Act.put, List.setIfInBounds_toArray, List.set_cons_zero, List.set_cons_succ])
            refine D_pure (i := 6) (d := some 48) (v := (.tuple #[(.agg #[Value.bool (decide ((P.L.b / by_).num < 0)), Value.slice y1a y1n y1c, Value.slice y1b y1m y1d]), (.int .i64 0)])) rfl rfl (by kernel_rfl) (by kernel_rfl) (by kernel_rfl) (fun _ _ _ h => h) (by rfl) (fun _ => by go_simp) ?_
            (try simp only [Act.put, List.setIfInBounds_toArray, List.set_cons_zero, List.set_cons_succ])
            refine D_pure (i := 7) (d := some 55) (v := (.agg #[Value.bool (decide ((P.L.b / by_).num < 0)), Value.slice y1a y1n y1c, Value.slice y1b y1m y1d])) rfl rfl (by kernel_rfl) (by kernel_rfl) (by kernel_rfl) (fun _ _ _ h => h) (by rfl) (fun _ => by go_simp) ?_
            (try simp only [Act.put, List.setIfInBounds_toArray, List.set_cons_zero, List.set_cons_succ])
            refine D_pure (i := 8) (d := some 56) (v := (.int .i64 0)) rfl rfl (by kernel_rfl) (by kernel_rfl) (by kernel_rfl) (fun _ _ _ h => h) (by rfl) (fun _ => by go_simp) ?_
            (try simp only [Act.put, List.setIfInBounds_toArray, List.set_cons_zero, List.set_cons_succ])
            refine D_pure (i := 9) (d := some 57) (v := (.pointer (some ⟨wt.heap.size, 3, none⟩))) rfl rfl (by kernel_rfl) (by kernel_rfl) (by kernel_rfl) (fun _ _ _ h => h) (by rfl) (fun _ => by go_simp) ?_
            (try simp only [Act.put, List.setIfInBounds_toArray, List.set_cons_zero, List.set_cons_succ])
            have cFb_12_3 : _ = some (Value.bool p.B.s) := Fb_12.cell 3
            have fFb_12_3 := Fb_12.free 3
            have cFb_12_4 : _ = some (Value.slice p.B.a p.B.n p.B.c) := Fb_12.cell 4
            have fFb_12_4 := Fb_12.free 4
            have cFb_12_5 : _ = some (Value.slice p.B.b p.B.m p.B.d) := Fb_12.cell 5
            have fFb_12_5 := Fb_12.free 5
            refine D_late (i := 10) (by kernel_rfl) rfl (by kernel_rfl) (fun Kq hKq => ?_)
            go_simp
            refine hKq.out _ _ ?_
            clear hKq Kq
            (try simp only [Act.put, List.setIfInBounds_toArray, List.set_cons_zero, List.set_cons_succ])
            refine D_done (by kernel_rfl) ?_ _
            refine NoPanic.normal ?_
            have hkp := ((((Kp.refl (fun j => j = wt.heap.size) w12).setCell (ad := ⟨wt.heap.size, 3, none⟩) rfl (Value.bool (decide ((P.L.b / by_).num < 0)))).setCell (ad := ⟨wt.heap.size, 4, none⟩) rfl (Value.slice y1a y1n y1c)).setCell (ad := ⟨wt.heap.size, 5, none⟩) rfl (Value.slice y1b y1m y1d))
            have Fb_13 := (show Blk _ _ #[Value.bool (decide ((P.L.a / by_).num < 0)), Value.slice x1a x1n x1c, Value.slice x1b x1m x1d, Value.bool (decide ((P.L.b / by_).num < 0)), Value.slice y1a y1n y1c, Value.slice y1b y1m y1d, Value.bool p.C.s, Value.slice p.C.a p.C.n p.C.c, Value.slice p.C.b p.C.m p.C.d, Value.bool p.D.s, Value.slice p.D.a p.D.n p.D.c, Value.slice p.D.b p.D.m p.D.d] from (((Fb_12).setCell (i := 3) (v := Value.bool (decide ((P.L.b / by_).num < 0))) (by simp)).setCell (i := 4) (v := Value.slice y1a y1n y1c) (by simp)).setCell (i := 5) (v := Value.slice y1b y1m y1d) (by simp))
            have R0_13 := R0_12.kp hkp (show ¬ (w.heap.size = wt.heap.size) by omega)
            have Pp_13 := Pp_12.kp hkp (show ¬ (w1.heap.size = wt.heap.size) by omega)
            have BY_13 := BY_12.kp hkp (show ¬ (va3.heap.size = wt.heap.size) by omega)
            have PT_13 := PT_12.kp hkp (show ¬ (wv.heap.size = wt.heap.size) by omega)
            have FAA_13 := FAA_12.kp hkp (fun j (e : j = _) (hn : j < wt.heap.size) => by omega)
            have FAB_13 := FAB_12.kp hkp (fun j (e : j = _) (hn : j < wt.heap.size) => by omega)
            have FAC_13 := FAC_12.kp hkp (fun j (e : j = _) (hn : j < wt.heap.size) => by omega)
            have FAD_13 := FAD_12.kp hkp (fun j (e : j = _) (hn : j < wt.heap.size) => by omega)
            have FY_13 := FY_12.kp hkp (fun j (e : j = _) (hn : j < wt.heap.size) => by omega)
            have FOA_13 := FOA_12.kp hkp (fun j (e : j = _) => by omega)
            have FOB_13 := FOB_12.kp hkp (fun j (e : j = _) => by omega)
            have hbel_13 := hbel_12.kp hkp hbel_12.size (fun j hj (e : j = _) => by omega)
            have hsz_13 := hkp.size
            clear hkp hbel_12 R0_12 Pp_12 Fb_12 BY_12 PT_12 FAA_12 FAB_12 FAC_12 FAD_12 FY_12 FOA_12 FOB_12 cFb_12_3 fFb_12_3 cFb_12_4 fFb_12_4 cFb_12_5 fFb_12_5
            generalize (((w12.setCell ⟨wt.heap.size, 3, none⟩ (Value.bool (decide ((P.L.b / by_).num < 0)))).setCell ⟨wt.heap.size, 4, none⟩ (Value.slice y1a y1n y1c)).setCell ⟨wt.heap.size, 5, none⟩ (Value.slice y1b y1m y1d)) = vw13 at *
            have ltB := FOB_13.ltx
            go_wp2_with fail
            rw [rounds_succ]
            have cPT_13_2 : _ = some (Value.pointer (some ⟨wt.heap.size, 6, none⟩)) := PT_13.cell 2
            have fPT_13_2 := PT_13.free 2
            go_wp2_with fail
            clear cPT_13_2 fPT_13_2
            have hB : Below vw13.heap.size vw13 vw13.drew := (Below.refl _ _).drew
            have hB_14 : Below vw13.heap.size vw13 vw13.drew := hB
            have R0_14 := R0_13.next hB_14
            have Pp_14 := Pp_13.next hB_14
            have Fb_14 := Fb_13.next hB_14
            have BY_14 := BY_13.next hB_14
            have PT_14 := PT_13.next hB_14
            have FAA_14 := FAA_13.below hB_14
            have FAB_14 := FAB_13.below hB_14
            have FAC_14 := FAC_13.below hB_14
            have FAD_14 := FAD_13.below hB_14
            have FY_14 := FY_13.below hB_14
            have FOA_14 := FOA_13.below hB_14
            have FOB_14 := FOB_13.below hB_14
            have hbel_14 := hbel_13.next hB_14
            have hsz_14 := hB_14.size
            clear R0_13 Pp_13 Fb_13 BY_13 PT_13 FAA_13 FAB_13 FAC_13 FAD_13 FY_13 FOA_13 FOB_13 hbel_13 hB_14
            clear hB
            refine wp_region_noPanic ?_
            refine D_region (S := (fun w' => Blk w' (wt.heap.size) #[Value.bool (decide ((P.L.a / by_).num < 0)), Value.slice x1a x1n x1c, Value.slice x1b x1m x1d, Value.bool (decide ((P.L.b / by_).num < 0)), Value.slice y1a y1n y1c, Value.slice y1b y1m y1d, Value.bool p.C.s, Value.slice p.C.a p.C.n p.C.c, Value.slice p.C.b p.C.m p.C.d, Value.bool p.D.s, Value.slice p.D.a p.D.n p.D.c, Value.slice p.D.b p.D.m p.D.d] ∧ Blk w' (va3.heap.size) #[Value.bool y.s, Value.slice y.a y.n y.c, Value.slice y.b y.m y.d])) (T := [10]) (by kernel_rfl) ⟨Fb_14, BY_14⟩ (fun hHeld => ?_)
            clear hHeld
            generalize vw13.drew = vd14 at *
            refine D_pure (i := 0) (d := some 49) (v := (.pointer (some ⟨wt.heap.size, 6, none⟩))) rfl rfl (by kernel_rfl) (by kernel_rfl) (by kernel_rfl) (fun _ _ _ h => h) (by rfl) (fun _ => by go_simp) ?_
            (try simp only [Act.put, List.setIfInBounds_toArray, List.set_cons_zero, List.set_cons_succ])
            refine D_pure (i := 1) (d := some 50) (v := (.pointer (some ⟨wt.heap.size, 6, none⟩))) rfl rfl (by kernel_rfl) (by kernel_rfl) (by kernel_rfl) (fun _ _ _ h => h) (by rfl) (fun _ => by go_simp) ?_
            (try simp only [Act.put, List.setIfInBounds_toArray, List.set_cons_zero, List.set_cons_succ])
            refine D_pure (i := 2) (d := some 51) (v := (.pointer (some ⟨wt.heap.size, 6, none⟩))) rfl rfl (by kernel_rfl) (by kernel_rfl) (by kernel_rfl) (fun _ _ _ h => h) (by rfl) (fun _ => by go_simp) ?_
            (try simp only [Act.put, List.setIfInBounds_toArray, List.set_cons_zero, List.set_cons_succ])
            refine D_load (i := 3) (d := some 52) (v := (.agg #[Value.bool p.C.s, Value.slice p.C.a p.C.n p.C.c, Value.slice p.C.b p.C.m p.C.d])) [3, 4] rfl rfl (by kernel_rfl) (by kernel_rfl) (by kernel_rfl) (by kernel_rfl) (by kernel_rfl) (by kernel_rfl) (fun _ _ _ h => h) (by rfl) (fun w hSw => by (obtain ⟨b0, b1⟩ := hSw); have l0 : _ = some (Value.bool p.C.s) := b0.cell (6); have l1 : _ = some (Value.slice p.C.a p.C.n p.C.c) := b0.cell (7); have l2 : _ = some (Value.slice p.C.b p.C.m p.C.d) := b0.cell (8); (clear b0 b1); go_simp) ⟨Fb_14, BY_14⟩ ?_
            (try simp only [Act.put, List.setIfInBounds_toArray, List.set_cons_zero, List.set_cons_succ])
            refine D_load (i := 4) (d := some 53) (v := (.agg #[Value.bool y.s, Value.slice y.a y.n y.c, Value.slice y.b y.m y.d])) [3, 4] rfl rfl (by kernel_rfl) (by kernel_rfl) (by kernel_rfl) (by kernel_rfl) (by kernel_rfl) (by kernel_rfl) (fun _ _ _ h => h) (by rfl) (fun w hSw => by (obtain ⟨b0, b1⟩ := hSw); have l0 : _ = some (Value.bool y.s) := b1.cell (0); have l1 : _ = some (Value.slice y.a y.n y.c) := b1.cell (1); have l2 : _ = some (Value.slice y.b y.m y.d) := b1.cell (2); (clear b0 b1); go_simp) ⟨Fb_14, BY_14⟩ ?_
            (try simp only [Act.put, List.setIfInBounds_toArray, List.set_cons_zero, List.set_cons_succ])
            refine D_one (i := 5) (by kernel_rfl) rfl (fun Kq hKq => ?_)
            go_simp
            refine (qdiv_nz (FAC_14.rdQ hqC.out) (by omega) (FY_14.rdQ hqy.out) (by omega) hby.out).mono ?_
            rintro e w15 ⟨z1a, z1n, z1c, z1b, z1m, z1d, rfl, hO, hO', hD, hB⟩
            have hB_15 : Below vd14.heap.size vd14 w15 := (bl.next hB)
            have R0_15 := R0_14.next hB_15
            have Pp_15 := Pp_14.next hB_15
            have Fb_15 := Fb_14.next hB_15
            have BY_15 := BY_14.next hB_15
            have PT_15 := PT_14.next hB_15
            have FAA_15 := FAA_14.below hB_15
            have FAB_15 := FAB_14.below hB_15
            have FAC_15 := FAC_14.below hB_15
            have FAD_15 := FAD_14.below hB_15
            have FY_15 := FY_14.below hB_15
            have FOA_15 := FOA_14.below hB_15
            have FOB_15 := FOB_14.below hB_15
            have hbel_15 := hbel_14.next hB_15
            have hsz_15 := hB_15.size
            clear R0_14 Pp_14 Fb_14 BY_14 PT_14 FAA_14 FAB_14 FAC_14 FAD_14 FY_14 FOA_14 FOB_14 hbel_14 hB_15
            have FOC_15 := (show FO vd14.heap.size _ (⟨decide ((P.L.c / by_).num < 0), z1a, z1n, z1c, z1b, z1m, z1d⟩ : FX) (P.L.c / by_) from ⟨rfl, hO, hO', hD⟩)
            clear hO hO' hD
            try clear hB
            (try go_wp2_with fail)
            refine hKq.out _ _ ⟨Fb_15, BY_15⟩ (fun hHeld => ?_)
            clear hHeld hKq Kq
            (try simp only [Act.put, List.setIfInBounds_toArray, List.set_cons_zero, List.set_cons_succ])
            refine D_pure (i := 6) (d := some 48) (v := (.tuple #[(.agg #[Value.bool (decide ((P.L.c / by_).num < 0)), Value.slice z1a z1n z1c, Value.slice z1b z1m z1d]), (.int .i64 0)])) rfl rfl (by kernel_rfl) (by kernel_rfl) (by kernel_rfl) (fun _ _ _ h => h) (by rfl) (fun _ => by go_simp) ?_
            (try simp only [Act.put, List.setIfInBounds_toArray, List.set_cons_zero, List.set_cons_succ])
            refine D_pure (i := 7) (d := some 55) (v := (.agg #[Value.bool (decide ((P.L.c / by_).num < 0)), Value.slice z1a z1n z1c, Value.slice z1b z1m z1d])) rfl rfl (by kernel_rfl) (by kernel_rfl) (by kernel_rfl) (fun _ _ _ h => h) (by rfl) (fun _ => by go_simp) ?_
            (try simp only [Act.put, List.setIfInBounds_toArray, List.set_cons_zero, List.set_cons_succ])
            refine D_pure (i := 8) (d := some 56) (v := (.int .i64 0)) rfl rfl (by kernel_rfl) (by kernel_rfl) (by kernel_rfl) (fun _ _ _ h => h) (by rfl) (fun _ => by go_simp) ?_
            (try simp only [Act.put, List.setIfInBounds_toArray, List.set_cons_zero, List.set_cons_succ])
            refine D_pure (i := 9) (d := some 57) (v := (.pointer (some ⟨wt.heap.size, 6, none⟩))) rfl rfl (by kernel_rfl) (by kernel_rfl) (by kernel_rfl) (fun _ _ _ h => h) (by rfl) (fun _ => by go_simp) ?_
            (try simp only [Act.put, List.setIfInBounds_toArray, List.set_cons_zero, List.set_cons_succ])
            have cFb_15_6 : _ = some (Value.bool p.C.s) := Fb_15.cell 6
            have fFb_15_6 := Fb_15.free 6
            have cFb_15_7 : _ = some (Value.slice p.C.a p.C.n p.C.c) := Fb_15.cell 7
            have fFb_15_7 := Fb_15.free 7
            have cFb_15_8 : _ = some (Value.slice p.C.b p.C.m p.C.d) := Fb_15.cell 8
            have fFb_15_8 := Fb_15.free 8
            refine D_late (i := 10) (by kernel_rfl) rfl (by kernel_rfl) (fun Kq hKq => ?_)
            go_simp
            refine hKq.out _ _ ?_
            clear hKq Kq
            (try simp only [Act.put, List.setIfInBounds_toArray, List.set_cons_zero, List.set_cons_succ])
            refine D_done (by kernel_rfl) ?_ _
            refine NoPanic.normal ?_
            have hkp := ((((Kp.refl (fun j => j = wt.heap.size) w15).setCell (ad := ⟨wt.heap.size, 6, none⟩) rfl (Value.bool (decide ((P.L.c / by_).num < 0)))).setCell (ad := ⟨wt.heap.size, 7, none⟩) rfl (Value.slice z1a z1n z1c)).setCell (ad := ⟨wt.heap.size, 8, none⟩) rfl (Value.slice z1b z1m z1d))
            have Fb_16 := (show Blk _ _ #[Value.bool (decide ((P.L.a / by_).num < 0)), Value.slice x1a x1n x1c, Value.slice x1b x1m x1d, Value.bool (decide ((P.L.b / by_).num < 0)), Value.slice y1a y1n y1c, Value.slice y1b y1m y1d, Value.bool (decide ((P.L.c / by_).num < 0)), Value.slice z1a z1n z1c, Value.slice z1b z1m z1d, Value.bool p.D.s, Value.slice p.D.a p.D.n p.D.c, Value.slice p.D.b p.D.m p.D.d] from (((Fb_15).setCell (i := 6) (v := Value.bool (decide ((P.L.c / by_).num < 0))) (by simp)).setCell (i := 7) (v := Value.slice z1a z1n z1c) (by simp)).setCell (i := 8) (v := Value.slice z1b z1m z1d) (by simp))
            have R0_16 := R0_15.kp hkp (show ¬ (w.heap.size = wt.heap.size) by omega)
            have Pp_16 := Pp_15.kp hkp (show ¬ (w1.heap.size = wt.heap.size) by omega)
            have BY_16 := BY_15.kp hkp (show ¬ (va3.heap.size = wt.heap.size) by omega)
            have PT_16 := PT_15.kp hkp (show ¬ (wv.heap.size = wt.heap.size) by omega)
            have FAA_16 := FAA_15.kp hkp (fun j (e : j = _) (hn : j < wt.heap.size) => by omega)
            have FAB_16 := FAB_15.kp hkp (fun j (e : j = _) (hn : j < wt.heap.size) => by omega)
            have FAC_16 := FAC_15.kp hkp (fun j (e : j = _) (hn : j < wt.heap.size) => by omega)
            have FAD_16 := FAD_15.kp hkp (fun j (e : j = _) (hn : j < wt.heap.size) => by omega)
            have FY_16 := FY_15.kp hkp (fun j (e : j = _) (hn : j < wt.heap.size) => by omega)
            have FOA_16 := FOA_15.kp hkp (fun j (e : j = _) => by omega)
            have FOB_16 := FOB_15.kp hkp (fun j (e : j = _) => by omega)
            have FOC_16 := FOC_15.kp hkp (fun j (e : j = _) => by omega)
            have hbel_16 := hbel_15.kp hkp hbel_15.size (fun j hj (e : j = _) => by omega)
            have hsz_16 := hkp.size
            clear hkp hbel_15 R0_15 Pp_15 Fb_15 BY_15 PT_15 FAA_15 FAB_15 FAC_15 FAD_15 FY_15 FOA_15 FOB_15 FOC_15 cFb_15_6 fFb_15_6 cFb_15_7 fFb_15_7 cFb_15_8 fFb_15_8
            generalize (((w15.setCell ⟨wt.heap.size, 6, none⟩ (Value.bool (decide ((P.L.c / by_).num < 0)))).setCell ⟨wt.heap.size, 7, none⟩ (Value.slice z1a z1n z1c)).setCell ⟨wt.heap.size, 8, none⟩ (Value.slice z1b z1m z1d)) = vw16 at *
            have ltC := FOC_16.ltx
            go_wp2_with fail
            rw [rounds_succ]
            have cPT_16_3 : _ = some (Value.pointer (some ⟨wt.heap.size, 9, none⟩)) := PT_16.cell 3
            have fPT_16_3 := PT_16.free 3
            go_wp2_with fail
            clear cPT_16_3 fPT_16_3
            have hB : Below vw16.heap.size vw16 vw16.drew := (Below.refl _ _).drew
            have hB_17 : Below vw16.heap.size vw16 vw16.drew := hB
            have R0_17 := R0_16.next hB_17
            have Pp_17 := Pp_16.next hB_17
            have Fb_17 := Fb_16.next hB_17
            have BY_17 := BY_16.next hB_17
            have PT_17 := PT_16.next hB_17
            have FAA_17 := FAA_16.below hB_17
            have FAB_17 := FAB_16.below hB_17
            have FAC_17 := FAC_16.below hB_17
            have FAD_17 := FAD_16.below hB_17
            have FY_17 := FY_16.below hB_17
            have FOA_17 := FOA_16.below hB_17
            have FOB_17 := FOB_16.below hB_17
            have FOC_17 := FOC_16.below hB_17
            have hbel_17 := hbel_16.next hB_17
            have hsz_17 := hB_17.size
            clear R0_16 Pp_16 Fb_16 BY_16 PT_16 FAA_16 FAB_16 FAC_16 FAD_16 FY_16 FOA_16 FOB_16 FOC_16 hbel_16 hB_17
            clear hB
            refine wp_region_noPanic ?_
            refine D_region (S := (fun w' => Blk w' (wt.heap.size) #[Value.bool (decide ((P.L.a / by_).num < 0)), Value.slice x1a x1n x1c, Value.slice x1b x1m x1d, Value.bool (decide ((P.L.b / by_).num < 0)), Value.slice y1a y1n y1c, Value.slice y1b y1m y1d, Value.bool (decide ((P.L.c / by_).num < 0)), Value.slice z1a z1n z1c, Value.slice z1b z1m z1d, Value.bool p.D.s, Value.slice p.D.a p.D.n p.D.c, Value.slice p.D.b p.D.m p.D.d] ∧ Blk w' (va3.heap.size) #[Value.bool y.s, Value.slice y.a y.n y.c, Value.slice y.b y.m y.d])) (T := [10]) (by kernel_rfl) ⟨Fb_17, BY_17⟩ (fun hHeld => ?_)
            clear hHeld
            generalize vw16.drew = vd17 at *
            refine D_pure (i := 0) (d := some 49) (v := (.pointer (some ⟨wt.heap.size, 9, none⟩))) rfl rfl (by kernel_rfl) (by kernel_rfl) (by kernel_rfl) (fun _ _ _ h => h) (by rfl) (fun _ => by go_simp) ?_
            (try simp only [Act.put, List.setIfInBounds_toArray, List.set_cons_zero, List.set_cons_succ])
            refine D_pure (i := 1) (d := some 50) (v := (.pointer (some ⟨wt.heap.size, 9, none⟩))) rfl rfl (by kernel_rfl) (by kernel_rfl) (by kernel_rfl) (fun _ _ _ h => h) (by rfl) (fun _ => by go_simp) ?_
            (try simp only [Act.put, List.setIfInBounds_toArray, List.set_cons_zero, List.set_cons_succ])
            refine D_pure (i := 2) (d := some 51) (v := (.pointer (some ⟨wt.heap.size, 9, none⟩))) rfl rfl (by kernel_rfl) (by kernel_rfl) (by kernel_rfl) (fun _ _ _ h => h) (by rfl) (fun _ => by go_simp) ?_
            (try simp only [Act.put, List.setIfInBounds_toArray, List.set_cons_zero, List.set_cons_succ])
            refine D_load (i := 3) (d := some 52) (v := (.agg #[Value.bool p.D.s, Value.slice p.D.a p.D.n p.D.c, Value.slice p.D.b p.D.m p.D.d])) [3, 4] rfl rfl (by kernel_rfl) (by kernel_rfl) (by kernel_rfl) (by kernel_rfl) (by kernel_rfl) (by kernel_rfl) (fun _ _ _ h => h) (by rfl) (fun w hSw => by (obtain ⟨b0, b1⟩ := hSw); have l0 : _ = some (Value.bool p.D.s) := b0.cell (9); have l1 : _ = some (Value.slice p.D.a p.D.n p.D.c) := b0.cell (10); have l2 : _ = some (Value.slice p.D.b p.D.m p.D.d) := b0.cell (11); (clear b0 b1); go_simp) ⟨Fb_17, BY_17⟩ ?_
            (try simp only [Act.put, List.setIfInBounds_toArray, List.set_cons_zero, List.set_cons_succ])
            refine D_load (i := 4) (d := some 53) (v := (.agg #[Value.bool y.s, Value.slice y.a y.n y.c, Value.slice y.b y.m y.d])) [3, 4] rfl rfl (by kernel_rfl) (by kernel_rfl) (by kernel_rfl) (by kernel_rfl) (by kernel_rfl) (by kernel_rfl) (fun _ _ _ h => h) (by rfl) (fun w hSw => by (obtain ⟨b0, b1⟩ := hSw); have l0 : _ = some (Value.bool y.s) := b1.cell (0); have l1 : _ = some (Value.slice y.a y.n y.c) := b1.cell (1); have l2 : _ = some (Value.slice y.b y.m y.d) := b1.cell (2); (clear b0 b1); go_simp) ⟨Fb_17, BY_17⟩ ?_
            (try simp only [Act.put, List.setIfInBounds_toArray, List.set_cons_zero, List.set_cons_succ])
            refine D_one (i := 5) (by kernel_rfl) rfl (fun Kq hKq => ?_)
            go_simp
            refine (qdiv_nz (FAD_17.rdQ hqD.out) (by omega) (FY_17.rdQ hqy.out) (by omega) hby.out).mono ?_
            rintro e w18 ⟨u1a, u1n, u1c, u1b, u1m, u1d, rfl, hO, hO', hD, hB⟩
            have hB_18 : Below vd17.heap.size vd17 w18 := (bl.next hB)
            have R0_18 := R0_17.next hB_18
            have Pp_18 := Pp_17.next hB_18
            have Fb_18 := Fb_17.next hB_18
            have BY_18 := BY_17.next hB_18
            have PT_18 := PT_17.next hB_18
            have FAA_18 := FAA_17.below hB_18
            have FAB_18 := FAB_17.below hB_18
            have FAC_18 := FAC_17.below hB_18
            have FAD_18 := FAD_17.below hB_18
            have FY_18 := FY_17.below hB_18
            have FOA_18 := FOA_17.below hB_18
            have FOB_18 := FOB_17.below hB_18
            have FOC_18 := FOC_17.below hB_18
            have hbel_18 := hbel_17.next hB_18
            have hsz_18 := hB_18.size
            clear R0_17 Pp_17 Fb_17 BY_17 PT_17 FAA_17 FAB_17 FAC_17 FAD_17 FY_17 FOA_17 FOB_17 FOC_17 hbel_17 hB_18
            have FOD_18 := (show FO vd17.heap.size _ (⟨decide ((P.L.d / by_).num < 0), u1a, u1n, u1c, u1b, u1m, u1d⟩ : FX) (P.L.d / by_) from ⟨rfl, hO, hO', hD⟩)
            clear hO hO' hD
            try clear hB
            (try go_wp2_with fail)
            refine hKq.out _ _ ⟨Fb_18, BY_18⟩ (fun hHeld => ?_)
            clear hHeld hKq Kq
            (try simp only [Act.put, List.setIfInBounds_toArray, List.set_cons_zero, List.set_cons_succ])
            refine D_pure (i := 6) (d := some 48) (v := (.tuple #[(.agg #[Value.bool (decide ((P.L.d / by_).num < 0)), Value.slice u1a u1n u1c, Value.slice u1b u1m u1d]), (.int .i64 0)])) rfl rfl (by kernel_rfl) (by kernel_rfl) (by kernel_rfl) (fun _ _ _ h => h) (by rfl) (fun _ => by go_simp) ?_
            (try simp only [Act.put, List.setIfInBounds_toArray, List.set_cons_zero, List.set_cons_succ])
            refine D_pure (i := 7) (d := some 55) (v := (.agg #[Value.bool (decide ((P.L.d / by_).num < 0)), Value.slice u1a u1n u1c, Value.slice u1b u1m u1d])) rfl rfl (by kernel_rfl) (by kernel_rfl) (by kernel_rfl) (fun _ _ _ h => h) (by rfl) (fun _ => by go_simp) ?_
            (try simp only [Act.put, List.setIfInBounds_toArray, List.set_cons_zero, List.set_cons_succ])
            refine D_pure (i := 8) (d := some 56) (v := (.int .i64 0)) rfl rfl (by kernel_rfl) (by kernel_rfl) (by kernel_rfl) (fun _ _ _ h => h) (by rfl) (fun _ => by go_simp) ?_
            (try simp only [Act.put, List.setIfInBounds_toArray, List.set_cons_zero, List.set_cons_succ])
            refine D_pure (i := 9) (d := some 57) (v := (.pointer (some ⟨wt.heap.size, 9, none⟩))) rfl rfl (by kernel_rfl) (by kernel_rfl) (by kernel_rfl) (fun _ _ _ h => h) (by rfl) (fun _ => by go_simp) ?_
            (try simp only [Act.put, List.setIfInBounds_toArray, List.set_cons_zero, List.set_cons_succ])
            have cFb_18_9 : _ = some (Value.bool p.D.s) := Fb_18.cell 9
            have fFb_18_9 := Fb_18.free 9
            have cFb_18_10 : _ = some (Value.slice p.D.a p.D.n p.D.c) := Fb_18.cell 10
            have fFb_18_10 := Fb_18.free 10
            have cFb_18_11 : _ = some (Value.slice p.D.b p.D.m p.D.d) := Fb_18.cell 11
            have fFb_18_11 := Fb_18.free 11
            refine D_late (i := 10) (by kernel_rfl) rfl (by kernel_rfl) (fun Kq hKq => ?_)
            go_simp
            refine hKq.out _ _ ?_
            clear hKq Kq
            (try simp only [Act.put, List.setIfInBounds_toArray, List.set_cons_zero, List.set_cons_succ])
            refine D_done (by kernel_rfl) ?_ _
            refine NoPanic.normal ?_
            have hkp := ((((Kp.refl (fun j => j = wt.heap.size) w18).setCell (ad := ⟨wt.heap.size, 9, none⟩) rfl (Value.bool (decide ((P.L.d / by_).num < 0)))).setCell (ad := ⟨wt.heap.size, 10, none⟩) rfl (Value.slice u1a u1n u1c)).setCell (ad := ⟨wt.heap.size, 11, none⟩) rfl (Value.slice u1b u1m u1d))
            have Fb_19 := (show Blk _ _ #[Value.bool (decide ((P.L.a / by_).num < 0)), Value.slice x1a x1n x1c, Value.slice x1b x1m x1d, Value.bool (decide ((P.L.b / by_).num < 0)), Value.slice y1a y1n y1c, Value.slice y1b y1m y1d, Value.bool (decide ((P.L.c / by_).num < 0)), Value.slice z1a z1n z1c, Value.slice z1b z1m z1d, Value.bool (decide ((P.L.d / by_).num < 0)), Value.slice u1a u1n u1c, Value.slice u1b u1m u1d] from (((Fb_18).setCell (i := 9) (v := Value.bool (decide ((P.L.d / by_).num < 0))) (by simp)).setCell (i := 10) (v := Value.slice u1a u1n u1c) (by simp)).setCell (i := 11) (v := Value.slice u1b u1m u1d) (by simp))
            have R0_19 := R0_18.kp hkp (show ¬ (w.heap.size = wt.heap.size) by omega)
            have Pp_19 := Pp_18.kp hkp (show ¬ (w1.heap.size = wt.heap.size) by omega)
            have BY_19 := BY_18.kp hkp (show ¬ (va3.heap.size = wt.heap.size) by omega)
            have PT_19 := PT_18.kp hkp (show ¬ (wv.heap.size = wt.heap.size) by omega)
            have FAA_19 := FAA_18.kp hkp (fun j (e : j = _) (hn : j < wt.heap.size) => by omega)
            have FAB_19 := FAB_18.kp hkp (fun j (e : j = _) (hn : j < wt.heap.size) => by omega)
            have FAC_19 := FAC_18.kp hkp (fun j (e : j = _) (hn : j < wt.heap.size) => by omega)
            have FAD_19 := FAD_18.kp hkp (fun j (e : j = _) (hn : j < wt.heap.size) => by omega)
            have FY_19 := FY_18.kp hkp (fun j (e : j = _) (hn : j < wt.heap.size) => by omega)
            have FOA_19 := FOA_18.kp hkp (fun j (e : j = _) => by omega)
            have FOB_19 := FOB_18.kp hkp (fun j (e : j = _) => by omega)
            have FOC_19 := FOC_18.kp hkp (fun j (e : j = _) => by omega)
            have FOD_19 := FOD_18.kp hkp (fun j (e : j = _) => by omega)
            have hbel_19 := hbel_18.kp hkp hbel_18.size (fun j hj (e : j = _) => by omega)
            have hsz_19 := hkp.size
            clear hkp hbel_18 R0_18 Pp_18 Fb_18 BY_18 PT_18 FAA_18 FAB_18 FAC_18 FAD_18 FY_18 FOA_18 FOB_18 FOC_18 FOD_18 cFb_18_9 fFb_18_9 cFb_18_10 fFb_18_10 cFb_18_11 fFb_18_11
            generalize (((w18.setCell ⟨wt.heap.size, 9, none⟩ (Value.bool (decide ((P.L.d / by_).num < 0)))).setCell ⟨wt.heap.size, 10, none⟩ (Value.slice u1a u1n u1c)).setCell ⟨wt.heap.size, 11, none⟩ (Value.slice u1b u1m u1d)) = vw19 at *
            have ltD := FOD_19.ltx
            go_wp2_with fail
            rw [rounds_succ]
            have hFl : Blk vw19 (wt.heap.size) (⟨⟨decide ((P.L.a / by_).num < 0), x1a, x1n, x1c, x1b, x1m, x1d⟩, ⟨decide ((P.L.b / by_).num < 0), y1a, y1n, y1c, y1b, y1m, y1d⟩, ⟨decide ((P.L.c / by_).num < 0), z1a, z1n, z1c, z1b, z1m, z1d⟩, ⟨decide ((P.L.d / by_).num < 0), u1a, u1n, u1c, u1b, u1m, u1d⟩⟩ : LX).arr := Fb_19
            go_wp2_with (first | (refine BigFrame.wpList_want (by rfl) (fun Kq hKq => wp_loadL (p := (⟨⟨decide ((P.L.a / by_).num < 0), x1a, x1n, x1c, x1b, x1m, x1d⟩, ⟨decide ((P.L.b / by_).num < 0), y1a, y1n, y1c, y1b, y1m, y1d⟩, ⟨decide ((P.L.c / by_).num < 0), z1a, z1n, z1c, z1b, z1m, z1d⟩, ⟨decide ((P.L.d / by_).num < 0), u1a, u1n, u1c, u1b, u1m, u1d⟩⟩ : LX)) _ rfl rfl hFl (hKq _ _ ?_))) | (refine BigFrame.wpList_want (by rfl) (fun Kq hKq => wp_storeL (p := (⟨⟨decide ((P.L.a / by_).num < 0), x1a, x1n, x1c, x1b, x1m, x1d⟩, ⟨decide ((P.L.b / by_).num < 0), y1a, y1n, y1c, y1b, y1m, y1d⟩, ⟨decide ((P.L.c / by_).num < 0), z1a, z1n, z1c, z1b, z1m, z1d⟩, ⟨decide ((P.L.d / by_).num < 0), u1a, u1n, u1c, u1b, u1m, u1d⟩⟩ : LX)) (q := LX.o) _ _ rfl rfl rfl R0_19 (fun ws hbs hks => hKq _ _ ?_))))
            have hbl3 := hbel_19.kp hks hbel_19.size (fun j hj (e : j = _) => by omega)
            refine bodyPost_ret (res_blk_tmp Try.results9 rfl rfl hbs Try.underlying32 rfl (by kernel_rfl)) rfl ?_
            rw [hle.out, hdv.out]
            exact ⟨(⟨⟨decide ((P.L.a / by_).num < 0), x1a, x1n, x1c, x1b, x1m, x1d⟩, ⟨decide ((P.L.b / by_).num < 0), y1a, y1n, y1c, y1b, y1m, y1d⟩, ⟨decide ((P.L.c / by_).num < 0), z1a, z1n, z1c, z1b, z1m, z1d⟩, ⟨decide ((P.L.d / by_).num < 0), u1a, u1n, u1c, u1b, u1m, u1d⟩⟩ : LX), rfl, fun h => absurd rfl h, fun _ => ⟨vd11.heap.size, vd14.heap.size, vd17.heap.size, by omega, by omega, by omega, (FOA_19.kp hks (fun j (e : j = _) => by omega)).mono (by omega), ltA.mono (by omega), FOB_19.kp hks (fun j (e : j = _) => by omega), ltB.mono (by omega), FOC_19.kp hks (fun j (e : j = _) => by omega), ltC.mono (by omega), FOD_19.kp hks (fun j (e : j = _) => by omega)⟩, hbl3⟩
        ·
          rw [show p.bad = true from hbq.out.trans hpb] at c5
          have hle := hid (show lnE (some P) = 11 by rw [hdl.out, hpoh.out, hpb]; rfl)
          clear hpb
          have hle := hid (hle.out)
          go_wp2_with (refine BigFrame.wpList_want (by rfl) (fun Kq hKq => wp_storeL (p := LX.o) (q := LX.o) _ _ rfl rfl rfl R0_2 (fun ws hbs hks => hKq _ _ ?_)))
          have hbl3 := hbel_2.kp hks hbel_2.size (fun j hj (e : j = _) => by omega)
          refine bodyPost_ret (res_blk_tmp Try.results9 rfl rfl hbs Try.underlying32 rfl (by kernel_rfl)) rfl ?_
          rw [hle.out]
          exact ⟨LX.o, rfl, fun _ => rfl, fun h => absurd h (by decide), hbl3⟩

end Go.Proofs.Ytennilapmcgnbaa
/- WALKS OF EXPRESSIONS, 9: the statements' terms and cuts. -/
namespace Go.Proofs.Ytennilapmcgnbaa
set_option linter.unusedVariables false
set_option linter.unusedSimpArgs false
open Go.ChangeShapes Go.WideShapes Go.ChangeAt Go.RowKit Go.NatP

def RetCutE (w : World) (N n m : Nat) (s : Bool) (a : Option Addr) (c : Nat) (b : Option Addr) (d : Nat) (e : Ending) (w' : World) : Prop :=
  e = .returned (.agg #[.bool s, .slice a (min n N) c, .slice b (min m N) d]) ∧ Below w.heap.size w w'
set_option maxRecDepth 100000 in
set_option maxHeartbeats 4000000 in
theorem fcutE {w : World} {a b : Option Addr} {n c m d : Nat} {l k : List Nat} {s : Bool} (N : Nat) (hN : N ≤ 1000) (ha : Rd w a n c l) (hb : Rd w b m d k) : Calls Try.prog 22 #[.agg #[.bool s, .slice a n c, .slice b m d], .int .i64 (N : Int)] w (RetCutE w N n m s a c b d) := by
  have hbn := ha.bnd
  have hbm := hb.bnd
  by_cases hn : N < n
  · obtain ⟨b0, o0, rfl⟩ := ha.head (by omega)
    clear ha
    have hd : decide (N < n) = true := decide_eq_true hn
    by_cases hm : N < m
    · obtain ⟨b1, o1, rfl⟩ := hb.head (by omega)
      clear hb
      have hd2 : decide (N < m) = true := decide_eq_true hm
      go_enter Try.func22, Try.ntmps22
      go_wp2
      refine bodyPost_ret (v := .agg #[.bool s, .slice (some ⟨b0, o0, none⟩) N c, .slice (some ⟨b1, o1, none⟩) N d]) (by simp [results, Try.results22, go_sem]) rfl ?_
      exact ⟨by rw [show min n N = N by omega, show min m N = N by omega], ((Below.refl _ _).alloc (Nat.le_refl _) _).alloc (by simp) _⟩
    · clear hb
      have hd2 : decide (N < m) = false := decide_eq_false hm
      go_enter Try.func22, Try.ntmps22
      go_wp2
      refine bodyPost_ret (v := .agg #[.bool s, .slice (some ⟨b0, o0, none⟩) N c, .slice b m d]) (by simp [results, Try.results22, go_sem]) rfl ?_
      exact ⟨by rw [show min n N = N by omega, show min m N = m by omega], ((Below.refl _ _).alloc (Nat.le_refl _) _).alloc (by simp) _⟩
  · clear ha
    have hd : decide (N < n) = false := decide_eq_false hn
    by_cases hm : N < m
    · obtain ⟨b1, o1, rfl⟩ := hb.head (by omega)
      clear hb
      have hd2 : decide (N < m) = true := decide_eq_true hm
      go_enter Try.func22, Try.ntmps22
      go_wp2
      refine bodyPost_ret (v := .agg #[.bool s, .slice a n c, .slice (some ⟨b1, o1, none⟩) N d]) (by simp [results, Try.results22, go_sem]) rfl ?_
      exact ⟨by rw [show min n N = n by omega, show min m N = N by omega], ((Below.refl _ _).alloc (Nat.le_refl _) _).alloc (by simp) _⟩
    · clear hb
      have hd2 : decide (N < m) = false := decide_eq_false hm
      go_enter Try.func22, Try.ntmps22
      go_wp2
      refine bodyPost_ret (v := .agg #[.bool s, .slice a n c, .slice b m d]) (by simp [results, Try.results22, go_sem]) rfl ?_
      exact ⟨by rw [show min n N = n by omega, show min m N = m by omega], ((Below.refl _ _).alloc (Nat.le_refl _) _).alloc (by simp) _⟩

def RetTm (w : World) (k : Int) (e : Ending) (w' : World) : Prop := e = .returned (.agg #[.int .i8 k, .bool false, .slice none 0 0, .slice none 0 0]) ∧ Below w.heap.size w w'
set_option maxRecDepth 100000 in
set_option maxHeartbeats 1000000 in
theorem top_any {w : World} (k : Int) : Calls Try.prog 16 #[.int .i8 k] w (RetTm w k) := by
  go_enter Try.func16, Try.ntmps16
  go_wp2
  refine bodyPost_ret (v := .agg #[.int .i8 k, .bool false, .slice none 0 0, .slice none 0 0]) (by simp [results, Try.results16, go_sem]) rfl ?_
  exact ⟨rfl, (Below.refl _ _).alloc (Nat.le_refl _) _⟩
theorem tok_op (K : Nat) (W : World) (la : Option Addr) : TOK K W la QA.o := ⟨rd_nil _ _ _ (Nat.zero_le _), rd_nil _ _ _ (Nat.zero_le _), fun _ _ _ e => (by cases e), fun _ _ _ e => (by cases e), Nat.zero_le _, Nat.zero_le _⟩

/-- a number as a term -/
def RetTn (w : World) (q : Rat) (e : Ending) (w' : World) : Prop :=
  ∃ a n c b m d, e = .returned (.agg #[.int .i8 1, .bool (decide (q.num < 0)), .slice a n c, .slice b m d]) ∧ Own w.heap.size w' a n c (lm q.num.natAbs) ∧ Own w.heap.size w' b m d (lm q.den) ∧ Diff a b ∧ Below w.heap.size w w'
theorem qof1 {w : World} (v : Int) (h1 : -9223372036854775808 ≤ v) (h2 : v ≤ 9223372036854775807) : Calls Try.prog 19 #[.int .i64 v, .int .i64 1] w (RetQK w (v : Rat)) :=
  (qof v 1 h1 h2 (by omega) (by omega)).mono fun e w' h => by
    have := retqe_ok h (by decide)
    rw [show Rat.divInt v 1 = (v : Rat) from ediv_1 v] at this
    exact this

set_option maxRecDepth 100000 in
set_option maxHeartbeats 4000000 in
theorem tn_any {w : World} (v : Int) (h1 : -9223372036854775808 ≤ v) (h2 : v ≤ 9223372036854775807) :
    Calls Try.prog 18 #[.int .i64 v] w (RetTn w (v : Rat)) := by
  have H1 := hid (fun w => qof1 (w := w) v h1 h2)
  obtain ⟨q, hq⟩ : ∃ q : Rat, (v : Rat) = q := ⟨_, rfl⟩
  rw [hq] at H1 ⊢
  clear hq
  have hent := ent1 w #[Value.int .i8 0, Value.bool false, Value.slice none 0 0, Value.slice none 0 0] 38
  go_enter Try.func18, Try.ntmps18
  go_wp2_with fail
  generalize (w.alloc (.cells #[Value.int .i8 0, Value.bool false, Value.slice none 0 0, Value.slice none 0 0] 38)) = W0 at hent ⊢
  obtain ⟨R0_0, hbel_0, hsz_0⟩ := hent
  have cR0_0_0 : _ = some (Value.int .i8 0) := R0_0.cell 0
  have fR0_0_0 := R0_0.free 0
  have cR0_0_1 : _ = some (Value.bool false) := R0_0.cell 1
  have fR0_0_1 := R0_0.free 1
  have cR0_0_2 : _ = some (Value.slice none 0 0) := R0_0.cell 2
  have fR0_0_2 := R0_0.free 2
  have cR0_0_3 : _ = some (Value.slice none 0 0) := R0_0.cell 3
  have fR0_0_3 := R0_0.free 3
  go_wp2_with fail
  refine (H1.out _).mono ?_
  rintro e w1 ⟨qa, qn, qc, qb, qm, qd, rfl, hO, hO', hD, hB⟩
  have hB_1 : Below W0.heap.size W0 w1 := (bl.next hB)
  have R0_1 := R0_0.next hB_1
  have cR0_1_0 : _ = some (Value.int .i8 0) := R0_1.cell 0
  have fR0_1_0 := R0_1.free 0
  have cR0_1_1 : _ = some (Value.bool false) := R0_1.cell 1
  have fR0_1_1 := R0_1.free 1
  have cR0_1_2 : _ = some (Value.slice none 0 0) := R0_1.cell 2
  have fR0_1_2 := R0_1.free 2
  have cR0_1_3 : _ = some (Value.slice none 0 0) := R0_1.cell 3
  have fR0_1_3 := R0_1.free 3
  have hbel_1 := hbel_0.next hB_1
  have hsz_1 := hB_1.size
  clear R0_0 cR0_0_0 fR0_0_0 cR0_0_1 fR0_0_1 cR0_0_2 fR0_0_2 cR0_0_3 fR0_0_3 hbel_0 hB_1
  have O_1 := hO
  have ltO := hO.ltB
  have P_1 := hO'
  have ltP := hO'.ltB
  have D := hid hD
  have hge : ∀ g, qa = some ⟨g, 0, none⟩ → W0.heap.size ≤ g := fun g e => (hO.lt' g e).1
  have hge' : ∀ g, qb = some ⟨g, 0, none⟩ → W0.heap.size ≤ g := fun g e => (hO'.lt' g e).1
  clear hO hO' hD
  try clear hB
  have hbx := blk_new w1 #[Value.bool (decide (q.num < 0)), Value.slice qa qn qc, Value.slice qb qm qd] 28
  have hbB := (Below.refl w1.heap.size w1).alloc (Nat.le_refl _) (.cells #[Value.bool (decide (q.num < 0)), Value.slice qa qn qc, Value.slice qb qm qd] 28)
  have hltA := hbx.lt
  have hB_2 : Below w1.heap.size w1 (w1.alloc (.cells #[Value.bool (decide (q.num < 0)), Value.slice qa qn qc, Value.slice qb qm qd] 28)) := hbB
  have R0_2 := R0_1.next hB_2
  have cR0_2_0 : _ = some (Value.int .i8 0) := R0_2.cell 0
  have fR0_2_0 := R0_2.free 0
  have cR0_2_1 : _ = some (Value.bool false) := R0_2.cell 1
  have fR0_2_1 := R0_2.free 1
  have cR0_2_2 : _ = some (Value.slice none 0 0) := R0_2.cell 2
  have fR0_2_2 := R0_2.free 2
  have cR0_2_3 : _ = some (Value.slice none 0 0) := R0_2.cell 3
  have fR0_2_3 := R0_2.free 3
  have O_2 := O_1.below hB_2
  have P_2 := P_1.below hB_2
  have hbel_2 := hbel_1.next hB_2
  have hsz_2 := hB_2.size
  clear hB_2
  have A_2 := hbx
  clear hbx hbB
  have cA_2_0 : _ = some (Value.bool (decide (q.num < 0))) := A_2.cell 0
  have cA_2_1 : _ = some (Value.slice qa qn qc) := A_2.cell 1
  have cA_2_2 : _ = some (Value.slice qb qm qd) := A_2.cell 2
  go_wp2_with fail
  clear R0_1 cR0_1_0 fR0_1_0 cR0_1_1 fR0_1_1 cR0_1_2 fR0_1_2 cR0_1_3 fR0_1_3 O_1 P_1 hbel_1
  generalize (w1.alloc (.cells #[Value.bool (decide (q.num < 0)), Value.slice qa qn qc, Value.slice qb qm qd] 28)) = v2 at *
  go_wp2
  refine bodyPost_ret (v := .agg #[.int .i8 1, .bool (decide (q.num < 0)), .slice qa qn qc, .slice qb qm qd]) (by simp [results, Try.results18, go_sem, cR0_2_0, cR0_2_1, cR0_2_2, cR0_2_3]) rfl ?_
  have hkp : Kp (fun j => j = w.heap.size) v2 _ := ((((Kp.refl (fun j => j = w.heap.size) v2).setCell (ad := ⟨w.heap.size, 0, none⟩) rfl (.int .i8 1)).setCell (ad := ⟨w.heap.size, 1, none⟩) rfl (.bool (decide (q.num < 0)))).setCell (ad := ⟨w.heap.size, 2, none⟩) rfl (.slice qa qn qc)).setCell (ad := ⟨w.heap.size, 3, none⟩) rfl (.slice qb qm qd)
  exact ⟨qa, qn, qc, qb, qm, qd, rfl, ((show Own W0.heap.size _ _ _ _ _ from O_2).kp hkp (fun g e (e2 : g = _) => by have := hge g e; omega)).mono (by omega), ((show Own W0.heap.size _ _ _ _ _ from P_2).kp hkp (fun g e (e2 : g = _) => by have := hge' g e; omega)).mono (by omega), D.out, hbel_2.kp hkp hbel_2.size (fun j hj (e : j = _) => by omega)⟩

/-- four cells of a term -/
structure TC (W : World) (g i : Nat) (t : TA) : Prop where
  c0 : W.cell? ⟨g, i, none⟩ = some (.int .i8 t.k)
  c1 : W.cell? ⟨g, i + 1, none⟩ = some (.bool t.x.s)
  c2 : W.cell? ⟨g, i + 2, none⟩ = some (.slice t.x.a t.x.n t.x.c)
  c3 : W.cell? ⟨g, i + 3, none⟩ = some (.slice t.x.b t.x.m t.x.d)
theorem TC.below {W W' : World} {g i : Nat} {t : TA} (h : TC W g i t) (hB : Below W.heap.size W W') : TC W' g i t := by
  have hl : g < W.heap.size := World.block_lt_of_cell? _ _ h.c0
  exact ⟨by rw [hB.cell (p := ⟨g, i, none⟩) hl]; exact h.c0, by rw [hB.cell (p := ⟨g, i + 1, none⟩) hl]; exact h.c1, by rw [hB.cell (p := ⟨g, i + 2, none⟩) hl]; exact h.c2, by rw [hB.cell (p := ⟨g, i + 3, none⟩) hl]; exact h.c3⟩
theorem TRow.tc {W : World} {sa : Option Addr} {N : Nat} {ts : List TA} (h : TRow W sa N ts) {i : Nat} (hi : i < N) : ∃ g o, sa = some ⟨g, o, none⟩ ∧ TC W g (o + i * 4) (ts.getD i TA.o) := by
  obtain ⟨_, _, g, o, e, c0, c1, c2, c3⟩ := h i hi
  exact ⟨g, o, e, c0, c1, c2, c3⟩
/-- a term cut -/
def cutT (t : TA) : TA := ⟨t.k, ⟨t.x.s, t.x.a, min t.x.n 3, t.x.c, t.x.l.take 3, t.x.b, min t.x.m 3, t.x.d, t.x.k.take 3⟩⟩
def RetCutT (w : World) (ts : List TA) (e : Ending) (w' : World) : Prop :=
  ∃ a c, e = .returned (.slice a (min ts.length 300) c) ∧ TRw 3 w.heap.size w' a c ((ts.take 300).map cutT) ∧ Below w.heap.size w w'
theorem Rd.cut3 {w : World} {a : Option Addr} {n c : Nat} {l : List Nat} (h : Rd w a n c l) : Rd w a (min n 3) c (l.take 3) := by
  have h1 := h.pre (Nat.min_le_left n 3)
  have h2 := h.len
  by_cases h3 : n ≤ 3
  · rw [show min n 3 = n by omega] at h1 ⊢
    rw [List.take_of_length_le (by omega)] at h1 ⊢; exact h1
  · rw [show min n 3 = 3 by omega] at h1 ⊢; exact h1
theorem tok_cut {w W : World} {t : TA} {la : Option Addr} (ha : Rd w t.x.a t.x.n t.x.c t.x.l) (hb : Rd w t.x.b t.x.m t.x.d t.x.k) (hB : Below w.heap.size w W) (hla : ∀ g, la = some ⟨g, 0, none⟩ → w.heap.size ≤ g) : TOK 3 W la (cutT t).x := by
  refine ⟨(ha.below hB).cut3, (hb.below hB).cut3, fun g o h0 e e2 => ?_, fun g o h0 e e2 => ?_, Nat.min_le_right _ _, Nat.min_le_right _ _⟩
  · have h1 : 0 < min t.x.n 3 := h0
    have h2 : t.x.a = some ⟨g, o, none⟩ := e
    have h3 := Rd.lt0 (h2 ▸ ha) (by omega)
    have := hla g e2
    omega
  · have h1 : 0 < min t.x.m 3 := h0
    have h2 : t.x.b = some ⟨g, o, none⟩ := e
    have h3 := Rd.lt0 (h2 ▸ hb) (by omega)
    have := hla g e2
    omega
theorem cutT_cutT (t : TA) (h1 : t.x.n ≤ 3) (h2 : t.x.m ≤ 3) (h3 : t.x.l.length = t.x.n) (h4 : t.x.k.length = t.x.m) : cutT t = t := by
  obtain ⟨k, s, a, n, c, l, b, m, d, q⟩ := t
  dsimp only at h1 h2 h3 h4
  unfold cutT
  dsimp only
  rw [show min n 3 = n by omega, show min m 3 = m by omega, List.take_of_length_le (by omega), List.take_of_length_le (by omega)]

set_option maxRecDepth 100000 in
set_option maxHeartbeats 4000000 in
theorem tcut {w : World} {sa : Option Addr} {c : Nat} {ts : List TA} (hx : TRow w sa ts.length ts) (hn : ts.length ≤ c) (hc : c ≤ maxLen) :
    Calls Try.prog 8 #[.slice sa ts.length c] w (RetCutT w ts) := by
  have HX := hid hx
  clear hx
  unfold maxLen at hc
  obtain ⟨n, hnn⟩ : ∃ n, ts.length = n := ⟨_, rfl⟩
  have hnh := hid hnn
  rw [hnn] at hn HX ⊢
  clear hnn
  go_enter Try.func8, Try.ntmps8
  go_wp2
  go_loopw [3, 4] (fun v i wr => ∃ (k lc : Nat) (la : Option Addr), k ≤ n ∧ k ≤ 300 ∧ v = .slice la k lc ∧ i = .int .i64 k ∧ TRw 3 w.heap.size wr la lc ((ts.take k).map cutT) ∧ Below w.heap.size w wr) (fun _ i _ => 300 - (intOf i).toNat)
  case atStart => exact ⟨0, 0, none, by omega, by omega, rfl, rfl, trw_nil _ _ _, Below.refl _ _⟩
  case round =>
    obtain ⟨k, lc, la, hk, hk3, rfl, rfl, hT, hB⟩ := hrel
    have hsz := hB.size
    have hlen : ((ts.take k).map cutT).length = k := by rw [List.length_map, List.length_take, hnh.out]; omega
    by_cases hlt : k < n
    ·
      by_cases h30 : k < 300
      ·
        obtain ⟨r1, r2, -⟩ := HX.out k hlt
        obtain ⟨g, o, hsa, hc0⟩ := HX.out.tc hlt
        subst hsa
        have hc0 := hc0.below hB
        obtain ⟨t, ht⟩ : ∃ t, ts.getD k TA.o = t := ⟨_, rfl⟩
        rw [ht] at r1 r2 hc0
        have hth := hid ht
        clear ht
        have R1 := hid r1
        have R2 := hid r2
        obtain ⟨tk, s, ta, tn, tc, tl, tb, tm, td, tq⟩ := t
        have TC_0 := hc0
        have ra_0 : Rd wr ta tn tc tl := r1.below hB
        have rb_0 : Rd wr tb tm td tq := r2.below hB
        have TR_0 := hT
        have hbel_0 := hB
        have hsz_0 : wr.heap.size ≤ wr.heap.size := Nat.le_refl _
        clear hc0 r1 r2 hT hB
        have hl3 : decide ((k : Int) < 300) = true := by simp; omega
        go_wp2_with fail
        have hB : Below wr.heap.size wr wr.drew := (Below.refl _ _).drew
        have hB_1 : Below wr.heap.size wr wr.drew := hB
        have TC_1 := TC_0.below hB_1
        have ra_1 := ra_0.below hB_1
        have rb_1 := rb_0.below hB_1
        have TR_1 := TR_0.below hB_1
        have hbel_1 := hbel_0.next hB_1
        have hsz_1 := hB_1.size
        clear TC_0 ra_0 rb_0 TR_0 hbel_0 hB_1
        clear hB
        refine wp_region_noPanic ?_
        refine D_region (S := (fun w' => TC w' g (o + k * 4) (⟨tk, ⟨s, ta, tn, tc, tl, tb, tm, td, tq⟩⟩ : TA))) (T := [14, 15]) (by kernel_rfl) TC_1 (fun hHeld => ?_)
        clear hHeld
        generalize wr.drew = vd1 at *
        refine D_pure (i := 0) (d := some 15) (v := (.slice la k lc)) rfl rfl (by kernel_rfl) (by kernel_rfl) (by kernel_rfl) (fun _ _ _ h => h) (by rfl) (fun _ => by go_simp) ?_
        (try simp only [Act.put, List.setIfInBounds_toArray, List.set_cons_zero, List.set_cons_succ])
        refine D_pure (i := 1) (d := some 16) (v := (.slice (some ⟨g, o, none⟩) n c)) rfl rfl (by kernel_rfl) (by kernel_rfl) (by kernel_rfl) (fun _ _ _ h => h) (by rfl) (fun _ => by go_simp) ?_
        (try simp only [Act.put, List.setIfInBounds_toArray, List.set_cons_zero, List.set_cons_succ])
        refine D_pure (i := 2) (d := some 17) (v := (.int .i64 k)) rfl rfl (by kernel_rfl) (by kernel_rfl) (by kernel_rfl) (fun _ _ _ h => h) (by rfl) (fun _ => by go_simp) ?_
        (try simp only [Act.put, List.setIfInBounds_toArray, List.set_cons_zero, List.set_cons_succ])
        refine D_pure (i := 3) (d := some 18) (v := (.pointer (some ⟨g, o + k * 4, none⟩))) rfl rfl (by kernel_rfl) (by kernel_rfl) (by kernel_rfl) (fun _ _ _ h => h) (by rfl) (fun _ => by go_simp) ?_
        (try simp only [Act.put, List.setIfInBounds_toArray, List.set_cons_zero, List.set_cons_succ])
        refine D_pure (i := 4) (d := some 19) (v := (.pointer (some ⟨g, o + k * 4, none⟩))) rfl rfl (by kernel_rfl) (by kernel_rfl) (by kernel_rfl) (fun _ _ _ h => h) (by rfl) (fun _ => by go_simp) ?_
        (try simp only [Act.put, List.setIfInBounds_toArray, List.set_cons_zero, List.set_cons_succ])
        refine D_load (i := 5) (d := some 20) (v := (.int .i8 tk)) [5, 10] rfl rfl (by kernel_rfl) (by kernel_rfl) (by kernel_rfl) (by kernel_rfl) (by kernel_rfl) (by kernel_rfl) (fun _ _ _ h => h) (by rfl) (fun w hSw => by (have l0 : _ = some (Value.int .i8 tk) := hSw.c0; clear hSw; go_simp)) TC_1 ?_
        (try simp only [Act.put, List.setIfInBounds_toArray, List.set_cons_zero, List.set_cons_succ])
        refine D_pure (i := 6) (d := some 21) (v := (.slice (some ⟨g, o, none⟩) n c)) rfl rfl (by kernel_rfl) (by kernel_rfl) (by kernel_rfl) (fun _ _ _ h => h) (by rfl) (fun _ => by go_simp) ?_
        (try simp only [Act.put, List.setIfInBounds_toArray, List.set_cons_zero, List.set_cons_succ])
        refine D_pure (i := 7) (d := some 22) (v := (.int .i64 k)) rfl rfl (by kernel_rfl) (by kernel_rfl) (by kernel_rfl) (fun _ _ _ h => h) (by rfl) (fun _ => by go_simp) ?_
        (try simp only [Act.put, List.setIfInBounds_toArray, List.set_cons_zero, List.set_cons_succ])
        refine D_pure (i := 8) (d := some 23) (v := (.pointer (some ⟨g, o + k * 4, none⟩))) rfl rfl (by kernel_rfl) (by kernel_rfl) (by kernel_rfl) (fun _ _ _ h => h) (by rfl) (fun _ => by go_simp) ?_
        (try simp only [Act.put, List.setIfInBounds_toArray, List.set_cons_zero, List.set_cons_succ])
        refine D_pure (i := 9) (d := some 24) (v := (.pointer (some ⟨g, o + k * 4 + 1, none⟩))) rfl rfl (by kernel_rfl) (by kernel_rfl) (by kernel_rfl) (fun _ _ _ h => h) (by rfl) (fun _ => by go_simp) ?_
        (try simp only [Act.put, List.setIfInBounds_toArray, List.set_cons_zero, List.set_cons_succ])
        refine D_load (i := 10) (d := some 25) (v := (.agg #[.bool s, .slice ta tn tc, .slice tb tm td])) [5, 10] rfl rfl (by kernel_rfl) (by kernel_rfl) (by kernel_rfl) (by kernel_rfl) (by kernel_rfl) (by kernel_rfl) (fun _ _ _ h => h) (by rfl) (fun w hSw => by (have l0 : _ = some (Value.bool s) := hSw.c1; have l1 : _ = some (Value.slice ta tn tc) := hSw.c2; have l2 : _ = some (Value.slice tb tm td) := hSw.c3; clear hSw; go_simp)) TC_1 ?_
        (try simp only [Act.put, List.setIfInBounds_toArray, List.set_cons_zero, List.set_cons_succ])
        refine D_one (i := 11) (by kernel_rfl) rfl (fun Kq hKq => ?_)
        go_simp
        refine (fcutE 3 (by omega) ra_1 rb_1).mono ?_
        rintro e w2 ⟨rfl, hB⟩
        have hB_2 : Below vd1.heap.size vd1 w2 := (bl.next hB)
        have TC_2 := TC_1.below hB_2
        have ra_2 := ra_1.below hB_2
        have rb_2 := rb_1.below hB_2
        have TR_2 := TR_1.below hB_2
        have hbel_2 := hbel_1.next hB_2
        have hsz_2 := hB_2.size
        clear TC_1 ra_1 rb_1 TR_1 hbel_1 hB_2
        try clear hB
        (try go_wp2_with fail)
        refine hKq.out _ _ TC_2 (fun hHeld => ?_)
        clear hHeld hKq Kq
        (try simp only [Act.put, List.setIfInBounds_toArray, List.set_cons_zero, List.set_cons_succ])
        refine D_pure (i := 12) (d := some 27) (v := (.agg #[(.int .i8 tk), Value.bool s, Value.slice ta (min tn 3) tc, Value.slice tb (min tm 3) td])) rfl rfl (by kernel_rfl) (by kernel_rfl) (by kernel_rfl) (fun _ _ _ h => h) (by rfl) (fun _ => by go_simp) ?_
        (try simp only [Act.put, List.setIfInBounds_toArray, List.set_cons_zero, List.set_cons_succ])
        refine D_one (i := 13) (by kernel_rfl) rfl (fun Kq hKq => ?_)
        go_simp
        have hbx := blk_new w2 #[Value.int .i8 tk, Value.bool s, Value.slice ta (min tn 3) tc, Value.slice tb (min tm 3) td] 38
        have hbB := (Below.refl w2.heap.size w2).alloc (Nat.le_refl _) (.cells #[Value.int .i8 tk, Value.bool s, Value.slice ta (min tn 3) tc, Value.slice tb (min tm 3) td] 38)
        have hltLIT := hbx.lt
        have hB_3 : Below w2.heap.size w2 (w2.alloc (.cells #[Value.int .i8 tk, Value.bool s, Value.slice ta (min tn 3) tc, Value.slice tb (min tm 3) td] 38)) := hbB
        have TC_3 := TC_2.below hB_3
        have ra_3 := ra_2.below hB_3
        have rb_3 := rb_2.below hB_3
        have TR_3 := TR_2.below hB_3
        have hbel_3 := hbel_2.next hB_3
        have hsz_3 := hB_3.size
        clear TC_2 ra_2 rb_2 TR_2 hbel_2 hB_3
        have LIT_3 := hbx
        clear hbx hbB
        generalize (w2.alloc (.cells #[Value.int .i8 tk, Value.bool s, Value.slice ta (min tn 3) tc, Value.slice tb (min tm 3) td] 38)) = va3 at *
        refine hKq.out _ _ TC_3 (fun hHeld => ?_)
        clear hHeld hKq Kq
        (try simp only [Act.put, List.setIfInBounds_toArray, List.set_cons_zero, List.set_cons_succ])
        refine D_late (i := 14) (by kernel_rfl) rfl (by kernel_rfl) (fun Kq hKq => ?_)
        rw [if_pos (by rfl)]
        refine wp_appT (t := cutT (⟨tk, ⟨s, ta, tn, tc, tl, tb, tm, td, tq⟩⟩ : TA)) _ _ rfl TR_3 hlen.symm rfl (w2.heap.size) 1 rfl LIT_3 (tok_cut R1.out R2.out hbel_3 (fun g e => (TR_3.blk g e).1)) (by omega) (by omega) (fun a2 c2 w2 HT2 hk2 hf2 => ?_)
        refine hKq.out _ _ ?_
        clear hKq Kq
        (try simp only [Act.put, List.setIfInBounds_toArray, List.set_cons_zero, List.set_cons_succ])
        refine D_late (i := 15) (by kernel_rfl) rfl (by kernel_rfl) (fun Kq hKq => ?_)
        go_simp
        refine hKq.out _ _ ?_
        clear hKq Kq
        (try simp only [Act.put, List.setIfInBounds_toArray, List.set_cons_zero, List.set_cons_succ])
        refine D_done (by kernel_rfl) ?_ _
        refine NoPanic.normal ?_
        have hbl2 := hbel_3.kp hk2 hbel_3.size (fun j hj e => by have := (TR_3.blk _ e).1; omega)
        go_wp2
        go_roundw
        case rel => exact ⟨k + 1, c2, a2, by omega, by omega, rfl, by go_num, by rw [List.take_add_one, show ts[k]? = some (⟨tk, ⟨s, ta, tn, tc, tl, tb, tm, td, tq⟩⟩ : TA) by rw [← hth.out, List.getD_eq_getElem?_getD, List.getElem?_eq_getElem (by rw [hnh.out]; exact hlt)]; rfl, List.map_append]; exact HT2, hbl2⟩
        case measure => simp [intOf]; omega
      ·
        have e0 : k = 300 := by omega
        subst e0
        go_wp2
        go_ret
        exact ⟨la, lc, by rw [hnh.out, show min n 300 = 300 by omega]; rfl, hT, hB⟩
    ·
      obtain rfl : k = n := by omega
      go_wp2
      go_ret
      exact ⟨la, lc, by rw [hnh.out, show min k 300 = k by omega]; rfl, by rw [List.take_of_length_le (show ts.length ≤ 300 by rw [hnh.out]; omega)]; rw [List.take_of_length_le (show ts.length ≤ k by rw [hnh.out]; omega)] at hT; exact hT, hB⟩

end Go.Proofs.Ytennilapmcgnbaa
/- EXPRESSIONS, plain 3: long sums, rows of opposites. -/
namespace Go.Proofs.Ytennilapmcgnbaa
set_option linter.unusedVariables false
set_option linter.unusedSimpArgs false

/-- the kind of the i-th term of the sum, and what it adds -/
def kdV (i : Nat) : Int := if i % 2 = 0 then 2 else 3
def sgV (i : Nat) : Int := if i % 2 = 0 then ((i % 7 : Nat) : Int) else -((i % 7 : Nat) : Int)
def sumV (v : Int) : Nat → Int
  | 0 => v
  | i + 1 => sumV v i + sgV (i + 1)
theorem sgV_bd (i : Nat) : -6 ≤ sgV i ∧ sgV i ≤ 6 := by
  have := Nat.mod_lt i (show 0 < 7 by decide)
  unfold sgV; split <;> omega
theorem sumV_bd (v : Int) : ∀ i : Nat, v - 6 * i ≤ sumV v i ∧ sumV v i ≤ v + 6 * i
  | 0 => by unfold sumV; omega
  | i + 1 => by
    have := sumV_bd v i
    have := sgV_bd (i + 1)
    unfold sumV; omega
/-- a sum so far -/
structure SumP (v : Int) (i : Nat) (P : PV) : Prop where
  deep : P.deep = 0
  bad : P.bad = false
  opn : P.opn = false
  v : P.v = ((sumV v i : Int) : Rat)
theorem sum_one_ (v : Int) : SumP v 0 (nPV ((v : Int) : Rat)) := ⟨rfl, rfl, rfl, rfl⟩
theorem cast_add (a b : Int) : ((a + b : Int) : Rat) = (a : Rat) + (b : Rat) := Rat.intCast_add a b
theorem sum_step {v : Int} {i : Nat} {P : PV} (h : SumP v i P) : SumP v (i + 1) (joinV (kdV (i + 1)) P (nPV (((i + 1) % 7 : Nat) : Int))) := by
  have hk : kdV (i + 1) = 2 ∨ kdV (i + 1) = 3 := by unfold kdV; split; exact .inl rfl; exact .inr rfl
  have hd : dpJ (kdV (i + 1)) P (nPV (((i + 1) % 7 : Nat) : Int)) = 0 := by
    unfold dpJ
    rw [if_neg (by omega), h.deep]
    rfl
  have hj : joinV (kdV (i + 1)) P (nPV (((i + 1) % 7 : Nat) : Int)) = ⟨kdV (i + 1), 0, (bthV (kdV (i + 1)) P.v ((((i + 1) % 7 : Nat) : Int) : Rat)).1, (bthV (kdV (i + 1)) P.v ((((i + 1) % 7 : Nat) : Int) : Rat)).2, false, LV.z⟩ := by
    unfold joinV
    rw [h.bad, h.opn, hd]
    rfl
  rw [hj]
  refine ⟨rfl, ?_, rfl, ?_⟩
  · show (bthV _ _ _).2 = false
    unfold bthV
    rcases hk with hk | hk <;> rw [hk]
    · rw [if_pos rfl]
    · rw [if_neg (by decide), if_pos rfl]
  · show (bthV _ _ _).1 = _
    unfold sumV sgV kdV
    unfold bthV
    rw [h.v]
    by_cases h2 : (i + 1) % 2 = 0
    · rw [if_pos h2, if_pos h2, if_pos rfl, cast_add]
    · rw [if_neg h2, if_neg h2, if_neg (by decide), if_pos rfl, cast_add, Rat.intCast_neg, Rat.sub_eq_add_neg]
/-- opposites so far -/
structure NegP (v : Int) (i : Nat) (P : PV) : Prop where
  kind : P.kind = 1 ∨ P.kind = 6
  deep : P.deep = i
  bad : P.bad = false
  v : P.v = ((if i % 2 = 0 then v else -v : Int) : Rat)
theorem neg_one_ (v : Int) : NegP v 0 (nPV ((v : Int) : Rat)) := ⟨.inl rfl, rfl, rfl, rfl⟩
theorem neg_step {v : Int} {i : Nat} {P : PV} (h : NegP v i P) : NegP v (i + 1) (oppV P) := by
  refine ⟨.inr rfl, ?_, h.bad, ?_⟩
  · show dpB (!(P.kind == 1 || P.kind == 6)) P.deep + 1 = _
    have : (P.kind == 1 || P.kind == 6) = true := by rcases h.kind with e | e <;> rw [e] <;> rfl
    rw [this, h.deep]
    show (i : Int) + 1 = _
    omega
  · show -P.v = _
    rw [h.v]
    by_cases h2 : i % 2 = 0
    · rw [if_pos h2, if_neg (by omega), Rat.intCast_neg]
    · rw [if_neg h2, if_pos (by omega), Rat.intCast_neg, Rat.neg_neg]
end Go.Proofs.Ytennilapmcgnbaa
/- WALKS OF EXPRESSIONS, 10: what the document's examples say (awake). -/
namespace Go.Proofs.Ytennilapmcgnbaa
set_option linter.unusedVariables false
set_option linter.unusedSimpArgs false
open Go.ChangeShapes Go.WideShapes Go.ChangeAt Go.RowKit Go.NatP

theorem rdts_lit {K : Nat} {W : World} {g : Nat} {cs : Array Value} {ts : List TA} {n c : Nat} (hb : Blk W g cs) (hcs : cs = (ts.flatMap TA.cs).toArray) (hl : ts.length = n) (hok : ∀ t ∈ ts, TOK K W none t.x) (hc : n ≤ c) (hm : c ≤ maxLen) : RdTs K W (some ⟨g, 0, none⟩) n c (ts.map TA.ti) := by
  subst hl
  refine ⟨by simp, hc, hm, fun i hi => ?_⟩
  rw [ta_get hi]
  obtain ⟨e0, e1, e2, e3⟩ := tflat_get ts i hi
  refine ⟨(hok _ (ta_mem hi)).rdQ, g, 0, rfl, ?_, ?_, ?_, ?_⟩
  · rw [Nat.zero_add, hb.cell, hcs, List.getElem?_toArray, e0]; rfl
  · rw [Nat.zero_add, hb.cell, hcs, List.getElem?_toArray, e1]; rfl
  · rw [Nat.zero_add, hb.cell, hcs, List.getElem?_toArray, e2]; rfl
  · rw [Nat.zero_add, hb.cell, hcs, List.getElem?_toArray, e3]; rfl
theorem tok_own {K B B' : Nat} {W : World} {q : Rat} {s : Bool} {a b : Option Addr} {n c m d : Nat} (h1 : Own B W a n c (lm q.num.natAbs)) (h2 : Own B' W b m d (lm q.den)) (hq : QS q K) : TOK K W none ⟨s, a, n, c, lm q.num.natAbs, b, m, d, lm q.den⟩ :=
  ⟨h1.rd, h2.rd, fun _ _ _ _ e => (by cases e), fun _ _ _ _ e => (by cases e), by have := h1.len; have := hq.len1; show n ≤ K; omega, by have := h2.len; have := hq.len2; show m ≤ K; omega⟩
/-- a number's term -/
def nTA (q : Rat) (a : Option Addr) (n c : Nat) (b : Option Addr) (m d : Nat) : TA := ⟨1, ⟨decide (q.num < 0), a, n, c, lm q.num.natAbs, b, m, d, lm q.den⟩⟩
def oTA (k : Int) : TA := ⟨k, QA.o⟩
theorem nTA_q (q : Rat) (a : Option Addr) (n c : Nat) (b : Option Addr) (m d : Nat) : (nTA q a n c b m d).ti.x.q = q := qv_self q
theorem small_qs (k : Int) (h : k.natAbs < 4294967296) : QS (k : Rat) 2 := by
  refine ⟨?_, ?_⟩
  · rw [show ((k : Rat)).num = k from rfl]; exact (show Sz k.natAbs 1 by unfold Sz; omega).mono (Nat.le_refl _) (by omega)
  · rw [show ((k : Rat)).den = 1 from rfl]; exact (show Sz 1 1 by unfold Sz; decide).mono (Nat.le_refl _) (by omega)
section
variable {t1 t2 t3 o1 o2 : TA}
theorem aw_one (h1 : t1.k = 1) (h2 : t2.k = 1) (h3 : t3.k = 1) (q1 : t1.ti.x.q = ((1 : Int) : Rat)) (q2 : t2.ti.x.q = ((2 : Int) : Rat)) (q3 : t3.ti.x.q = ((3 : Int) : Rat)) (x1 x2 : QI) :
    ansV (-1) [t1.ti, t2.ti, ⟨2, x1⟩, t3.ti, ⟨4, x2⟩] = some ⟨4, 1, ((9 : Int) : Rat), false, false, LV.z⟩ := by
  have a1 := ans_one t1.ti h1
  have a2 := ans_one t2.ti h2
  have a3 := ans_one t3.ti h3
  have j1 := ans_join a1 a2 (k := 2) (by decide) (by decide) x1
  have j2 := ans_join j1 a3 (k := 4) (by decide) (by decide) x2
  have e : ([t1.ti] ++ [t2.ti] ++ [⟨2, x1⟩] ++ [t3.ti] ++ [⟨4, x2⟩] : List TI) = [t1.ti, t2.ti, ⟨2, x1⟩, t3.ti, ⟨4, x2⟩] := rfl
  rw [← e, j2, q1, q2, q3]
  have hj : joinV 2 (nPV ((1 : Int) : Rat)) (nPV ((2 : Int) : Rat)) = ⟨2, 0, ((3 : Int) : Rat), false, false, LV.z⟩ := by
    unfold joinV
    simp [nPV, bthV, dpJ, mxI, dpB]
    decide +kernel
  rw [hj]
  unfold joinV
  simp [nPV, bthV, dpJ, mxI, dpB]
  decide +kernel
theorem aw_two (h1 : t1.k = 1) (h2 : t2.k = 1) (q1 : t1.ti.x.q = ((6 : Int) : Rat)) (x1 : QI) :
    ansV 1 [t1.ti, t2.ti, ⟨5, x1⟩] = some ⟨5, 0, 0, false, true, ⟨0, ((6 : Int) : Rat), 1, 0⟩⟩ := by
  rw [ansV_wrk]
  show ((((some []).bind (stpV 1 0 t1.k t1.ti.x.q)).bind (stpV 1 1 t2.k t2.ti.x.q)).bind (stpV 1 2 5 x1.q)) = _
  rw [h1, h2, q1]
  have s1 : stpV 1 0 1 ((6 : Int) : Rat) [] = some [nPV ((6 : Int) : Rat)] := by unfold stpV; rw [if_pos rfl, if_neg (by decide)]
  have s2 : stpV 1 1 1 t2.ti.x.q [nPV ((6 : Int) : Rat)] = some [xPV, nPV ((6 : Int) : Rat)] := by unfold stpV; rw [if_pos rfl, if_pos (by decide)]
  have s3 : stpV 1 2 5 x1.q [xPV, nPV ((6 : Int) : Rat)] = some [joinV 5 (nPV ((6 : Int) : Rat)) xPV] := by unfold stpV; rw [if_neg (by decide), if_neg (by decide), if_pos (by decide)]
  rw [Option.bind_some, s1, Option.bind_some, s2, Option.bind_some, s3]
  unfold joinV
  simp [nPV, xPV, lftV, dpJ, mxI, dpB]
theorem aw_three (h1 : t1.k = 1) (x1 : QI) : ansV (-1) [t1.ti, ⟨2, x1⟩] = none := by
  unfold ansV
  rw [wrkV_all]
  show (match (stpV (-1) 0 t1.k t1.ti.x.q []).bind (fun S => (stpV (-1) 0 2 x1.q S).bind (runV [])) with | some [P] => some P | _ => none) = none
  rw [h1]
  have s1 : stpV (-1) 0 1 t1.ti.x.q [] = some [nPV t1.ti.x.q] := by unfold stpV; rw [if_pos rfl, if_neg (by decide)]
  have s2 : stpV (-1) 0 2 x1.q [nPV t1.ti.x.q] = none := by unfold stpV; rw [if_neg (by decide), if_neg (by decide), if_pos (by decide)]
  rw [s1, Option.bind_some, s2]
  rfl
end
theorem aw_dv : dvV ⟨0, ((6 : Int) : Rat), 1, 0⟩ = ⟨((0 : Int) : Rat), ((6 : Int) : Rat), ((1 : Int) : Rat), ((0 : Int) : Rat)⟩ := by
  have hb : byV ⟨0, ((6 : Int) : Rat), 1, 0⟩ = 1 := by unfold byV; rw [if_neg (by decide)]
  unfold dvV
  rw [hb]
  simp only [LV.mk.injEq]
  refine ⟨?_, ?_, ?_, ?_⟩ <;> decide +kernel

set_option maxRecDepth 100000 in
set_option maxHeartbeats 4000000 in
theorem eawake {w : World}  :
    Calls Try.prog 7 #[] w (fun e w' => e = .returned (.bool true) ∧ Below w.heap.size w w') := by
  obtain ⟨q1, e1⟩ : ∃ q : Rat, ((1 : Int) : Rat) = q := ⟨_, rfl⟩
  have sq1 : Hid (QS q1 2) := hid (e1 ▸ small_qs 1 (by decide))
  have H1 := hid (fun w => (show Calls Try.prog 18 #[.int .i64 1] w (RetTn w q1) from e1 ▸ tn_any 1 (by omega) (by omega)))
  obtain ⟨q2, e2⟩ : ∃ q : Rat, ((2 : Int) : Rat) = q := ⟨_, rfl⟩
  have sq2 : Hid (QS q2 2) := hid (e2 ▸ small_qs 2 (by decide))
  have H2 := hid (fun w => (show Calls Try.prog 18 #[.int .i64 2] w (RetTn w q2) from e2 ▸ tn_any 2 (by omega) (by omega)))
  obtain ⟨q3, e3⟩ : ∃ q : Rat, ((3 : Int) : Rat) = q := ⟨_, rfl⟩
  have sq3 : Hid (QS q3 2) := hid (e3 ▸ small_qs 3 (by decide))
  have H3 := hid (fun w => (show Calls Try.prog 18 #[.int .i64 3] w (RetTn w q3) from e3 ▸ tn_any 3 (by omega) (by omega)))
  obtain ⟨q6, e6⟩ : ∃ q : Rat, ((6 : Int) : Rat) = q := ⟨_, rfl⟩
  have sq6 : Hid (QS q6 2) := hid (e6 ▸ small_qs 6 (by decide))
  have H6 := hid (fun w => (show Calls Try.prog 18 #[.int .i64 6] w (RetTn w q6) from e6 ▸ tn_any 6 (by omega) (by omega)))
  obtain ⟨q9, e9⟩ : ∃ q : Rat, ((9 : Int) : Rat) = q := ⟨_, rfl⟩
  have sq9 : Hid (QS q9 2) := hid (e9 ▸ small_qs 9 (by decide))
  obtain ⟨q0, e0⟩ : ∃ q : Rat, ((0 : Int) : Rat) = q := ⟨_, rfl⟩
  have sq0 : Hid (QS q0 2) := hid (e0 ▸ small_qs 0 (by decide))
  have t9 := hid (show qtx q9 = ⟨#[57]⟩ by rw [← e9]; decide +kernel)
  have t6 := hid (show qtx q6 = ⟨#[54]⟩ by rw [← e6]; decide +kernel)
  have t1 := hid (show qtx q1 = ⟨#[49]⟩ by rw [← e1]; decide +kernel)
  have z0 := hid (show sgnQ q0 = 0 by rw [← e0]; decide +kernel)
  have aw1 := hid (fun (t1 t2 t3 : TA) h1 h2 h3 (g1 : t1.ti.x.q = q1) (g2 : t2.ti.x.q = q2) (g3 : t3.ti.x.q = q3) x1 x2 => (show ansV (-1) [t1.ti, t2.ti, ⟨2, x1⟩, t3.ti, ⟨4, x2⟩] = some ⟨4, 1, q9, false, false, LV.z⟩ from e9 ▸ aw_one h1 h2 h3 (g1.trans e1.symm) (g2.trans e2.symm) (g3.trans e3.symm) x1 x2))
  have aw2 := hid (fun (t1 t2 : TA) h1 h2 (g1 : t1.ti.x.q = q6) x1 => (show ansV 1 [t1.ti, t2.ti, ⟨5, x1⟩] = some ⟨5, 0, 0, false, true, ⟨0, q6, 1, 0⟩⟩ from e6 ▸ aw_two h1 h2 (g1.trans e6.symm) x1))
  have dv := hid (show dvV ⟨0, q6, 1, 0⟩ = ⟨q0, q6, q1, q0⟩ by rw [← e0, ← e1, ← e6]; exact aw_dv)
  clear e1 e2 e3 e6 e9 e0
  go_enter Try.func7, Try.ntmps7
  have hbel_0 : Below w.heap.size w w := Below.refl _ _
  have hsz_0 : w.heap.size ≤ w.heap.size := Nat.le_refl _
  go_wp2_with fail
  refine (H1.out _).mono ?_
  rintro e w1 ⟨aa, an, ac, ab, am, ad, rfl, hO, hO', hD, hB⟩
  have hB_1 : Below w.heap.size w w1 := (bl.next hB)
  have hbel_1 := hbel_0.next hB_1
  have hsz_1 := hB_1.size
  clear hbel_0 hB_1
  have Oa_1 := hO
  have Pa_1 := hO'
  clear hO hO' hD
  try clear hB
  go_wp2_with fail
  refine (H2.out _).mono ?_
  rintro e w2 ⟨ba, bn, bc, bb, bm, bd, rfl, hO, hO', hD, hB⟩
  have hB_2 : Below w1.heap.size w1 w2 := (bl.next hB)
  have Oa_2 := Oa_1.below hB_2
  have Pa_2 := Pa_1.below hB_2
  have hbel_2 := hbel_1.next hB_2
  have hsz_2 := hB_2.size
  clear Oa_1 Pa_1 hbel_1 hB_2
  have Ob_2 := hO
  have Pb_2 := hO'
  clear hO hO' hD
  try clear hB
  go_wp2_with fail
  refine (top_any 2).mono ?_
  rintro e w3 ⟨rfl, hB⟩
  have hB_3 : Below w2.heap.size w2 w3 := (bl.next hB)
  have Oa_3 := Oa_2.below hB_3
  have Pa_3 := Pa_2.below hB_3
  have Ob_3 := Ob_2.below hB_3
  have Pb_3 := Pb_2.below hB_3
  have hbel_3 := hbel_2.next hB_3
  have hsz_3 := hB_3.size
  clear Oa_2 Pa_2 Ob_2 Pb_2 hbel_2 hB_3
  try clear hB
  go_wp2_with fail
  refine (H3.out _).mono ?_
  rintro e w4 ⟨ca, cn, cc, cb, cm, cd, rfl, hO, hO', hD, hB⟩
  have hB_4 : Below w3.heap.size w3 w4 := (bl.next hB)
  have Oa_4 := Oa_3.below hB_4
  have Pa_4 := Pa_3.below hB_4
  have Ob_4 := Ob_3.below hB_4
  have Pb_4 := Pb_3.below hB_4
  have hbel_4 := hbel_3.next hB_4
  have hsz_4 := hB_4.size
  clear Oa_3 Pa_3 Ob_3 Pb_3 hbel_3 hB_4
  have Oc_4 := hO
  have Pc_4 := hO'
  clear hO hO' hD
  try clear hB
  go_wp2_with fail
  refine (top_any 4).mono ?_
  rintro e w5 ⟨rfl, hB⟩
  have hB_5 : Below w4.heap.size w4 w5 := (bl.next hB)
  have Oa_5 := Oa_4.below hB_5
  have Pa_5 := Pa_4.below hB_5
  have Ob_5 := Ob_4.below hB_5
  have Pb_5 := Pb_4.below hB_5
  have Oc_5 := Oc_4.below hB_5
  have Pc_5 := Pc_4.below hB_5
  have hbel_5 := hbel_4.next hB_5
  have hsz_5 := hB_5.size
  clear Oa_4 Pa_4 Ob_4 Pb_4 Oc_4 Pc_4 hbel_4 hB_5
  try clear hB
  go_wp2_with fail
  have hbx := blk_new w5 #[Value.int .i8 1, Value.bool (decide (q1.num < 0)), Value.slice aa an ac, Value.slice ab am ad, Value.int .i8 1, Value.bool (decide (q2.num < 0)), Value.slice ba bn bc, Value.slice bb bm bd, Value.int .i8 2, Value.bool false, Value.slice none 0 0, Value.slice none 0 0, Value.int .i8 1, Value.bool (decide (q3.num < 0)), Value.slice ca cn cc, Value.slice cb cm cd, Value.int .i8 4, Value.bool false, Value.slice none 0 0, Value.slice none 0 0] 38
  have hbB := (Below.refl w5.heap.size w5).alloc (Nat.le_refl _) (.cells #[Value.int .i8 1, Value.bool (decide (q1.num < 0)), Value.slice aa an ac, Value.slice ab am ad, Value.int .i8 1, Value.bool (decide (q2.num < 0)), Value.slice ba bn bc, Value.slice bb bm bd, Value.int .i8 2, Value.bool false, Value.slice none 0 0, Value.slice none 0 0, Value.int .i8 1, Value.bool (decide (q3.num < 0)), Value.slice ca cn cc, Value.slice cb cm cd, Value.int .i8 4, Value.bool false, Value.slice none 0 0, Value.slice none 0 0] 38)
  have hltL := hbx.lt
  have hB_6 : Below w5.heap.size w5 (w5.alloc (.cells #[Value.int .i8 1, Value.bool (decide (q1.num < 0)), Value.slice aa an ac, Value.slice ab am ad, Value.int .i8 1, Value.bool (decide (q2.num < 0)), Value.slice ba bn bc, Value.slice bb bm bd, Value.int .i8 2, Value.bool false, Value.slice none 0 0, Value.slice none 0 0, Value.int .i8 1, Value.bool (decide (q3.num < 0)), Value.slice ca cn cc, Value.slice cb cm cd, Value.int .i8 4, Value.bool false, Value.slice none 0 0, Value.slice none 0 0] 38)) := hbB
  have Oa_6 := Oa_5.below hB_6
  have Pa_6 := Pa_5.below hB_6
  have Ob_6 := Ob_5.below hB_6
  have Pb_6 := Pb_5.below hB_6
  have Oc_6 := Oc_5.below hB_6
  have Pc_6 := Pc_5.below hB_6
  have hbel_6 := hbel_5.next hB_6
  have hsz_6 := hB_6.size
  clear Oa_5 Pa_5 Ob_5 Pb_5 Oc_5 Pc_5 hbel_5 hB_6
  have L_6 := hbx
  clear hbx hbB
  generalize (w5.alloc (.cells #[Value.int .i8 1, Value.bool (decide (q1.num < 0)), Value.slice aa an ac, Value.slice ab am ad, Value.int .i8 1, Value.bool (decide (q2.num < 0)), Value.slice ba bn bc, Value.slice bb bm bd, Value.int .i8 2, Value.bool false, Value.slice none 0 0, Value.slice none 0 0, Value.int .i8 1, Value.bool (decide (q3.num < 0)), Value.slice ca cn cc, Value.slice cb cm cd, Value.int .i8 4, Value.bool false, Value.slice none 0 0, Value.slice none 0 0] 38)) = va6 at *
  have TL_6 := rdts_lit (K := 2) (ts := [nTA q1 aa an ac ab am ad, nTA q2 ba bn bc bb bm bd, oTA 2, nTA q3 ca cn cc cb cm cd, oTA 4]) (n := 5) (c := 5) L_6 rfl rfl (fun t ht => by
    rcases (by simpa using ht : t = nTA q1 aa an ac ab am ad ∨ t = nTA q2 ba bn bc bb bm bd ∨ t = oTA 2 ∨ t = nTA q3 ca cn cc cb cm cd ∨ t = oTA 4) with rfl | rfl | rfl | rfl | rfl
    · exact tok_own Oa_6 Pa_6 sq1.out
    · exact tok_own Ob_6 Pb_6 sq2.out
    · exact tok_op _ _ _
    · exact tok_own Oc_6 Pc_6 sq3.out
    · exact tok_op _ _ _) (by omega) (by unfold maxLen; omega)
  have av := hid (show ansV (-1) (([nTA q1 aa an ac ab am ad, nTA q2 ba bn bc bb bm bd, oTA 2, nTA q3 ca cn cc cb cm cd, oTA 4]).map TA.ti) = some ⟨4, 1, q9, false, false, LV.z⟩ from aw1.out (nTA q1 aa an ac ab am ad) (nTA q2 ba bn bc bb bm bd) (nTA q3 ca cn cc cb cm cd) rfl rfl rfl (nTA_q ..) (nTA_q ..) (nTA_q ..) (oTA 2).ti.x (oTA 4).ti.x)
  have HE := hid (fun (W : World) hT => (evl_any (w := W) (sa := some ⟨w5.heap.size, 0, none⟩) (n := 5) (c := 5) (K := 2) (xs := ([nTA q1 aa an ac ab am ad, nTA q2 ba bn bc bb bm bd, oTA 2, nTA q3 ca cn cc cb cm cd, oTA 4]).map TA.ti) hT (by omega) (by omega)).mono (R' := RetQK W q9) (fun e w' h => by
    rw [av.out] at h
    exact retqe_ok (show RetQE W q9 0 e w' from h) rfl))
  have HD := hid (fun (W : World) hT => (dep_any (w := W) (sa := some ⟨w5.heap.size, 0, none⟩) (n := 5) (c := 5) (K := 2) (xs := ([nTA q1 aa an ac ab am ad, nTA q2 ba bn bc bb bm bd, oTA 2, nTA q3 ca cn cc cb cm cd, oTA 4]).map TA.ti) hT (by omega) (by omega)).mono (R' := RetIE W 1 0) (fun e w' h => by
    rw [av.out] at h
    exact h))
  go_wp2_with fail
  refine (HE.out _ TL_6).mono ?_
  rintro e w7 ⟨va, vn, vc, vb, vm, vd, rfl, hO, hO', hD, hB⟩
  have hB_7 : Below va6.heap.size va6 w7 := (bl.next hB)
  have L_7 := L_6.next hB_7
  have Oa_7 := Oa_6.below hB_7
  have Pa_7 := Pa_6.below hB_7
  have Ob_7 := Ob_6.below hB_7
  have Pb_7 := Pb_6.below hB_7
  have Oc_7 := Oc_6.below hB_7
  have Pc_7 := Pc_6.below hB_7
  have TL_7 := TL_6.below hB_7
  have hbel_7 := hbel_6.next hB_7
  have hsz_7 := hB_7.size
  clear L_6 Oa_6 Pa_6 Ob_6 Pb_6 Oc_6 Pc_6 TL_6 hbel_6 hB_7
  have Ov_7 := hO
  have Pv_7 := hO'
  clear hO hO' hD
  try clear hB
  go_upto_region 3 with fail
  have hbx := blk_new w7 #[Value.bool (decide (q9.num < 0)), Value.slice va vn vc, Value.slice vb vm vd] 28
  have hbB := (Below.refl w7.heap.size w7).alloc (Nat.le_refl _) (.cells #[Value.bool (decide (q9.num < 0)), Value.slice va vn vc, Value.slice vb vm vd] 28)
  have hltV := hbx.lt
  have hB_8 : Below w7.heap.size w7 (w7.alloc (.cells #[Value.bool (decide (q9.num < 0)), Value.slice va vn vc, Value.slice vb vm vd] 28)) := hbB
  have L_8 := L_7.next hB_8
  have Oa_8 := Oa_7.below hB_8
  have Pa_8 := Pa_7.below hB_8
  have Ob_8 := Ob_7.below hB_8
  have Pb_8 := Pb_7.below hB_8
  have Oc_8 := Oc_7.below hB_8
  have Pc_8 := Pc_7.below hB_8
  have TL_8 := TL_7.below hB_8
  have Ov_8 := Ov_7.below hB_8
  have Pv_8 := Pv_7.below hB_8
  have hbel_8 := hbel_7.next hB_8
  have hsz_8 := hB_8.size
  clear L_7 Oa_7 Pa_7 Ob_7 Pb_7 Oc_7 Pc_7 TL_7 Ov_7 Pv_7 hbel_7 hB_8
  have V_8 := hbx
  clear hbx hbB
  generalize (w7.alloc (.cells #[Value.bool (decide (q9.num < 0)), Value.slice va vn vc, Value.slice vb vm vd] 28)) = va8 at *
  go_wp2_with fail
  refine (HD.out _ TL_8).mono ?_
  rintro e w9 ⟨rfl, hB⟩
  have hB_9 : Below va8.heap.size va8 w9 := (bl.next hB)
  have L_9 := L_8.next hB_9
  have V_9 := V_8.next hB_9
  have Oa_9 := Oa_8.below hB_9
  have Pa_9 := Pa_8.below hB_9
  have Ob_9 := Ob_8.below hB_9
  have Pb_9 := Pb_8.below hB_9
  have Oc_9 := Oc_8.below hB_9
  have Pc_9 := Pc_8.below hB_9
  have TL_9 := TL_8.below hB_9
  have Ov_9 := Ov_8.below hB_9
  have Pv_9 := Pv_8.below hB_9
  have hbel_9 := hbel_8.next hB_9
  have hsz_9 := hB_9.size
  clear L_8 V_8 Oa_8 Pa_8 Ob_8 Pb_8 Oc_8 Pc_8 TL_8 Ov_8 Pv_8 hbel_8 hB_9
  try clear hB
  clear HE HD av aw1
  clear TL_9
  go_wp2_with fail
  refine (H6.out _).mono ?_
  rintro e w10 ⟨fa, fn, fc, fb, fm, fd, rfl, hO, hO', hD, hB⟩
  have hB_10 : Below w9.heap.size w9 w10 := (bl.next hB)
  have L_10 := L_9.next hB_10
  have V_10 := V_9.next hB_10
  have Oa_10 := Oa_9.below hB_10
  have Pa_10 := Pa_9.below hB_10
  have Ob_10 := Ob_9.below hB_10
  have Pb_10 := Pb_9.below hB_10
  have Oc_10 := Oc_9.below hB_10
  have Pc_10 := Pc_9.below hB_10
  have Ov_10 := Ov_9.below hB_10
  have Pv_10 := Pv_9.below hB_10
  have hbel_10 := hbel_9.next hB_10
  have hsz_10 := hB_10.size
  clear L_9 V_9 Oa_9 Pa_9 Ob_9 Pb_9 Oc_9 Pc_9 Ov_9 Pv_9 hbel_9 hB_10
  have Of_10 := hO
  have Pf_10 := hO'
  clear hO hO' hD
  try clear hB
  go_wp2_with fail
  refine (H2.out _).mono ?_
  rintro e w11 ⟨ga, gn, gc, gb, gm, gd, rfl, hO, hO', hD, hB⟩
  have hB_11 : Below w10.heap.size w10 w11 := (bl.next hB)
  have L_11 := L_10.next hB_11
  have V_11 := V_10.next hB_11
  have Oa_11 := Oa_10.below hB_11
  have Pa_11 := Pa_10.below hB_11
  have Ob_11 := Ob_10.below hB_11
  have Pb_11 := Pb_10.below hB_11
  have Oc_11 := Oc_10.below hB_11
  have Pc_11 := Pc_10.below hB_11
  have Ov_11 := Ov_10.below hB_11
  have Pv_11 := Pv_10.below hB_11
  have Of_11 := Of_10.below hB_11
  have Pf_11 := Pf_10.below hB_11
  have hbel_11 := hbel_10.next hB_11
  have hsz_11 := hB_11.size
  clear L_10 V_10 Oa_10 Pa_10 Ob_10 Pb_10 Oc_10 Pc_10 Ov_10 Pv_10 Of_10 Pf_10 hbel_10 hB_11
  have Og_11 := hO
  have Pg_11 := hO'
  clear hO hO' hD
  try clear hB
  go_wp2_with fail
  refine (top_any 5).mono ?_
  rintro e w12 ⟨rfl, hB⟩
  have hB_12 : Below w11.heap.size w11 w12 := (bl.next hB)
  have L_12 := L_11.next hB_12
  have V_12 := V_11.next hB_12
  have Oa_12 := Oa_11.below hB_12
  have Pa_12 := Pa_11.below hB_12
  have Ob_12 := Ob_11.below hB_12
  have Pb_12 := Pb_11.below hB_12
  have Oc_12 := Oc_11.below hB_12
  have Pc_12 := Pc_11.below hB_12
  have Ov_12 := Ov_11.below hB_12
  have Pv_12 := Pv_11.below hB_12
  have Of_12 := Of_11.below hB_12
  have Pf_12 := Pf_11.below hB_12
  have Og_12 := Og_11.below hB_12
  have Pg_12 := Pg_11.below hB_12
  have hbel_12 := hbel_11.next hB_12
  have hsz_12 := hB_12.size
  clear L_11 V_11 Oa_11 Pa_11 Ob_11 Pb_11 Oc_11 Pc_11 Ov_11 Pv_11 Of_11 Pf_11 Og_11 Pg_11 hbel_11 hB_12
  try clear hB
  go_wp2_with fail
  have hbx := blk_new w12 #[Value.int .i8 1, Value.bool (decide (q6.num < 0)), Value.slice fa fn fc, Value.slice fb fm fd, Value.int .i8 1, Value.bool (decide (q2.num < 0)), Value.slice ga gn gc, Value.slice gb gm gd, Value.int .i8 5, Value.bool false, Value.slice none 0 0, Value.slice none 0 0] 38
  have hbB := (Below.refl w12.heap.size w12).alloc (Nat.le_refl _) (.cells #[Value.int .i8 1, Value.bool (decide (q6.num < 0)), Value.slice fa fn fc, Value.slice fb fm fd, Value.int .i8 1, Value.bool (decide (q2.num < 0)), Value.slice ga gn gc, Value.slice gb gm gd, Value.int .i8 5, Value.bool false, Value.slice none 0 0, Value.slice none 0 0] 38)
  have hltM := hbx.lt
  have hB_13 : Below w12.heap.size w12 (w12.alloc (.cells #[Value.int .i8 1, Value.bool (decide (q6.num < 0)), Value.slice fa fn fc, Value.slice fb fm fd, Value.int .i8 1, Value.bool (decide (q2.num < 0)), Value.slice ga gn gc, Value.slice gb gm gd, Value.int .i8 5, Value.bool false, Value.slice none 0 0, Value.slice none 0 0] 38)) := hbB
  have L_13 := L_12.next hB_13
  have V_13 := V_12.next hB_13
  have Oa_13 := Oa_12.below hB_13
  have Pa_13 := Pa_12.below hB_13
  have Ob_13 := Ob_12.below hB_13
  have Pb_13 := Pb_12.below hB_13
  have Oc_13 := Oc_12.below hB_13
  have Pc_13 := Pc_12.below hB_13
  have Ov_13 := Ov_12.below hB_13
  have Pv_13 := Pv_12.below hB_13
  have Of_13 := Of_12.below hB_13
  have Pf_13 := Pf_12.below hB_13
  have Og_13 := Og_12.below hB_13
  have Pg_13 := Pg_12.below hB_13
  have hbel_13 := hbel_12.next hB_13
  have hsz_13 := hB_13.size
  clear L_12 V_12 Oa_12 Pa_12 Ob_12 Pb_12 Oc_12 Pc_12 Ov_12 Pv_12 Of_12 Pf_12 Og_12 Pg_12 hbel_12 hB_13
  have M_13 := hbx
  clear hbx hbB
  generalize (w12.alloc (.cells #[Value.int .i8 1, Value.bool (decide (q6.num < 0)), Value.slice fa fn fc, Value.slice fb fm fd, Value.int .i8 1, Value.bool (decide (q2.num < 0)), Value.slice ga gn gc, Value.slice gb gm gd, Value.int .i8 5, Value.bool false, Value.slice none 0 0, Value.slice none 0 0] 38)) = va13 at *
  have TM_13 := rdts_lit (K := 2) (ts := [nTA q6 fa fn fc fb fm fd, nTA q2 ga gn gc gb gm gd, oTA 5]) (n := 3) (c := 3) M_13 rfl rfl (fun t ht => by
    rcases (by simpa using ht : t = nTA q6 fa fn fc fb fm fd ∨ t = nTA q2 ga gn gc gb gm gd ∨ t = oTA 5) with rfl | rfl | rfl
    · exact tok_own Of_13 Pf_13 sq6.out
    · exact tok_own Og_13 Pg_13 sq2.out
    · exact tok_op _ _ _) (by omega) (by unfold maxLen; omega)
  have av := hid (show ansV 1 (([nTA q6 fa fn fc fb fm fd, nTA q2 ga gn gc gb gm gd, oTA 5]).map TA.ti) = some ⟨5, 0, 0, false, true, ⟨0, q6, 1, 0⟩⟩ from aw2.out (nTA q6 fa fn fc fb fm fd) (nTA q2 ga gn gc gb gm gd) rfl rfl (nTA_q ..) (oTA 5).ti.x)
  have HE := hid (fun (W : World) hT => (ln_any (w := W) (sa := some ⟨w12.heap.size, 0, none⟩) (n := 3) (c := 3) (K := 2) (xs := ([nTA q6 fa fn fc fb fm fd, nTA q2 ga gn gc gb gm gd, oTA 5]).map TA.ti) (at_ := 1) hT (by omega) (by omega)).mono (R' := RetLn W ⟨q0, q6, q1, q0⟩ 0) (fun e w' h => by
    rw [av.out] at h
    rw [← dv.out]; exact h))
  go_wp2_with fail
  refine (HE.out _ TM_13).mono ?_
  rintro e w14 ⟨f, rfl, -, hL, hB⟩
  have hB_14 : Below va13.heap.size va13 w14 := (bl.next hB)
  have L_14 := L_13.next hB_14
  have V_14 := V_13.next hB_14
  have M_14 := M_13.next hB_14
  have Oa_14 := Oa_13.below hB_14
  have Pa_14 := Pa_13.below hB_14
  have Ob_14 := Ob_13.below hB_14
  have Pb_14 := Pb_13.below hB_14
  have Oc_14 := Oc_13.below hB_14
  have Pc_14 := Pc_13.below hB_14
  have Ov_14 := Ov_13.below hB_14
  have Pv_14 := Pv_13.below hB_14
  have Of_14 := Of_13.below hB_14
  have Pf_14 := Pf_13.below hB_14
  have Og_14 := Og_13.below hB_14
  have Pg_14 := Pg_13.below hB_14
  have TM_14 := TM_13.below hB_14
  have hbel_14 := hbel_13.next hB_14
  have hsz_14 := hB_14.size
  clear L_13 V_13 M_13 Oa_13 Pa_13 Ob_13 Pb_13 Oc_13 Pc_13 Ov_13 Pv_13 Of_13 Pf_13 Og_13 Pg_13 TM_13 hbel_13 hB_14
  obtain ⟨N1, N2, N3, -, -, -, hfA, -, hfB, -, hfC, -, hfD⟩ := (hL rfl).ex
  clear hL
  have GA_14 := hfA
  have GB_14 := hfB
  have GC_14 := hfC
  have GD_14 := hfD
  clear hfA hfB hfC hfD
  try clear hB
  simp only [LX.arr]
  go_upto_region 5 with fail
  have hbx := blk_new w14 #[Value.bool f.A.s, Value.slice f.A.a f.A.n f.A.c, Value.slice f.A.b f.A.m f.A.d, Value.bool f.B.s, Value.slice f.B.a f.B.n f.B.c, Value.slice f.B.b f.B.m f.B.d, Value.bool f.C.s, Value.slice f.C.a f.C.n f.C.c, Value.slice f.C.b f.C.m f.C.d, Value.bool f.D.s, Value.slice f.D.a f.D.n f.D.c, Value.slice f.D.b f.D.m f.D.d] 32
  have hbB := (Below.refl w14.heap.size w14).alloc (Nat.le_refl _) (.cells #[Value.bool f.A.s, Value.slice f.A.a f.A.n f.A.c, Value.slice f.A.b f.A.m f.A.d, Value.bool f.B.s, Value.slice f.B.a f.B.n f.B.c, Value.slice f.B.b f.B.m f.B.d, Value.bool f.C.s, Value.slice f.C.a f.C.n f.C.c, Value.slice f.C.b f.C.m f.C.d, Value.bool f.D.s, Value.slice f.D.a f.D.n f.D.c, Value.slice f.D.b f.D.m f.D.d] 32)
  have hltG := hbx.lt
  have hB_15 : Below w14.heap.size w14 (w14.alloc (.cells #[Value.bool f.A.s, Value.slice f.A.a f.A.n f.A.c, Value.slice f.A.b f.A.m f.A.d, Value.bool f.B.s, Value.slice f.B.a f.B.n f.B.c, Value.slice f.B.b f.B.m f.B.d, Value.bool f.C.s, Value.slice f.C.a f.C.n f.C.c, Value.slice f.C.b f.C.m f.C.d, Value.bool f.D.s, Value.slice f.D.a f.D.n f.D.c, Value.slice f.D.b f.D.m f.D.d] 32)) := hbB
  have L_15 := L_14.next hB_15
  have V_15 := V_14.next hB_15
  have M_15 := M_14.next hB_15
  have Oa_15 := Oa_14.below hB_15
  have Pa_15 := Pa_14.below hB_15
  have Ob_15 := Ob_14.below hB_15
  have Pb_15 := Pb_14.below hB_15
  have Oc_15 := Oc_14.below hB_15
  have Pc_15 := Pc_14.below hB_15
  have Ov_15 := Ov_14.below hB_15
  have Pv_15 := Pv_14.below hB_15
  have Of_15 := Of_14.below hB_15
  have Pf_15 := Pf_14.below hB_15
  have Og_15 := Og_14.below hB_15
  have Pg_15 := Pg_14.below hB_15
  have TM_15 := TM_14.below hB_15
  have GA_15 := GA_14.below hB_15
  have GB_15 := GB_14.below hB_15
  have GC_15 := GC_14.below hB_15
  have GD_15 := GD_14.below hB_15
  have hbel_15 := hbel_14.next hB_15
  have hsz_15 := hB_15.size
  clear L_14 V_14 M_14 Oa_14 Pa_14 Ob_14 Pb_14 Oc_14 Pc_14 Ov_14 Pv_14 Of_14 Pf_14 Og_14 Pg_14 TM_14 GA_14 GB_14 GC_14 GD_14 hbel_14 hB_15
  have G_15 := hbx
  clear hbx hbB
  generalize (w14.alloc (.cells #[Value.bool f.A.s, Value.slice f.A.a f.A.n f.A.c, Value.slice f.A.b f.A.m f.A.d, Value.bool f.B.s, Value.slice f.B.a f.B.n f.B.c, Value.slice f.B.b f.B.m f.B.d, Value.bool f.C.s, Value.slice f.C.a f.C.n f.C.c, Value.slice f.C.b f.C.m f.C.d, Value.bool f.D.s, Value.slice f.D.a f.D.n f.D.c, Value.slice f.D.b f.D.m f.D.d] 32)) = va15 at *
  clear HE av aw2 dv
  clear TM_15
  go_wp2_with fail
  refine (H1.out _).mono ?_
  rintro e w16 ⟨ha, hn, hc, hb, hm, hd, rfl, hO, hO', hD, hB⟩
  have hB_16 : Below va15.heap.size va15 w16 := (bl.next hB)
  have L_16 := L_15.next hB_16
  have V_16 := V_15.next hB_16
  have M_16 := M_15.next hB_16
  have G_16 := G_15.next hB_16
  have Oa_16 := Oa_15.below hB_16
  have Pa_16 := Pa_15.below hB_16
  have Ob_16 := Ob_15.below hB_16
  have Pb_16 := Pb_15.below hB_16
  have Oc_16 := Oc_15.below hB_16
  have Pc_16 := Pc_15.below hB_16
  have Ov_16 := Ov_15.below hB_16
  have Pv_16 := Pv_15.below hB_16
  have Of_16 := Of_15.below hB_16
  have Pf_16 := Pf_15.below hB_16
  have Og_16 := Og_15.below hB_16
  have Pg_16 := Pg_15.below hB_16
  have GA_16 := GA_15.below hB_16
  have GB_16 := GB_15.below hB_16
  have GC_16 := GC_15.below hB_16
  have GD_16 := GD_15.below hB_16
  have hbel_16 := hbel_15.next hB_16
  have hsz_16 := hB_16.size
  clear L_15 V_15 M_15 G_15 Oa_15 Pa_15 Ob_15 Pb_15 Oc_15 Pc_15 Ov_15 Pv_15 Of_15 Pf_15 Og_15 Pg_15 GA_15 GB_15 GC_15 GD_15 hbel_15 hB_16
  have Oh_16 := hO
  have Ph_16 := hO'
  clear hO hO' hD
  try clear hB
  go_wp2_with fail
  refine (top_any 2).mono ?_
  rintro e w17 ⟨rfl, hB⟩
  have hB_17 : Below w16.heap.size w16 w17 := (bl.next hB)
  have L_17 := L_16.next hB_17
  have V_17 := V_16.next hB_17
  have M_17 := M_16.next hB_17
  have G_17 := G_16.next hB_17
  have Oa_17 := Oa_16.below hB_17
  have Pa_17 := Pa_16.below hB_17
  have Ob_17 := Ob_16.below hB_17
  have Pb_17 := Pb_16.below hB_17
  have Oc_17 := Oc_16.below hB_17
  have Pc_17 := Pc_16.below hB_17
  have Ov_17 := Ov_16.below hB_17
  have Pv_17 := Pv_16.below hB_17
  have Of_17 := Of_16.below hB_17
  have Pf_17 := Pf_16.below hB_17
  have Og_17 := Og_16.below hB_17
  have Pg_17 := Pg_16.below hB_17
  have GA_17 := GA_16.below hB_17
  have GB_17 := GB_16.below hB_17
  have GC_17 := GC_16.below hB_17
  have GD_17 := GD_16.below hB_17
  have Oh_17 := Oh_16.below hB_17
  have Ph_17 := Ph_16.below hB_17
  have hbel_17 := hbel_16.next hB_17
  have hsz_17 := hB_17.size
  clear L_16 V_16 M_16 G_16 Oa_16 Pa_16 Ob_16 Pb_16 Oc_16 Pc_16 Ov_16 Pv_16 Of_16 Pf_16 Og_16 Pg_16 GA_16 GB_16 GC_16 GD_16 Oh_16 Ph_16 hbel_16 hB_17
  try clear hB
  go_wp2_with fail
  have hbx := blk_new w17 #[Value.int .i8 1, Value.bool (decide (q1.num < 0)), Value.slice ha hn hc, Value.slice hb hm hd, Value.int .i8 2, Value.bool false, Value.slice none 0 0, Value.slice none 0 0] 38
  have hbB := (Below.refl w17.heap.size w17).alloc (Nat.le_refl _) (.cells #[Value.int .i8 1, Value.bool (decide (q1.num < 0)), Value.slice ha hn hc, Value.slice hb hm hd, Value.int .i8 2, Value.bool false, Value.slice none 0 0, Value.slice none 0 0] 38)
  have hltN := hbx.lt
  have hB_18 : Below w17.heap.size w17 (w17.alloc (.cells #[Value.int .i8 1, Value.bool (decide (q1.num < 0)), Value.slice ha hn hc, Value.slice hb hm hd, Value.int .i8 2, Value.bool false, Value.slice none 0 0, Value.slice none 0 0] 38)) := hbB
  have L_18 := L_17.next hB_18
  have V_18 := V_17.next hB_18
  have M_18 := M_17.next hB_18
  have G_18 := G_17.next hB_18
  have Oa_18 := Oa_17.below hB_18
  have Pa_18 := Pa_17.below hB_18
  have Ob_18 := Ob_17.below hB_18
  have Pb_18 := Pb_17.below hB_18
  have Oc_18 := Oc_17.below hB_18
  have Pc_18 := Pc_17.below hB_18
  have Ov_18 := Ov_17.below hB_18
  have Pv_18 := Pv_17.below hB_18
  have Of_18 := Of_17.below hB_18
  have Pf_18 := Pf_17.below hB_18
  have Og_18 := Og_17.below hB_18
  have Pg_18 := Pg_17.below hB_18
  have GA_18 := GA_17.below hB_18
  have GB_18 := GB_17.below hB_18
  have GC_18 := GC_17.below hB_18
  have GD_18 := GD_17.below hB_18
  have Oh_18 := Oh_17.below hB_18
  have Ph_18 := Ph_17.below hB_18
  have hbel_18 := hbel_17.next hB_18
  have hsz_18 := hB_18.size
  clear L_17 V_17 M_17 G_17 Oa_17 Pa_17 Ob_17 Pb_17 Oc_17 Pc_17 Ov_17 Pv_17 Of_17 Pf_17 Og_17 Pg_17 GA_17 GB_17 GC_17 GD_17 Oh_17 Ph_17 hbel_17 hB_18
  have N_18 := hbx
  clear hbx hbB
  generalize (w17.alloc (.cells #[Value.int .i8 1, Value.bool (decide (q1.num < 0)), Value.slice ha hn hc, Value.slice hb hm hd, Value.int .i8 2, Value.bool false, Value.slice none 0 0, Value.slice none 0 0] 38)) = va18 at *
  have TN_18 := rdts_lit (K := 2) (ts := [nTA q1 ha hn hc hb hm hd, oTA 2]) (n := 2) (c := 2) N_18 rfl rfl (fun t ht => by
    rcases (by simpa using ht : t = nTA q1 ha hn hc hb hm hd ∨ t = oTA 2) with rfl | rfl
    · exact tok_own Oh_18 Ph_18 sq1.out
    · exact tok_op _ _ _) (by omega) (by unfold maxLen; omega)
  have av := hid (show ansV (-1) (([nTA q1 ha hn hc hb hm hd, oTA 2]).map TA.ti) = none from aw_three (t1 := nTA q1 ha hn hc hb hm hd) rfl (oTA 2).ti.x)
  have HE := hid (fun (W : World) hT => (evl_any (w := W) (sa := some ⟨w17.heap.size, 0, none⟩) (n := 2) (c := 2) (K := 2) (xs := ([nTA q1 ha hn hc hb hm hd, oTA 2]).map TA.ti) hT (by omega) (by omega)).mono (R' := RetQE W 0 30) (fun e w' h => by
    rw [av.out] at h
    exact h))
  go_wp2_with fail
  refine (HE.out _ TN_18).mono ?_
  rintro e w19 ⟨ua, un, uc, ub, um, ud, rfl, hO, hO', hD, hB⟩
  have hB_19 : Below va18.heap.size va18 w19 := (bl.next hB)
  have L_19 := L_18.next hB_19
  have V_19 := V_18.next hB_19
  have M_19 := M_18.next hB_19
  have G_19 := G_18.next hB_19
  have N_19 := N_18.next hB_19
  have Oa_19 := Oa_18.below hB_19
  have Pa_19 := Pa_18.below hB_19
  have Ob_19 := Ob_18.below hB_19
  have Pb_19 := Pb_18.below hB_19
  have Oc_19 := Oc_18.below hB_19
  have Pc_19 := Pc_18.below hB_19
  have Ov_19 := Ov_18.below hB_19
  have Pv_19 := Pv_18.below hB_19
  have Of_19 := Of_18.below hB_19
  have Pf_19 := Pf_18.below hB_19
  have Og_19 := Og_18.below hB_19
  have Pg_19 := Pg_18.below hB_19
  have GA_19 := GA_18.below hB_19
  have GB_19 := GB_18.below hB_19
  have GC_19 := GC_18.below hB_19
  have GD_19 := GD_18.below hB_19
  have Oh_19 := Oh_18.below hB_19
  have Ph_19 := Ph_18.below hB_19
  have TN_19 := TN_18.below hB_19
  have hbel_19 := hbel_18.next hB_19
  have hsz_19 := hB_19.size
  clear L_18 V_18 M_18 G_18 N_18 Oa_18 Pa_18 Ob_18 Pb_18 Oc_18 Pc_18 Ov_18 Pv_18 Of_18 Pf_18 Og_18 Pg_18 GA_18 GB_18 GC_18 GD_18 Oh_18 Ph_18 TN_18 hbel_18 hB_19
  clear hO hO' hD
  try clear hB
  go_upto_region 6 with fail
  have hbx := blk_new w19 #[Value.bool (qsg 0 30), Value.slice ua un uc, Value.slice ub um ud] 28
  have hbB := (Below.refl w19.heap.size w19).alloc (Nat.le_refl _) (.cells #[Value.bool (qsg 0 30), Value.slice ua un uc, Value.slice ub um ud] 28)
  have hltU := hbx.lt
  have hB_20 : Below w19.heap.size w19 (w19.alloc (.cells #[Value.bool (qsg 0 30), Value.slice ua un uc, Value.slice ub um ud] 28)) := hbB
  have L_20 := L_19.next hB_20
  have V_20 := V_19.next hB_20
  have M_20 := M_19.next hB_20
  have G_20 := G_19.next hB_20
  have N_20 := N_19.next hB_20
  have Oa_20 := Oa_19.below hB_20
  have Pa_20 := Pa_19.below hB_20
  have Ob_20 := Ob_19.below hB_20
  have Pb_20 := Pb_19.below hB_20
  have Oc_20 := Oc_19.below hB_20
  have Pc_20 := Pc_19.below hB_20
  have Ov_20 := Ov_19.below hB_20
  have Pv_20 := Pv_19.below hB_20
  have Of_20 := Of_19.below hB_20
  have Pf_20 := Pf_19.below hB_20
  have Og_20 := Og_19.below hB_20
  have Pg_20 := Pg_19.below hB_20
  have GA_20 := GA_19.below hB_20
  have GB_20 := GB_19.below hB_20
  have GC_20 := GC_19.below hB_20
  have GD_20 := GD_19.below hB_20
  have Oh_20 := Oh_19.below hB_20
  have Ph_20 := Ph_19.below hB_20
  have TN_20 := TN_19.below hB_20
  have hbel_20 := hbel_19.next hB_20
  have hsz_20 := hB_20.size
  clear L_19 V_19 M_19 G_19 N_19 Oa_19 Pa_19 Ob_19 Pb_19 Oc_19 Pc_19 Ov_19 Pv_19 Of_19 Pf_19 Og_19 Pg_19 GA_19 GB_19 GC_19 GD_19 Oh_19 Ph_19 TN_19 hbel_19 hB_20
  have U_20 := hbx
  clear hbx hbB
  generalize (w19.alloc (.cells #[Value.bool (qsg 0 30), Value.slice ua un uc, Value.slice ub um ud] 28)) = va20 at *
  have cV_20_0 : _ = some (Value.bool (decide (q9.num < 0))) := V_20.cell 0
  have fV_20_0 := V_20.free 0
  have cV_20_1 : _ = some (Value.slice va vn vc) := V_20.cell 1
  have fV_20_1 := V_20.free 1
  have cV_20_2 : _ = some (Value.slice vb vm vd) := V_20.cell 2
  have fV_20_2 := V_20.free 2
  go_wp2_with fail
  refine (qtext (Ov_20.rdQ Pv_20 sq9.out) (by omega)).mono ?_
  rw [t9.out]
  rintro e w21 ⟨rfl, hB⟩
  have hB_21 : Below va20.heap.size va20 w21 := (bl.next hB)
  have L_21 := L_20.next hB_21
  have V_21 := V_20.next hB_21
  have M_21 := M_20.next hB_21
  have G_21 := G_20.next hB_21
  have N_21 := N_20.next hB_21
  have U_21 := U_20.next hB_21
  have Oa_21 := Oa_20.below hB_21
  have Pa_21 := Pa_20.below hB_21
  have Ob_21 := Ob_20.below hB_21
  have Pb_21 := Pb_20.below hB_21
  have Oc_21 := Oc_20.below hB_21
  have Pc_21 := Pc_20.below hB_21
  have Ov_21 := Ov_20.below hB_21
  have Pv_21 := Pv_20.below hB_21
  have Of_21 := Of_20.below hB_21
  have Pf_21 := Pf_20.below hB_21
  have Og_21 := Og_20.below hB_21
  have Pg_21 := Pg_20.below hB_21
  have GA_21 := GA_20.below hB_21
  have GB_21 := GB_20.below hB_21
  have GC_21 := GC_20.below hB_21
  have GD_21 := GD_20.below hB_21
  have Oh_21 := Oh_20.below hB_21
  have Ph_21 := Ph_20.below hB_21
  have TN_21 := TN_20.below hB_21
  have hbel_21 := hbel_20.next hB_21
  have hsz_21 := hB_21.size
  clear L_20 V_20 M_20 G_20 N_20 U_20 Oa_20 Pa_20 Ob_20 Pb_20 Oc_20 Pc_20 Ov_20 Pv_20 Of_20 Pf_20 Og_20 Pg_20 GA_20 GB_20 GC_20 GD_20 Oh_20 Ph_20 TN_20 hbel_20 hB_21
  clear cV_20_0 fV_20_0 cV_20_1 fV_20_1 cV_20_2 fV_20_2
  try clear hB
  have cG_21_3 : _ = some (Value.bool f.B.s) := G_21.cell 3
  have fG_21_3 := G_21.free 3
  have cG_21_4 : _ = some (Value.slice f.B.a f.B.n f.B.c) := G_21.cell 4
  have fG_21_4 := G_21.free 4
  have cG_21_5 : _ = some (Value.slice f.B.b f.B.m f.B.d) := G_21.cell 5
  have fG_21_5 := G_21.free 5
  go_wp2_with fail
  refine (qtext (GB_21.rdQ sq6.out) (by omega)).mono ?_
  rw [t6.out]
  rintro e w22 ⟨rfl, hB⟩
  have hB_22 : Below w21.heap.size w21 w22 := (bl.next hB)
  have L_22 := L_21.next hB_22
  have V_22 := V_21.next hB_22
  have M_22 := M_21.next hB_22
  have G_22 := G_21.next hB_22
  have N_22 := N_21.next hB_22
  have U_22 := U_21.next hB_22
  have Oa_22 := Oa_21.below hB_22
  have Pa_22 := Pa_21.below hB_22
  have Ob_22 := Ob_21.below hB_22
  have Pb_22 := Pb_21.below hB_22
  have Oc_22 := Oc_21.below hB_22
  have Pc_22 := Pc_21.below hB_22
  have Ov_22 := Ov_21.below hB_22
  have Pv_22 := Pv_21.below hB_22
  have Of_22 := Of_21.below hB_22
  have Pf_22 := Pf_21.below hB_22
  have Og_22 := Og_21.below hB_22
  have Pg_22 := Pg_21.below hB_22
  have GA_22 := GA_21.below hB_22
  have GB_22 := GB_21.below hB_22
  have GC_22 := GC_21.below hB_22
  have GD_22 := GD_21.below hB_22
  have Oh_22 := Oh_21.below hB_22
  have Ph_22 := Ph_21.below hB_22
  have TN_22 := TN_21.below hB_22
  have hbel_22 := hbel_21.next hB_22
  have hsz_22 := hB_22.size
  clear L_21 V_21 M_21 G_21 N_21 U_21 Oa_21 Pa_21 Ob_21 Pb_21 Oc_21 Pc_21 Ov_21 Pv_21 Of_21 Pf_21 Og_21 Pg_21 GA_21 GB_21 GC_21 GD_21 Oh_21 Ph_21 TN_21 hbel_21 hB_22
  clear cG_21_3 fG_21_3 cG_21_4 fG_21_4 cG_21_5 fG_21_5
  try clear hB
  have cG_22_6 : _ = some (Value.bool f.C.s) := G_22.cell 6
  have fG_22_6 := G_22.free 6
  have cG_22_7 : _ = some (Value.slice f.C.a f.C.n f.C.c) := G_22.cell 7
  have fG_22_7 := G_22.free 7
  have cG_22_8 : _ = some (Value.slice f.C.b f.C.m f.C.d) := G_22.cell 8
  have fG_22_8 := G_22.free 8
  go_wp2_with fail
  refine (qtext (GC_22.rdQ sq1.out) (by omega)).mono ?_
  rw [t1.out]
  rintro e w23 ⟨rfl, hB⟩
  have hB_23 : Below w22.heap.size w22 w23 := (bl.next hB)
  have L_23 := L_22.next hB_23
  have V_23 := V_22.next hB_23
  have M_23 := M_22.next hB_23
  have G_23 := G_22.next hB_23
  have N_23 := N_22.next hB_23
  have U_23 := U_22.next hB_23
  have Oa_23 := Oa_22.below hB_23
  have Pa_23 := Pa_22.below hB_23
  have Ob_23 := Ob_22.below hB_23
  have Pb_23 := Pb_22.below hB_23
  have Oc_23 := Oc_22.below hB_23
  have Pc_23 := Pc_22.below hB_23
  have Ov_23 := Ov_22.below hB_23
  have Pv_23 := Pv_22.below hB_23
  have Of_23 := Of_22.below hB_23
  have Pf_23 := Pf_22.below hB_23
  have Og_23 := Og_22.below hB_23
  have Pg_23 := Pg_22.below hB_23
  have GA_23 := GA_22.below hB_23
  have GB_23 := GB_22.below hB_23
  have GC_23 := GC_22.below hB_23
  have GD_23 := GD_22.below hB_23
  have Oh_23 := Oh_22.below hB_23
  have Ph_23 := Ph_22.below hB_23
  have TN_23 := TN_22.below hB_23
  have hbel_23 := hbel_22.next hB_23
  have hsz_23 := hB_23.size
  clear L_22 V_22 M_22 G_22 N_22 U_22 Oa_22 Pa_22 Ob_22 Pb_22 Oc_22 Pc_22 Ov_22 Pv_22 Of_22 Pf_22 Og_22 Pg_22 GA_22 GB_22 GC_22 GD_22 Oh_22 Ph_22 TN_22 hbel_22 hB_23
  clear cG_22_6 fG_22_6 cG_22_7 fG_22_7 cG_22_8 fG_22_8
  try clear hB
  have cG_23_0 : _ = some (Value.bool f.A.s) := G_23.cell 0
  have fG_23_0 := G_23.free 0
  have cG_23_1 : _ = some (Value.slice f.A.a f.A.n f.A.c) := G_23.cell 1
  have fG_23_1 := G_23.free 1
  have cG_23_2 : _ = some (Value.slice f.A.b f.A.m f.A.d) := G_23.cell 2
  have fG_23_2 := G_23.free 2
  go_wp2_with fail
  refine (qsign (GA_23.rdQ sq0.out) (by omega)).mono ?_
  rw [z0.out]
  rintro e w24 ⟨rfl, hB⟩
  have hB_24 : Below w23.heap.size w23 w24 := (bl.next hB)
  have L_24 := L_23.next hB_24
  have V_24 := V_23.next hB_24
  have M_24 := M_23.next hB_24
  have G_24 := G_23.next hB_24
  have N_24 := N_23.next hB_24
  have U_24 := U_23.next hB_24
  have Oa_24 := Oa_23.below hB_24
  have Pa_24 := Pa_23.below hB_24
  have Ob_24 := Ob_23.below hB_24
  have Pb_24 := Pb_23.below hB_24
  have Oc_24 := Oc_23.below hB_24
  have Pc_24 := Pc_23.below hB_24
  have Ov_24 := Ov_23.below hB_24
  have Pv_24 := Pv_23.below hB_24
  have Of_24 := Of_23.below hB_24
  have Pf_24 := Pf_23.below hB_24
  have Og_24 := Og_23.below hB_24
  have Pg_24 := Pg_23.below hB_24
  have GA_24 := GA_23.below hB_24
  have GB_24 := GB_23.below hB_24
  have GC_24 := GC_23.below hB_24
  have GD_24 := GD_23.below hB_24
  have Oh_24 := Oh_23.below hB_24
  have Ph_24 := Ph_23.below hB_24
  have TN_24 := TN_23.below hB_24
  have hbel_24 := hbel_23.next hB_24
  have hsz_24 := hB_24.size
  clear L_23 V_23 M_23 G_23 N_23 U_23 Oa_23 Pa_23 Ob_23 Pb_23 Oc_23 Pc_23 Ov_23 Pv_23 Of_23 Pf_23 Og_23 Pg_23 GA_23 GB_23 GC_23 GD_23 Oh_23 Ph_23 TN_23 hbel_23 hB_24
  clear cG_23_0 fG_23_0 cG_23_1 fG_23_1 cG_23_2 fG_23_2
  try clear hB
  have cG_24_9 : _ = some (Value.bool f.D.s) := G_24.cell 9
  have fG_24_9 := G_24.free 9
  have cG_24_10 : _ = some (Value.slice f.D.a f.D.n f.D.c) := G_24.cell 10
  have fG_24_10 := G_24.free 10
  have cG_24_11 : _ = some (Value.slice f.D.b f.D.m f.D.d) := G_24.cell 11
  have fG_24_11 := G_24.free 11
  go_wp2_with fail
  refine (qsign (GD_24.rdQ sq0.out) (by omega)).mono ?_
  rw [z0.out]
  rintro e w25 ⟨rfl, hB⟩
  have hB_25 : Below w24.heap.size w24 w25 := (bl.next hB)
  have L_25 := L_24.next hB_25
  have V_25 := V_24.next hB_25
  have M_25 := M_24.next hB_25
  have G_25 := G_24.next hB_25
  have N_25 := N_24.next hB_25
  have U_25 := U_24.next hB_25
  have Oa_25 := Oa_24.below hB_25
  have Pa_25 := Pa_24.below hB_25
  have Ob_25 := Ob_24.below hB_25
  have Pb_25 := Pb_24.below hB_25
  have Oc_25 := Oc_24.below hB_25
  have Pc_25 := Pc_24.below hB_25
  have Ov_25 := Ov_24.below hB_25
  have Pv_25 := Pv_24.below hB_25
  have Of_25 := Of_24.below hB_25
  have Pf_25 := Pf_24.below hB_25
  have Og_25 := Og_24.below hB_25
  have Pg_25 := Pg_24.below hB_25
  have GA_25 := GA_24.below hB_25
  have GB_25 := GB_24.below hB_25
  have GC_25 := GC_24.below hB_25
  have GD_25 := GD_24.below hB_25
  have Oh_25 := Oh_24.below hB_25
  have Ph_25 := Ph_24.below hB_25
  have TN_25 := TN_24.below hB_25
  have hbel_25 := hbel_24.next hB_25
  have hsz_25 := hB_25.size
  clear L_24 V_24 M_24 G_24 N_24 U_24 Oa_24 Pa_24 Ob_24 Pb_24 Oc_24 Pc_24 Ov_24 Pv_24 Of_24 Pf_24 Og_24 Pg_24 GA_24 GB_24 GC_24 GD_24 Oh_24 Ph_24 TN_24 hbel_24 hB_25
  clear cG_24_9 fG_24_9 cG_24_10 fG_24_10 cG_24_11 fG_24_11
  try clear hB
  go_wp2
  go_ret
  exact ⟨rfl, hbel_25⟩

end Go.Proofs.Ytennilapmcgnbaa
/- WALKS OF EXPRESSIONS, 11: two lists of terms side by side; literals behind lists. -/
namespace Go.Proofs.Ytennilapmcgnbaa
set_option linter.unusedVariables false
set_option linter.unusedSimpArgs false
open Go.ChangeShapes Go.WideShapes Go.ChangeAt Go.RowKit Go.NatP

theorem FO.kpl {B N : Nat} {W W' : World} {x : FX} {q : Rat} {p : Nat → Prop} (h : FO B W x q) (hl : LtX x N) (hk : Kp p W W') (hp : ∀ j, p j → N ≤ j) : FO B W' x q :=
  ⟨h.s, h.o1.kp hk (fun g e hg => by have := hl.1 g e; have := hp g hg; omega), h.o2.kp hk (fun g e hg => by have := hl.2 g e; have := hp g hg; omega), h.df⟩
section
variable {K B : Nat} {W W' : World} {a a' b : Option Addr} {c c' d : Nat} {ts us new : List TA} {p : Nat → Prop}
theorem TOK.off {la : Option Addr} {x : QA} (h : TOK K W la x) : ∀ g o, (0 < x.n ∧ x.a = some ⟨g, o, none⟩) ∨ (0 < x.m ∧ x.b = some ⟨g, o, none⟩) → ¬ la = some ⟨g, 0, none⟩ := fun g o h1 => by
  rcases h1 with ⟨h0, e⟩ | ⟨h0, e⟩
  · exact h.ga g o h0 e
  · exact h.gb g o h0 e
theorem TRw.kp (h : TRw K B W b d us) (hk : Kp p W W') (hb : ∀ g, b = some ⟨g, 0, none⟩ → ¬ p g) (hn : ∀ t ∈ us, ∀ g o, (0 < t.x.n ∧ t.x.a = some ⟨g, o, none⟩) ∨ (0 < t.x.m ∧ t.x.b = some ⟨g, o, none⟩) → ¬ p g) : TRw K B W' b d us :=
  ⟨TRw.keep h.row fun g e => hk.block g (h.blk g e).2 (hb g e), fun t ht => (h.ok t ht).kp hk (hn t ht)⟩
/-- two lists side by side: neither's block holds the other's numbers -/
structure Two (K B : Nat) (W : World) (a : Option Addr) (c : Nat) (ts : List TA) (b : Option Addr) (d : Nat) (us : List TA) : Prop where
  r1 : TRw K B W a c ts
  r2 : TRw K B W b d us
  x1 : ∀ t ∈ us, TOK K W a t.x
  x2 : ∀ t ∈ ts, TOK K W b t.x
  df : Diff a b
theorem Two.below (h : Two K B W a c ts b d us) (hB : Below W.heap.size W W') : Two K B W' a c ts b d us :=
  ⟨h.r1.below hB, h.r2.below hB, fun t ht => (h.x1 t ht).below hB, fun t ht => (h.x2 t ht).below hB, h.df⟩
theorem Two.swap (h : Two K B W a c ts b d us) : Two K B W b d us a c ts := ⟨h.r2, h.r1, h.x2, h.x1, fun g e e2 => h.df g e2 e⟩
theorem Two.app (h : Two K B W a c ts b d us) (hk : Kp (fun k => a = some ⟨k, 0, none⟩) W W') (hf : a' = a ∨ ∀ g, a' = some ⟨g, 0, none⟩ → W.heap.size ≤ g)
    (h1 : TRw K B W' a' c' (ts ++ new)) (hn : ∀ t ∈ new, TOK K W b t.x) (hn2 : ∀ t ∈ new, TOK K W a t.x) : Two K B W' a' c' (ts ++ new) b d us := by
  refine ⟨h1, h.r2.kp hk (fun g e e2 => h.df g e2 e) (fun t ht => (h.x1 t ht).off), fun t ht => (h.x1 t ht).grown hk hf, fun t ht => ?_, fun g e e2 => ?_⟩
  · rcases List.mem_append.1 ht with ht | ht
    · exact (h.x2 t ht).kp hk (h.r1.ok t ht).off
    · exact (hn t ht).kp hk (hn2 t ht).off
  · rcases hf with rfl | hf
    · exact h.df g e e2
    · have := hf g e; have := (h.r2.blk g e2).2; omega
/-- a literal is a list of the call's own -/
theorem trw_lit {cs : Array Value} {n : Nat} (hcs : cs = (ts.flatMap TA.cs).toArray) (hl : ts.length = n) (hB : B ≤ W.heap.size) (hm : n ≤ maxLen) (hok : ∀ t ∈ ts, TOK K W none t.x) : TRw K B (W.alloc (.cells cs 38)) (some ⟨W.heap.size, 0, none⟩) n ts := by
  subst hl hcs
  have hb := (Below.refl W.heap.size W).alloc (Nat.le_refl _) (.cells (ts.flatMap TA.cs).toArray 38)
  refine ⟨World.ownsRow_lit (e := 38) (size := 4) W (ts.flatMap TA.cs).toArray ts.length hB hm (by simpa using tflat_len ts), fun t ht => ?_⟩
  have h := hok t ht
  refine ⟨h.ra.below hb, h.rb.below hb, fun g o h0 e e2 => ?_, fun g o h0 e e2 => ?_, h.na, h.nb⟩
  · have := Rd.lt0 (e ▸ h.ra) h0; cases e2; omega
  · have := Rd.lt0 (e ▸ h.rb) h0; cases e2; omega
end
/-- a number just made lies in no block that stood there -/
theorem tok_own2 {K B : Nat} {W W0 : World} {la : Option Addr} {q : Rat} {s : Bool} {a b : Option Addr} {n c m d : Nat} (h1 : Own B W a n c (lm q.num.natAbs)) (h2 : Own B W b m d (lm q.den)) (hq : QS q K) (hla : ∀ g, la = some ⟨g, 0, none⟩ → g < B) : TOK K W la ⟨s, a, n, c, lm q.num.natAbs, b, m, d, lm q.den⟩ :=
  ⟨h1.rd, h2.rd, fun g o h0 e e2 => by
      have h3 := hla g e2
      rcases h1.cases with ⟨h4, _⟩ | ⟨g', h4, h5, _⟩
      · rw [h4] at e; cases e
      · rw [h4] at e; cases e; omega,
    fun g o h0 e e2 => by
      have h3 := hla g e2
      rcases h2.cases with ⟨h4, _⟩ | ⟨g', h4, h5, _⟩
      · rw [h4] at e; cases e
      · rw [h4] at e; cases e; omega, by have := h1.len; have := hq.len1; show n ≤ K; omega, by have := h2.len; have := hq.len2; show m ≤ K; omega⟩
/-- a number that was made before the block was laid -/
theorem tok_own3 {K B B' N : Nat} {W : World} {la : Option Addr} {q : Rat} {s : Bool} {a b : Option Addr} {n c m d : Nat} (h1 : Own B W a n c (lm q.num.natAbs)) (h2 : Own B' W b m d (lm q.den)) (l1 : LtB a N) (l2 : LtB b N) (hq : QS q K) (hla : ∀ g, la = some ⟨g, 0, none⟩ → N ≤ g) : TOK K W la ⟨s, a, n, c, lm q.num.natAbs, b, m, d, lm q.den⟩ :=
  ⟨h1.rd, h2.rd, fun g o h0 e e2 => by
      have h3 := hla g e2
      rcases h1.cases with ⟨h4, _⟩ | ⟨g', h4, h5, _⟩
      · rw [h4] at e; cases e
      · have h6 := l1 g' h4; rw [h4] at e; cases e; omega,
    fun g o h0 e e2 => by
      have h3 := hla g e2
      rcases h2.cases with ⟨h4, _⟩ | ⟨g', h4, h5, _⟩
      · rw [h4] at e; cases e
      · have h6 := l2 g' h4; rw [h4] at e; cases e; omega, by have := h1.len; have := hq.len1; show n ≤ K; omega, by have := h2.len; have := hq.len2; show m ≤ K; omega⟩
section
variable {w : World} {o : Oper} {A : Act} {Q : Exit → Act → World → Prop}
/-- a literal behind a list -/
theorem wp_appLit {K : Act → World → Prop} {J B : Nat} {sa : Option Addr} {n c m : Nat} {ts us : List TA} {cs : Array Value} (s y : Operand)
    (ho : o.op = .call { callee := .builtin .append, args := #[s, y], argTypes := #[22, 22] })
    (hS : TRw J B w sa c ts) (hnn : n = ts.length) (hs : A.eval s = .slice sa n c) (g d : Nat) (hm : us.length = m) (hx : A.eval y = .slice (some ⟨g, 0, none⟩) m d)
    (hp : Blk w g cs) (hcs : cs = (us.flatMap TA.cs).toArray) (hP : ∀ t ∈ us, TOK J w sa t.x) (hB : B ≤ w.heap.size) (hn : ts.length + us.length ≤ 1048576)
    (h : ∀ a' c' w', TRw J B w' a' c' (ts ++ us) → Kp (fun k => sa = some ⟨k, 0, none⟩) w w' → (a' = sa ∨ ∀ g, a' = some ⟨g, 0, none⟩ → w.heap.size ≤ g) → K (A.put o.dst (.slice a' (n + m) c')) w') :
    o.wp Try.prog A w K Q :=
  wp_appTs (us := us) (m := m) s y ho hS hnn hs ⟨g, 0, none⟩ d hm hx (fun j u hj => by
      have := hp.cell j
      rw [show (Addr.add ⟨g, 0, none⟩ j) = ⟨g, j, none⟩ by simp [Addr.add]; intro e; rw [e], this, hcs]
      simpa using hj) hP hB hn h
/-- a list behind a list -/
theorem wp_appRow {K : Act → World → Prop} {J B B2 : Nat} {sa b : Option Addr} {n c m d : Nat} {ts us : List TA} (s y : Operand)
    (ho : o.op = .call { callee := .builtin .append, args := #[s, y], argTypes := #[22, 22] })
    (hS : TRw J B w sa c ts) (hnn : n = ts.length) (hs : A.eval s = .slice sa n c) (hR : TRw J B2 w b d us) (h0 : 0 < us.length) (hm : us.length = m) (hx : A.eval y = .slice b m d)
    (hP : ∀ t ∈ us, TOK J w sa t.x) (hB : B ≤ w.heap.size) (hn : ts.length + us.length ≤ 1048576)
    (h : ∀ a' c' w', TRw J B w' a' c' (ts ++ us) → Kp (fun k => sa = some ⟨k, 0, none⟩) w w' → (a' = sa ∨ ∀ g, a' = some ⟨g, 0, none⟩ → w.heap.size ≤ g) → K (A.put o.dst (.slice a' (n + m) c')) w') :
    o.wp Try.prog A w K Q := by
  obtain ⟨g, rfl, _⟩ := hR.addr h0
  exact wp_appTs (us := us) (m := m) s y ho hS hnn hs ⟨g, 0, none⟩ d hm hx (fun j u hj => by
      have hlt : j < (us.flatMap TA.cs).length := (List.getElem?_eq_some_iff.1 hj).1
      rw [show (Addr.add ⟨g, 0, none⟩ j) = ⟨g, j, none⟩ by simp [Addr.add]; intro e; rw [e], hR.row.cellAt j (by rw [← tflat_len]; exact hlt)]
      exact hj) hP hB hn h
end
end Go.Proofs.Ytennilapmcgnbaa
