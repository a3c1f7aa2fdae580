/- WALKS OF EXPRESSIONS, 6: the stack of parts. -/
import Derived.Test.YtennilapmcgnbaaVh
import Derived.Laws.OwnMore
import Derived.Laws.AppendOwn
import Derived.WalkSmall
namespace Go.Proofs.Ytennilapmcgnbaa
set_option linter.unusedVariables false
set_option linter.unusedSimpArgs false
open Go.ChangeShapes Go.WideShapes Go.ChangeAt Go.RowKit Go.NatP

theorem infoP : (Try.prog.info? 67).map (fun i => (i.zero, i.size, i.bytes)) = some (some (.agg PX.o.arr), 19, 304) := by kernel_rfl
section
variable {w : World}
/-- append at a row of elements of many cells -/
theorem rowL_append {E : TypeId} {z : Value} {by_ sz : Nat} (T ty : TypeId) (hT : Try.prog.underlying T = some (.slice E))
    (hinfo : (Try.prog.info? E).map (fun i => (i.zero, i.size, i.bytes)) = some (some z, sz, by_)) (hzs : z.cells.size = sz) (hs0 : 0 < sz)
    {B : Nat} {sa : Option Addr} {n c : Nat} {xs news : List Value} (hO : w.ownsRow B E sz (.slice sa n c) n xs) (ad : Addr) (k d : Nat) (hm : news.length = k * sz)
    (hy : ∀ j u, news[j]? = some u → w.cell? (ad.add j) = some u) (h1 : ∀ u ∈ news, u.oneCell' = true) (hB : B ≤ w.heap.size) (hn : n + k ≤ 1073741824) (hbytes : (n + k) * by_ ≤ 140737488355328) :
    ∃ a' c' w', (Builtin.append_ #[T, T] ty #[.slice sa n c, .slice (some ad) k d]).run Try.prog w = .ok (.slice a' (n + k) c') w' ∧
      w'.ownsRow B E sz (.slice a' (n + k) c') (n + k) (xs ++ news) ∧ Kp (fun k => sa = some ⟨k, 0, none⟩) w w' ∧ (a' = sa ∨ ∀ g, a' = some ⟨g, 0, none⟩ → w.heap.size ≤ g) := by
  obtain ⟨i0, hi, hz, hz1, hz2⟩ := info_parts hinfo
  have slf : ∀ v' (w' : World), w'.ownsRow B E sz v' (n + k) (xs ++ news) → ∃ a' c', v' = .slice a' (n + k) c' := by
    intro v' w' hown
    rcases hown.2 with ⟨h1, h2⟩ | ⟨g, cap, cur, h1, _⟩
    · exact ⟨none, 0, by rw [h1, h2]⟩
    · exact ⟨_, _, h1⟩
  cases sa with
  | none =>
    have hn0 : n = 0 ∧ c = 0 ∧ xs = [] := by
      rcases hO.2 with ⟨h, h2⟩ | ⟨g, cap, cur, h, _⟩
      · simp only [Value.slice.injEq, true_and] at h
        obtain ⟨h3, h4⟩ := h
        have h5 := hO.1
        rw [h3] at h5
        exact ⟨h3, h4, List.length_eq_zero_iff.1 (by omega)⟩
      · simp at h
    obtain ⟨rfl, rfl, rfl⟩ := hn0
    obtain ⟨v', w', hr, hown, hg, _⟩ := run_append_own (P := Try.prog) w w.heap.size T ty E i0 z sz by_ hT hi hz hz1 hz2 hzs hs0
      (.slice none 0 0) 0 [] (World.ownsRow_nil w _ E sz) ad k d news hm hy h1 (by unfold maxLen; omega) hbytes (Nat.le_refl _)
    have hown' : w'.ownsRow B E sz v' (0 + k) ([] ++ news) := by
      refine ⟨hown.1, ?_⟩
      rcases hown.2 with h2 | ⟨g, cap, cur, hv, hb, r⟩
      · exact .inl h2
      · exact .inr ⟨g, cap, cur, hv, by omega, r⟩
    obtain ⟨a', c', rfl⟩ := slf v' w' hown'
    refine ⟨a', c', w', hr, hown', ⟨hg.os, hg.tape, hg.output, hg.size, fun j hj _ => hg.block j hj (by simp [Value.ownBlock])⟩, .inr fun g e => ?_⟩
    subst e
    rcases hown.2 with ⟨h, _⟩ | ⟨g', cap, cur, h, h2, _⟩
    · simp at h
    · simp only [Value.slice.injEq, Option.some.injEq, Addr.mk.injEq, and_true] at h
      obtain ⟨rfl, _⟩ := h; exact h2
  | some ad' =>
    obtain ⟨g, rfl⟩ : ∃ g, ad' = ⟨g, 0, none⟩ := by
      rcases hO.2 with ⟨h, _⟩ | ⟨g, cap, cur, h, _⟩
      · simp at h
      · simp only [Value.slice.injEq, Option.some.injEq] at h
        exact ⟨g, h.1⟩
    by_cases hfit : n + k ≤ c
    · obtain ⟨w', hr, hown, hg⟩ := run_append_fits (P := Try.prog) w B T ty E i0 sz hT hi hz1 g n c xs hO ad k d news hm hy h1 hfit
      refine ⟨_, _, w', hr, hown, ⟨hg.os, hg.tape, hg.output, hg.size, fun j hj hp => hg.block j hj fun e => ?_⟩, .inl rfl⟩
      cases e; exact hp rfl
    · obtain ⟨v', w', hr, hown, hg, _⟩ := run_append_own (P := Try.prog) w B T ty E i0 z sz by_ hT hi hz hz1 hz2 hzs hs0
        (.slice (some ⟨g, 0, none⟩) n c) n xs hO ad k d news hm hy h1 (by unfold maxLen; omega) hbytes hB
      have hr2 := run_append_grow (P := Try.prog) w T ty E i0 z hT hi hz ⟨g, 0, none⟩ n c xs (by rw [hz1]; exact hO.1) (hO.cells (g := g) rfl) ad k d news (by rw [hz1]; exact hm) hy (by omega) (by omega)
        (growslice_fits (by omega) (by rw [hz2]; exact hbytes))
      obtain ⟨a', c', rfl⟩ := slf v' w' hown
      rw [hr] at hr2
      injection hr2 with h3 h4
      injection h3 with h5
      refine ⟨a', c', w', hr, hown, ⟨hg.os, hg.tape, hg.output, hg.size, fun j hj hp => hg.block j hj fun e => ?_⟩, .inr fun g' e => ?_⟩
      · cases e; exact hp rfl
      · rw [h5] at e
        cases e
        exact Nat.le_refl _
end
/-- the cells of a stack, its top first -/
def rowC : List PX → List Value
  | [] => []
  | p :: r => rowC r ++ p.arr.toList
theorem rowC_length : ∀ ps : List PX, (rowC ps).length = ps.length * 19
  | [] => rfl
  | p :: r => by
    have h : p.arr.toList.length = 19 := rfl
    rw [rowC, List.length_append, rowC_length r, h, List.length_cons, Nat.succ_mul]
def Oks (N : Nat → Prop) (W : World) : List PX → List PV → Prop
  | [], [] => True
  | p :: r, P :: R => PartOK N W p P ∧ Oks N W r R
  | _, _ => False
section
variable {N M q : Nat → Prop} {W W' : World} {B c : Nat} {a : Option Addr}
theorem Oks.length : ∀ {ps : List PX} {Ps : List PV}, Oks N W ps Ps → ps.length = Ps.length
  | [], [], _ => rfl
  | p :: r, P :: R, h => by rw [List.length_cons, List.length_cons, Oks.length h.2]
  | [], _ :: _, h => h.elim
  | _ :: _, [], h => h.elim
theorem Oks.below (hB : Below W.heap.size W W') : ∀ {ps : List PX} {Ps : List PV}, Oks N W ps Ps → Oks N W' ps Ps
  | [], [], _ => trivial
  | p :: r, P :: R, h => ⟨h.1.below hB, Oks.below hB h.2⟩
  | [], _ :: _, h => h.elim
  | _ :: _, [], h => h.elim
theorem Oks.kp (hk : Kp q W W') (hp : ∀ j, q j → ¬ N j) : ∀ {ps : List PX} {Ps : List PV}, Oks N W ps Ps → Oks N W' ps Ps
  | [], [], _ => trivial
  | p :: r, P :: R, h => ⟨h.1.kp hk hp, Oks.kp hk hp h.2⟩
  | [], _ :: _, h => h.elim
  | _ :: _, [], h => h.elim
theorem Oks.mono (hM : ∀ g, g < W.heap.size → N g → M g) : ∀ {ps : List PX} {Ps : List PV}, Oks N W ps Ps → Oks M W ps Ps
  | [], [], _ => trivial
  | p :: r, P :: R, h => ⟨h.1.mono hM, Oks.mono hM h.2⟩
  | [], _ :: _, h => h.elim
  | _ :: _, [], h => h.elim
/-- blocks of the call's own, but the stack's -/
def NS (a : Option Addr) (B : Nat) : Nat → Prop := fun g => B ≤ g ∧ a ≠ some ⟨g, 0, none⟩
/-- the stack of parts -/
structure Stk (B : Nat) (W : World) (a : Option Addr) (c : Nat) (ps : List PX) (Ps : List PV) : Prop where
  row : W.ownsRow B 67 19 (.slice a ps.length c) ps.length (rowC ps)
  ok : Oks (NS a B) W ps Ps
theorem stk_nil (B : Nat) (W : World) : Stk B W none 0 [] [] := ⟨World.ownsRow_nil _ _ _ _, trivial⟩
variable {p r : PX} {P R : PV} {ps : List PX} {Ps : List PV}
theorem row_blk {n : Nat} {xs : List Value} (h : W.ownsRow B 67 19 (.slice a n c) n xs) : ∀ g, a = some ⟨g, 0, none⟩ → B ≤ g ∧ g < W.heap.size := by
  rintro g rfl
  rcases h.2 with ⟨h1, _⟩ | ⟨g', cap, cur, hv, hb, hg, _⟩
  · cases h1
  · cases hv; exact ⟨hb, (Array.getElem?_eq_some_iff.1 hg).1⟩
theorem row_keep {n : Nat} {xs : List Value} (h : W.ownsRow B 67 19 (.slice a n c) n xs) (hk : ∀ g, a = some ⟨g, 0, none⟩ → W'.heap[g]? = W.heap[g]?) : W'.ownsRow B 67 19 (.slice a n c) n xs := by
  refine ⟨h.1, ?_⟩
  rcases h.2 with h2 | ⟨g, cap, cur, hv, hB, hg, rr⟩
  · exact .inl h2
  · cases hv; exact .inr ⟨g, _, cur, rfl, hB, by rw [hk g rfl]; exact hg, rr⟩
theorem Stk.below (h : Stk B W a c ps Ps) (hB : Below W.heap.size W W') : Stk B W' a c ps Ps :=
  ⟨row_keep h.row fun g e => hB.block g (row_blk h.row g e).2, h.ok.below hB⟩
theorem Stk.kp (h : Stk B W a c ps Ps) (hk : Kp q W W') (hq : ∀ j, q j → ¬ NS a B j) (hq2 : ∀ j, q j → a ≠ some ⟨j, 0, none⟩) : Stk B W' a c ps Ps :=
  ⟨row_keep h.row fun g e => hk.block g (row_blk h.row g e).2 (fun hj => hq2 g hj e), h.ok.kp hk hq⟩
theorem Stk.addr (h : Stk B W a c (p :: ps) Ps) : ∃ g, a = some ⟨g, 0, none⟩ ∧ B ≤ g ∧ g < W.heap.size ∧ ps.length + 1 ≤ c ∧ c ≤ maxLen := by
  rcases h.row.2 with ⟨h1, h2⟩ | ⟨g, cap, cur, hv, hb, hg, hnc, hcm, _⟩
  · cases h2
  · cases hv; exact ⟨g, rfl, hb, (Array.getElem?_eq_some_iff.1 hg).1, hnc, hcm⟩
theorem Stk.bnd (h : Stk B W a c ps Ps) : ps.length ≤ c ∧ c ≤ maxLen := by
  rcases h.row.2 with ⟨h1, h2⟩ | ⟨g, cap, cur, hv, hb, hg, hnc, hcm, _⟩
  · injection h1 with e1 e2 e3
    rw [h2, e3]; exact ⟨Nat.le_refl _, Nat.zero_le _⟩
  · cases hv; exact ⟨hnc, hcm⟩
/-- shorter by one -/
theorem Stk.pop (h : Stk B W a c (p :: ps) (P :: Ps)) : Stk B W a c ps Ps := by
  obtain ⟨g, rfl, _⟩ := h.addr
  exact ⟨ownsRow_pop (rowC_length ps) h.row, h.ok.2⟩
/-- the cells of the part that stands on top -/
theorem Stk.top {g : Nat} (h : Stk B W (some ⟨g, 0, none⟩) c (p :: ps) Ps) : W.rangeAt g (ps.length * 19) p.arr.toList := fun j v hv => by
  have hj : j < 19 := by
    have : j < p.arr.toList.length := (List.getElem?_eq_some_iff.1 hv).1
    exact this
  rw [h.row.cellAt (ps.length * 19 + j) (by rw [List.length_cons]; omega)]
  show (rowC ps ++ p.arr.toList)[ps.length * 19 + j]? = some v
  rw [List.getElem?_append_right (by rw [rowC_length]; omega), rowC_length, Nat.add_sub_cancel_left]
  exact hv
theorem Stk.there {g : Nat} (h : Stk B W (some ⟨g, 0, none⟩) c (p :: ps) Ps) : W.there g (ps.length * 19) 19 := fun j hj => by
  refine ⟨?_, h.row.frozenAt _⟩
  rw [h.top j _ (List.getElem?_eq_getElem (show j < p.arr.toList.length from hj))]
  rfl
theorem setCells_row {g n : Nat} : ∀ (vs pre mid : List Value) (W : World), W.ownsRow B 67 19 (.slice (some ⟨g, 0, none⟩) n c) n (pre ++ mid) → vs.length = mid.length → (W.setCells g pre.length vs).ownsRow B 67 19 (.slice (some ⟨g, 0, none⟩) n c) n (pre ++ vs)
  | [], pre, mid, W, h, hl => by
    have : mid = [] := List.eq_nil_of_length_eq_zero hl.symm
    subst this
    exact h
  | v :: t, pre, mid, W, h, hl => by
    cases mid with
    | nil => cases hl
    | cons u m =>
      have h1 := (h.stored pre.length v).1
      have e : (pre ++ u :: m).set pre.length v = (pre ++ [v]) ++ m := by simp [List.set_append_right]
      rw [e] at h1
      have h2 := setCells_row t (pre ++ [v]) m _ h1 (by simpa using hl)
      rw [List.length_append] at h2
      have e2 : pre ++ [v] ++ t = pre ++ v :: t := by simp
      rw [e2] at h2
      exact h2
/-- another part on top -/
theorem Stk.put {g : Nat} (h : Stk B W (some ⟨g, 0, none⟩) c (p :: ps) (P :: Ps)) (hr : PartOK (NS (some ⟨g, 0, none⟩) B) W r R) : Stk B (W.setCells g (ps.length * 19) r.arr.toList) (some ⟨g, 0, none⟩) c (r :: ps) (R :: Ps) := by
  have hk : Kp (fun j => j = g) W (W.setCells g (ps.length * 19) r.arr.toList) := setCells_kp _ _ _
  have hq : ∀ j, j = g → ¬ NS (some ⟨g, 0, none⟩) B j := fun j e hn => hn.2 (by rw [e])
  refine ⟨?_, hr.kp hk hq, h.ok.2.kp hk hq⟩
  have := setCells_row (c := c) (g := g) r.arr.toList (rowC ps) p.arr.toList W h.row rfl
  rw [rowC_length] at this
  exact this
theorem px_one (p : PX) : ∀ u ∈ p.arr.toList, u.oneCell' = true := by
  intro u hu
  have : u ∈ [Value.int .i8 p.kind, .int .i64 p.deep, .bool p.v.s, .slice p.v.a p.v.n p.v.c, .slice p.v.b p.v.m p.v.d, .bool p.bad, .bool p.opn,
  .bool p.A.s, .slice p.A.a p.A.n p.A.c, .slice p.A.b p.A.m p.A.d, .bool p.B.s, .slice p.B.a p.B.n p.B.c, .slice p.B.b p.B.m p.B.d,
  .bool p.C.s, .slice p.C.a p.C.n p.C.c, .slice p.C.b p.C.m p.C.d, .bool p.D.s, .slice p.D.a p.D.n p.D.c, .slice p.D.b p.D.m p.D.d] := hu
  simp only [List.mem_cons, List.not_mem_nil, or_false] at this
  rcases this with rfl | rfl | rfl | rfl | rfl | rfl | rfl | rfl | rfl | rfl | rfl | rfl | rfl | rfl | rfl | rfl | rfl | rfl | rfl <;> rfl
end
section
variable {w : World} {o : Oper} {A : Act} {Q : Exit → Act → World → Prop}
/-- a part more -/
theorem wp_appP {K : Act → World → Prop} {B : Nat} {sa : Option Addr} {n c : Nat} {ps : List PX} {Ps : List PV} {p : PX} {P : PV} (s y : Operand)
    (ho : o.op = .call { callee := .builtin .append, args := #[s, y], argTypes := #[110, 110] })
    (hS : Stk B w sa c ps Ps) (hnn : n = ps.length) (hs : A.eval s = .slice sa n c) (g d : Nat) (hx : A.eval y = .slice (some ⟨g, 0, none⟩) 1 d)
    (hp : Blk w g p.arr) (hP : PartOK (NS sa B) w p P) (hB : B ≤ w.heap.size) (hn : ps.length + 1 ≤ 1048576)
    (h : ∀ a' c' w', Stk B w' a' c' (p :: ps) (P :: Ps) → Kp (fun k => sa = some ⟨k, 0, none⟩) w w' → K (A.put o.dst (.slice a' (n + 1) c')) w') :
    o.wp Try.prog A w K Q := by
  subst hnn
  obtain ⟨a', c', w', hr, hown, hk, hf⟩ := rowL_append (w := w) 110 o.type Try.underlying110 infoP rfl (by decide) hS.row ⟨g, 0, none⟩ 1 d (news := p.arr.toList) rfl
    (fun j y hj => by
      have := hp.cell j
      rw [show (Addr.add ⟨g, 0, none⟩ j) = ⟨g, j, none⟩ by simp [Addr.add]; intro e; rw [e], this]; simpa using hj) (px_one p) hB (by omega) (by omega)
  unfold Oper.wp execOp
  simp only [ho, resolve, invoke, builtin, Sem.run_bind, Sem.run_pure, Result.andThen_ok, List.map_toArray, List.map_cons, List.map_nil, hs, hx, hr]
  refine h a' c' w' ⟨hown, ?_⟩ hk
  have h1 : Oks (fun g => NS sa B g ∧ NS a' B g) w (p :: ps) (P :: Ps) := by
    have hm : ∀ g, g < w.heap.size → NS sa B g → NS sa B g ∧ NS a' B g := fun g hg hN => ⟨hN, hN.1, fun e => by
      rcases hf with rfl | hf
      · exact hN.2 e
      · have := hf g e; omega⟩
    exact ⟨hP.mono hm, hS.ok.mono hm⟩
  exact (h1.kp hk (fun j e hN => hN.1.2 e)).mono fun g _ hN => hN.2
end
end Go.Proofs.Ytennilapmcgnbaa
