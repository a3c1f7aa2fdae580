/- MEMORY, 5: rows of fractions: append of a fraction. -/
import Derived.Test.YtgddnmmllchndaaGreatQm
import Derived.Laws.OwnMore
import Derived.Laws.AppendOwn
namespace Go.Proofs.YtgddnmmllchndaaGreat
set_option linter.unusedVariables false
set_option linter.unusedSimpArgs false
open Go.ChangeShapes Go.WideShapes Go.ChangeAt Go.RowKit Go.NatP

theorem infoQ : (Tryz.prog.info? 38).map (fun i => (i.zero, i.size, i.bytes)) = some (some (.agg #[.bool false, .slice none 0 0, .slice none 0 0]), 3, 56) := by kernel_rfl

section
variable {w : World} {o : Oper} {A : Act} {Q : Exit → Act → World → Prop}
/-- append at a row of elements of more cells -/
theorem rowN_append {E : TypeId} {z : Value} {by_ sz : Nat} (T ty : TypeId) (hT : Tryz.prog.underlying T = some (.slice E))
    (hinfo : (Tryz.prog.info? E).map (fun i => (i.zero, i.size, i.bytes)) = some (some z, sz, by_)) (hzs : z.cells.size = sz) (hs0 : 0 < sz) (hby : by_ ≤ 120)
    {B : Nat} {sa : Option Addr} {n c : Nat} {xs news : List Value} (hO : w.ownsRow B E sz (.slice sa n c) n xs) (ad : Addr) (k d : Nat) (hm : news.length = k * sz)
    (hy : ∀ j u, news[j]? = some u → w.cell? (ad.add j) = some u) (h1 : ∀ u ∈ news, u.oneCell' = true) (hB : B ≤ w.heap.size) (hn : n + k ≤ 1073741824) :
    ∃ a' c' w', (Builtin.append_ #[T, T] ty #[.slice sa n c, .slice (some ad) k d]).run Tryz.prog w = .ok (.slice a' (n + k) c') w' ∧
      w'.ownsRow B E sz (.slice a' (n + k) c') (n + k) (xs ++ news) ∧ Kp (fun k => sa = some ⟨k, 0, none⟩) w w' ∧ (a' = sa ∨ ∀ g, a' = some ⟨g, 0, none⟩ → w.heap.size ≤ g) := by
  obtain ⟨i0, hi, hz, hz1, hz2⟩ := info_parts hinfo
  have hbytes : (n + k) * by_ ≤ 140737488355328 := by
    have : (n + k) * by_ ≤ 1073741824 * 120 := Nat.mul_le_mul hn hby
    omega
  have slf : ∀ v' (w' : World), w'.ownsRow B E sz v' (n + k) (xs ++ news) → ∃ a' c', v' = .slice a' (n + k) c' := by
    intro v' w' hown
    rcases hown.2 with ⟨h1, h2⟩ | ⟨g, cap, cur, h1, _⟩
    · exact ⟨none, 0, by rw [h1, h2]⟩
    · exact ⟨_, _, h1⟩
  cases sa with
  | none =>
    have hn0 : n = 0 ∧ c = 0 ∧ xs = [] := by
      rcases hO.2 with ⟨h, h2⟩ | ⟨g, cap, cur, h, _⟩
      · simp only [Value.slice.injEq, true_and] at h
        obtain ⟨h3, h4⟩ := h
        have h5 := hO.1
        rw [h3] at h5
        exact ⟨h3, h4, List.length_eq_zero_iff.1 (by omega)⟩
      · simp at h
    obtain ⟨rfl, rfl, rfl⟩ := hn0
    obtain ⟨v', w', hr, hown, hg, _⟩ := run_append_own (P := Tryz.prog) w w.heap.size T ty E i0 z sz by_ hT hi hz hz1 hz2 hzs hs0
      (.slice none 0 0) 0 [] (World.ownsRow_nil w _ E sz) ad k d news hm hy h1 (by unfold maxLen; omega) hbytes (Nat.le_refl _)
    have hown' : w'.ownsRow B E sz v' (0 + k) ([] ++ news) := by
      refine ⟨hown.1, ?_⟩
      rcases hown.2 with h2 | ⟨g, cap, cur, hv, hb, r⟩
      · exact .inl h2
      · exact .inr ⟨g, cap, cur, hv, by omega, r⟩
    obtain ⟨a', c', rfl⟩ := slf v' w' hown'
    refine ⟨a', c', w', hr, hown', ⟨hg.os, hg.tape, hg.output, hg.size, fun j hj _ => hg.block j hj (by simp [Value.ownBlock])⟩, .inr fun g e => ?_⟩
    subst e
    rcases hown.2 with ⟨h, _⟩ | ⟨g', cap, cur, h, h2, _⟩
    · simp at h
    · simp only [Value.slice.injEq, Option.some.injEq, Addr.mk.injEq, and_true] at h
      obtain ⟨rfl, _⟩ := h; exact h2
  | some ad' =>
    obtain ⟨g, rfl⟩ : ∃ g, ad' = ⟨g, 0, none⟩ := by
      rcases hO.2 with ⟨h, _⟩ | ⟨g, cap, cur, h, _⟩
      · simp at h
      · simp only [Value.slice.injEq, Option.some.injEq] at h
        exact ⟨g, h.1⟩
    by_cases hfit : n + k ≤ c
    · obtain ⟨w', hr, hown, hg⟩ := run_append_fits (P := Tryz.prog) w B T ty E i0 sz hT hi hz1 g n c xs hO ad k d news hm hy h1 hfit
      refine ⟨_, _, w', hr, hown, ⟨hg.os, hg.tape, hg.output, hg.size, fun j hj hp => hg.block j hj fun e => ?_⟩, .inl rfl⟩
      cases e; exact hp rfl
    · obtain ⟨v', w', hr, hown, hg, _⟩ := run_append_own (P := Tryz.prog) w B T ty E i0 z sz by_ hT hi hz hz1 hz2 hzs hs0
        (.slice (some ⟨g, 0, none⟩) n c) n xs hO ad k d news hm hy h1 (by unfold maxLen; omega) hbytes hB
      have hr2 := run_append_grow (P := Tryz.prog) w T ty E i0 z hT hi hz ⟨g, 0, none⟩ n c xs (by rw [hz1]; exact hO.1) (hO.cells (g := g) rfl) ad k d news (by rw [hz1]; exact hm) hy (by omega) (by omega)
        (growslice_fits (by omega) (by rw [hz2]; exact hbytes))
      obtain ⟨a', c', rfl⟩ := slf v' w' hown
      rw [hr] at hr2
      injection hr2 with h3 h4
      injection h3 with h5
      refine ⟨a', c', w', hr, hown, ⟨hg.os, hg.tape, hg.output, hg.size, fun j hj hp => hg.block j hj fun e => ?_⟩, .inr fun g' e => ?_⟩
      · cases e; exact hp rfl
      · rw [h5] at e
        cases e
        exact Nat.le_refl _
theorem wp_appQ {K : Act → World → Prop} {B : Nat} {sa : Option Addr} {n c : Nat} {xs : List Value} {u v x : Value} (s y : Operand)
    (ho : o.op = .call { callee := .builtin .append, args := #[s, y], argTypes := #[32, 32] })
    (hs : A.eval s = .slice sa n c) (hO : w.ownsRow B 38 3 (.slice sa n c) n xs) (g d : Nat) (hx : A.eval y = .slice (some ⟨g, 0, none⟩) 1 d)
    (hu : u.oneCell' = true) (hv : v.oneCell' = true) (hxc : x.oneCell' = true) (hn3 : Blk w g #[u, v, x]) (hB : B ≤ w.heap.size) (hn : n + 1 ≤ 1073741824)
    (h : ∀ a' c' w', w'.ownsRow B 38 3 (.slice a' (n + 1) c') (n + 1) (xs ++ [u, v, x]) → Kp (fun k => sa = some ⟨k, 0, none⟩) w w' → (a' = sa ∨ ∀ g, a' = some ⟨g, 0, none⟩ → w.heap.size ≤ g) → K (A.put o.dst (.slice a' (n + 1) c')) w') :
    o.wp Tryz.prog A w K Q := by
  obtain ⟨a', c', w', hr, hown, hk, hf⟩ := rowN_append (w := w) 32 o.type Tryz.underlying32 infoQ rfl (by decide) (by decide) hO ⟨g, 0, none⟩ 1 d (news := [u, v, x]) rfl
    (fun j y hj => by
      have := hn3.cell j
      rw [show (Addr.add ⟨g, 0, none⟩ j) = ⟨g, j, none⟩ by simp [Addr.add]; intro e; rw [e], this]; simpa using hj) (fun y hy => by
      simp only [List.mem_cons, List.not_mem_nil, or_false] at hy
      rcases hy with rfl | rfl | rfl <;> assumption) hB hn
  unfold Oper.wp execOp
  simp only [ho, resolve, invoke, builtin, Sem.run_bind, Sem.run_pure, Result.andThen_ok, List.map_toArray, List.map_cons, List.map_nil, hs, hx, hr]
  exact h a' c' w' hown hk hf
end
end Go.Proofs.YtgddnmmllchndaaGreat
