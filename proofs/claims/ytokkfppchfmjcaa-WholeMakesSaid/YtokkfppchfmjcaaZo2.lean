/- MEMORY, 4: the rows of the reference's extended common divisor. -/
import Derived.Test.YtokkfppchfmjcaaZo
import Derived.Test.YtokkfppchfmjcaaPr
import Derived.Laws.OwnMore
import Derived.Laws.AppendOwn
namespace Go.Proofs.Ytokkfppchfmjcaa
set_option linter.unusedVariables false
open Go.ChangeShapes Go.WideShapes Go.ChangeAt Go.RowKit Go.NatP

/-- the rows of the reference: k of them, and two more that are known cell by cell -/
def Rows2 (B : Nat) (W : World) (g k cap : Nat) (cs : List Value) : Prop := cs.length = 12 ∧ ∃ pre, W.ownsRow B 118 6 (.slice (some ⟨g, 0, none⟩) (k + 2) cap) (k + 2) (pre ++ cs)
theorem Rows2.cell0 {B : Nat} {W : World} {g k cap : Nat} {cs : List Value} (h : Rows2 B W g k cap cs) (j : Nat) (hj : j < 12) : W.cell? ⟨g, k * 6 + j, none⟩ = cs[j]? := by
  obtain ⟨hl, pre, h⟩ := h
  have h0 := h.1
  rw [List.length_append, hl] at h0
  rw [World.ownsRow.cellAt h _ (by omega), List.getElem?_append_right (by omega), show k * 6 + j - pre.length = j by omega]
theorem Rows2.cell1 {B : Nat} {W : World} {g k cap : Nat} {cs : List Value} (h : Rows2 B W g k cap cs) (j : Nat) (hj : j < 6) : W.cell? ⟨g, (k + 1) * 6 + j, none⟩ = cs[6 + j]? := by
  rw [show (k + 1) * 6 + j = k * 6 + (6 + j) by omega]; exact h.cell0 _ (by omega)
theorem Rows2.lt {B : Nat} {W : World} {g k cap : Nat} {cs : List Value} (h : Rows2 B W g k cap cs) : B ≤ g ∧ g < W.heap.size ∧ k + 2 ≤ cap ∧ cap ≤ 9223372036854775807 := by
  obtain ⟨_, pre, _, h⟩ := h
  rcases h with ⟨h, _⟩ | ⟨g', cap', cur, h1, h2, h3, h4, h5, _⟩
  · cases h
  · cases h1
    exact ⟨h2, (Array.getElem?_eq_some_iff.1 h3).1, h4, by unfold maxLen at h5; omega⟩
theorem Rows2.next {B : Nat} {W W' : World} {g k cap : Nat} {cs : List Value} (h : Rows2 B W g k cap cs) (hB : Below W.heap.size W W') : Rows2 B W' g k cap cs := by
  have hlt := h.lt
  obtain ⟨hl, pre, h0, h⟩ := h
  refine ⟨hl, pre, h0, ?_⟩
  rcases h with ⟨h, _⟩ | ⟨g', cap', cur, h1, h2, h3, h4⟩
  · cases h
  · cases h1
    exact .inr ⟨g, cap, cur, rfl, h2, (hB.block g hlt.2.1).trans h3, h4⟩
theorem Rows2.kp {B : Nat} {W W' : World} {g k cap : Nat} {cs : List Value} {p : Nat → Prop} (h : Rows2 B W g k cap cs) (hK : Kp p W W') (hp : ¬ p g) : Rows2 B W' g k cap cs := by
  have hlt := h.lt
  obtain ⟨hl, pre, h0, h⟩ := h
  refine ⟨hl, pre, h0, ?_⟩
  rcases h with ⟨h, _⟩ | ⟨g', cap', cur, h1, h2, h3, h4⟩
  · cases h
  · cases h1
    exact .inr ⟨g, cap, cur, rfl, h2, (hK.block g hlt.2.1 hp).trans h3, h4⟩
theorem Rows2.new {W : World} {B : Nat} {cs : List Value} (hB : B ≤ W.heap.size) (hl : cs.length = 12) : Rows2 B (W.alloc (.cells cs.toArray 118)) W.heap.size 0 2 cs :=
  ⟨hl, [], by simp [hl], .inr ⟨W.heap.size, 2, cs.toArray, rfl, hB, heap_alloc_new W _, by omega, by decide, by simp [hl], by simp [List.take_of_length_le, hl]⟩⟩

theorem infoRow : (Try.prog.info? 118).map (fun i => (i.zero, i.size, i.bytes)) = some (some (.agg #[.bool false, .slice none 0 0, .bool false, .slice none 0 0, .bool false, .slice none 0 0]), 6, 96) := by kernel_rfl
theorem rows_append {w : World} {B g k cap : Nat} {cs news : List Value} (ty : TypeId) (h : Rows2 B w g k cap cs) {g2 d : Nat} (hn : Blk w g2 news.toArray) (hl : news.length = 6) (h1 : ∀ u ∈ news, u.oneCell' = true) (hB : B ≤ w.heap.size) (hk : k ≤ 1000000000) :
    ∃ g' cap' w', (Builtin.append_ #[119, 119] ty #[.slice (some ⟨g, 0, none⟩) (k + 2) cap, .slice (some ⟨g2, 0, none⟩) 1 d]).run Try.prog w = .ok (.slice (some ⟨g', 0, none⟩) (k + 3) cap') w' ∧
      Rows2 B w' g' (k + 1) cap' (cs.drop 6 ++ news) ∧ Kp (fun b => b = g) w w' ∧ (g' = g ∨ w.heap.size ≤ g') := by
  obtain ⟨hcl, pre, hO⟩ := h
  obtain ⟨i0, hi, hz, hz1, hz2⟩ := info_parts infoRow
  have hy : ∀ j u, news[j]? = some u → w.cell? ((⟨g2, 0, none⟩ : Addr).add j) = some u := fun j u hu => by
    have := hn.cell j
    rw [show (Addr.add ⟨g2, 0, none⟩ j) = ⟨g2, j, none⟩ by simp [Addr.add]; intro e; rw [e], this]; simpa using hu
  have split : pre ++ cs ++ news = (pre ++ cs.take 6) ++ (cs.drop 6 ++ news) := by
    rw [List.append_assoc pre (cs.take 6), ← List.append_assoc (cs.take 6), List.take_append_drop, List.append_assoc]
  have two : ∀ {g' cap' : Nat} {w' : World}, w'.ownsRow B 118 6 (.slice (some ⟨g', 0, none⟩) (k + 2 + 1) cap') (k + 2 + 1) (pre ++ cs ++ news) → Rows2 B w' g' (k + 1) cap' (cs.drop 6 ++ news) := fun h => by
    rw [split] at h
    exact ⟨by simp [hcl, hl], _, h⟩
  by_cases hfit : k + 2 + 1 ≤ cap
  · obtain ⟨w', hr, hown, hg⟩ := run_append_fits (P := Try.prog) w B 119 ty 118 i0 6 Try.underlying119 hi hz1 g (k + 2) cap (pre ++ cs) hO ⟨g2, 0, none⟩ 1 d news (by omega) hy h1 hfit
    refine ⟨g, cap, w', hr, two hown, ⟨hg.os, hg.tape, hg.output, hg.size, fun j hj hp => hg.block j hj fun e => ?_⟩, .inl rfl⟩
    cases e; exact hp rfl
  · obtain ⟨v', w', hr, hown, hg, _⟩ := run_append_own (P := Try.prog) w B 119 ty 118 i0 _ 6 96 Try.underlying119 hi hz hz1 hz2 (by kernel_rfl) (by decide)
      (.slice (some ⟨g, 0, none⟩) (k + 2) cap) (k + 2) (pre ++ cs) hO ⟨g2, 0, none⟩ 1 d news (by omega) hy h1 (by unfold maxLen; omega) (by omega) hB
    have hr2 := run_append_grow (P := Try.prog) w 119 ty 118 i0 _ Try.underlying119 hi hz ⟨g, 0, none⟩ (k + 2) cap (pre ++ cs) (by rw [hz1]; exact hO.1) (hO.cells (g := g) rfl) ⟨g2, 0, none⟩ 1 d news (by rw [hz1]; omega) hy (by omega) (by omega)
      (growslice_fits (by omega) (by rw [hz2]; omega))
    rcases hown.2 with ⟨h1, h2⟩ | ⟨g', cap', cur, h1, h2, h3⟩
    · omega
    · subst h1
      rw [hr] at hr2
      injection hr2 with h3 h4
      injection h3 with h5
      have hkF : Kp (fun _ => False) w w' := by rw [h4]; exact ((Kp.refl _ w).drew).alloc _
      refine ⟨g', cap', w', hr, two hown, hkF.mono (fun _ _ h => h.elim), .inr ?_⟩
      cases h5
      exact Nat.le_refl _
theorem wp_rows {w : World} {o : Oper} {A : Act} {K : Act → World → Prop} {Q : Exit → Act → World → Prop} {B g k cap : Nat} {cs news : List Value} (s x : Operand)
    (ho : o.op = .call { callee := .builtin .append, args := #[s, x], argTypes := #[119, 119] }) (hs : A.eval s = .slice (some ⟨g, 0, none⟩) (k + 2) cap) (h : Rows2 B w g k cap cs) {g2 d : Nat} (hx : A.eval x = .slice (some ⟨g2, 0, none⟩) 1 d)
    (hn : Blk w g2 news.toArray) (hl : news.length = 6) (h1 : ∀ u ∈ news, u.oneCell' = true) (hB : B ≤ w.heap.size) (hk : k ≤ 1000000000)
    (hK : ∀ g' cap' w', Rows2 B w' g' (k + 1) cap' (cs.drop 6 ++ news) → Kp (fun b => b = g) w w' → (g' = g ∨ w.heap.size ≤ g') → K (A.put o.dst (.slice (some ⟨g', 0, none⟩) (k + 3) cap')) w') : o.wp Try.prog A w K Q := by
  obtain ⟨g', cap', w', hr, h2, h3, h4⟩ := rows_append o.type h (d := d) hn hl h1 hB hk
  unfold Oper.wp execOp
  simp only [ho, resolve, invoke, builtin, Sem.run_bind, Sem.run_pure, Result.andThen_ok, List.map_toArray, List.map_cons, List.map_nil, hs, hx, hr]
  exact hK g' cap' w' h2 h3 h4
end Go.Proofs.Ytokkfppchfmjcaa
