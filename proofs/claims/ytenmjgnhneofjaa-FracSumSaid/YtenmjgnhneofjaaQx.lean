/- WALKS OF FRACTIONS, 19: the first of a list, each cut. -/
import Derived.Test.YtenmjgnhneofjaaQv
import Derived.Test.YtenmjgnhneofjaaQw
namespace Go.Proofs.Ytenmjgnhneofjaa
set_option linter.unusedVariables false
set_option linter.unusedSimpArgs false
open Go.ChangeShapes Go.WideShapes Go.ChangeAt Go.RowKit Go.NatP

section
variable {w : World} {ops : Array Oper} {rest : List Oper} {o : Oper} {A : Act} {Q : Exit → Act → World → Prop}
theorem wpList_appQ {B : Nat} {sa : Option Addr} {n c : Nat} {xs : List Value} {u v x : Value} (hgd : o.guard = none) (s y : Operand)
    (ho : o.op = .call { callee := .builtin .append, args := #[s, y], argTypes := #[39, 39] })
    (hs : A.eval s = .slice sa n c) (hO : w.ownsRow B 32 3 (.slice sa n c) n xs) (g d : Nat) (hx : A.eval y = .slice (some ⟨g, 0, none⟩) 1 d)
    (hu : u.oneCell' = true) (hv : v.oneCell' = true) (hxc : x.oneCell' = true) (hn3 : Blk w g #[u, v, x]) (hB : B ≤ w.heap.size) (hn : n + 1 ≤ 1073741824)
    (h : ∀ a' c' w', w'.ownsRow B 32 3 (.slice a' (n + 1) c') (n + 1) (xs ++ [u, v, x]) → Kp (fun k => sa = some ⟨k, 0, none⟩) w w' → (a' = sa ∨ ∀ g, a' = some ⟨g, 0, none⟩ → w.heap.size ≤ g) → wpList Try.prog ops Q rest (A.put o.dst (.slice a' (n + 1) c')) w') :
    wpList Try.prog ops Q (o :: rest) A w :=
  wpList_plain hgd fun K hK => wp_appQ s y ho hs hO g d hx hu hv hxc hn3 hB hn fun a' c' w' h1 h2 h3 => hK _ _ (h a' c' w' h1 h2 h3)
end
theorem ownsRow_cases3 {w : World} {B : Nat} {E : TypeId} {sz : Nat} {sa : Option Addr} {n c : Nat} {xs : List Value} (h : w.ownsRow B E sz (.slice sa n c) n xs) (hs : 0 < sz) :
    (sa = none ∧ n = 0 ∧ c = 0 ∧ xs = []) ∨ ∃ g, sa = some ⟨g, 0, none⟩ ∧ B ≤ g ∧ g < w.heap.size ∧ n ≤ c ∧ c ≤ maxLen := by
  have h0 := h.1
  rcases h.2 with ⟨h1, h2⟩ | ⟨g, cap, cur, h1, h2, h3, h4, h5, _⟩
  · simp only [Value.slice.injEq] at h1
    obtain ⟨e1, e2, e3⟩ := h1
    rw [e2] at h0
    exact .inl ⟨e1, e2, e3, List.length_eq_zero_iff.1 (by omega)⟩
  · simp only [Value.slice.injEq, true_and] at h1
    obtain ⟨e1, e2⟩ := h1
    subst e2
    exact .inr ⟨g, e1, h2, (Array.getElem?_eq_some_iff.1 h3).1, h4, h5⟩
theorem ownsRow_block3 {w w' : World} {B : Nat} {E : TypeId} {sz : Nat} {sa : Option Addr} {n c : Nat} {xs : List Value} (h : w.ownsRow B E sz (.slice sa n c) n xs) (hk : ∀ g, sa = some ⟨g, 0, none⟩ → w'.heap[g]? = w.heap[g]?) : w'.ownsRow B E sz (.slice sa n c) n xs := by
  refine ⟨h.1, ?_⟩
  rcases h.2 with h1 | ⟨g, cap, cur, h1, h2, h3, h4⟩
  · exact .inl h1
  · refine .inr ⟨g, cap, cur, h1, h2, ?_, h4⟩
    simp only [Value.slice.injEq] at h1
    rw [hk g h1.1]; exact h3
/-- a fraction that was cut: its lists lay in the old world, longer, and can be read -/
def CutOK (w W : World) (y : QA) : Prop :=
  (∃ n l, y.n ≤ n ∧ Rd w y.a n y.c l) ∧ (∃ m k, y.m ≤ m ∧ Rd w y.b m y.d k) ∧ Rd W y.a y.n y.c y.l ∧ Rd W y.b y.m y.d y.k ∧ y.n ≤ 40 ∧ y.m ≤ 40
theorem CutOK.kp {w W W' : World} {y : QA} {p : Nat → Prop} (h : CutOK w W y) (hk : Kp p W W') (hp : ∀ b, b < w.heap.size → ¬ p b) : CutOK w W' y := by
  obtain ⟨⟨n, l, h1, h2⟩, ⟨m, k, h3, h4⟩, h5, h6, h7⟩ := h
  exact ⟨⟨n, l, h1, h2⟩, ⟨m, k, h3, h4⟩, h2.kp_old h1 h5 hk hp, h4.kp_old h3 h6 hk hp, h7⟩
theorem CutOK.below {w W W' : World} {y : QA} (h : CutOK w W y) (hB : Below W.heap.size W W') : CutOK w W' y := by
  obtain ⟨h1, h2, h3, h4, h5⟩ := h
  exact ⟨h1, h2, h3.below hB, h4.below hB, h5⟩
def RetCutAll (w : World) (m : Nat) (e : Ending) (w' : World) : Prop :=
  ∃ (a : Option Addr) (c : Nat) (ys : List QA), e = .returned (.slice a m c) ∧ ys.length = m ∧ w'.ownsRow w.heap.size 32 3 (.slice a m c) m (ys.flatMap QA.cs) ∧ (∀ y ∈ ys, CutOK w w' y) ∧ Below w.heap.size w w'

set_option maxRecDepth 100000 in
set_option maxHeartbeats 4000000 in
theorem cutall {w : World} {sa : Option Addr} {n c : Nat} {xs : List QA} (hx : QRow w sa n xs) (hn : n ≤ c) (hc : c ≤ maxLen) :
    Calls Try.prog 23 #[.slice sa n c] w (RetCutAll w (min n 30)) := by
  have HX := hid hx
  clear hx
  unfold maxLen at hc
  obtain ⟨m, hm⟩ : ∃ m, min n 30 = m := ⟨_, rfl⟩
  rw [hm]
  go_enter Try.func23, Try.ntmps23
  go_wp2
  go_loopw [3, 4] (fun v i wr => ∃ (k lc : Nat) (la : Option Addr) (ys : List QA), k ≤ n ∧ k ≤ 30 ∧ v = .slice la k lc ∧ i = .int .i64 k ∧ ys.length = k ∧ wr.ownsRow w.heap.size 32 3 (.slice la k lc) k (ys.flatMap QA.cs) ∧ Hid (∀ y ∈ ys, CutOK w wr y) ∧ Below w.heap.size w wr) (fun _ i _ => 30 - (intOf i).toNat)
  case atStart => exact ⟨0, 0, none, [], by omega, by omega, rfl, rfl, rfl, World.ownsRow_nil _ _ _ _, (fun y h => by cases h), Below.refl _ _⟩
  case round =>
    obtain ⟨k, lc, la, ys, hk, hk3, rfl, rfl, hl, hrow, hY, hB⟩ := hrel
    have hsz := hB.size
    by_cases hlt : k < n
    · by_cases h30 : k < 30
      · obtain ⟨r1, r2, g, o, rfl, c0, c1, c2⟩ := HX.out k hlt
        have hgl : g < w.heap.size := World.block_lt_of_cell? _ _ c1
        have c0 := (hB.cell (p := ⟨g, o + k * 3, none⟩) hgl).trans c0
        have c1 := (hB.cell (p := ⟨g, o + k * 3 + 1, none⟩) hgl).trans c1
        have c2 := (hB.cell (p := ⟨g, o + k * 3 + 2, none⟩) hgl).trans c2
        generalize xs.getD k QA.o = x at *
        obtain ⟨xs1, xa, xn, xc, xl, xb, xm, xd, xk⟩ := x
        simp only at *
        have R1 := hid r1
        have R2 := hid r2
        have r1 := r1.below hB
        have r2 := r2.below hB
        have hrl := hid hrow
        clear hrow
        go_wp2_with fail
        refine (fcut 40 (by omega) r1 r2).mono ?_
        rintro e w1 ⟨n', l1, m', l2, rfl, hn', hm', hln, hlm, hR, hR', hB1⟩
        have hrow := hrl.out
        have hrow1 := ownsRow_block3 hrow (w' := w1) (fun g' e => hB1.block g' (by rcases ownsRow_cases3 hrow (by decide) with ⟨h1, _⟩ | ⟨g2, h1, _, h2, _⟩ <;> rw [h1] at e <;> cases e; exact h2))
        have hla := hid (fun j (hj : j < w.heap.size) (e : la = some ⟨j, 0, none⟩) => (by
          rcases ownsRow_cases3 hrow (by decide) with ⟨h1, _⟩ | ⟨g2, h1, h2, _⟩
          · rw [h1] at e; cases e
          · rw [h1] at e; cases e; omega : False))
        have hs1 := hB1.size
        clear hrow
        go_wp2_with (at_builtin; refine wpList_appQ (u := .bool xs1) (v := .slice xa n' xc) (x := .slice xb m' xd) rfl _ _ rfl rfl (ownsRow_block3 hrow1 (w' := w1.alloc _) (fun g' e => Below.heap_alloc _ _ _ (by rcases ownsRow_cases3 hrow1 (by decide) with ⟨h1, _⟩ | ⟨g2, h1, _, h2, _⟩ <;> rw [h1] at e <;> cases e; exact h2))) _ 1 rfl rfl rfl rfl (blk_new _ _ _) (by simp; omega) (by omega) ?_; intro a2 c2' w2 hO2 hK2 _)
        have hBa := (Below.refl w1.heap.size w1).alloc (Nat.le_refl _) (.cells #[.bool xs1, .slice xa n' xc, .slice xb m' xd] 32)
        go_roundw
        case rel => exact ⟨k + 1, c2', a2, ys ++ [⟨xs1, xa, n', xc, l1, xb, m', xd, l2⟩], by omega, by omega, rfl, by go_num, by simp [hl], by rw [List.flatMap_append]; exact hO2, (fun y hy => by
            have hp : ∀ b, b < w.heap.size → ¬ (la = some ⟨b, 0, none⟩) := fun b hb e => hla.out b hb e
            refine CutOK.kp (W := w1.alloc (.cells #[.bool xs1, .slice xa n' xc, .slice xb m' xd] 32)) ?_ hK2 hp
            refine CutOK.below (W := w1) ?_ hBa
            rcases List.mem_append.1 hy with hy | hy
            · exact (hY.out y hy).below hB1
            · rw [List.mem_singleton.1 hy]
              exact ⟨⟨xn, xl, hln, R1.out⟩, ⟨xm, xk, hlm, R2.out⟩, hR, hR', hn', hm'⟩), ((hB.next hB1).alloc (by omega) _).kp hK2 (by simp; omega) hla.out⟩
        case measure => simp [intOf]; omega
      · obtain rfl : k = 30 := by omega
        obtain rfl : m = 30 := by omega
        go_wp2
        go_ret
        exact ⟨la, lc, ys, rfl, hl, hrow, hY.out, hB⟩
    · obtain rfl : k = n := by omega
      obtain rfl : m = k := by omega
      go_wp2
      go_ret
      exact ⟨la, lc, ys, rfl, hl, hrow, hY.out, hB⟩

end Go.Proofs.Ytenmjgnhneofjaa
