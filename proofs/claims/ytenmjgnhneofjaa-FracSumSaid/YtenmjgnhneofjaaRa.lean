/- WALKS OF FRACTIONS, 22: KeptAll. -/
import Derived.Test.YtenmjgnhneofjaaQz
namespace Go.Proofs.Ytenmjgnhneofjaa
set_option linter.unusedVariables false
set_option linter.unusedSimpArgs false
open Go.ChangeShapes Go.WideShapes Go.ChangeAt Go.RowKit Go.NatP

theorem mark_get (gs : List Nat) : ∀ i, i < gs.length → (gs.flatMap markQ)[i * 3 + 1]? = some (.slice none 0 0) ∧ (gs.flatMap markQ)[i * 3 + 2]? = some (.slice (some ⟨gs.getD i 0, 0, none⟩) 1 1) := by
  induction gs with
  | nil => intro i h; exact absurd h (Nat.not_lt_zero _)
  | cons x xs ih =>
    intro i h
    rcases i with _ | i
    · exact ⟨rfl, rfl⟩
    · have := ih i (by simpa using h)
      rw [show (i + 1) * 3 = i * 3 + 1 + 1 + 1 by omega, List.flatMap_cons]
      exact this
theorem flat_len (zs : List QA) : (zs.flatMap QA.cs).length = zs.length * 3 := by
  induction zs with
  | nil => rfl
  | cons x xs ih => rw [List.flatMap_cons, List.length_append, ih, List.length_cons]; show 3 + _ = _; omega
set_option maxRecDepth 100000 in
set_option maxHeartbeats 4000000 in
theorem keptall {w : World} {B : Nat} {a sa : Option Addr} {n c d : Nat} {zs ys : List QA} {gs : List Nat} (hr : w.ownsRow B 32 3 (.slice a (n + 5) c) (n + 5) (zs.flatMap QA.cs ++ gs.flatMap markQ)) (hzl : zs.length = n) (hgl : gs.length = 5)
    (hZ : ∀ j, j < n → LentOK B w a (zs.getD j QA.o) (ys.getD j QA.o)) (hM : ∀ j, j < 5 → MarkOK B w a (gs.getD j 0) j) (hy : QRow w sa n ys) (hn : n ≤ 1000) (hd : n ≤ d) :
    Calls Try.prog 27 #[.slice a n c, .slice sa n d] w (fun e w' => e = .returned (.bool true) ∧ Below w.heap.size w w') := by
  obtain ⟨g, rfl, hg1, hg2, hc1, hc2⟩ : ∃ g, a = some ⟨g, 0, none⟩ ∧ B ≤ g ∧ g < w.heap.size ∧ n + 5 ≤ c ∧ c ≤ maxLen := by
    rcases ownsRow_cases3 hr (by decide) with ⟨_, h, _⟩ | ⟨g, h⟩
    · omega
    · exact ⟨g, h⟩
  unfold maxLen at hc2
  have HC := hid (show ∀ W : World, Below w.heap.size w W → ∀ i, i < n → W.cell? ⟨g, i * 3, none⟩ = some (.bool (zs.getD i QA.o).s) ∧ W.cell? ⟨g, i * 3 + 1, none⟩ = some (.slice (zs.getD i QA.o).a (zs.getD i QA.o).n (zs.getD i QA.o).c) ∧ W.cell? ⟨g, i * 3 + 2, none⟩ = some (.slice (zs.getD i QA.o).b (zs.getD i QA.o).m (zs.getD i QA.o).d) from by
    intro W hB i hi
    obtain ⟨e0, e1, e2⟩ := flat_get zs i (by omega)
    have hfl := flat_len zs
    refine ⟨?_, ?_, ?_⟩
    · rw [hB.cell (p := ⟨g, i * 3, none⟩) hg2, World.ownsRow.cellAt hr _ (by omega), List.getElem?_append_left (by omega), e0]
    · rw [hB.cell (p := ⟨g, i * 3 + 1, none⟩) hg2, World.ownsRow.cellAt hr _ (by omega), List.getElem?_append_left (by omega), e1]
    · rw [hB.cell (p := ⟨g, i * 3 + 2, none⟩) hg2, World.ownsRow.cellAt hr _ (by omega), List.getElem?_append_left (by omega), e2])
  have HM := hid (show ∀ W : World, Below w.heap.size w W → ∀ i, i < 5 → W.cell? ⟨g, (n + i) * 3 + 1, none⟩ = some (.slice none 0 0) ∧ W.cell? ⟨g, (n + i) * 3 + 2, none⟩ = some (.slice (some ⟨gs.getD i 0, 0, none⟩) 1 1) ∧ W.cell? ⟨gs.getD i 0, 0, none⟩ = some (.int .u32 ((9000 + i : Nat) : Int)) from by
    intro W hB i hi
    obtain ⟨e1, e2⟩ := mark_get gs i (by omega)
    have hfl := flat_len zs
    refine ⟨?_, ?_, ((hM i hi).below hB).1⟩
    · rw [hB.cell (p := ⟨g, (n + i) * 3 + 1, none⟩) hg2, World.ownsRow.cellAt hr _ (by omega), List.getElem?_append_right (by omega), show (n + i) * 3 + 1 - (zs.flatMap QA.cs).length = i * 3 + 1 by omega, e1]
    · rw [hB.cell (p := ⟨g, (n + i) * 3 + 2, none⟩) hg2, World.ownsRow.cellAt hr _ (by omega), List.getElem?_append_right (by omega), show (n + i) * 3 + 2 - (zs.flatMap QA.cs).length = i * 3 + 2 by omega, e2])
  have HZ := hid hZ
  have HY := hid hy
  clear hr hZ hM hy hzl hgl
  have hNN : (n == n) = true := beq_self_eq_true _
  go_enter Try.func27, Try.ntmps27
  go_wp2
  go_loopw [6] (fun i wr => ∃ (k : Nat), k ≤ n + 5 ∧ i = .int .i64 k ∧ Below w.heap.size w wr) (fun i _ => n + 5 - (intOf i).toNat)
  case atStart => exact ⟨0, by omega, rfl, Below.refl _ _⟩
  case round =>
    obtain ⟨k, hk, rfl, hB⟩ := hrel
    by_cases hlt : k < n
    · obtain ⟨c0, c1, c2⟩ := HC.out wr hB k hlt
      obtain ⟨t1, t2, g', o', rfl, d0, d1, d2⟩ := (HY.out.below hB) k hlt
      have hz := (HZ.out k hlt).below hB
      generalize zs.getD k QA.o = x at *
      generalize ys.getD k QA.o = y at *
      obtain ⟨⟨e0, e1, e2, e3, e4⟩, L, M, _, _⟩ := hz
      obtain ⟨xs1, xa, xn, xc, xl, xb, xm, xd, xk⟩ := x
      obtain ⟨ys1, ya, yn, yc, yl, yb, ym, yd, yk⟩ := y
      simp only at *
      subst e0 e1 e2 e3 e4
      have hbN : Below wr.heap.size wr wr := Below.refl _ _
      go_wp2_with fail
      go_region_held3 (fun w' => w'.cell? ⟨g, k * 3, none⟩ = some (.bool xs1) ∧ w'.cell? ⟨g, k * 3 + 1, none⟩ = some (.slice xa xn xc) ∧ w'.cell? ⟨g, k * 3 + 2, none⟩ = some (.slice xb xm xd) ∧ w'.cell? ⟨g', o' + k * 3, none⟩ = some (.bool xs1) ∧ w'.cell? ⟨g', o' + k * 3 + 1, none⟩ = some (.slice ya xn yc) ∧ w'.cell? ⟨g', o' + k * 3 + 2, none⟩ = some (.slice yb xm yd))
        (first | exact ⟨c0, c1, c2, d0, d1, d2⟩ | go_keep)
        (first
          | (go_at_call 34; ((with_reducible refine (fkept (L.below (by first | exact Below.refl _ _ | exact (Below.refl _ _).drew | exact (Below.refl _ _).alloc (Nat.le_refl _) _ | exact ((Below.refl _ _).alloc (Nat.le_refl _) _).drew | exact (Below.refl _ _).drew.alloc (Nat.le_refl _) _ | exact ((Below.refl _ _).alloc (Nat.le_refl _) _).alloc (by simp) _ | exact (((Below.refl _ _).alloc (Nat.le_refl _) _).alloc (by simp) _).drew)) (M.below (by first | exact Below.refl _ _ | exact (Below.refl _ _).drew | exact (Below.refl _ _).alloc (Nat.le_refl _) _ | exact ((Below.refl _ _).alloc (Nat.le_refl _) _).drew | exact (Below.refl _ _).drew.alloc (Nat.le_refl _) _ | exact ((Below.refl _ _).alloc (Nat.le_refl _) _).alloc (by simp) _ | exact (((Below.refl _ _).alloc (Nat.le_refl _) _).alloc (by simp) _).drew)) (t1.below (by first | exact Below.refl _ _ | exact (Below.refl _ _).drew | exact (Below.refl _ _).alloc (Nat.le_refl _) _ | exact ((Below.refl _ _).alloc (Nat.le_refl _) _).drew | exact (Below.refl _ _).drew.alloc (Nat.le_refl _) _ | exact ((Below.refl _ _).alloc (Nat.le_refl _) _).alloc (by simp) _ | exact (((Below.refl _ _).alloc (Nat.le_refl _) _).alloc (by simp) _).drew)) (t2.below (by first | exact Below.refl _ _ | exact (Below.refl _ _).drew | exact (Below.refl _ _).alloc (Nat.le_refl _) _ | exact ((Below.refl _ _).alloc (Nat.le_refl _) _).drew | exact (Below.refl _ _).drew.alloc (Nat.le_refl _) _ | exact ((Below.refl _ _).alloc (Nat.le_refl _) _).alloc (by simp) _ | exact (((Below.refl _ _).alloc (Nat.le_refl _) _).alloc (by simp) _).drew))).mono ?_); (rintro e w2 ⟨rfl, hB2⟩; have hB3 : Below wr.heap.size wr w2 := (by first | exact hB2 | exact below_drew hB2 | exact bel_alloc hB2 | exact below_drew (bel_alloc hB2) | exact bel_alloc (below_drew hB2) | exact bel_alloc (bel_alloc hB2) | exact bel_alloc (bel_alloc (below_drew hB2))); have c0 := (hB3.cell (p := ⟨g, k * 3, none⟩) (World.block_lt_of_cell? _ _ c0)).trans c0; have c1 := (hB3.cell (p := ⟨g, k * 3 + 1, none⟩) (World.block_lt_of_cell? _ _ c1)).trans c1; have c2 := (hB3.cell (p := ⟨g, k * 3 + 2, none⟩) (World.block_lt_of_cell? _ _ c2)).trans c2; have d0 := (hB3.cell (p := ⟨g', o' + k * 3, none⟩) (World.block_lt_of_cell? _ _ d0)).trans d0; have d1 := (hB3.cell (p := ⟨g', o' + k * 3 + 1, none⟩) (World.block_lt_of_cell? _ _ d1)).trans d1; have d2 := (hB3.cell (p := ⟨g', o' + k * 3 + 2, none⟩) (World.block_lt_of_cell? _ _ d2)).trans d2; have hbN := hB.next hB3))))
      go_wp2
      go_roundw
      case rel => exact ⟨k + 1, by omega, by go_num, hbN⟩
      case measure => simp [intOf]; omega
    · by_cases hlt5 : k < n + 5
      · obtain ⟨i, rfl⟩ : ∃ i, k = n + i := ⟨k - n, by omega⟩
        obtain ⟨c1, c2, c3⟩ := HM.out wr hB i (by omega)
        generalize gs.getD i 0 = gi at *
        rw [Int.natCast_add] at c3
        have hw : ((9000 + ((n : Int) + (i : Int))) - (n : Int)) = 9000 + (i : Int) := by omega
        go_wp2
        go_roundw
        case rel => exact ⟨n + i + 1, by omega, by go_num, hB⟩
        case measure => simp [intOf]; omega
      · obtain rfl : k = n + 5 := by omega
        go_wp2
        go_ret
        exact ⟨rfl, hB⟩

end Go.Proofs.Ytenmjgnhneofjaa
