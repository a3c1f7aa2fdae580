/- WALKS OF FRACTIONS, 21: LendAll. -/
import Derived.Test.YtgddnmmllchndaaGreatQy
namespace Go.Proofs.YtgddnmmllchndaaGreat
set_option linter.unusedVariables false
set_option linter.unusedSimpArgs false
open Go.ChangeShapes Go.WideShapes Go.ChangeAt Go.RowKit Go.NatP

/-- the mark behind a list: its limbs lie at g -/
def markQ (g : Nat) : List Value := [.bool false, .slice none 0 0, .slice (some ⟨g, 0, none⟩) 1 1]
def MarkOK (B : Nat) (W : World) (la : Option Addr) (g i : Nat) : Prop := W.cell? ⟨g, 0, none⟩ = some (.int .u32 ((9000 + i : Nat) : Int)) ∧ B ≤ g ∧ la ≠ some ⟨g, 0, none⟩
theorem MarkOK.below {B : Nat} {W W' : World} {la : Option Addr} {g i : Nat} (h : MarkOK B W la g i) (hB : Below W.heap.size W W') : MarkOK B W' la g i :=
  ⟨(hB.cell (p := ⟨g, 0, none⟩) (World.block_lt_of_cell? _ _ h.1)).trans h.1, h.2⟩
theorem MarkOK.grown {B : Nat} {W W' : World} {la la' : Option Addr} {g i : Nat} (h : MarkOK B W la g i) (hk : Kp (fun k => la = some ⟨k, 0, none⟩) W W') (hl : la' = la ∨ ∀ g, la' = some ⟨g, 0, none⟩ → W.heap.size ≤ g) : MarkOK B W' la' g i := by
  have hlt : g < W.heap.size := World.block_lt_of_cell? _ _ h.1
  refine ⟨?_, h.2.1, fun e => ?_⟩
  · have h1 := h.1
    rw [World.cell?] at h1 ⊢
    rw [hk.block g hlt (fun e => h.2.2 e)]; exact h1
  · rcases hl with rfl | hl
    · exact h.2.2 e
    · have := hl g e; omega
def RetLendAll (w : World) (n : Nat) (ys : List QA) (e : Ending) (w' : World) : Prop :=
  ∃ (a : Option Addr) (c : Nat) (zs : List QA) (gs : List Nat), e = .returned (.slice a n c) ∧ n + 5 ≤ c ∧ c ≤ maxLen ∧ zs.length = n ∧ gs.length = 5 ∧ w'.ownsRow w.heap.size 38 3 (.slice a (n + 5) c) (n + 5) (zs.flatMap QA.cs ++ gs.flatMap markQ) ∧
    (∀ j, j < n → LentOK w.heap.size w' a (zs.getD j QA.o) (ys.getD j QA.o)) ∧ (∀ j, j < 5 → MarkOK w.heap.size w' a (gs.getD j 0) j) ∧ Below w.heap.size w w'

set_option maxRecDepth 100000 in
set_option maxHeartbeats 4000000 in
theorem lendall {w : World} {sa : Option Addr} {n c : Nat} {ys : List QA} (hx : QRow w sa n ys) (hn : n ≤ c) (hc : c ≤ maxLen) (hn3 : n ≤ 1000) (hb : ∀ j, j < n → (ys.getD j QA.o).n ≤ 1000 ∧ (ys.getD j QA.o).m ≤ 1000) :
    Calls Tryz.prog 19 #[.slice sa n c] w (RetLendAll w n ys) := by
  have HX := hid hx
  have HN := hid hb
  clear hx hb
  unfold maxLen at hc
  go_enter Tryz.func19, Tryz.ntmps19
  go_wp2
  go_loopw [3, 4] (fun v i wr => ∃ (k lc : Nat) (la : Option Addr) (zs : List QA), k ≤ n ∧ v = .slice la k lc ∧ i = .int .i64 k ∧ zs.length = k ∧ wr.ownsRow w.heap.size 38 3 (.slice la k lc) k (zs.flatMap QA.cs) ∧ Hid (∀ j, j < k → LentOK w.heap.size wr la (zs.getD j QA.o) (ys.getD j QA.o)) ∧ Below w.heap.size w wr) (fun _ i _ => n - (intOf i).toNat)
  case atStart => exact ⟨0, 0, none, [], by omega, rfl, rfl, rfl, World.ownsRow_nil _ _ _ _, (fun j h => absurd h (Nat.not_lt_zero _)), Below.refl _ _⟩
  case round =>
    obtain ⟨k, lc, la, zs, hk, rfl, rfl, hl, hrow, hY, hB⟩ := hrel
    have hsz := hB.size
    by_cases hlt : k < n
    · obtain ⟨r1, r2, g, o, rfl, c0, c1, c2⟩ := HX.out k hlt
      have hgl : g < w.heap.size := World.block_lt_of_cell? _ _ c1
      have c0 := (hB.cell (p := ⟨g, o + k * 3, none⟩) hgl).trans c0
      have c1 := (hB.cell (p := ⟨g, o + k * 3 + 1, none⟩) hgl).trans c1
      have c2 := (hB.cell (p := ⟨g, o + k * 3 + 2, none⟩) hgl).trans c2
      obtain ⟨hbn, hbm⟩ := HN.out k hlt
      obtain ⟨x, hxx⟩ : ∃ x, ys.getD k QA.o = x := ⟨_, rfl⟩
      rw [hxx] at r1 r2 c0 c1 c2 hbn hbm
      have hxh := hid hxx
      clear hxx
      obtain ⟨xs1, xa, xn, xc, xl, xb, xm, xd, xk⟩ := x
      simp only at *
      have r1 := r1.below hB
      have r2 := r2.below hB
      have hrl := hid hrow
      clear hrow
      go_wp2_with fail
      refine (flend2 r1 r2 (by omega) (by omega)).mono ?_
      rintro e w1 ⟨pa, pc, pb, pd, rfl, hL, hL', hga, hgb, hB1⟩
      have hrow := hrl.out
      have hrow1 := ownsRow_block3 hrow (w' := w1) (fun g' e => hB1.block g' (by rcases ownsRow_cases3 hrow (by decide) with ⟨h1, _⟩ | ⟨g2, h1, _, h2, _⟩ <;> rw [h1] at e <;> cases e; exact h2))
      have hla := hid (fun j (hj : j < w.heap.size) (e : la = some ⟨j, 0, none⟩) => (by
        rcases ownsRow_cases3 hrow (by decide) with ⟨h1, _⟩ | ⟨g2, h1, h2, _⟩
        · rw [h1] at e; cases e
        · rw [h1] at e; cases e; omega : False))
      have hlu := hid (fun j (e : la = some ⟨j, 0, none⟩) => (by
        rcases ownsRow_cases3 hrow (by decide) with ⟨h1, _⟩ | ⟨g2, h1, h2, h3, _⟩
        · rw [h1] at e; cases e
        · rw [h1] at e; cases e; exact h3 : j < wr.heap.size))
      have hs1 := hB1.size
      clear hrow
      go_wp2_with (at_builtin; refine wpList_appQ (u := .bool xs1) (v := .slice pa xn pc) (x := .slice pb xm pd) rfl _ _ rfl rfl (ownsRow_block3 hrow1 (w' := w1.alloc _) (fun g' e => Below.heap_alloc _ _ _ (by rcases ownsRow_cases3 hrow1 (by decide) with ⟨h1, _⟩ | ⟨g2, h1, _, h2, _⟩ <;> rw [h1] at e <;> cases e; exact h2))) _ 1 rfl rfl rfl rfl (blk_new _ _ _) (by simp; omega) (by omega) ?_; intro a2 c2' w2 hO2 hK2 hF2)
      have hBa := (Below.refl w1.heap.size w1).alloc (Nat.le_refl _) (.cells #[.bool xs1, .slice pa xn pc, .slice pb xm pd] 38)
      go_roundw
      case rel => exact ⟨k + 1, c2', a2, zs ++ [⟨xs1, pa, xn, pc, xl, pb, xm, pd, xk⟩], by omega, rfl, by go_num, by simp [hl], by rw [List.flatMap_append]; exact hO2, (fun j hj => by
          refine LentOK.grown (W := w1.alloc (.cells #[.bool xs1, .slice pa xn pc, .slice pb xm pd] 38)) (la := la) ?_ hK2 hF2
          refine LentOK.below (W := w1) ?_ hBa
          by_cases hjk : j < k
          · rw [show (zs ++ [(⟨xs1, pa, xn, pc, xl, pb, xm, pd, xk⟩ : QA)]).getD j QA.o = zs.getD j QA.o by simp [List.getD_eq_getElem?_getD, List.getElem?_append_left (show j < zs.length by omega)]]
            exact (hY.out j hjk).below hB1
          · obtain rfl : j = k := by omega
            rw [hxh.out, show (zs ++ [(⟨xs1, pa, xn, pc, xl, pb, xm, pd, xk⟩ : QA)]).getD j QA.o = ⟨xs1, pa, xn, pc, xl, pb, xm, pd, xk⟩ by simp [List.getD_eq_getElem?_getD, ← hl]]
            exact ⟨⟨rfl, rfl, rfl, rfl, rfl⟩, hL, hL', fun g' o' e => ⟨by have := hga g' o' e; omega, fun e2 => by have := hga g' o' e; have := hlu.out g' e2; omega⟩, fun g' o' e => ⟨by have := hgb g' o' e; omega, fun e2 => by have := hgb g' o' e; have := hlu.out g' e2; omega⟩⟩), ((hB.next hB1).alloc (by omega) _).kp hK2 (by simp; omega) hla.out⟩
      case measure => simp [intOf]; omega
    · obtain rfl : k = n := by omega
      have hrow0 := hid hrow
      clear hrow HX HN
      go_wp2_with fail
      go_loopw [3, 5] (fun v i wx => ∃ (j lc : Nat) (la : Option Addr) (gs : List Nat), j ≤ 5 ∧ v = .slice la (k + j) lc ∧ i = .int .i64 j ∧ gs.length = j ∧ wx.ownsRow w.heap.size 38 3 (.slice la (k + j) lc) (k + j) (zs.flatMap QA.cs ++ gs.flatMap markQ) ∧ Hid (∀ i, i < k → LentOK w.heap.size wx la (zs.getD i QA.o) (ys.getD i QA.o)) ∧ Hid (∀ i, i < j → MarkOK w.heap.size wx la (gs.getD i 0) i) ∧ Below w.heap.size w wx) (fun _ i _ => 5 - (intOf i).toNat)
      case atStart => exact ⟨0, lc, la, [], by omega, rfl, rfl, rfl, by simpa using hrow0.out, hY, (fun i h => absurd h (Nat.not_lt_zero _)), hB⟩
      case round =>
        clear hrow0 hY hB hsz
        obtain ⟨j, lc, la, gs, hj, rfl, rfl, hgl, hrow, hY, hM, hB⟩ := hrel
        have hsz := hB.size
        by_cases hj5 : j < 5
        · have hrA := hid (fun o1 o2 => ownsRow_block3 hrow (w' := (wr.alloc o1).alloc o2) (fun g' e => (below_two wr o1 o2).block g' (by rcases ownsRow_cases3 hrow (by decide) with ⟨h1, _⟩ | ⟨g2, h1, _, h2, _⟩ <;> rw [h1] at e <;> cases e; exact h2)))
          have hla := hid (fun j (hj : j < w.heap.size) (e : la = some ⟨j, 0, none⟩) => (by
            rcases ownsRow_cases3 hrow (by decide) with ⟨h1, _⟩ | ⟨g2, h1, h2, _⟩
            · rw [h1] at e; cases e
            · rw [h1] at e; cases e; omega : False))
          have hlu := hid (fun j (e : la = some ⟨j, 0, none⟩) => (by
            rcases ownsRow_cases3 hrow (by decide) with ⟨h1, _⟩ | ⟨g2, h1, h2, h3, _⟩
            · rw [h1] at e; cases e
            · rw [h1] at e; cases e; exact h3 : j < wr.heap.size))
          clear hrow
          go_wp2_with (at_builtin; refine wpList_appQ (u := .bool false) (v := .slice none 0 0) (x := .slice (some ⟨wr.heap.size, 0, none⟩) 1 1) rfl _ _ rfl rfl (hrA.out _ _) _ 1 rfl rfl rfl rfl (blk_new' _ _ _ (by simp)) (by simp; omega) (by omega) ?_; intro a2 c2' w2 hO2 hK2 hF2)
          go_roundw
          case rel => exact ⟨j + 1, c2', a2, gs ++ [wr.heap.size], by omega, rfl, by go_num, by simp [hgl], by rw [List.flatMap_append, ← List.append_assoc]; exact hO2, (fun i hi => LentOK.grown ((hY.out i hi).below (below_two wr _ _)) hK2 hF2), (fun i hi => by
              refine MarkOK.grown (la := la) ?_ hK2 hF2
              by_cases hij : i < j
              · rw [show (gs ++ [wr.heap.size]).getD i 0 = gs.getD i 0 by simp [List.getD_eq_getElem?_getD, List.getElem?_append_left (show i < gs.length by omega)]]
                exact (hM.out i hij).below (below_two wr _ _)
              · obtain rfl : i = j := by omega
                rw [show (gs ++ [wr.heap.size]).getD i 0 = wr.heap.size by simp [List.getD_eq_getElem?_getD, ← hgl]]
                exact ⟨by rw [Int.natCast_add]; exact ((blk_new wr _ _).alloc _).cell 0, hsz, fun e => by have := hlu.out _ e; omega⟩), (hB.next (below_two wr _ _)).kp hK2 (by simp; omega) hla.out⟩
          case measure => simp [intOf]; omega
        · obtain rfl : j = 5 := by omega
          obtain ⟨g, rfl, hg1, hg2, hg3, hg4⟩ : ∃ g, la = some ⟨g, 0, none⟩ ∧ w.heap.size ≤ g ∧ g < wr.heap.size ∧ k + 5 ≤ lc ∧ lc ≤ maxLen := by
            rcases ownsRow_cases3 hrow (by decide) with ⟨_, h, _⟩ | ⟨g, h⟩
            · omega
            · exact ⟨g, h⟩
          have hg5 := hid hg4
          unfold maxLen at hg4
          go_wp2
          go_ret
          exact ⟨_, lc, zs, gs, rfl, hg3, hg5.out, hl, hgl, hrow, hY.out, hM.out, hB⟩

end Go.Proofs.YtgddnmmllchndaaGreat
/- WALKS OF FRACTIONS, 22: KeptAll. -/
namespace Go.Proofs.YtgddnmmllchndaaGreat
set_option linter.unusedVariables false
set_option linter.unusedSimpArgs false
open Go.ChangeShapes Go.WideShapes Go.ChangeAt Go.RowKit Go.NatP

theorem mark_get (gs : List Nat) : ∀ i, i < gs.length → (gs.flatMap markQ)[i * 3 + 1]? = some (.slice none 0 0) ∧ (gs.flatMap markQ)[i * 3 + 2]? = some (.slice (some ⟨gs.getD i 0, 0, none⟩) 1 1) := by
  induction gs with
  | nil => intro i h; exact absurd h (Nat.not_lt_zero _)
  | cons x xs ih =>
    intro i h
    rcases i with _ | i
    · exact ⟨rfl, rfl⟩
    · have := ih i (by simpa using h)
      rw [show (i + 1) * 3 = i * 3 + 1 + 1 + 1 by omega, List.flatMap_cons]
      exact this
theorem flat_len (zs : List QA) : (zs.flatMap QA.cs).length = zs.length * 3 := by
  induction zs with
  | nil => rfl
  | cons x xs ih => rw [List.flatMap_cons, List.length_append, ih, List.length_cons]; show 3 + _ = _; omega
set_option maxRecDepth 100000 in
set_option maxHeartbeats 4000000 in
theorem keptall {w : World} {B : Nat} {a sa : Option Addr} {n c d : Nat} {zs ys : List QA} {gs : List Nat} (hr : w.ownsRow B 38 3 (.slice a (n + 5) c) (n + 5) (zs.flatMap QA.cs ++ gs.flatMap markQ)) (hzl : zs.length = n) (hgl : gs.length = 5)
    (hZ : ∀ j, j < n → LentOK B w a (zs.getD j QA.o) (ys.getD j QA.o)) (hM : ∀ j, j < 5 → MarkOK B w a (gs.getD j 0) j) (hy : QRow w sa n ys) (hn : n ≤ 1000) (hd : n ≤ d) :
    Calls Tryz.prog 30 #[.slice a n c, .slice sa n d] w (fun e w' => e = .returned (.bool true) ∧ Below w.heap.size w w') := by
  obtain ⟨g, rfl, hg1, hg2, hc1, hc2⟩ : ∃ g, a = some ⟨g, 0, none⟩ ∧ B ≤ g ∧ g < w.heap.size ∧ n + 5 ≤ c ∧ c ≤ maxLen := by
    rcases ownsRow_cases3 hr (by decide) with ⟨_, h, _⟩ | ⟨g, h⟩
    · omega
    · exact ⟨g, h⟩
  unfold maxLen at hc2
  have HC := hid (show ∀ W : World, Below w.heap.size w W → ∀ i, i < n → W.cell? ⟨g, i * 3, none⟩ = some (.bool (zs.getD i QA.o).s) ∧ W.cell? ⟨g, i * 3 + 1, none⟩ = some (.slice (zs.getD i QA.o).a (zs.getD i QA.o).n (zs.getD i QA.o).c) ∧ W.cell? ⟨g, i * 3 + 2, none⟩ = some (.slice (zs.getD i QA.o).b (zs.getD i QA.o).m (zs.getD i QA.o).d) from by
    intro W hB i hi
    obtain ⟨e0, e1, e2⟩ := flat_get zs i (by omega)
    have hfl := flat_len zs
    refine ⟨?_, ?_, ?_⟩
    · rw [hB.cell (p := ⟨g, i * 3, none⟩) hg2, World.ownsRow.cellAt hr _ (by omega), List.getElem?_append_left (by omega), e0]
    · rw [hB.cell (p := ⟨g, i * 3 + 1, none⟩) hg2, World.ownsRow.cellAt hr _ (by omega), List.getElem?_append_left (by omega), e1]
    · rw [hB.cell (p := ⟨g, i * 3 + 2, none⟩) hg2, World.ownsRow.cellAt hr _ (by omega), List.getElem?_append_left (by omega), e2])
  have HM := hid (show ∀ W : World, Below w.heap.size w W → ∀ i, i < 5 → W.cell? ⟨g, (n + i) * 3 + 1, none⟩ = some (.slice none 0 0) ∧ W.cell? ⟨g, (n + i) * 3 + 2, none⟩ = some (.slice (some ⟨gs.getD i 0, 0, none⟩) 1 1) ∧ W.cell? ⟨gs.getD i 0, 0, none⟩ = some (.int .u32 ((9000 + i : Nat) : Int)) from by
    intro W hB i hi
    obtain ⟨e1, e2⟩ := mark_get gs i (by omega)
    have hfl := flat_len zs
    refine ⟨?_, ?_, ((hM i hi).below hB).1⟩
    · rw [hB.cell (p := ⟨g, (n + i) * 3 + 1, none⟩) hg2, World.ownsRow.cellAt hr _ (by omega), List.getElem?_append_right (by omega), show (n + i) * 3 + 1 - (zs.flatMap QA.cs).length = i * 3 + 1 by omega, e1]
    · rw [hB.cell (p := ⟨g, (n + i) * 3 + 2, none⟩) hg2, World.ownsRow.cellAt hr _ (by omega), List.getElem?_append_right (by omega), show (n + i) * 3 + 2 - (zs.flatMap QA.cs).length = i * 3 + 2 by omega, e2])
  have HZ := hid hZ
  have HY := hid hy
  clear hr hZ hM hy hzl hgl
  have hNN : (n == n) = true := beq_self_eq_true _
  go_enter Tryz.func30, Tryz.ntmps30
  go_wp2
  go_loopw [6] (fun i wr => ∃ (k : Nat), k ≤ n + 5 ∧ i = .int .i64 k ∧ Below w.heap.size w wr) (fun i _ => n + 5 - (intOf i).toNat)
  case atStart => exact ⟨0, by omega, rfl, Below.refl _ _⟩
  case round =>
    obtain ⟨k, hk, rfl, hB⟩ := hrel
    by_cases hlt : k < n
    · obtain ⟨c0, c1, c2⟩ := HC.out wr hB k hlt
      obtain ⟨t1, t2, g', o', rfl, d0, d1, d2⟩ := (HY.out.below hB) k hlt
      have hz := (HZ.out k hlt).below hB
      generalize zs.getD k QA.o = x at *
      generalize ys.getD k QA.o = y at *
      obtain ⟨⟨e0, e1, e2, e3, e4⟩, L, M, _, _⟩ := hz
      obtain ⟨xs1, xa, xn, xc, xl, xb, xm, xd, xk⟩ := x
      obtain ⟨ys1, ya, yn, yc, yl, yb, ym, yd, yk⟩ := y
      simp only at *
      subst e0 e1 e2 e3 e4
      have hbN : Below wr.heap.size wr wr := Below.refl _ _
      go_wp2_with fail
      go_region_held3 (fun w' => w'.cell? ⟨g, k * 3, none⟩ = some (.bool xs1) ∧ w'.cell? ⟨g, k * 3 + 1, none⟩ = some (.slice xa xn xc) ∧ w'.cell? ⟨g, k * 3 + 2, none⟩ = some (.slice xb xm xd) ∧ w'.cell? ⟨g', o' + k * 3, none⟩ = some (.bool xs1) ∧ w'.cell? ⟨g', o' + k * 3 + 1, none⟩ = some (.slice ya xn yc) ∧ w'.cell? ⟨g', o' + k * 3 + 2, none⟩ = some (.slice yb xm yd))
        (first | exact ⟨c0, c1, c2, d0, d1, d2⟩ | go_keep)
        (first
          | (go_at_call 31; ((with_reducible refine (fkept (L.below bl) (M.below bl) (t1.below bl) (t2.below bl)).mono ?_); (rintro e w2 ⟨rfl, hB2⟩; have hB3 : Below wr.heap.size wr w2 := (by first | exact hB2 | exact below_drew hB2 | exact bel_alloc hB2 | exact below_drew (bel_alloc hB2) | exact bel_alloc (below_drew hB2) | exact bel_alloc (bel_alloc hB2) | exact bel_alloc (bel_alloc (below_drew hB2))); have c0 := (hB3.cell (p := ⟨g, k * 3, none⟩) (World.block_lt_of_cell? _ _ c0)).trans c0; have c1 := (hB3.cell (p := ⟨g, k * 3 + 1, none⟩) (World.block_lt_of_cell? _ _ c1)).trans c1; have c2 := (hB3.cell (p := ⟨g, k * 3 + 2, none⟩) (World.block_lt_of_cell? _ _ c2)).trans c2; have d0 := (hB3.cell (p := ⟨g', o' + k * 3, none⟩) (World.block_lt_of_cell? _ _ d0)).trans d0; have d1 := (hB3.cell (p := ⟨g', o' + k * 3 + 1, none⟩) (World.block_lt_of_cell? _ _ d1)).trans d1; have d2 := (hB3.cell (p := ⟨g', o' + k * 3 + 2, none⟩) (World.block_lt_of_cell? _ _ d2)).trans d2; have hbN := hB.next hB3))))
      go_wp2
      go_roundw
      case rel => exact ⟨k + 1, by omega, by go_num, hbN⟩
      case measure => simp [intOf]; omega
    · by_cases hlt5 : k < n + 5
      · obtain ⟨i, rfl⟩ : ∃ i, k = n + i := ⟨k - n, by omega⟩
        obtain ⟨c1, c2, c3⟩ := HM.out wr hB i (by omega)
        generalize gs.getD i 0 = gi at *
        rw [Int.natCast_add] at c3
        have hw : ((9000 + ((n : Int) + (i : Int))) - (n : Int)) = 9000 + (i : Int) := by omega
        go_wp2
        go_roundw
        case rel => exact ⟨n + i + 1, by omega, by go_num, hB⟩
        case measure => simp [intOf]; omega
      · obtain rfl : k = n + 5 := by omega
        go_wp2
        go_ret
        exact ⟨rfl, hB⟩

end Go.Proofs.YtgddnmmllchndaaGreat
