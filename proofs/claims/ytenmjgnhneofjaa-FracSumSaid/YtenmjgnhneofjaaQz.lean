/- WALKS OF FRACTIONS, 21: LendAll. -/
import Derived.Test.YtenmjgnhneofjaaQy
namespace Go.Proofs.Ytenmjgnhneofjaa
set_option linter.unusedVariables false
set_option linter.unusedSimpArgs false
open Go.ChangeShapes Go.WideShapes Go.ChangeAt Go.RowKit Go.NatP

/-- the mark behind a list: its limbs lie at g -/
def markQ (g : Nat) : List Value := [.bool false, .slice none 0 0, .slice (some ⟨g, 0, none⟩) 1 1]
def MarkOK (B : Nat) (W : World) (la : Option Addr) (g i : Nat) : Prop := W.cell? ⟨g, 0, none⟩ = some (.int .u32 ((9000 + i : Nat) : Int)) ∧ B ≤ g ∧ la ≠ some ⟨g, 0, none⟩
theorem MarkOK.below {B : Nat} {W W' : World} {la : Option Addr} {g i : Nat} (h : MarkOK B W la g i) (hB : Below W.heap.size W W') : MarkOK B W' la g i :=
  ⟨(hB.cell (p := ⟨g, 0, none⟩) (World.block_lt_of_cell? _ _ h.1)).trans h.1, h.2⟩
theorem MarkOK.grown {B : Nat} {W W' : World} {la la' : Option Addr} {g i : Nat} (h : MarkOK B W la g i) (hk : Kp (fun k => la = some ⟨k, 0, none⟩) W W') (hl : la' = la ∨ ∀ g, la' = some ⟨g, 0, none⟩ → W.heap.size ≤ g) : MarkOK B W' la' g i := by
  have hlt : g < W.heap.size := World.block_lt_of_cell? _ _ h.1
  refine ⟨?_, h.2.1, fun e => ?_⟩
  · have h1 := h.1
    rw [World.cell?] at h1 ⊢
    rw [hk.block g hlt (fun e => h.2.2 e)]; exact h1
  · rcases hl with rfl | hl
    · exact h.2.2 e
    · have := hl g e; omega
def RetLendAll (w : World) (n : Nat) (ys : List QA) (e : Ending) (w' : World) : Prop :=
  ∃ (a : Option Addr) (c : Nat) (zs : List QA) (gs : List Nat), e = .returned (.slice a n c) ∧ n + 5 ≤ c ∧ c ≤ maxLen ∧ zs.length = n ∧ gs.length = 5 ∧ w'.ownsRow w.heap.size 32 3 (.slice a (n + 5) c) (n + 5) (zs.flatMap QA.cs ++ gs.flatMap markQ) ∧
    (∀ j, j < n → LentOK w.heap.size w' a (zs.getD j QA.o) (ys.getD j QA.o)) ∧ (∀ j, j < 5 → MarkOK w.heap.size w' a (gs.getD j 0) j) ∧ Below w.heap.size w w'

set_option maxRecDepth 100000 in
set_option maxHeartbeats 4000000 in
theorem lendall {w : World} {sa : Option Addr} {n c : Nat} {ys : List QA} (hx : QRow w sa n ys) (hn : n ≤ c) (hc : c ≤ maxLen) (hn3 : n ≤ 1000) (hb : ∀ j, j < n → (ys.getD j QA.o).n ≤ 1000 ∧ (ys.getD j QA.o).m ≤ 1000) :
    Calls Try.prog 24 #[.slice sa n c] w (RetLendAll w n ys) := by
  have HX := hid hx
  have HN := hid hb
  clear hx hb
  unfold maxLen at hc
  go_enter Try.func24, Try.ntmps24
  go_wp2
  go_loopw [3, 4] (fun v i wr => ∃ (k lc : Nat) (la : Option Addr) (zs : List QA), k ≤ n ∧ v = .slice la k lc ∧ i = .int .i64 k ∧ zs.length = k ∧ wr.ownsRow w.heap.size 32 3 (.slice la k lc) k (zs.flatMap QA.cs) ∧ Hid (∀ j, j < k → LentOK w.heap.size wr la (zs.getD j QA.o) (ys.getD j QA.o)) ∧ Below w.heap.size w wr) (fun _ i _ => n - (intOf i).toNat)
  case atStart => exact ⟨0, 0, none, [], by omega, rfl, rfl, rfl, World.ownsRow_nil _ _ _ _, (fun j h => absurd h (Nat.not_lt_zero _)), Below.refl _ _⟩
  case round =>
    obtain ⟨k, lc, la, zs, hk, rfl, rfl, hl, hrow, hY, hB⟩ := hrel
    have hsz := hB.size
    by_cases hlt : k < n
    · obtain ⟨r1, r2, g, o, rfl, c0, c1, c2⟩ := HX.out k hlt
      have hgl : g < w.heap.size := World.block_lt_of_cell? _ _ c1
      have c0 := (hB.cell (p := ⟨g, o + k * 3, none⟩) hgl).trans c0
      have c1 := (hB.cell (p := ⟨g, o + k * 3 + 1, none⟩) hgl).trans c1
      have c2 := (hB.cell (p := ⟨g, o + k * 3 + 2, none⟩) hgl).trans c2
      obtain ⟨hbn, hbm⟩ := HN.out k hlt
      obtain ⟨x, hxx⟩ : ∃ x, ys.getD k QA.o = x := ⟨_, rfl⟩
      rw [hxx] at r1 r2 c0 c1 c2 hbn hbm
      have hxh := hid hxx
      clear hxx
      obtain ⟨xs1, xa, xn, xc, xl, xb, xm, xd, xk⟩ := x
      simp only at *
      have r1 := r1.below hB
      have r2 := r2.below hB
      have hrl := hid hrow
      clear hrow
      go_wp2_with fail
      refine (flend2 r1 r2 (by omega) (by omega)).mono ?_
      rintro e w1 ⟨pa, pc, pb, pd, rfl, hL, hL', hga, hgb, hB1⟩
      have hrow := hrl.out
      have hrow1 := ownsRow_block3 hrow (w' := w1) (fun g' e => hB1.block g' (by rcases ownsRow_cases3 hrow (by decide) with ⟨h1, _⟩ | ⟨g2, h1, _, h2, _⟩ <;> rw [h1] at e <;> cases e; exact h2))
      have hla := hid (fun j (hj : j < w.heap.size) (e : la = some ⟨j, 0, none⟩) => (by
        rcases ownsRow_cases3 hrow (by decide) with ⟨h1, _⟩ | ⟨g2, h1, h2, _⟩
        · rw [h1] at e; cases e
        · rw [h1] at e; cases e; omega : False))
      have hlu := hid (fun j (e : la = some ⟨j, 0, none⟩) => (by
        rcases ownsRow_cases3 hrow (by decide) with ⟨h1, _⟩ | ⟨g2, h1, h2, h3, _⟩
        · rw [h1] at e; cases e
        · rw [h1] at e; cases e; exact h3 : j < wr.heap.size))
      have hs1 := hB1.size
      clear hrow
      go_wp2_with (at_builtin; refine wpList_appQ (u := .bool xs1) (v := .slice pa xn pc) (x := .slice pb xm pd) rfl _ _ rfl rfl (ownsRow_block3 hrow1 (w' := w1.alloc _) (fun g' e => Below.heap_alloc _ _ _ (by rcases ownsRow_cases3 hrow1 (by decide) with ⟨h1, _⟩ | ⟨g2, h1, _, h2, _⟩ <;> rw [h1] at e <;> cases e; exact h2))) _ 1 rfl rfl rfl rfl (blk_new _ _ _) (by simp; omega) (by omega) ?_; intro a2 c2' w2 hO2 hK2 hF2)
      have hBa := (Below.refl w1.heap.size w1).alloc (Nat.le_refl _) (.cells #[.bool xs1, .slice pa xn pc, .slice pb xm pd] 32)
      go_roundw
      case rel => exact ⟨k + 1, c2', a2, zs ++ [⟨xs1, pa, xn, pc, xl, pb, xm, pd, xk⟩], by omega, rfl, by go_num, by simp [hl], by rw [List.flatMap_append]; exact hO2, (fun j hj => by
          refine LentOK.grown (W := w1.alloc (.cells #[.bool xs1, .slice pa xn pc, .slice pb xm pd] 32)) (la := la) ?_ hK2 hF2
          refine LentOK.below (W := w1) ?_ hBa
          by_cases hjk : j < k
          · rw [show (zs ++ [(⟨xs1, pa, xn, pc, xl, pb, xm, pd, xk⟩ : QA)]).getD j QA.o = zs.getD j QA.o by simp [List.getD_eq_getElem?_getD, List.getElem?_append_left (show j < zs.length by omega)]]
            exact (hY.out j hjk).below hB1
          · obtain rfl : j = k := by omega
            rw [hxh.out, show (zs ++ [(⟨xs1, pa, xn, pc, xl, pb, xm, pd, xk⟩ : QA)]).getD j QA.o = ⟨xs1, pa, xn, pc, xl, pb, xm, pd, xk⟩ by simp [List.getD_eq_getElem?_getD, ← hl]]
            exact ⟨⟨rfl, rfl, rfl, rfl, rfl⟩, hL, hL', fun g' o' e => ⟨by have := hga g' o' e; omega, fun e2 => by have := hga g' o' e; have := hlu.out g' e2; omega⟩, fun g' o' e => ⟨by have := hgb g' o' e; omega, fun e2 => by have := hgb g' o' e; have := hlu.out g' e2; omega⟩⟩), ((hB.next hB1).alloc (by omega) _).kp hK2 (by simp; omega) hla.out⟩
      case measure => simp [intOf]; omega
    · obtain rfl : k = n := by omega
      have hrow0 := hid hrow
      clear hrow HX HN
      go_wp2_with fail
      go_loopw [3, 5] (fun v i wx => ∃ (j lc : Nat) (la : Option Addr) (gs : List Nat), j ≤ 5 ∧ v = .slice la (k + j) lc ∧ i = .int .i64 j ∧ gs.length = j ∧ wx.ownsRow w.heap.size 32 3 (.slice la (k + j) lc) (k + j) (zs.flatMap QA.cs ++ gs.flatMap markQ) ∧ Hid (∀ i, i < k → LentOK w.heap.size wx la (zs.getD i QA.o) (ys.getD i QA.o)) ∧ Hid (∀ i, i < j → MarkOK w.heap.size wx la (gs.getD i 0) i) ∧ Below w.heap.size w wx) (fun _ i _ => 5 - (intOf i).toNat)
      case atStart => exact ⟨0, lc, la, [], by omega, rfl, rfl, rfl, by simpa using hrow0.out, hY, (fun i h => absurd h (Nat.not_lt_zero _)), hB⟩
      case round =>
        clear hrow0 hY hB hsz
        obtain ⟨j, lc, la, gs, hj, rfl, rfl, hgl, hrow, hY, hM, hB⟩ := hrel
        have hsz := hB.size
        by_cases hj5 : j < 5
        · have hrA := hid (fun o1 o2 => ownsRow_block3 hrow (w' := (wr.alloc o1).alloc o2) (fun g' e => (below_two wr o1 o2).block g' (by rcases ownsRow_cases3 hrow (by decide) with ⟨h1, _⟩ | ⟨g2, h1, _, h2, _⟩ <;> rw [h1] at e <;> cases e; exact h2)))
          have hla := hid (fun j (hj : j < w.heap.size) (e : la = some ⟨j, 0, none⟩) => (by
            rcases ownsRow_cases3 hrow (by decide) with ⟨h1, _⟩ | ⟨g2, h1, h2, _⟩
            · rw [h1] at e; cases e
            · rw [h1] at e; cases e; omega : False))
          have hlu := hid (fun j (e : la = some ⟨j, 0, none⟩) => (by
            rcases ownsRow_cases3 hrow (by decide) with ⟨h1, _⟩ | ⟨g2, h1, h2, h3, _⟩
            · rw [h1] at e; cases e
            · rw [h1] at e; cases e; exact h3 : j < wr.heap.size))
          clear hrow
          go_wp2_with (at_builtin; refine wpList_appQ (u := .bool false) (v := .slice none 0 0) (x := .slice (some ⟨wr.heap.size, 0, none⟩) 1 1) rfl _ _ rfl rfl (hrA.out _ _) _ 1 rfl rfl rfl rfl (blk_new' _ _ _ (by simp)) (by simp; omega) (by omega) ?_; intro a2 c2' w2 hO2 hK2 hF2)
          go_roundw
          case rel => exact ⟨j + 1, c2', a2, gs ++ [wr.heap.size], by omega, rfl, by go_num, by simp [hgl], by rw [List.flatMap_append, ← List.append_assoc]; exact hO2, (fun i hi => LentOK.grown ((hY.out i hi).below (below_two wr _ _)) hK2 hF2), (fun i hi => by
              refine MarkOK.grown (la := la) ?_ hK2 hF2
              by_cases hij : i < j
              · rw [show (gs ++ [wr.heap.size]).getD i 0 = gs.getD i 0 by simp [List.getD_eq_getElem?_getD, List.getElem?_append_left (show i < gs.length by omega)]]
                exact (hM.out i hij).below (below_two wr _ _)
              · obtain rfl : i = j := by omega
                rw [show (gs ++ [wr.heap.size]).getD i 0 = wr.heap.size by simp [List.getD_eq_getElem?_getD, ← hgl]]
                exact ⟨by rw [Int.natCast_add]; exact ((blk_new wr _ _).alloc _).cell 0, hsz, fun e => by have := hlu.out _ e; omega⟩), (hB.next (below_two wr _ _)).kp hK2 (by simp; omega) hla.out⟩
          case measure => simp [intOf]; omega
        · obtain rfl : j = 5 := by omega
          obtain ⟨g, rfl, hg1, hg2, hg3, hg4⟩ : ∃ g, la = some ⟨g, 0, none⟩ ∧ w.heap.size ≤ g ∧ g < wr.heap.size ∧ k + 5 ≤ lc ∧ lc ≤ maxLen := by
            rcases ownsRow_cases3 hrow (by decide) with ⟨_, h, _⟩ | ⟨g, h⟩
            · omega
            · exact ⟨g, h⟩
          have hg5 := hid hg4
          unfold maxLen at hg4
          go_wp2
          go_ret
          exact ⟨_, lc, zs, gs, rfl, hg3, hg5.out, hl, hgl, hrow, hY.out, hM.out, hB⟩

end Go.Proofs.Ytenmjgnhneofjaa
