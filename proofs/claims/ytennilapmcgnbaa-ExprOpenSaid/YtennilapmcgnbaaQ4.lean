/- WALKS OF FRACTIONS, 10: what is handed in: marked room behind. -/
import Derived.Test.YtennilapmcgnbaaQ3
import Derived.Test.YtennilapmcgnbaaW1
namespace Go.Proofs.Ytennilapmcgnbaa
set_option linter.unusedVariables false
set_option linter.unusedSimpArgs false
set_option maxRecDepth 100000
open Go.ChangeShapes Go.WideShapes Go.ChangeAt Go.RowKit Go.NatP

/-- A copy with five marked limbs of room behind. -/
def RetLimbs (w : World) (n : Nat) (l : List Nat) (e : Ending) (w' : World) : Prop :=
  ∃ a c, e = .returned (.slice a n c) ∧ Own w.heap.size w' a (n + 5) c (l ++ List.replicate 5 7000) ∧ Below w.heap.size w w'

theorem repl_snoc7 (l : List Nat) (k : Nat) : l ++ List.replicate k 7000 ++ [7000] = l ++ List.replicate (k + 1) 7000 := by
  rw [List.append_assoc, ← List.replicate_succ']

theorem room_hi7 (l : List Nat) (k : Nat) (h : l.length ≤ k) (h2 : k < l.length + 5) : (l ++ List.replicate 5 7000).getD k 0 = 7000 := by
  rw [List.getD_eq_getElem?_getD, List.getElem?_append_right h, List.getElem?_replicate, if_pos (by omega)]
  rfl

end Go.Proofs.Ytennilapmcgnbaa
/- WALKS OF FRACTIONS, 11: what was answered is its holder's own. -/
namespace Go.Proofs.Ytennilapmcgnbaa
set_option linter.unusedVariables false
set_option linter.unusedSimpArgs false
open Go.ChangeShapes Go.WideShapes Go.ChangeAt Go.RowKit Go.NatP

/-- what an answer holds when it is written full of marks -/
def mrkD (N : Nat → Nat) (i : Nat) : List Nat := List.replicate (N i) (100000 + i)
def mrkE (N : Nat → Nat) (i t : Nat) : List Nat := mrkD N i ++ List.replicate t (500000 + i)

/-- BEFORE ROUND k OF THE THIRD LOOP: the first k were gone on with. -/
structure S5 (w wr : World) (gb K : Nat) (A : Nat → Option Addr) (N C : Nat → Nat) (k : Nat) (la : Option Addr) (lc : Nat) (A' : Nat → Option Addr) (C' : Nat → Nat) : Prop where
  row : wr.ownsRow w.heap.size 24 1 (.slice la k lc) k ((List.range k).map fun j => Value.slice (A' j) (N j + 8) (C' j))
  gcells : ∀ i, i < K → wr.cell? ⟨gb, i, none⟩ = some (.slice (A i) (N i) (C i))
  gown : ∀ i, i < K → k ≤ i → Own 0 wr (A i) (N i) (C i) (mrkD N i)
  grd : ∀ i, i < k → Rd wr (A i) (N i) (C i) (mrkD N i)
  lrd : ∀ i, i < k → Rd wr (A' i) (N i + 8) (C' i) (mrkE N i 8)
  lblk : ∀ i, i < k → ∀ b o, A' i = some ⟨b, o, none⟩ → (A i = some ⟨b, 0, none⟩ ∨ w.heap.size ≤ b) ∧ la ≠ some ⟨b, 0, none⟩
  kp : Kp (pA K A) w wr

/-- IN ROUND k, t marks appended. -/
structure S5i (w wr : World) (gb K : Nat) (A : Nat → Option Addr) (N C : Nat → Nat) (k : Nat) (la : Option Addr) (lc : Nat) (A' : Nat → Option Addr) (C' : Nat → Nat) (t : Nat) (al : Option Addr) (cl : Nat) : Prop where
  row : wr.ownsRow w.heap.size 24 1 (.slice la k lc) k ((List.range k).map fun j => Value.slice (A' j) (N j + 8) (C' j))
  gcells : ∀ i, i < K → wr.cell? ⟨gb, i, none⟩ = some (.slice (A i) (N i) (C i))
  gown : ∀ i, i < K → k < i → Own 0 wr (A i) (N i) (C i) (mrkD N i)
  grd : ∀ i, i ≤ k → Rd wr (A i) (N i) (C i) (mrkD N i)
  lrd : ∀ i, i < k → Rd wr (A' i) (N i + 8) (C' i) (mrkE N i 8)
  lblk : ∀ i, i < k → ∀ b o, A' i = some ⟨b, o, none⟩ → (A i = some ⟨b, 0, none⟩ ∨ w.heap.size ≤ b) ∧ la ≠ some ⟨b, 0, none⟩ ∧ al ≠ some ⟨b, 0, none⟩
  lown : Own 0 wr al (N k + t) cl (mrkE N k t)
  alb : al = A k ∨ ∀ g, al = some ⟨g, 0, none⟩ → w.heap.size ≤ g
  alla : ∀ g, al = some ⟨g, 0, none⟩ → la ≠ some ⟨g, 0, none⟩
  kp : Kp (pA K A) w wr

section
variable {w wr w' : World} {gb K k lc t cl cl' : Nat} {A A' : Nat → Option Addr} {N C C' : Nat → Nat} {la al al' : Option Addr}

theorem S5.into (hF : Fix w gb K A C) (h : S5 w wr gb K A N C k la lc A' C') (hk : k < K) : S5i w wr gb K A N C k la lc A' C' 0 (A k) (C k) := by
  refine ⟨h.row, h.gcells, fun i h1 h2 => h.gown i h1 (by omega), fun i hi => ?_, h.lrd, fun i hi b o e => ?_, ?_, .inl rfl, fun g e e2 => ?_, h.kp⟩
  · rcases Nat.lt_or_ge i k with h1 | h1
    · exact h.grd i h1
    · exact (h.gown i (by omega) h1).rd
  · obtain ⟨h1, h2⟩ := h.lblk i hi b o e
    refine ⟨h1, h2, fun e2 => ?_⟩
    rcases h1 with h1 | h1
    · exact hF.parted k i hk (by omega) (by omega) b e2 h1
    · have := hF.old k hk b e2; omega
  · have := h.gown k hk (Nat.le_refl _)
    simpa [mrkE] using this
  · have h1 := hF.old k hk g e
    rcases ownsRow_cases h.row with ⟨h2, _⟩ | ⟨g', h2, h3, _⟩
    · rw [h2] at e2; cases e2
    · rw [h2] at e2; cases e2; omega

theorem S5i.step (hF : Fix w gb K A C) (h : S5i w wr gb K A N C k la lc A' C' t al cl) (hk : k < K) {o : Obj}
    (hO : Own 0 w' al' (N k + t + 1) cl' (mrkE N k t ++ [500000 + k])) (hK : Kp (fun j => al = some ⟨j, 0, none⟩) (wr.alloc o) w')
    (hf : al' = al ∨ (∀ g, al' = some ⟨g, 0, none⟩ → (wr.alloc o).heap.size ≤ g) ∧ Kp (fun _ => False) (wr.alloc o) w') :
    S5i w w' gb K A N C k la lc A' C' (t + 1) al' cl' := by
  have hsz := h.kp.size
  have hKw : Kp (fun j => al = some ⟨j, 0, none⟩) wr w' := ((Kp.refl _ wr).alloc o).kp hK (fun j hj e => .inl e)
  have hsz' := hKw.size
  have alne : ∀ b, b < w.heap.size → (∀ (_ : al = A k), A k ≠ some ⟨b, 0, none⟩) → al ≠ some ⟨b, 0, none⟩ := by
    intro b hb h1 e
    rcases h.alb with h2 | h2
    · exact h1 h2 (h2 ▸ e)
    · have := h2 b e; omega
  refine ⟨?_, fun i hi => ?_, fun i h1 h2 => ?_, fun i hi => ?_, fun i hi => ?_, fun i hi b o' e => ?_, ?_, ?_, fun g e => ?_, ?_⟩
  · refine ownsRow_block h.row fun g e => hKw.block g ?_ fun e2 => h.alla g e2 e
    rcases ownsRow_cases h.row with ⟨h2, _⟩ | ⟨g', h2, _, h4⟩
    · rw [h2] at e; cases e
    · rw [h2] at e; cases e; exact h4
  · have hg := hF.gold (by omega)
    rw [World.cell?_of_block (w := wr) (hKw.block gb (by omega) (alne gb hg fun _ => hF.away k hk))]
    exact h.gcells i hi
  · exact (h.gown i h1 h2).kp hKw fun g e => alne g (hF.old i h1 g e) fun _ => fun e2 => hF.parted i k h1 hk (by omega) g e e2
  · rcases Nat.lt_or_ge i k with h1 | h1
    · refine (h.grd i hi).kp hKw fun b o' e => ?_
      obtain rfl := hF.shape i (by omega) b o' e
      exact alne b (hF.old i (by omega) b e) fun _ => fun e2 => hF.parted i k (by omega) hk (by omega) b e e2
    · obtain rfl : i = k := by omega
      rcases h.alb with h2 | h2
      · rcases hf with h3 | ⟨_, h3⟩
        · have hR := (hO.take (k := N i) (by omega)).rd
          have e1 : (mrkE N i t ++ [500000 + i]).take (N i) = mrkD N i := by
            rw [mrkE, List.append_assoc, List.take_left' (by simp [mrkD])]
          rw [e1, h3, h2] at hR
          exact hR.cap (h.grd i hi).2.2.1 (h.grd i hi).2.2.2.1
        · exact ((h.grd i hi).alloc o).kp h3 (fun _ _ _ e => e)
      · refine (h.grd i hi).kp hKw fun b o' e e2 => ?_
        obtain rfl := hF.shape i (by omega) b o' e
        have := hF.old i hk b e
        have := h2 b e2
        omega
  · exact (h.lrd i hi).kp hKw fun b o' e => (h.lblk i hi b o' e).2.2
  · obtain ⟨h1, h2, h3⟩ := h.lblk i hi b o' e
    refine ⟨h1, h2, fun e2 => ?_⟩
    rcases hf with h4 | ⟨h4, _⟩
    · exact h3 (h4 ▸ e2)
    · have h5 := h4 b e2
      obtain ⟨b', o2, e3, hc⟩ := (h.lrd i hi).get (i := 0) (by omega)
      rw [e] at e3
      cases e3
      have h6 := World.block_lt_of_cell? wr _ hc
      simp at h5 h6
      omega
  · have : mrkE N k t ++ [500000 + k] = mrkE N k (t + 1) := by
      rw [mrkE, mrkE, List.append_assoc, ← List.replicate_succ']
    rw [← this]; exact hO
  · rcases hf with h4 | ⟨h4, _⟩
    · rw [h4]; exact h.alb
    · right; intro g e; have := h4 g e; simp at this; omega
  · rcases hf with h4 | ⟨h4, _⟩
    · exact h.alla g (h4 ▸ e)
    · intro e2
      have h5 := h4 g e
      rcases ownsRow_cases h.row with ⟨h2, _⟩ | ⟨g', h2, _, h6⟩
      · rw [h2] at e2; cases e2
      · rw [h2] at e2; cases e2; simp at h5; omega
  · refine h.kp.kp hKw fun j hj e => ?_
    rcases h.alb with h2 | h2
    · exact .inl ⟨k, hk, h2 ▸ e⟩
    · exact .inr (h2 j e)

theorem S5i.out (hF : Fix w gb K A C) (h : S5i w wr gb K A N C k la lc A' C' 8 al cl) (hk : k < K) {o : Obj} {la' : Option Addr} {lc' : Nat}
    (hO : w'.ownsRow w.heap.size 24 1 (.slice la' (k + 1) lc') (k + 1) ((List.range k).map (fun j => Value.slice (A' j) (N j + 8) (C' j)) ++ [.slice al (N k + 8) cl]))
    (hK : Kp (fun j => la = some ⟨j, 0, none⟩) (wr.alloc o) w')
    (hf : la' = la ∨ (∀ g, la' = some ⟨g, 0, none⟩ → (wr.alloc o).heap.size ≤ g) ∧ Kp (fun _ => False) (wr.alloc o) w') :
    S5 w w' gb K A N C (k + 1) la' lc' (fun j => if j = k then al else A' j) (fun j => if j = k then cl else C' j) := by
  have hsz := h.kp.size
  have hKw : Kp (fun j => la = some ⟨j, 0, none⟩) wr w' := ((Kp.refl _ wr).alloc o).kp hK (fun j hj e => .inl e)
  have hsz' := hKw.size
  have lane : ∀ b, b < w.heap.size → la ≠ some ⟨b, 0, none⟩ := by
    intro b hb e
    rcases ownsRow_cases h.row with ⟨h2, _⟩ | ⟨g', h2, h3, _⟩
    · rw [h2] at e; cases e
    · rw [h2] at e; cases e; omega
  have la'ne : ∀ b, b < wr.heap.size → la ≠ some ⟨b, 0, none⟩ → la' ≠ some ⟨b, 0, none⟩ := by
    intro b hb h1 e
    rcases hf with h4 | ⟨h4, _⟩
    · exact h1 (h4 ▸ e)
    · have := h4 b e; simp at this; omega
  have lrd' : ∀ i, i < k + 1 → Rd wr (if i = k then al else A' i) (N i + 8) (if i = k then cl else C' i) (mrkE N i 8) := by
    intro i hi
    by_cases hik : i = k
    · subst hik; simpa using h.lown.rd
    · simpa only [if_neg hik] using h.lrd i (by omega)
  have lbl' : ∀ i, i < k + 1 → ∀ b o', (if i = k then al else A' i) = some ⟨b, o', none⟩ → (A i = some ⟨b, 0, none⟩ ∨ w.heap.size ≤ b) ∧ la ≠ some ⟨b, 0, none⟩ := by
    intro i hi b o' e
    by_cases hik : i = k
    · subst hik
      simp only [if_true] at e
      obtain rfl : o' = 0 := by
        rcases h.lown.cases with ⟨h2, _⟩ | ⟨g', h2, _⟩
        · rw [h2] at e; cases e
        · rw [h2] at e; cases e; rfl
      refine ⟨?_, h.alla b e⟩
      rcases h.alb with h2 | h2
      · exact .inl (h2 ▸ e)
      · exact .inr (h2 b e)
    · rw [if_neg hik] at e
      obtain ⟨h1, h2, _⟩ := h.lblk i (by omega) b o' e
      exact ⟨h1, h2⟩
  refine ⟨?_, fun i hi => ?_, fun i h1 h2 => ?_, fun i hi => ?_, fun i hi => ?_, fun i hi b o' e => ?_, ?_⟩
  · have : (List.range (k + 1)).map (fun j => Value.slice ((fun j => if j = k then al else A' j) j) (N j + 8) ((fun j => if j = k then cl else C' j) j)) =
        (List.range k).map (fun j => Value.slice (A' j) (N j + 8) (C' j)) ++ [.slice al (N k + 8) cl] := by
      rw [List.range_succ, List.map_append]
      congr 1
      · apply List.map_congr_left
        intro j hj
        have : j ≠ k := by have := List.mem_range.1 hj; omega
        simp [this]
      · simp
    rw [this]; exact hO
  · have hg := hF.gold (by omega)
    rw [World.cell?_of_block (w := wr) (hKw.block gb (by omega) (lane gb hg))]
    exact h.gcells i hi
  · exact (h.gown i h1 (by omega)).kp hKw fun g e => lane g (hF.old i h1 g e)
  · refine (h.grd i (by omega)).kp hKw fun b o' e => ?_
    obtain rfl := hF.shape i (by omega) b o' e
    exact lane b (hF.old i (by omega) b e)
  · exact (lrd' i hi).kp hKw fun b o' e => (lbl' i hi b o' e).2
  · obtain ⟨h1, h2⟩ := lbl' i hi b o' e
    refine ⟨h1, la'ne b ?_ h2⟩
    obtain ⟨b', o2, e3, hc⟩ := (lrd' i hi).get (i := 0) (by omega)
    rw [e] at e3
    cases e3
    exact World.block_lt_of_cell? wr _ hc
  · exact h.kp.kp hKw fun j hj e => .inr (by
      rcases ownsRow_cases h.row with ⟨h2, _⟩ | ⟨g', h2, h3, _⟩
      · rw [h2] at e; cases e
      · rw [h2] at e; cases e; exact h3)
end

end Go.Proofs.Ytennilapmcgnbaa
/- WALKS OF FRACTIONS, 12: fractions that were answered are their holder's own. -/
namespace Go.Proofs.Ytennilapmcgnbaa
set_option linter.unusedVariables false
set_option linter.unusedSimpArgs false
open Go.ChangeShapes Go.WideShapes Go.ChangeAt Go.RowKit Go.NatP

section
variable {w : World} {o : Oper} {A : Act} {Q : Exit → Act → World → Prop}
end

/-- K fractions that were answered, in a row: their lists of limbs, each the holder's own -/
structure RGot (w : World) (sa : Option Addr) (K : Nat) (A : Nat → Option Addr) (N C : Nat → Nat) (L : Nat → List Nat) : Prop where
  cells : ∀ i, i < K → ∃ g o, sa = some ⟨g, o, none⟩ ∧ w.cell? ⟨g, o + i * 3 + 1, none⟩ = some (.slice (A (2 * i)) (N (2 * i)) (C (2 * i))) ∧ w.cell? ⟨g, o + i * 3 + 2, none⟩ = some (.slice (A (2 * i + 1)) (N (2 * i + 1)) (C (2 * i + 1)))
  own : ∀ i, i < 2 * K → Own 0 w (A i) (N i) (C i) (L i)
  parted : ∀ i j, i < 2 * K → j < 2 * K → i ≠ j → ∀ g, A i = some ⟨g, 0, none⟩ → A j ≠ some ⟨g, 0, none⟩

theorem range_two {f : Nat → Value} (k : Nat) : (List.range (2 * (k + 1))).map f = (List.range (2 * k)).map f ++ [f (2 * k), f (2 * k + 1)] := by
  rw [show 2 * (k + 1) = 2 * k + 1 + 1 by omega, List.range_succ, List.range_succ]
  simp

end Go.Proofs.Ytennilapmcgnbaa
