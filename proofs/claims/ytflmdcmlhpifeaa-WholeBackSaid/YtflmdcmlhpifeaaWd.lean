/- WALKS, 4: apart: what was told is what must be told, and each answer is its holder's own. -/
import Derived.Test.YtflmdcmlhpifeaaWc
namespace Go.Proofs.Ytflmdcmlhpifeaa
set_option linter.unusedVariables false
open Go.ChangeShapes Go.WideShapes Go.ChangeAt Go.RowKit Go.NatP

theorem same_true {w : World} {a b : Option Addr} {n c m d : Nat} {l : List Nat} (ha : Rd w a n c l) (hb : Rd w b m d l) :
    Calls Try.prog 43 #[.slice a n c, .slice b m d] w fun e w' => e = .returned (.bool true) ∧ ∃ q, w' = w.drewN q :=
  (same_any ha hb).mono fun e w' ⟨h1, h2⟩ => ⟨by rw [h1]; simp, h2⟩

/-- K answers in a row at block gb, each the holder's own. -/
structure Got (w : World) (gb K : Nat) (A : Nat → Option Addr) (N C : Nat → Nat) (L : Nat → List Nat) : Prop where
  cells : ∀ i, i < K → w.cell? ⟨gb, i, none⟩ = some (.slice (A i) (N i) (C i))
  own : ∀ i, i < K → Own 0 w (A i) (N i) (C i) (L i)
  parted : ∀ i j, i < K → j < K → i ≠ j → ∀ g, A i = some ⟨g, 0, none⟩ → A j ≠ some ⟨g, 0, none⟩
  away : ∀ i, i < K → A i ≠ some ⟨gb, 0, none⟩

/-- K answers that must be. -/
def Want (w : World) (wb K : Nat) (L : Nat → List Nat) : Prop :=
  ∀ i, i < K → ∃ b m d, w.cell? ⟨wb, i, none⟩ = some (.slice b m d) ∧ Rd w b m d (L i)

def RetApart (w : World) (K : Nat) (A : Nat → Option Addr) (e : Ending) (w' : World) : Prop :=
  e = .returned (.bool true) ∧ Kp (fun b => ∃ i, i < K ∧ A i = some ⟨b, 0, none⟩) w w'

theorem Got.setCell {w : World} {gb K : Nat} {A : Nat → Option Addr} {N C : Nat → Nat} {L : Nat → List Nat} (h : Got w gb K A N C L)
    {i g k x : Nat} (hi : i < K) (hg : A i = some ⟨g, 0, none⟩) (hx : x < 4294967296) :
    Got (w.setCell ⟨g, k, none⟩ (.int .u32 (x : Int))) gb K A N C (fun j => if j = i then (L i).set k x else L j) := by
  refine ⟨fun j hj => ?_, fun j hj => ?_, h.parted, h.away⟩
  · rw [World.cell?_of_block (w := w) (heap_setCell_other w _ gb _ (fun e => h.away i hi (by rw [hg]; simp only [e])))]
    exact h.cells j hj
  · by_cases hji : j = i
    · subst hji
      simp only [if_true]
      have := h.own j hj
      rw [hg] at this ⊢
      exact this.set k x hx
    · simp only [if_neg hji]
      exact (h.own j hj).set_other _ fun g' e e2 => by
        subst e2
        exact h.parted j i hj hi hji g' e hg

theorem Got.dr {w w' : World} {gb K : Nat} {A : Nat → Option Addr} {N C : Nat → Nat} {L : Nat → List Nat} (h : Got w gb K A N C L) (hD : Dr w w') : Got w' gb K A N C L := by
  obtain ⟨q, rfl⟩ := hD
  exact ⟨h.cells, h.own, h.parted, h.away⟩

/-- what an answer holds when it is written full of marks -/
def mrk (N : Nat → Nat) (i : Nat) : List Nat := List.replicate (N i) (1000 + i)
def mrk9 (N : Nat → Nat) (i t : Nat) : List Nat := mrk N i ++ List.replicate t (2000 + i)

/-- the blocks of the answers -/
def pA (K : Nat) (A : Nat → Option Addr) (b : Nat) : Prop := ∃ i, i < K ∧ A i = some ⟨b, 0, none⟩

/-- BEFORE ROUND k OF THE THIRD LOOP: the first k were gone on with. -/
structure S4 (w wr : World) (gb K : Nat) (A : Nat → Option Addr) (N C : Nat → Nat) (k : Nat) (la : Option Addr) (lc : Nat) (A' : Nat → Option Addr) (C' : Nat → Nat) : Prop where
  row : wr.ownsRow w.heap.size 23 1 (.slice la k lc) k ((List.range k).map fun j => Value.slice (A' j) (N j + 9) (C' j))
  gcells : ∀ i, i < K → wr.cell? ⟨gb, i, none⟩ = some (.slice (A i) (N i) (C i))
  gown : ∀ i, i < K → k ≤ i → Own 0 wr (A i) (N i) (C i) (mrk N i)
  grd : ∀ i, i < k → Rd wr (A i) (N i) (C i) (mrk N i)
  lrd : ∀ i, i < k → Rd wr (A' i) (N i + 9) (C' i) (mrk9 N i 9)
  lblk : ∀ i, i < k → ∀ b o, A' i = some ⟨b, o, none⟩ → (A i = some ⟨b, 0, none⟩ ∨ w.heap.size ≤ b) ∧ la ≠ some ⟨b, 0, none⟩
  kp : Kp (pA K A) w wr

/-- IN ROUND k, t marks appended. -/
structure S4i (w wr : World) (gb K : Nat) (A : Nat → Option Addr) (N C : Nat → Nat) (k : Nat) (la : Option Addr) (lc : Nat) (A' : Nat → Option Addr) (C' : Nat → Nat) (t : Nat) (al : Option Addr) (cl : Nat) : Prop where
  row : wr.ownsRow w.heap.size 23 1 (.slice la k lc) k ((List.range k).map fun j => Value.slice (A' j) (N j + 9) (C' j))
  gcells : ∀ i, i < K → wr.cell? ⟨gb, i, none⟩ = some (.slice (A i) (N i) (C i))
  gown : ∀ i, i < K → k < i → Own 0 wr (A i) (N i) (C i) (mrk N i)
  grd : ∀ i, i ≤ k → Rd wr (A i) (N i) (C i) (mrk N i)
  lrd : ∀ i, i < k → Rd wr (A' i) (N i + 9) (C' i) (mrk9 N i 9)
  lblk : ∀ i, i < k → ∀ b o, A' i = some ⟨b, o, none⟩ → (A i = some ⟨b, 0, none⟩ ∨ w.heap.size ≤ b) ∧ la ≠ some ⟨b, 0, none⟩ ∧ al ≠ some ⟨b, 0, none⟩
  lown : Own 0 wr al (N k + t) cl (mrk9 N k t)
  alb : al = A k ∨ ∀ g, al = some ⟨g, 0, none⟩ → w.heap.size ≤ g
  alla : ∀ g, al = some ⟨g, 0, none⟩ → la ≠ some ⟨g, 0, none⟩
  kp : Kp (pA K A) w wr

/-- what is the same all the way -/
structure Fix (w : World) (gb K : Nat) (A : Nat → Option Addr) (C : Nat → Nat) : Prop where
  parted : ∀ i j, i < K → j < K → i ≠ j → ∀ g, A i = some ⟨g, 0, none⟩ → A j ≠ some ⟨g, 0, none⟩
  away : ∀ i, i < K → A i ≠ some ⟨gb, 0, none⟩
  old : ∀ i, i < K → ∀ g, A i = some ⟨g, 0, none⟩ → g < w.heap.size
  gold : 0 < K → gb < w.heap.size
  shape : ∀ i, i < K → ∀ b o, A i = some ⟨b, o, none⟩ → o = 0

section
variable {w wr w' : World} {gb K k lc t cl cl' : Nat} {A A' : Nat → Option Addr} {N C C' : Nat → Nat} {la al al' : Option Addr}

theorem S4.into (hF : Fix w gb K A C) (h : S4 w wr gb K A N C k la lc A' C') (hk : k < K) : S4i w wr gb K A N C k la lc A' C' 0 (A k) (C k) := by
  refine ⟨h.row, h.gcells, fun i h1 h2 => h.gown i h1 (by omega), fun i hi => ?_, h.lrd, fun i hi b o e => ?_, ?_, .inl rfl, fun g e e2 => ?_, h.kp⟩
  · rcases Nat.lt_or_ge i k with h1 | h1
    · exact h.grd i h1
    · exact (h.gown i (by omega) h1).rd
  · obtain ⟨h1, h2⟩ := h.lblk i hi b o e
    refine ⟨h1, h2, fun e2 => ?_⟩
    rcases h1 with h1 | h1
    · exact hF.parted k i hk (by omega) (by omega) b e2 h1
    · have := hF.old k hk b e2; omega
  · have := h.gown k hk (Nat.le_refl _)
    simpa [mrk9] using this
  · have h1 := hF.old k hk g e
    rcases ownsRow_cases h.row with ⟨h2, _⟩ | ⟨g', h2, h3, _⟩
    · rw [h2] at e2; cases e2
    · rw [h2] at e2; cases e2; omega

theorem S4i.step (hF : Fix w gb K A C) (h : S4i w wr gb K A N C k la lc A' C' t al cl) (hk : k < K) {o : Obj}
    (hO : Own 0 w' al' (N k + t + 1) cl' (mrk9 N k t ++ [2000 + k])) (hK : Kp (fun j => al = some ⟨j, 0, none⟩) (wr.alloc o) w')
    (hf : al' = al ∨ (∀ g, al' = some ⟨g, 0, none⟩ → (wr.alloc o).heap.size ≤ g) ∧ Kp (fun _ => False) (wr.alloc o) w') :
    S4i w w' gb K A N C k la lc A' C' (t + 1) al' cl' := by
  have hsz := h.kp.size
  have hKw : Kp (fun j => al = some ⟨j, 0, none⟩) wr w' := ((Kp.refl _ wr).alloc o).kp hK (fun j hj e => .inl e)
  have hsz' := hKw.size
  have alne : ∀ b, b < w.heap.size → (∀ (_ : al = A k), A k ≠ some ⟨b, 0, none⟩) → al ≠ some ⟨b, 0, none⟩ := by
    intro b hb h1 e
    rcases h.alb with h2 | h2
    · exact h1 h2 (h2 ▸ e)
    · have := h2 b e; omega
  refine ⟨?_, fun i hi => ?_, fun i h1 h2 => ?_, fun i hi => ?_, fun i hi => ?_, fun i hi b o' e => ?_, ?_, ?_, fun g e => ?_, ?_⟩
  · refine ownsRow_block h.row fun g e => hKw.block g ?_ fun e2 => h.alla g e2 e
    rcases ownsRow_cases h.row with ⟨h2, _⟩ | ⟨g', h2, _, h4⟩
    · rw [h2] at e; cases e
    · rw [h2] at e; cases e; exact h4
  · have hg := hF.gold (by omega)
    rw [World.cell?_of_block (w := wr) (hKw.block gb (by omega) (alne gb hg fun _ => hF.away k hk))]
    exact h.gcells i hi
  · exact (h.gown i h1 h2).kp hKw fun g e => alne g (hF.old i h1 g e) fun _ => fun e2 => hF.parted i k h1 hk (by omega) g e e2
  · rcases Nat.lt_or_ge i k with h1 | h1
    · refine (h.grd i hi).kp hKw fun b o' e => ?_
      obtain rfl := hF.shape i (by omega) b o' e
      exact alne b (hF.old i (by omega) b e) fun _ => fun e2 => hF.parted i k (by omega) hk (by omega) b e e2
    · obtain rfl : i = k := by omega
      rcases h.alb with h2 | h2
      · rcases hf with h3 | ⟨_, h3⟩
        · have hR := (hO.take (k := N i) (by omega)).rd
          have e1 : (mrk9 N i t ++ [2000 + i]).take (N i) = mrk N i := by
            rw [mrk9, List.append_assoc, List.take_left' (by simp [mrk])]
          rw [e1, h3, h2] at hR
          exact hR.cap (h.grd i hi).2.2.1 (h.grd i hi).2.2.2.1
        · exact ((h.grd i hi).alloc o).kp h3 (fun _ _ _ e => e)
      · refine (h.grd i hi).kp hKw fun b o' e e2 => ?_
        obtain rfl := hF.shape i (by omega) b o' e
        have := hF.old i hk b e
        have := h2 b e2
        omega
  · exact (h.lrd i hi).kp hKw fun b o' e => (h.lblk i hi b o' e).2.2
  · obtain ⟨h1, h2, h3⟩ := h.lblk i hi b o' e
    refine ⟨h1, h2, fun e2 => ?_⟩
    rcases hf with h4 | ⟨h4, _⟩
    · exact h3 (h4 ▸ e2)
    · have h5 := h4 b e2
      obtain ⟨b', o2, e3, hc⟩ := (h.lrd i hi).get (i := 0) (by omega)
      rw [e] at e3
      cases e3
      have h6 := World.block_lt_of_cell? wr _ hc
      simp at h5 h6
      omega
  · have : mrk9 N k t ++ [2000 + k] = mrk9 N k (t + 1) := by
      rw [mrk9, mrk9, List.append_assoc, ← List.replicate_succ']
    rw [← this]; exact hO
  · rcases hf with h4 | ⟨h4, _⟩
    · rw [h4]; exact h.alb
    · right; intro g e; have := h4 g e; simp at this; omega
  · rcases hf with h4 | ⟨h4, _⟩
    · exact h.alla g (h4 ▸ e)
    · intro e2
      have h5 := h4 g e
      rcases ownsRow_cases h.row with ⟨h2, _⟩ | ⟨g', h2, _, h6⟩
      · rw [h2] at e2; cases e2
      · rw [h2] at e2; cases e2; simp at h5; omega
  · refine h.kp.kp hKw fun j hj e => ?_
    rcases h.alb with h2 | h2
    · exact .inl ⟨k, hk, h2 ▸ e⟩
    · exact .inr (h2 j e)

theorem S4i.out (hF : Fix w gb K A C) (h : S4i w wr gb K A N C k la lc A' C' 9 al cl) (hk : k < K) {o : Obj} {la' : Option Addr} {lc' : Nat}
    (hO : w'.ownsRow w.heap.size 23 1 (.slice la' (k + 1) lc') (k + 1) ((List.range k).map (fun j => Value.slice (A' j) (N j + 9) (C' j)) ++ [.slice al (N k + 9) cl]))
    (hK : Kp (fun j => la = some ⟨j, 0, none⟩) (wr.alloc o) w')
    (hf : la' = la ∨ (∀ g, la' = some ⟨g, 0, none⟩ → (wr.alloc o).heap.size ≤ g) ∧ Kp (fun _ => False) (wr.alloc o) w') :
    S4 w w' gb K A N C (k + 1) la' lc' (fun j => if j = k then al else A' j) (fun j => if j = k then cl else C' j) := by
  have hsz := h.kp.size
  have hKw : Kp (fun j => la = some ⟨j, 0, none⟩) wr w' := ((Kp.refl _ wr).alloc o).kp hK (fun j hj e => .inl e)
  have hsz' := hKw.size
  have lane : ∀ b, b < w.heap.size → la ≠ some ⟨b, 0, none⟩ := by
    intro b hb e
    rcases ownsRow_cases h.row with ⟨h2, _⟩ | ⟨g', h2, h3, _⟩
    · rw [h2] at e; cases e
    · rw [h2] at e; cases e; omega
  have la'ne : ∀ b, b < wr.heap.size → la ≠ some ⟨b, 0, none⟩ → la' ≠ some ⟨b, 0, none⟩ := by
    intro b hb h1 e
    rcases hf with h4 | ⟨h4, _⟩
    · exact h1 (h4 ▸ e)
    · have := h4 b e; simp at this; omega
  have lrd' : ∀ i, i < k + 1 → Rd wr (if i = k then al else A' i) (N i + 9) (if i = k then cl else C' i) (mrk9 N i 9) := by
    intro i hi
    by_cases hik : i = k
    · subst hik; simpa using h.lown.rd
    · simpa only [if_neg hik] using h.lrd i (by omega)
  have lbl' : ∀ i, i < k + 1 → ∀ b o', (if i = k then al else A' i) = some ⟨b, o', none⟩ → (A i = some ⟨b, 0, none⟩ ∨ w.heap.size ≤ b) ∧ la ≠ some ⟨b, 0, none⟩ := by
    intro i hi b o' e
    by_cases hik : i = k
    · subst hik
      simp only [if_true] at e
      obtain rfl : o' = 0 := by
        rcases h.lown.cases with ⟨h2, _⟩ | ⟨g', h2, _⟩
        · rw [h2] at e; cases e
        · rw [h2] at e; cases e; rfl
      refine ⟨?_, h.alla b e⟩
      rcases h.alb with h2 | h2
      · exact .inl (h2 ▸ e)
      · exact .inr (h2 b e)
    · rw [if_neg hik] at e
      obtain ⟨h1, h2, _⟩ := h.lblk i (by omega) b o' e
      exact ⟨h1, h2⟩
  refine ⟨?_, fun i hi => ?_, fun i h1 h2 => ?_, fun i hi => ?_, fun i hi => ?_, fun i hi b o' e => ?_, ?_⟩
  · have : (List.range (k + 1)).map (fun j => Value.slice ((fun j => if j = k then al else A' j) j) (N j + 9) ((fun j => if j = k then cl else C' j) j)) =
        (List.range k).map (fun j => Value.slice (A' j) (N j + 9) (C' j)) ++ [.slice al (N k + 9) cl] := by
      rw [List.range_succ, List.map_append]
      congr 1
      · apply List.map_congr_left
        intro j hj
        have : j ≠ k := by have := List.mem_range.1 hj; omega
        simp [this]
      · simp
    rw [this]; exact hO
  · have hg := hF.gold (by omega)
    rw [World.cell?_of_block (w := wr) (hKw.block gb (by omega) (lane gb hg))]
    exact h.gcells i hi
  · exact (h.gown i h1 (by omega)).kp hKw fun g e => lane g (hF.old i h1 g e)
  · refine (h.grd i (by omega)).kp hKw fun b o' e => ?_
    obtain rfl := hF.shape i (by omega) b o' e
    exact lane b (hF.old i (by omega) b e)
  · exact (lrd' i hi).kp hKw fun b o' e => (lbl' i hi b o' e).2
  · obtain ⟨h1, h2⟩ := lbl' i hi b o' e
    refine ⟨h1, la'ne b ?_ h2⟩
    obtain ⟨b', o2, e3, hc⟩ := (lrd' i hi).get (i := 0) (by omega)
    rw [e] at e3
    cases e3
    exact World.block_lt_of_cell? wr _ hc
  · exact h.kp.kp hKw fun j hj e => .inr (by
      rcases ownsRow_cases h.row with ⟨h2, _⟩ | ⟨g', h2, h3, _⟩
      · rw [h2] at e; cases e
      · rw [h2] at e; cases e; exact h3)
end

end Go.Proofs.Ytflmdcmlhpifeaa
