/- WALKS, 4: apart: what was told is what must be told, and each answer is its holder's own. -/
import Derived.Test.YtknpacegaclcgaaWc
namespace Go.Proofs.Ytknpacegaclcgaa
set_option linter.unusedVariables false
open Go.ChangeShapes Go.WideShapes Go.ChangeAt Go.RowKit Go.NatP

theorem same_true {w : World} {a b : Option Addr} {n c m d : Nat} {l : List Nat} (ha : Rd w a n c l) (hb : Rd w b m d l) :
    Calls Try.prog 45 #[.slice a n c, .slice b m d] w fun e w' => e = .returned (.bool true) ∧ ∃ q, w' = w.drewN q :=
  (same_any ha hb).mono fun e w' ⟨h1, h2⟩ => ⟨by rw [h1]; simp, h2⟩

/-- K answers in a row at block gb, each the holder's own. -/
structure Got (w : World) (gb K : Nat) (A : Nat → Option Addr) (N C : Nat → Nat) (L : Nat → List Nat) : Prop where
  cells : ∀ i, i < K → w.cell? ⟨gb, i, none⟩ = some (.slice (A i) (N i) (C i))
  own : ∀ i, i < K → Own 0 w (A i) (N i) (C i) (L i)
  parted : ∀ i j, i < K → j < K → i ≠ j → ∀ g, A i = some ⟨g, 0, none⟩ → A j ≠ some ⟨g, 0, none⟩
  away : ∀ i, i < K → A i ≠ some ⟨gb, 0, none⟩

/-- K answers that must be. -/
def Want (w : World) (wb K : Nat) (L : Nat → List Nat) : Prop :=
  ∀ i, i < K → ∃ b m d, w.cell? ⟨wb, i, none⟩ = some (.slice b m d) ∧ Rd w b m d (L i)

def RetApart (w : World) (K : Nat) (A : Nat → Option Addr) (e : Ending) (w' : World) : Prop :=
  e = .returned (.bool true) ∧ Kp (fun b => ∃ i, i < K ∧ A i = some ⟨b, 0, none⟩) w w'

theorem Got.setCell {w : World} {gb K : Nat} {A : Nat → Option Addr} {N C : Nat → Nat} {L : Nat → List Nat} (h : Got w gb K A N C L)
    {i g k x : Nat} (hi : i < K) (hg : A i = some ⟨g, 0, none⟩) (hx : x < 4294967296) :
    Got (w.setCell ⟨g, k, none⟩ (.int .u32 (x : Int))) gb K A N C (fun j => if j = i then (L i).set k x else L j) := by
  refine ⟨fun j hj => ?_, fun j hj => ?_, h.parted, h.away⟩
  · rw [World.cell?_of_block (w := w) (heap_setCell_other w _ gb _ (fun e => h.away i hi (by rw [hg]; simp only [e])))]
    exact h.cells j hj
  · by_cases hji : j = i
    · subst hji
      simp only [if_true]
      have := h.own j hj
      rw [hg] at this ⊢
      exact this.set k x hx
    · simp only [if_neg hji]
      exact (h.own j hj).set_other _ fun g' e e2 => by
        subst e2
        exact h.parted j i hj hi hji g' e hg

theorem Got.dr {w w' : World} {gb K : Nat} {A : Nat → Option Addr} {N C : Nat → Nat} {L : Nat → List Nat} (h : Got w gb K A N C L) (hD : Dr w w') : Got w' gb K A N C L := by
  obtain ⟨q, rfl⟩ := hD
  exact ⟨h.cells, h.own, h.parted, h.away⟩

/-- what an answer holds when it is written full of marks -/
def mrk (N : Nat → Nat) (i : Nat) : List Nat := List.replicate (N i) (1000 + i)
def mrk9 (N : Nat → Nat) (i t : Nat) : List Nat := mrk N i ++ List.replicate t (2000 + i)

/-- the blocks of the answers -/
def pA (K : Nat) (A : Nat → Option Addr) (b : Nat) : Prop := ∃ i, i < K ∧ A i = some ⟨b, 0, none⟩

/-- BEFORE ROUND k OF THE THIRD LOOP: the first k were gone on with. -/
structure S4 (w wr : World) (gb K : Nat) (A : Nat → Option Addr) (N C : Nat → Nat) (k : Nat) (la : Option Addr) (lc : Nat) (A' : Nat → Option Addr) (C' : Nat → Nat) : Prop where
  row : wr.ownsRow w.heap.size 24 1 (.slice la k lc) k ((List.range k).map fun j => Value.slice (A' j) (N j + 9) (C' j))
  gcells : ∀ i, i < K → wr.cell? ⟨gb, i, none⟩ = some (.slice (A i) (N i) (C i))
  gown : ∀ i, i < K → k ≤ i → Own 0 wr (A i) (N i) (C i) (mrk N i)
  grd : ∀ i, i < k → Rd wr (A i) (N i) (C i) (mrk N i)
  lrd : ∀ i, i < k → Rd wr (A' i) (N i + 9) (C' i) (mrk9 N i 9)
  lblk : ∀ i, i < k → ∀ b o, A' i = some ⟨b, o, none⟩ → (A i = some ⟨b, 0, none⟩ ∨ w.heap.size ≤ b) ∧ la ≠ some ⟨b, 0, none⟩
  kp : Kp (pA K A) w wr

/-- IN ROUND k, t marks appended. -/
structure S4i (w wr : World) (gb K : Nat) (A : Nat → Option Addr) (N C : Nat → Nat) (k : Nat) (la : Option Addr) (lc : Nat) (A' : Nat → Option Addr) (C' : Nat → Nat) (t : Nat) (al : Option Addr) (cl : Nat) : Prop where
  row : wr.ownsRow w.heap.size 24 1 (.slice la k lc) k ((List.range k).map fun j => Value.slice (A' j) (N j + 9) (C' j))
  gcells : ∀ i, i < K → wr.cell? ⟨gb, i, none⟩ = some (.slice (A i) (N i) (C i))
  gown : ∀ i, i < K → k < i → Own 0 wr (A i) (N i) (C i) (mrk N i)
  grd : ∀ i, i ≤ k → Rd wr (A i) (N i) (C i) (mrk N i)
  lrd : ∀ i, i < k → Rd wr (A' i) (N i + 9) (C' i) (mrk9 N i 9)
  lblk : ∀ i, i < k → ∀ b o, A' i = some ⟨b, o, none⟩ → (A i = some ⟨b, 0, none⟩ ∨ w.heap.size ≤ b) ∧ la ≠ some ⟨b, 0, none⟩ ∧ al ≠ some ⟨b, 0, none⟩
  lown : Own 0 wr al (N k + t) cl (mrk9 N k t)
  alb : al = A k ∨ ∀ g, al = some ⟨g, 0, none⟩ → w.heap.size ≤ g
  alla : ∀ g, al = some ⟨g, 0, none⟩ → la ≠ some ⟨g, 0, none⟩
  kp : Kp (pA K A) w wr

/-- what is the same all the way -/
structure Fix (w : World) (gb K : Nat) (A : Nat → Option Addr) (C : Nat → Nat) : Prop where
  parted : ∀ i j, i < K → j < K → i ≠ j → ∀ g, A i = some ⟨g, 0, none⟩ → A j ≠ some ⟨g, 0, none⟩
  away : ∀ i, i < K → A i ≠ some ⟨gb, 0, none⟩
  old : ∀ i, i < K → ∀ g, A i = some ⟨g, 0, none⟩ → g < w.heap.size
  gold : 0 < K → gb < w.heap.size
  shape : ∀ i, i < K → ∀ b o, A i = some ⟨b, o, none⟩ → o = 0

section
variable {w wr w' : World} {gb K k lc t cl cl' : Nat} {A A' : Nat → Option Addr} {N C C' : Nat → Nat} {la al al' : Option Addr}

theorem S4.into (hF : Fix w gb K A C) (h : S4 w wr gb K A N C k la lc A' C') (hk : k < K) : S4i w wr gb K A N C k la lc A' C' 0 (A k) (C k) := by
  refine ⟨h.row, h.gcells, fun i h1 h2 => h.gown i h1 (by omega), fun i hi => ?_, h.lrd, fun i hi b o e => ?_, ?_, .inl rfl, fun g e e2 => ?_, h.kp⟩
  · rcases Nat.lt_or_ge i k with h1 | h1
    · exact h.grd i h1
    · exact (h.gown i (by omega) h1).rd
  · obtain ⟨h1, h2⟩ := h.lblk i hi b o e
    refine ⟨h1, h2, fun e2 => ?_⟩
    rcases h1 with h1 | h1
    · exact hF.parted k i hk (by omega) (by omega) b e2 h1
    · have := hF.old k hk b e2; omega
  · have := h.gown k hk (Nat.le_refl _)
    simpa [mrk9] using this
  · have h1 := hF.old k hk g e
    rcases ownsRow_cases h.row with ⟨h2, _⟩ | ⟨g', h2, h3, _⟩
    · rw [h2] at e2; cases e2
    · rw [h2] at e2; cases e2; omega

theorem S4i.step (hF : Fix w gb K A C) (h : S4i w wr gb K A N C k la lc A' C' t al cl) (hk : k < K) {o : Obj}
    (hO : Own 0 w' al' (N k + t + 1) cl' (mrk9 N k t ++ [2000 + k])) (hK : Kp (fun j => al = some ⟨j, 0, none⟩) (wr.alloc o) w')
    (hf : al' = al ∨ (∀ g, al' = some ⟨g, 0, none⟩ → (wr.alloc o).heap.size ≤ g) ∧ Kp (fun _ => False) (wr.alloc o) w') :
    S4i w w' gb K A N C k la lc A' C' (t + 1) al' cl' := by
  have hsz := h.kp.size
  have hKw : Kp (fun j => al = some ⟨j, 0, none⟩) wr w' := ((Kp.refl _ wr).alloc o).kp hK (fun j hj e => .inl e)
  have hsz' := hKw.size
  have alne : ∀ b, b < w.heap.size → (∀ (_ : al = A k), A k ≠ some ⟨b, 0, none⟩) → al ≠ some ⟨b, 0, none⟩ := by
    intro b hb h1 e
    rcases h.alb with h2 | h2
    · exact h1 h2 (h2 ▸ e)
    · have := h2 b e; omega
  refine ⟨?_, fun i hi => ?_, fun i h1 h2 => ?_, fun i hi => ?_, fun i hi => ?_, fun i hi b o' e => ?_, ?_, ?_, fun g e => ?_, ?_⟩
  · refine ownsRow_block h.row fun g e => hKw.block g ?_ fun e2 => h.alla g e2 e
    rcases ownsRow_cases h.row with ⟨h2, _⟩ | ⟨g', h2, _, h4⟩
    · rw [h2] at e; cases e
    · rw [h2] at e; cases e; exact h4
  · have hg := hF.gold (by omega)
    rw [World.cell?_of_block (w := wr) (hKw.block gb (by omega) (alne gb hg fun _ => hF.away k hk))]
    exact h.gcells i hi
  · exact (h.gown i h1 h2).kp hKw fun g e => alne g (hF.old i h1 g e) fun _ => fun e2 => hF.parted i k h1 hk (by omega) g e e2
  · rcases Nat.lt_or_ge i k with h1 | h1
    · refine (h.grd i hi).kp hKw fun b o' e => ?_
      obtain rfl := hF.shape i (by omega) b o' e
      exact alne b (hF.old i (by omega) b e) fun _ => fun e2 => hF.parted i k (by omega) hk (by omega) b e e2
    · obtain rfl : i = k := by omega
      rcases h.alb with h2 | h2
      · rcases hf with h3 | ⟨_, h3⟩
        · have hR := (hO.take (k := N i) (by omega)).rd
          have e1 : (mrk9 N i t ++ [2000 + i]).take (N i) = mrk N i := by
            rw [mrk9, List.append_assoc, List.take_left' (by simp [mrk])]
          rw [e1, h3, h2] at hR
          exact hR.cap (h.grd i hi).2.2.1 (h.grd i hi).2.2.2.1
        · exact ((h.grd i hi).alloc o).kp h3 (fun _ _ _ e => e)
      · refine (h.grd i hi).kp hKw fun b o' e e2 => ?_
        obtain rfl := hF.shape i (by omega) b o' e
        have := hF.old i hk b e
        have := h2 b e2
        omega
  · exact (h.lrd i hi).kp hKw fun b o' e => (h.lblk i hi b o' e).2.2
  · obtain ⟨h1, h2, h3⟩ := h.lblk i hi b o' e
    refine ⟨h1, h2, fun e2 => ?_⟩
    rcases hf with h4 | ⟨h4, _⟩
    · exact h3 (h4 ▸ e2)
    · have h5 := h4 b e2
      obtain ⟨b', o2, e3, hc⟩ := (h.lrd i hi).get (i := 0) (by omega)
      rw [e] at e3
      cases e3
      have h6 := World.block_lt_of_cell? wr _ hc
      simp at h5 h6
      omega
  · have : mrk9 N k t ++ [2000 + k] = mrk9 N k (t + 1) := by
      rw [mrk9, mrk9, List.append_assoc, ← List.replicate_succ']
    rw [← this]; exact hO
  · rcases hf with h4 | ⟨h4, _⟩
    · rw [h4]; exact h.alb
    · right; intro g e; have := h4 g e; simp at this; omega
  · rcases hf with h4 | ⟨h4, _⟩
    · exact h.alla g (h4 ▸ e)
    · intro e2
      have h5 := h4 g e
      rcases ownsRow_cases h.row with ⟨h2, _⟩ | ⟨g', h2, _, h6⟩
      · rw [h2] at e2; cases e2
      · rw [h2] at e2; cases e2; simp at h5; omega
  · refine h.kp.kp hKw fun j hj e => ?_
    rcases h.alb with h2 | h2
    · exact .inl ⟨k, hk, h2 ▸ e⟩
    · exact .inr (h2 j e)

theorem S4i.out (hF : Fix w gb K A C) (h : S4i w wr gb K A N C k la lc A' C' 9 al cl) (hk : k < K) {o : Obj} {la' : Option Addr} {lc' : Nat}
    (hO : w'.ownsRow w.heap.size 24 1 (.slice la' (k + 1) lc') (k + 1) ((List.range k).map (fun j => Value.slice (A' j) (N j + 9) (C' j)) ++ [.slice al (N k + 9) cl]))
    (hK : Kp (fun j => la = some ⟨j, 0, none⟩) (wr.alloc o) w')
    (hf : la' = la ∨ (∀ g, la' = some ⟨g, 0, none⟩ → (wr.alloc o).heap.size ≤ g) ∧ Kp (fun _ => False) (wr.alloc o) w') :
    S4 w w' gb K A N C (k + 1) la' lc' (fun j => if j = k then al else A' j) (fun j => if j = k then cl else C' j) := by
  have hsz := h.kp.size
  have hKw : Kp (fun j => la = some ⟨j, 0, none⟩) wr w' := ((Kp.refl _ wr).alloc o).kp hK (fun j hj e => .inl e)
  have hsz' := hKw.size
  have lane : ∀ b, b < w.heap.size → la ≠ some ⟨b, 0, none⟩ := by
    intro b hb e
    rcases ownsRow_cases h.row with ⟨h2, _⟩ | ⟨g', h2, h3, _⟩
    · rw [h2] at e; cases e
    · rw [h2] at e; cases e; omega
  have la'ne : ∀ b, b < wr.heap.size → la ≠ some ⟨b, 0, none⟩ → la' ≠ some ⟨b, 0, none⟩ := by
    intro b hb h1 e
    rcases hf with h4 | ⟨h4, _⟩
    · exact h1 (h4 ▸ e)
    · have := h4 b e; simp at this; omega
  have lrd' : ∀ i, i < k + 1 → Rd wr (if i = k then al else A' i) (N i + 9) (if i = k then cl else C' i) (mrk9 N i 9) := by
    intro i hi
    by_cases hik : i = k
    · subst hik; simpa using h.lown.rd
    · simpa only [if_neg hik] using h.lrd i (by omega)
  have lbl' : ∀ i, i < k + 1 → ∀ b o', (if i = k then al else A' i) = some ⟨b, o', none⟩ → (A i = some ⟨b, 0, none⟩ ∨ w.heap.size ≤ b) ∧ la ≠ some ⟨b, 0, none⟩ := by
    intro i hi b o' e
    by_cases hik : i = k
    · subst hik
      simp only [if_true] at e
      obtain rfl : o' = 0 := by
        rcases h.lown.cases with ⟨h2, _⟩ | ⟨g', h2, _⟩
        · rw [h2] at e; cases e
        · rw [h2] at e; cases e; rfl
      refine ⟨?_, h.alla b e⟩
      rcases h.alb with h2 | h2
      · exact .inl (h2 ▸ e)
      · exact .inr (h2 b e)
    · rw [if_neg hik] at e
      obtain ⟨h1, h2, _⟩ := h.lblk i (by omega) b o' e
      exact ⟨h1, h2⟩
  refine ⟨?_, fun i hi => ?_, fun i h1 h2 => ?_, fun i hi => ?_, fun i hi => ?_, fun i hi b o' e => ?_, ?_⟩
  · have : (List.range (k + 1)).map (fun j => Value.slice ((fun j => if j = k then al else A' j) j) (N j + 9) ((fun j => if j = k then cl else C' j) j)) =
        (List.range k).map (fun j => Value.slice (A' j) (N j + 9) (C' j)) ++ [.slice al (N k + 9) cl] := by
      rw [List.range_succ, List.map_append]
      congr 1
      · apply List.map_congr_left
        intro j hj
        have : j ≠ k := by have := List.mem_range.1 hj; omega
        simp [this]
      · simp
    rw [this]; exact hO
  · have hg := hF.gold (by omega)
    rw [World.cell?_of_block (w := wr) (hKw.block gb (by omega) (lane gb hg))]
    exact h.gcells i hi
  · exact (h.gown i h1 (by omega)).kp hKw fun g e => lane g (hF.old i h1 g e)
  · refine (h.grd i (by omega)).kp hKw fun b o' e => ?_
    obtain rfl := hF.shape i (by omega) b o' e
    exact lane b (hF.old i (by omega) b e)
  · exact (lrd' i hi).kp hKw fun b o' e => (lbl' i hi b o' e).2
  · obtain ⟨h1, h2⟩ := lbl' i hi b o' e
    refine ⟨h1, la'ne b ?_ h2⟩
    obtain ⟨b', o2, e3, hc⟩ := (lrd' i hi).get (i := 0) (by omega)
    rw [e] at e3
    cases e3
    exact World.block_lt_of_cell? wr _ hc
  · exact h.kp.kp hKw fun j hj e => .inr (by
      rcases ownsRow_cases h.row with ⟨h2, _⟩ | ⟨g', h2, h3, _⟩
      · rw [h2] at e; cases e
      · rw [h2] at e; cases e; exact h3)
end

set_option maxRecDepth 100000 in
set_option maxHeartbeats 4000000 in
theorem apart_any {w : World} {gb wb K : Nat} {A : Nat → Option Addr} {N C : Nat → Nat} {L : Nat → List Nat} (hK : K ≤ 1000) (hG : Got w gb K A N C L) (hW : Want w wb K L)
    (hN : ∀ i, i < K → N i ≤ 268435456) :
    Calls Try.prog 20 #[.slice (some ⟨gb, 0, none⟩) K K, .slice (some ⟨wb, 0, none⟩) K K] w (RetApart w K A) := by
  have HG := hid hG
  have HW := hid hW
  have HN := hid hN
  have HF : Hid (Fix w gb K A C) := ⟨hG.parted, hG.away, fun i hi g e => by have := hG.own i hi; rw [e] at this; exact this.lt.2,
    fun h0 => World.block_lt_of_cell? w _ (hG.cells 0 h0), fun i hi b o e => by
      rcases (hG.own i hi).cases with ⟨h, _⟩ | ⟨g, h, _⟩
      · rw [h] at e; cases e
      · rw [h] at e; cases e; rfl⟩
  clear hG hW hN
  go_enter Try.func20, Try.ntmps20
  go_wp2
  go_loopw [5, 6] (fun i _ wr => ∃ k : Nat, k ≤ K ∧ i = .int .i64 k ∧ Dr w wr) (fun i _ _ => K - (intOf i).toNat)
  case atStart => exact ⟨0, by omega, rfl, Dr.refl w⟩
  case round =>
    obtain ⟨k, hk, rfl, hD⟩ := hrel
    by_cases hlt : k < K
    · have hc1 := (hD.cell _).trans (HG.out.cells k hlt)
      have ho1 := hD.rd (HG.out.own k hlt).rd
      obtain ⟨b, m, d, hc2, hr2⟩ := HW.out k hlt
      have hc2 := (hD.cell _).trans hc2
      have hr2 := hD.rd hr2
      go_wp2
      go_quiet ((go_at_call 45; exact Calls.quiet_of (same_true ho1 hr2)))
      go_wp2
      go_roundw
      case rel => exact ⟨k + 1, by omega, by go_num, hD.drewN _⟩
      case measure => simp [intOf]; omega
    · obtain rfl : k = K := by omega
      have HG1 : Hid (Got wr gb k A N C L) := HG.out.dr hD
      have HKp : Hid (Kp (pA k A) w wr) := hD.kp _
      clear HG hD HW
      go_wp2
      go_loopw [7] (fun i wr => ∃ (j : Nat) (L' : Nat → List Nat), j ≤ k ∧ i = .int .i64 j ∧ Hid (Got wr gb k A N C L') ∧ Hid (∀ i, i < j → L' i = mrk N i) ∧ Hid (Kp (pA k A) w wr)) (fun i _ => k - (intOf i).toNat)
      case atStart => exact ⟨0, L, by omega, rfl, HG1, fun i hi => absurd hi (by omega), HKp⟩
      case round =>
        clear HG1 HKp
        obtain ⟨wo, rfl⟩ : ∃ wo : World, wo = wr := ⟨_, rfl⟩
        obtain ⟨j, L', hj, rfl, HG, HM, HKp⟩ := hrel
        by_cases hlt : j < k
        · go_wp2
          go_loopw [8] (fun i wr => ∃ (t : Nat) (L' : Nat → List Nat), t ≤ N j ∧ i = .int .i64 t ∧ Hid (Got wr gb k A N C L') ∧ Hid (∀ i, i < j → L' i = mrk N i) ∧ Hid (∀ s, s < t → (L' j).getD s 0 = 1000 + j) ∧ Hid (Kp (pA k A) w wr)) (fun i _ => N j - (intOf i).toNat)
          case atStart => exact ⟨0, L', by omega, rfl, HG, HM, fun s hs => absurd hs (by omega), HKp⟩
          case round =>
            clear HG HM HKp
            obtain ⟨t, L', ht, rfl, HG, HM, HT, HKp⟩ := hrel
            have hNj : N j ≤ 268435456 := HN.out j hlt
            have hcl := HG.out.cells j hlt
            by_cases htl : t < N j
            · have hOj := HG.out.own j hlt
              rcases hOj.cases with ⟨_, h, _⟩ | ⟨g, hAj, _⟩
              · omega
              have HAj := hid hAj
              rw [hAj] at hcl hOj
              have hfr := hOj.free t
              have hcc := hOj.cell htl
              have HG' := hid (HG.out.setCell (x := 1000 + j) (k := t) hlt hAj (by omega))
              have HT' : Hid (∀ s, s < t + 1 → ((fun i => if i = j then (L' j).set t (1000 + j) else L' i) j).getD s 0 = 1000 + j) := by
                intro s hs
                simp only [if_true]
                by_cases hst : s = t
                · subst hst; exact NatP.getD_set_eq _ _ _ (by rw [hOj.len]; exact htl)
                · rw [NatP.getD_set_ne _ _ _ _ (by omega)]; exact HT.out s (by omega)
              have HM' : Hid (∀ i, i < j → (fun i => if i = j then (L' j).set t (1000 + j) else L' i) i = mrk N i) := by
                intro i hi
                simp only [if_neg (show i ≠ j by omega)]
                exact HM.out i hi
              have HKp' : Hid (Kp (pA k A) w (wr.setCell ⟨g, t, none⟩ (.int .u32 ((1000 + j : Nat) : Int)))) := HKp.out.setCell ⟨j, hlt, hAj⟩ _
              clear hAj hOj HG HM HT HKp
              generalize hL'' : (fun i => if i = j then (L' j).set t (1000 + j) else L' i) = L'' at *
              clear hL''
              go_wp2
              go_roundw
              case rel => exact ⟨t + 1, L'', by omega, by go_num, HG', HM', HT', HKp'⟩
              case measure => simp [intOf]; omega
            · obtain rfl : t = N j := by omega
              have HM' : Hid (∀ i, i < j + 1 → L' i = mrk N i) := by
                intro i hi
                by_cases hij : i = j
                · subst hij
                  exact list_eq_of_getD (by rw [(HG.out.own i hlt).len]; simp [mrk]) fun s hs => by
                    rw [(HG.out.own i hlt).len] at hs
                    rw [HT.out s hs]
                    simp [mrk, List.getD_eq_getElem?_getD, hs]
                · exact HM.out i (by omega)
              clear HM HT
              go_wp2
              go_roundw
              case rel => exact ⟨j + 1, L', by omega, by go_num, HG, HM', HKp⟩
              case measure => simp [intOf]; omega
        · obtain rfl : j = k := by omega
          have hFix : Hid (Fix w gb j A C) := HF
          have hG := HG.out
          have hS : Hid (S4 w wo gb j A N C 0 none 0 (fun _ => none) (fun _ => 0)) :=
            ⟨World.ownsRow_nil _ _ _ _, hG.cells, fun i hi _ => by rw [← HM.out i hi]; exact hG.own i hi, fun i hi => absurd hi (by omega), fun i hi => absurd hi (by omega), fun i hi => absurd hi (by omega), HKp.out⟩
          clear hG HG HM HKp HF
          go_wp2
          go_loopw [9, 10] (fun v i wr => ∃ (k lc : Nat) (la : Option Addr) (A' : Nat → Option Addr) (C' : Nat → Nat), k ≤ j ∧ v = .slice la k lc ∧ i = .int .i64 k ∧ Hid (S4 w wr gb j A N C k la lc A' C')) (fun _ i _ => j - (intOf i).toNat)
          case atStart => exact ⟨0, 0, none, _, _, by omega, rfl, rfl, hS⟩
          case round =>
            clear hS wo
            obtain ⟨wo, rfl⟩ : ∃ wo : World, wo = wr := ⟨_, rfl⟩
            obtain ⟨k, lc, la, A', C', hk, rfl, rfl, hS⟩ := hrel
            by_cases hlt : k < j
            · have hcl := hS.out.gcells k hlt
              have hI := hid (hS.out.into hFix.out hlt)
              have hNk : N k ≤ 268435456 := HN.out k hlt
              clear hS
              go_wp2
              go_loopw [11, 12] (fun v i wr => ∃ (t m cl : Nat) (al : Option Addr), t ≤ 9 ∧ v = .slice al m cl ∧ i = .int .i64 t ∧ m ≤ N k + t ∧ N k + t ≤ m ∧ Hid (S4i w wr gb j A N C k la lc A' C' t al cl)) (fun _ i _ => 9 - (intOf i).toNat)
              case atStart => exact ⟨0, N k, C k, A k, by omega, rfl, rfl, by omega, by omega, hI⟩
              case round =>
                clear hI hcl wo
                obtain ⟨t, m, cl, al, ht, rfl, rfl, hm1, hm2, hI⟩ := hrel
                by_cases htl : t < 9
                · have hO : Own 0 wr al m cl (mrk9 N k t) := by
                    have := hI.out.lown
                    rwa [show N k + t = m by omega] at this
                  go_wp2_with (at_builtin; refine wpList_app1 (y := 2000 + k) rfl _ _ rfl rfl (hO.alloc _) _ 1 rfl (by omega) (by go_simp) (by simp) (by omega) ?_; intro a2 c2 w2 hO2 hK2 hF2)
                  have hI' := hid (hI.out.step hFix.out hlt (by rw [show N k + t + 1 = m + 1 by omega]; exact hO2) hK2 hF2)
                  clear hO hO2 hK2 hF2 hI
                  go_wp2
                  go_roundw
                  case rel => exact ⟨t + 1, m + 1, c2, a2, by omega, rfl, by go_num, by omega, by omega, hI'⟩
                  case measure => simp [intOf]; omega
                · obtain rfl : t = 9 := by omega
                  have hrow := hI.out.row
                  have hsz := hI.out.kp.size
                  go_wp2_with (at_builtin; refine wpList_appS (u := .slice al m cl) rfl _ _ rfl rfl (hrow.alloc _) _ 1 rfl rfl (by go_simp) (by simp; omega) (by omega) ?_; intro a2 c2 w2 hO2 hK2 hF2)
                  have hS' := hid (hI.out.out hFix.out hlt (by rw [show N k + 9 = m by omega]; exact hO2) hK2 hF2)
                  clear hO2 hK2 hF2 hI hrow
                  go_wp2
                  go_roundw
                  case rel => exact ⟨k + 1, c2, a2, _, _, by omega, rfl, by go_num, hS'⟩
                  case measure => simp [intOf]; omega
            · obtain rfl : k = j := by omega
              have HKp : Hid (Kp (pA k A) w wo) := hS.out.kp
              go_wp2
              go_loopw [13] (fun i wr => ∃ s : Nat, s ≤ k ∧ i = .int .i64 s ∧ Dr wo wr) (fun i _ => k - (intOf i).toNat)
              case atStart => exact ⟨0, by omega, rfl, Dr.refl _⟩
              case round =>
                obtain ⟨s, hs, rfl, hD⟩ := hrel
                by_cases hlt : s < k
                · obtain ⟨g, rfl⟩ : ∃ g, la = some ⟨g, 0, none⟩ := by
                    rcases ownsRow_cases hS.out.row with ⟨_, h, _⟩ | ⟨g, h, _⟩
                    · omega
                    · exact ⟨g, h⟩
                  have hlc := ownsRow_bnd hS.out.row
                  have hlcell : wo.cell? ⟨g, s, none⟩ = some (.slice (A' s) (N s + 9) (C' s)) := by
                    rw [hS.out.row.cellAt s (by omega)]; simp [hlt]
                  have hgcell := hS.out.gcells s hlt
                  have hNs : N s ≤ 268435456 := HN.out s hlt
                  obtain ⟨hlc1, hlc2, _⟩ := hlc
                  unfold maxLen at hlc2
                  have hlb := (hS.out.lrd s hlt).bnd
                  go_wp2
                  go_loopw [14] (fun i wr => ∃ t : Nat, t ≤ N s + 9 ∧ i = .int .i64 t ∧ Dr wo wr) (fun i _ => N s + 9 - (intOf i).toNat)
                  case atStart => exact ⟨0, by omega, rfl, hD⟩
                  case round =>
                    clear hD
                    obtain ⟨t, ht, rfl, hD⟩ := hrel
                    have hc1 := (hD.cell _).trans hlcell
                    have hc2 := (hD.cell _).trans hgcell
                    clear hlcell hgcell
                    by_cases htl : t < N s + 9
                    · obtain ⟨b, o, hA', hcc⟩ := (hS.out.lrd s hlt).get htl
                      have hcc := (hD.cell _).trans hcc
                      rw [hA'] at hc1
                      by_cases htN : t < N s
                      · obtain ⟨b2, o2, hA2, hcc2⟩ := (hS.out.grd s (by omega)).get htN
                        have hcc2 := (hD.cell _).trans hcc2
                        rw [hA2] at hc2
                        have e1 : (mrk9 N s 9).getD t 0 = 1000 + s := by
                          simp [mrk9, mrk, List.getD_eq_getElem?_getD, List.getElem?_append_left, htN]
                        have e2 : (mrk N s).getD t 0 = 1000 + s := by simp [mrk, List.getD_eq_getElem?_getD, htN]
                        rw [e1] at hcc
                        rw [e2] at hcc2
                        have hd1 : decide (N s ≤ t) = false := by simp; omega
                        have hd2 : decide (t < N s) = true := by simp; omega
                        clear hA' hA2 e1 e2 hS
                        go_wp2
                        exact ⟨⟨t + 1, by omega, by go_num, hD⟩, by simp [intOf]; omega⟩
                      · have e1 : (mrk9 N s 9).getD t 0 = 2000 + s := by
                          rw [mrk9, List.getD_eq_getElem?_getD, List.getElem?_append_right (by simp [mrk]; omega), List.getElem?_replicate, if_pos (by simp [mrk]; omega)]
                          rfl
                        rw [e1] at hcc
                        have hd1 : decide (N s ≤ t) = true := by simp; omega
                        have hd2 : decide (t < N s) = false := by simp; omega
                        clear hA' e1 hS
                        go_wp2
                        exact ⟨⟨t + 1, by omega, by go_num, hD⟩, by simp [intOf]; omega⟩
                    · obtain rfl : t = N s + 9 := by omega
                      clear hS
                      go_wp2
                      go_roundw
                      case rel => exact ⟨s + 1, by omega, by go_num, hD⟩
                      case measure => simp [intOf]; omega
                · go_wp2
                  go_ret
                  exact ⟨rfl, HKp.out.kp (hD.kp (pA k A)) fun _ _ h => .inl h⟩

end Go.Proofs.Ytknpacegaclcgaa
