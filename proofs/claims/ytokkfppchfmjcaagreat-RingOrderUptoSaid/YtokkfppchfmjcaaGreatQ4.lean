/- WALKS OF FRACTIONS, 10: what is handed in: marked room behind. -/
import Derived.Test.YtokkfppchfmjcaaGreatQ3
import Derived.Test.YtokkfppchfmjcaaGreatW1
namespace Go.Proofs.YtokkfppchfmjcaaGreat
set_option linter.unusedVariables false
set_option linter.unusedSimpArgs false
set_option maxRecDepth 100000
open Go.ChangeShapes Go.WideShapes Go.ChangeAt Go.RowKit Go.NatP

/-- A copy with five marked limbs of room behind. -/
def RetLimbs (w : World) (n : Nat) (l : List Nat) (e : Ending) (w' : World) : Prop :=
  ∃ a c, e = .returned (.slice a n c) ∧ Own w.heap.size w' a (n + 5) c (l ++ List.replicate 5 7000) ∧ Below w.heap.size w w'

theorem repl_snoc7 (l : List Nat) (k : Nat) : l ++ List.replicate k 7000 ++ [7000] = l ++ List.replicate (k + 1) 7000 := by
  rw [List.append_assoc, ← List.replicate_succ']

set_option maxRecDepth 100000 in
set_option maxHeartbeats 1000000 in
theorem limbs_any {w : World} {a : Option Addr} {n c : Nat} {l : List Nat} (hR : Rd w a n c l) (hn : n ≤ 268435456) :
    Calls Tryz.prog 59 #[.slice a n c] w (RetLimbs w n l) := by
  have hb := hR.bnd
  go_enter Tryz.func59, Tryz.ntmps59
  go_wp2_with (at_builtin; refine wpList_appR rfl _ _ rfl rfl (own_nil w.heap.size w) rfl hR (Nat.le_refl _) (by omega) ?_; intro a1 c1 w1 hO1 hK1 _)
  rw [Nat.zero_add, List.nil_append] at hO1
  have hB1 : Below w.heap.size w w1 := (Below.refl _ _).kp hK1 (Nat.le_refl _) (by simp)
  have hn0 : (0 + n) = n := Nat.zero_add n
  go_loopw [3, 4] (fun v i wr => ∃ (k m c1 : Nat) (a1 : Option Addr), k ≤ 5 ∧ i = .int .i64 k ∧ v = .slice a1 m c1 ∧ Hid (m = n + k) ∧ Own w.heap.size wr a1 m c1 (l ++ List.replicate k 7000) ∧ Below w.heap.size w wr) (fun _ i _ => 5 - (intOf i).toNat)
  case atStart => exact ⟨0, n, c1, a1, by omega, rfl, by simp, rfl, by simpa using hO1, hB1⟩
  case round =>
    clear hn0 hO1 hK1 hB1
    obtain ⟨k, m, c1, a1, hk, rfl, rfl, hm, hO, hB⟩ := hrel
    have hsz := hB.size
    have hcb := hO.bnd
    have hm1 : m ≤ n + k := by have := hm.out; omega
    have hm2 : n + k ≤ m := by have := hm.out; omega
    by_cases hlt : k < 5
    · go_wp2_with (at_builtin; refine wpList_app1 (y := 7000) rfl _ _ rfl rfl (hO.alloc _) _ 1 rfl (by omega) (by go_simp) (by simp; omega) (by omega) ?_; intro a2 c2 w2 hO2 hK2 _)
      go_roundw
      case rel => exact ⟨k + 1, m + 1, c2, a2, by omega, by go_num, rfl, by show m + 1 = n + (k + 1); omega, by rw [← repl_snoc7]; exact hO2, (hB.alloc hsz _).kp hK2 (by simp; omega) (own_ne hO hsz)⟩
      case measure => simp [intOf]; omega
    · obtain rfl : k = 5 := by omega
      rcases hO.cases with ⟨_, h, _⟩ | ⟨g, rfl, _⟩
      · omega
      · go_wp2
        go_ret
        exact ⟨_, c1, rfl, by rw [← hm.out]; exact hO, hB⟩

theorem room_hi7 (l : List Nat) (k : Nat) (h : l.length ≤ k) (h2 : k < l.length + 5) : (l ++ List.replicate 5 7000).getD k 0 = 7000 := by
  rw [List.getD_eq_getElem?_getD, List.getElem?_append_right h, List.getElem?_replicate, if_pos (by omega)]
  rfl

set_option maxRecDepth 100000 in
set_option maxHeartbeats 1000000 in
theorem stands_any {w : World} {a b : Option Addr} {n c d : Nat} {l : List Nat} (hm : Rd w a (n + 5) c (l ++ List.replicate 5 7000)) (hl : Rd w b n d l) :
    Calls Tryz.prog 71 #[.slice a n c, .slice b n d] w (RetB w true) := by
  have hb1 := hm.bnd
  have hb2 := hl.bnd
  obtain ⟨ba, oa, rfl⟩ := hm.head (by omega)
  have hlen := hl.len
  have hLo : Hid (∀ k, k < n → w.cell? ⟨ba, oa + k, none⟩ = some (.int .u32 (l.getD k 0 : Nat))) := fun k hk => by
    rw [hm.cell (by omega), room_lo _ _ _ (by omega)]
  have hHi : Hid (∀ k, n ≤ k → k < n + 5 → w.cell? ⟨ba, oa + k, none⟩ = some (.int .u32 7000)) := fun k hk hk2 => by
    rw [hm.cell (by omega), room_hi7 _ _ (by omega) (by omega)]; rfl
  clear hm hlen
  go_enter Tryz.func71, Tryz.ntmps71
  go_wp2
  go_loopw [6] (fun i wr => ∃ k q : Nat, k ≤ n + 5 ∧ i = .int .i64 k ∧ wr = w.drewN q) (fun i _ => n + 5 - (intOf i).toNat)
  case atStart => exact ⟨0, 0, by omega, rfl, rfl⟩
  case round =>
    obtain ⟨k, q, hk, rfl, rfl⟩ := hrel
    by_cases hlt : k < n
    · obtain ⟨bb, ob, rfl, hcb⟩ := hl.get hlt
      have hca := hLo.out k hlt
      generalize ((l.getD k 0 : Nat) : Int) = x at *
      have hxx : (x != x) = false := by simp
      have hd : decide (n ≤ k) = false := by simp; omega
      go_wp2
      go_quiet (fail)
      go_wp2
      go_roundw
      case rel => exact ⟨k + 1, _, by omega, by go_num, by first | rfl | rw [World.drewN_drewN]⟩
      case measure => simp [intOf]; omega
    · by_cases hlt5 : k < n + 5
      · have hca := hHi.out k (by omega) hlt5
        have hd : decide (k < n) = false := by simp; omega
        have hd1 : decide (n ≤ k) = true := by simp; omega
        have hlt5' : (k : Int) < (n : Int) + 5 := by omega
        go_wp2
        go_quiet (fail)
        go_wp2
        go_roundw
        case rel => exact ⟨k + 1, _, by omega, by go_num, by first | rfl | rw [World.drewN_drewN]⟩
        case measure => simp [intOf]; omega
      · have hnn : ((n : Int) == (n : Int)) = true := by simp
        go_wp2
        go_ret
        exact ⟨rfl, _, rfl⟩

end Go.Proofs.YtokkfppchfmjcaaGreat
/- WALKS OF FRACTIONS, 11: what was answered is its holder's own. -/
namespace Go.Proofs.YtokkfppchfmjcaaGreat
set_option linter.unusedVariables false
set_option linter.unusedSimpArgs false
open Go.ChangeShapes Go.WideShapes Go.ChangeAt Go.RowKit Go.NatP

/-- what an answer holds when it is written full of marks -/
def mrkD (N : Nat → Nat) (i : Nat) : List Nat := List.replicate (N i) (100000 + i)
def mrkE (N : Nat → Nat) (i t : Nat) : List Nat := mrkD N i ++ List.replicate t (500000 + i)

/-- BEFORE ROUND k OF THE THIRD LOOP: the first k were gone on with. -/
structure S5 (w wr : World) (gb K : Nat) (A : Nat → Option Addr) (N C : Nat → Nat) (k : Nat) (la : Option Addr) (lc : Nat) (A' : Nat → Option Addr) (C' : Nat → Nat) : Prop where
  row : wr.ownsRow w.heap.size 35 1 (.slice la k lc) k ((List.range k).map fun j => Value.slice (A' j) (N j + 8) (C' j))
  gcells : ∀ i, i < K → wr.cell? ⟨gb, i, none⟩ = some (.slice (A i) (N i) (C i))
  gown : ∀ i, i < K → k ≤ i → Own 0 wr (A i) (N i) (C i) (mrkD N i)
  grd : ∀ i, i < k → Rd wr (A i) (N i) (C i) (mrkD N i)
  lrd : ∀ i, i < k → Rd wr (A' i) (N i + 8) (C' i) (mrkE N i 8)
  lblk : ∀ i, i < k → ∀ b o, A' i = some ⟨b, o, none⟩ → (A i = some ⟨b, 0, none⟩ ∨ w.heap.size ≤ b) ∧ la ≠ some ⟨b, 0, none⟩
  kp : Kp (pA K A) w wr

/-- IN ROUND k, t marks appended. -/
structure S5i (w wr : World) (gb K : Nat) (A : Nat → Option Addr) (N C : Nat → Nat) (k : Nat) (la : Option Addr) (lc : Nat) (A' : Nat → Option Addr) (C' : Nat → Nat) (t : Nat) (al : Option Addr) (cl : Nat) : Prop where
  row : wr.ownsRow w.heap.size 35 1 (.slice la k lc) k ((List.range k).map fun j => Value.slice (A' j) (N j + 8) (C' j))
  gcells : ∀ i, i < K → wr.cell? ⟨gb, i, none⟩ = some (.slice (A i) (N i) (C i))
  gown : ∀ i, i < K → k < i → Own 0 wr (A i) (N i) (C i) (mrkD N i)
  grd : ∀ i, i ≤ k → Rd wr (A i) (N i) (C i) (mrkD N i)
  lrd : ∀ i, i < k → Rd wr (A' i) (N i + 8) (C' i) (mrkE N i 8)
  lblk : ∀ i, i < k → ∀ b o, A' i = some ⟨b, o, none⟩ → (A i = some ⟨b, 0, none⟩ ∨ w.heap.size ≤ b) ∧ la ≠ some ⟨b, 0, none⟩ ∧ al ≠ some ⟨b, 0, none⟩
  lown : Own 0 wr al (N k + t) cl (mrkE N k t)
  alb : al = A k ∨ ∀ g, al = some ⟨g, 0, none⟩ → w.heap.size ≤ g
  alla : ∀ g, al = some ⟨g, 0, none⟩ → la ≠ some ⟨g, 0, none⟩
  kp : Kp (pA K A) w wr

section
variable {w wr w' : World} {gb K k lc t cl cl' : Nat} {A A' : Nat → Option Addr} {N C C' : Nat → Nat} {la al al' : Option Addr}

theorem S5.into (hF : Fix w gb K A C) (h : S5 w wr gb K A N C k la lc A' C') (hk : k < K) : S5i w wr gb K A N C k la lc A' C' 0 (A k) (C k) := by
  refine ⟨h.row, h.gcells, fun i h1 h2 => h.gown i h1 (by omega), fun i hi => ?_, h.lrd, fun i hi b o e => ?_, ?_, .inl rfl, fun g e e2 => ?_, h.kp⟩
  · rcases Nat.lt_or_ge i k with h1 | h1
    · exact h.grd i h1
    · exact (h.gown i (by omega) h1).rd
  · obtain ⟨h1, h2⟩ := h.lblk i hi b o e
    refine ⟨h1, h2, fun e2 => ?_⟩
    rcases h1 with h1 | h1
    · exact hF.parted k i hk (by omega) (by omega) b e2 h1
    · have := hF.old k hk b e2; omega
  · have := h.gown k hk (Nat.le_refl _)
    simpa [mrkE] using this
  · have h1 := hF.old k hk g e
    rcases ownsRow_cases h.row with ⟨h2, _⟩ | ⟨g', h2, h3, _⟩
    · rw [h2] at e2; cases e2
    · rw [h2] at e2; cases e2; omega

theorem S5i.step (hF : Fix w gb K A C) (h : S5i w wr gb K A N C k la lc A' C' t al cl) (hk : k < K) {o : Obj}
    (hO : Own 0 w' al' (N k + t + 1) cl' (mrkE N k t ++ [500000 + k])) (hK : Kp (fun j => al = some ⟨j, 0, none⟩) (wr.alloc o) w')
    (hf : al' = al ∨ (∀ g, al' = some ⟨g, 0, none⟩ → (wr.alloc o).heap.size ≤ g) ∧ Kp (fun _ => False) (wr.alloc o) w') :
    S5i w w' gb K A N C k la lc A' C' (t + 1) al' cl' := by
  have hsz := h.kp.size
  have hKw : Kp (fun j => al = some ⟨j, 0, none⟩) wr w' := ((Kp.refl _ wr).alloc o).kp hK (fun j hj e => .inl e)
  have hsz' := hKw.size
  have alne : ∀ b, b < w.heap.size → (∀ (_ : al = A k), A k ≠ some ⟨b, 0, none⟩) → al ≠ some ⟨b, 0, none⟩ := by
    intro b hb h1 e
    rcases h.alb with h2 | h2
    · exact h1 h2 (h2 ▸ e)
    · have := h2 b e; omega
  refine ⟨?_, fun i hi => ?_, fun i h1 h2 => ?_, fun i hi => ?_, fun i hi => ?_, fun i hi b o' e => ?_, ?_, ?_, fun g e => ?_, ?_⟩
  · refine ownsRow_block h.row fun g e => hKw.block g ?_ fun e2 => h.alla g e2 e
    rcases ownsRow_cases h.row with ⟨h2, _⟩ | ⟨g', h2, _, h4⟩
    · rw [h2] at e; cases e
    · rw [h2] at e; cases e; exact h4
  · have hg := hF.gold (by omega)
    rw [World.cell?_of_block (w := wr) (hKw.block gb (by omega) (alne gb hg fun _ => hF.away k hk))]
    exact h.gcells i hi
  · exact (h.gown i h1 h2).kp hKw fun g e => alne g (hF.old i h1 g e) fun _ => fun e2 => hF.parted i k h1 hk (by omega) g e e2
  · rcases Nat.lt_or_ge i k with h1 | h1
    · refine (h.grd i hi).kp hKw fun b o' e => ?_
      obtain rfl := hF.shape i (by omega) b o' e
      exact alne b (hF.old i (by omega) b e) fun _ => fun e2 => hF.parted i k (by omega) hk (by omega) b e e2
    · obtain rfl : i = k := by omega
      rcases h.alb with h2 | h2
      · rcases hf with h3 | ⟨_, h3⟩
        · have hR := (hO.take (k := N i) (by omega)).rd
          have e1 : (mrkE N i t ++ [500000 + i]).take (N i) = mrkD N i := by
            rw [mrkE, List.append_assoc, List.take_left' (by simp [mrkD])]
          rw [e1, h3, h2] at hR
          exact hR.cap (h.grd i hi).2.2.1 (h.grd i hi).2.2.2.1
        · exact ((h.grd i hi).alloc o).kp h3 (fun _ _ _ e => e)
      · refine (h.grd i hi).kp hKw fun b o' e e2 => ?_
        obtain rfl := hF.shape i (by omega) b o' e
        have := hF.old i hk b e
        have := h2 b e2
        omega
  · exact (h.lrd i hi).kp hKw fun b o' e => (h.lblk i hi b o' e).2.2
  · obtain ⟨h1, h2, h3⟩ := h.lblk i hi b o' e
    refine ⟨h1, h2, fun e2 => ?_⟩
    rcases hf with h4 | ⟨h4, _⟩
    · exact h3 (h4 ▸ e2)
    · have h5 := h4 b e2
      obtain ⟨b', o2, e3, hc⟩ := (h.lrd i hi).get (i := 0) (by omega)
      rw [e] at e3
      cases e3
      have h6 := World.block_lt_of_cell? wr _ hc
      simp at h5 h6
      omega
  · have : mrkE N k t ++ [500000 + k] = mrkE N k (t + 1) := by
      rw [mrkE, mrkE, List.append_assoc, ← List.replicate_succ']
    rw [← this]; exact hO
  · rcases hf with h4 | ⟨h4, _⟩
    · rw [h4]; exact h.alb
    · right; intro g e; have := h4 g e; simp at this; omega
  · rcases hf with h4 | ⟨h4, _⟩
    · exact h.alla g (h4 ▸ e)
    · intro e2
      have h5 := h4 g e
      rcases ownsRow_cases h.row with ⟨h2, _⟩ | ⟨g', h2, _, h6⟩
      · rw [h2] at e2; cases e2
      · rw [h2] at e2; cases e2; simp at h5; omega
  · refine h.kp.kp hKw fun j hj e => ?_
    rcases h.alb with h2 | h2
    · exact .inl ⟨k, hk, h2 ▸ e⟩
    · exact .inr (h2 j e)

theorem S5i.out (hF : Fix w gb K A C) (h : S5i w wr gb K A N C k la lc A' C' 8 al cl) (hk : k < K) {o : Obj} {la' : Option Addr} {lc' : Nat}
    (hO : w'.ownsRow w.heap.size 35 1 (.slice la' (k + 1) lc') (k + 1) ((List.range k).map (fun j => Value.slice (A' j) (N j + 8) (C' j)) ++ [.slice al (N k + 8) cl]))
    (hK : Kp (fun j => la = some ⟨j, 0, none⟩) (wr.alloc o) w')
    (hf : la' = la ∨ (∀ g, la' = some ⟨g, 0, none⟩ → (wr.alloc o).heap.size ≤ g) ∧ Kp (fun _ => False) (wr.alloc o) w') :
    S5 w w' gb K A N C (k + 1) la' lc' (fun j => if j = k then al else A' j) (fun j => if j = k then cl else C' j) := by
  have hsz := h.kp.size
  have hKw : Kp (fun j => la = some ⟨j, 0, none⟩) wr w' := ((Kp.refl _ wr).alloc o).kp hK (fun j hj e => .inl e)
  have hsz' := hKw.size
  have lane : ∀ b, b < w.heap.size → la ≠ some ⟨b, 0, none⟩ := by
    intro b hb e
    rcases ownsRow_cases h.row with ⟨h2, _⟩ | ⟨g', h2, h3, _⟩
    · rw [h2] at e; cases e
    · rw [h2] at e; cases e; omega
  have la'ne : ∀ b, b < wr.heap.size → la ≠ some ⟨b, 0, none⟩ → la' ≠ some ⟨b, 0, none⟩ := by
    intro b hb h1 e
    rcases hf with h4 | ⟨h4, _⟩
    · exact h1 (h4 ▸ e)
    · have := h4 b e; simp at this; omega
  have lrd' : ∀ i, i < k + 1 → Rd wr (if i = k then al else A' i) (N i + 8) (if i = k then cl else C' i) (mrkE N i 8) := by
    intro i hi
    by_cases hik : i = k
    · subst hik; simpa using h.lown.rd
    · simpa only [if_neg hik] using h.lrd i (by omega)
  have lbl' : ∀ i, i < k + 1 → ∀ b o', (if i = k then al else A' i) = some ⟨b, o', none⟩ → (A i = some ⟨b, 0, none⟩ ∨ w.heap.size ≤ b) ∧ la ≠ some ⟨b, 0, none⟩ := by
    intro i hi b o' e
    by_cases hik : i = k
    · subst hik
      simp only [if_true] at e
      obtain rfl : o' = 0 := by
        rcases h.lown.cases with ⟨h2, _⟩ | ⟨g', h2, _⟩
        · rw [h2] at e; cases e
        · rw [h2] at e; cases e; rfl
      refine ⟨?_, h.alla b e⟩
      rcases h.alb with h2 | h2
      · exact .inl (h2 ▸ e)
      · exact .inr (h2 b e)
    · rw [if_neg hik] at e
      obtain ⟨h1, h2, _⟩ := h.lblk i (by omega) b o' e
      exact ⟨h1, h2⟩
  refine ⟨?_, fun i hi => ?_, fun i h1 h2 => ?_, fun i hi => ?_, fun i hi => ?_, fun i hi b o' e => ?_, ?_⟩
  · have : (List.range (k + 1)).map (fun j => Value.slice ((fun j => if j = k then al else A' j) j) (N j + 8) ((fun j => if j = k then cl else C' j) j)) =
        (List.range k).map (fun j => Value.slice (A' j) (N j + 8) (C' j)) ++ [.slice al (N k + 8) cl] := by
      rw [List.range_succ, List.map_append]
      congr 1
      · apply List.map_congr_left
        intro j hj
        have : j ≠ k := by have := List.mem_range.1 hj; omega
        simp [this]
      · simp
    rw [this]; exact hO
  · have hg := hF.gold (by omega)
    rw [World.cell?_of_block (w := wr) (hKw.block gb (by omega) (lane gb hg))]
    exact h.gcells i hi
  · exact (h.gown i h1 (by omega)).kp hKw fun g e => lane g (hF.old i h1 g e)
  · refine (h.grd i (by omega)).kp hKw fun b o' e => ?_
    obtain rfl := hF.shape i (by omega) b o' e
    exact lane b (hF.old i (by omega) b e)
  · exact (lrd' i hi).kp hKw fun b o' e => (lbl' i hi b o' e).2
  · obtain ⟨h1, h2⟩ := lbl' i hi b o' e
    refine ⟨h1, la'ne b ?_ h2⟩
    obtain ⟨b', o2, e3, hc⟩ := (lrd' i hi).get (i := 0) (by omega)
    rw [e] at e3
    cases e3
    exact World.block_lt_of_cell? wr _ hc
  · exact h.kp.kp hKw fun j hj e => .inr (by
      rcases ownsRow_cases h.row with ⟨h2, _⟩ | ⟨g', h2, h3, _⟩
      · rw [h2] at e; cases e
      · rw [h2] at e; cases e; exact h3)
end

set_option maxRecDepth 100000 in
set_option maxHeartbeats 4000000 in
theorem own_all {w : World} {gb K : Nat} {A : Nat → Option Addr} {N C : Nat → Nat} {L : Nat → List Nat} {Cp : Nat} (hK : K ≤ 1000) (hCp : K ≤ Cp) (hCm : Cp ≤ maxLen) (hG : Got w gb K A N C L) 
    (hN : ∀ i, i < K → N i ≤ 268435456) :
    Calls Tryz.prog 48 #[.slice (some ⟨gb, 0, none⟩) K Cp] w (RetApart w K A) := by
  have HG := hid hG
  have HN := hid hN
  have HF : Hid (Fix w gb K A C) := ⟨hG.parted, hG.away, fun i hi g e => by have := hG.own i hi; rw [e] at this; exact this.lt.2,
    fun h0 => World.block_lt_of_cell? w _ (hG.cells 0 h0), fun i hi b o e => by
      rcases (hG.own i hi).cases with ⟨h, _⟩ | ⟨g, h, _⟩
      · rw [h] at e; cases e
      · rw [h] at e; cases e; rfl⟩
  clear hG hN
  unfold maxLen at hCm
  go_enter Tryz.func48, Tryz.ntmps48
  go_wp2
  obtain ⟨k, hkK⟩ : ∃ k, k = K := ⟨_, rfl⟩
  subst hkK
  have HG1 := HG
  have HKp : Hid (Kp (pA k A) w w) := Kp.refl _ _
  clear HG
  go_loopw [3] (fun i wr => ∃ (j : Nat) (L' : Nat → List Nat), j ≤ k ∧ i = .int .i64 j ∧ Hid (Got wr gb k A N C L') ∧ Hid (∀ i, i < j → L' i = mrkD N i) ∧ Hid (Kp (pA k A) w wr)) (fun i _ => k - (intOf i).toNat)
  case atStart => exact ⟨0, L, by omega, rfl, HG1, fun i hi => absurd hi (by omega), HKp⟩
  case round =>
    clear HG1 HKp
    obtain ⟨wo, rfl⟩ : ∃ wo : World, wo = wr := ⟨_, rfl⟩
    obtain ⟨j, L', hj, rfl, HG, HM, HKp⟩ := hrel
    by_cases hlt : j < k
    · go_wp2
      go_loopw [4] (fun i wr => ∃ (t : Nat) (L' : Nat → List Nat), t ≤ N j ∧ i = .int .i64 t ∧ Hid (Got wr gb k A N C L') ∧ Hid (∀ i, i < j → L' i = mrkD N i) ∧ Hid (∀ s, s < t → (L' j).getD s 0 = 100000 + j) ∧ Hid (Kp (pA k A) w wr)) (fun i _ => N j - (intOf i).toNat)
      case atStart => exact ⟨0, L', by omega, rfl, HG, HM, fun s hs => absurd hs (by omega), HKp⟩
      case round =>
        clear HG HM HKp
        obtain ⟨t, L', ht, rfl, HG, HM, HT, HKp⟩ := hrel
        have hNj : N j ≤ 268435456 := HN.out j hlt
        have hcl := HG.out.cells j hlt
        by_cases htl : t < N j
        · have hOj := HG.out.own j hlt
          rcases hOj.cases with ⟨_, h, _⟩ | ⟨g, hAj, _⟩
          · omega
          have HAj := hid hAj
          rw [hAj] at hcl hOj
          have hfr := hOj.free t
          have hcc := hOj.cell htl
          have HG' := hid (HG.out.setCell (x := 100000 + j) (k := t) hlt hAj (by omega))
          have HT' : Hid (∀ s, s < t + 1 → ((fun i => if i = j then (L' j).set t (100000 + j) else L' i) j).getD s 0 = 100000 + j) := by
            intro s hs
            simp only [if_true]
            by_cases hst : s = t
            · subst hst; exact NatP.getD_set_eq _ _ _ (by rw [hOj.len]; exact htl)
            · rw [NatP.getD_set_ne _ _ _ _ (by omega)]; exact HT.out s (by omega)
          have HM' : Hid (∀ i, i < j → (fun i => if i = j then (L' j).set t (100000 + j) else L' i) i = mrkD N i) := by
            intro i hi
            simp only [if_neg (show i ≠ j by omega)]
            exact HM.out i hi
          have HKp' : Hid (Kp (pA k A) w (wr.setCell ⟨g, t, none⟩ (.int .u32 ((100000 + j : Nat) : Int)))) := HKp.out.setCell ⟨j, hlt, hAj⟩ _
          clear hAj hOj HG HM HT HKp
          generalize hL'' : (fun i => if i = j then (L' j).set t (100000 + j) else L' i) = L'' at *
          clear hL''
          go_wp2
          go_roundw
          case rel => exact ⟨t + 1, L'', by omega, by go_num, HG', HM', HT', HKp'⟩
          case measure => simp [intOf]; omega
        · obtain rfl : t = N j := by omega
          have HM' : Hid (∀ i, i < j + 1 → L' i = mrkD N i) := by
            intro i hi
            by_cases hij : i = j
            · subst hij
              exact list_eq_of_getD (by rw [(HG.out.own i hlt).len]; simp [mrkD]) fun s hs => by
                rw [(HG.out.own i hlt).len] at hs
                rw [HT.out s hs]
                simp [mrkD, List.getD_eq_getElem?_getD, hs]
            · exact HM.out i (by omega)
          clear HM HT
          go_wp2
          go_roundw
          case rel => exact ⟨j + 1, L', by omega, by go_num, HG, HM', HKp⟩
          case measure => simp [intOf]; omega
    · obtain rfl : j = k := by omega
      have hFix : Hid (Fix w gb j A C) := HF
      have hG := HG.out
      have hS : Hid (S5 w wo gb j A N C 0 none 0 (fun _ => none) (fun _ => 0)) :=
        ⟨World.ownsRow_nil _ _ _ _, hG.cells, fun i hi _ => by rw [← HM.out i hi]; exact hG.own i hi, fun i hi => absurd hi (by omega), fun i hi => absurd hi (by omega), fun i hi => absurd hi (by omega), HKp.out⟩
      clear hG HG HM HKp HF
      go_wp2
      go_loopw [5, 6] (fun v i wr => ∃ (k lc : Nat) (la : Option Addr) (A' : Nat → Option Addr) (C' : Nat → Nat), k ≤ j ∧ v = .slice la k lc ∧ i = .int .i64 k ∧ Hid (S5 w wr gb j A N C k la lc A' C')) (fun _ i _ => j - (intOf i).toNat)
      case atStart => exact ⟨0, 0, none, _, _, by omega, rfl, rfl, hS⟩
      case round =>
        clear hS wo
        obtain ⟨wo, rfl⟩ : ∃ wo : World, wo = wr := ⟨_, rfl⟩
        obtain ⟨k, lc, la, A', C', hk, rfl, rfl, hS⟩ := hrel
        by_cases hlt : k < j
        · have hcl := hS.out.gcells k hlt
          have hI := hid (hS.out.into hFix.out hlt)
          have hNk : N k ≤ 268435456 := HN.out k hlt
          clear hS
          go_wp2
          go_loopw [7, 8] (fun v i wr => ∃ (t m cl : Nat) (al : Option Addr), t ≤ 8 ∧ v = .slice al m cl ∧ i = .int .i64 t ∧ m ≤ N k + t ∧ N k + t ≤ m ∧ Hid (S5i w wr gb j A N C k la lc A' C' t al cl)) (fun _ i _ => 8 - (intOf i).toNat)
          case atStart => exact ⟨0, N k, C k, A k, by omega, rfl, rfl, by omega, by omega, hI⟩
          case round =>
            clear hI hcl wo
            obtain ⟨t, m, cl, al, ht, rfl, rfl, hm1, hm2, hI⟩ := hrel
            by_cases htl : t < 8
            · have hO : Own 0 wr al m cl (mrkE N k t) := by
                have := hI.out.lown
                rwa [show N k + t = m by omega] at this
              go_wp2_with (at_builtin; refine wpList_app1 (y := 500000 + k) rfl _ _ rfl rfl (hO.alloc _) _ 1 rfl (by omega) (by go_simp) (by simp) (by omega) ?_; intro a2 c2 w2 hO2 hK2 hF2)
              have hI' := hid (hI.out.step hFix.out hlt (by rw [show N k + t + 1 = m + 1 by omega]; exact hO2) hK2 hF2)
              clear hO hO2 hK2 hF2 hI
              go_wp2
              go_roundw
              case rel => exact ⟨t + 1, m + 1, c2, a2, by omega, rfl, by go_num, by omega, by omega, hI'⟩
              case measure => simp [intOf]; omega
            · obtain rfl : t = 8 := by omega
              have hrow := hI.out.row
              have hsz := hI.out.kp.size
              go_wp2_with (at_builtin; refine wpList_appS (u := .slice al m cl) rfl _ _ rfl rfl (hrow.alloc _) _ 1 rfl rfl (by go_simp) (by simp; omega) (by omega) ?_; intro a2 c2 w2 hO2 hK2 hF2)
              have hS' := hid (hI.out.out hFix.out hlt (by rw [show N k + 8 = m by omega]; exact hO2) hK2 hF2)
              clear hO2 hK2 hF2 hI hrow
              go_wp2
              go_roundw
              case rel => exact ⟨k + 1, c2, a2, _, _, by omega, rfl, by go_num, hS'⟩
              case measure => simp [intOf]; omega
        · obtain rfl : k = j := by omega
          have HKp : Hid (Kp (pA k A) w wo) := hS.out.kp
          go_wp2
          go_loopw [9] (fun i wr => ∃ s : Nat, s ≤ k ∧ i = .int .i64 s ∧ Dr wo wr) (fun i _ => k - (intOf i).toNat)
          case atStart => exact ⟨0, by omega, rfl, Dr.refl _⟩
          case round =>
            obtain ⟨s, hs, rfl, hD⟩ := hrel
            by_cases hlt : s < k
            · obtain ⟨g, rfl⟩ : ∃ g, la = some ⟨g, 0, none⟩ := by
                rcases ownsRow_cases hS.out.row with ⟨_, h, _⟩ | ⟨g, h, _⟩
                · omega
                · exact ⟨g, h⟩
              have hlc := ownsRow_bnd hS.out.row
              have hlcell : wo.cell? ⟨g, s, none⟩ = some (.slice (A' s) (N s + 8) (C' s)) := by
                rw [hS.out.row.cellAt s (by omega)]; simp [hlt]
              have hgcell := hS.out.gcells s hlt
              have hNs : N s ≤ 268435456 := HN.out s hlt
              obtain ⟨hlc1, hlc2, _⟩ := hlc
              unfold maxLen at hlc2
              have hlb := (hS.out.lrd s hlt).bnd
              go_wp2
              go_loopw [10] (fun i wr => ∃ t : Nat, t ≤ N s + 8 ∧ i = .int .i64 t ∧ Dr wo wr) (fun i _ => N s + 8 - (intOf i).toNat)
              case atStart => exact ⟨0, by omega, rfl, hD⟩
              case round =>
                clear hD
                obtain ⟨t, ht, rfl, hD⟩ := hrel
                have hc1 := (hD.cell _).trans hlcell
                have hc2 := (hD.cell _).trans hgcell
                clear hlcell hgcell
                by_cases htl : t < N s + 8
                · obtain ⟨b, o, hA', hcc⟩ := (hS.out.lrd s hlt).get htl
                  have hcc := (hD.cell _).trans hcc
                  rw [hA'] at hc1
                  by_cases htN : t < N s
                  · obtain ⟨b2, o2, hA2, hcc2⟩ := (hS.out.grd s (by omega)).get htN
                    have hcc2 := (hD.cell _).trans hcc2
                    rw [hA2] at hc2
                    have e1 : (mrkE N s 8).getD t 0 = 100000 + s := by
                      simp [mrkE, mrkD, List.getD_eq_getElem?_getD, List.getElem?_append_left, htN]
                    have e2 : (mrkD N s).getD t 0 = 100000 + s := by simp [mrkD, List.getD_eq_getElem?_getD, htN]
                    rw [e1] at hcc
                    rw [e2] at hcc2
                    have hd1 : decide (N s ≤ t) = false := by simp; omega
                    have hd2 : decide (t < N s) = true := by simp; omega
                    clear hA' hA2 e1 e2 hS
                    go_wp2
                    exact ⟨⟨t + 1, by omega, by go_num, hD⟩, by simp [intOf]; omega⟩
                  · have e1 : (mrkE N s 8).getD t 0 = 500000 + s := by
                      rw [mrkE, List.getD_eq_getElem?_getD, List.getElem?_append_right (by simp [mrkD]; omega), List.getElem?_replicate, if_pos (by simp [mrkD]; omega)]
                      rfl
                    rw [e1] at hcc
                    have hd1 : decide (N s ≤ t) = true := by simp; omega
                    have hd2 : decide (t < N s) = false := by simp; omega
                    clear hA' e1 hS
                    go_wp2
                    exact ⟨⟨t + 1, by omega, by go_num, hD⟩, by simp [intOf]; omega⟩
                · obtain rfl : t = N s + 8 := by omega
                  clear hS
                  go_wp2
                  go_roundw
                  case rel => exact ⟨s + 1, by omega, by go_num, hD⟩
                  case measure => simp [intOf]; omega
            · go_wp2
              go_ret
              exact ⟨rfl, HKp.out.kp (hD.kp (pA k A)) fun _ _ h => .inl h⟩

end Go.Proofs.YtokkfppchfmjcaaGreat
/- WALKS OF FRACTIONS, 12: fractions that were answered are their holder's own. -/
namespace Go.Proofs.YtokkfppchfmjcaaGreat
set_option linter.unusedVariables false
set_option linter.unusedSimpArgs false
open Go.ChangeShapes Go.WideShapes Go.ChangeAt Go.RowKit Go.NatP

section
variable {w : World} {o : Oper} {A : Act} {Q : Exit → Act → World → Prop}
/-- append of two slices to a row of slices -/
theorem wp_appS2 {K : Act → World → Prop} {B : Nat} {sa : Option Addr} {n c : Nat} {xs : List Value} {u v : Value} (s x : Operand)
    (ho : o.op = .call { callee := .builtin .append, args := #[s, x], argTypes := #[103, 103] })
    (hs : A.eval s = .slice sa n c) (hO : w.ownsRow B 35 1 (.slice sa n c) n xs) (g d : Nat) (hx : A.eval x = .slice (some ⟨g, 0, none⟩) 2 d)
    (hu : u.oneCell' = true) (hv : v.oneCell' = true) (hy0 : w.cell? ⟨g, 0, none⟩ = some u) (hy1 : w.cell? ⟨g, 1, none⟩ = some v) (hB : B ≤ w.heap.size) (hn : n + 2 ≤ 1073741824)
    (h : ∀ a' c' w', w'.ownsRow B 35 1 (.slice a' (n + 2) c') (n + 2) (xs ++ [u, v]) → Kp (fun k => sa = some ⟨k, 0, none⟩) w w' → K (A.put o.dst (.slice a' (n + 2) c')) w') :
    o.wp Tryz.prog A w K Q := by
  obtain ⟨a', c', w', hr, hown, hk, hf⟩ := row_append (w := w) 103 o.type Tryz.underlying103 infoSl rfl (by decide) hO ⟨g, 0, none⟩ 2 d (news := [u, v]) rfl
    (fun j y hj => by
      rcases j with _ | _ | j
      · cases hj; exact hy0
      · cases hj; exact hy1
      · simp at hj) (fun y hy => by
      rcases List.mem_cons.1 hy with rfl | hy
      · exact hu
      · rw [List.mem_singleton.1 hy]; exact hv) hB hn
  unfold Oper.wp execOp
  simp only [ho, resolve, invoke, builtin, Sem.run_bind, Sem.run_pure, Result.andThen_ok, List.map_toArray, List.map_cons, List.map_nil, hs, hx, hr]
  exact h a' c' w' hown hk
end

/-- K fractions that were answered, in a row: their lists of limbs, each the holder's own -/
structure RGot (w : World) (sa : Option Addr) (K : Nat) (A : Nat → Option Addr) (N C : Nat → Nat) (L : Nat → List Nat) : Prop where
  cells : ∀ i, i < K → ∃ g o, sa = some ⟨g, o, none⟩ ∧ w.cell? ⟨g, o + i * 3 + 1, none⟩ = some (.slice (A (2 * i)) (N (2 * i)) (C (2 * i))) ∧ w.cell? ⟨g, o + i * 3 + 2, none⟩ = some (.slice (A (2 * i + 1)) (N (2 * i + 1)) (C (2 * i + 1)))
  own : ∀ i, i < 2 * K → Own 0 w (A i) (N i) (C i) (L i)
  parted : ∀ i j, i < 2 * K → j < 2 * K → i ≠ j → ∀ g, A i = some ⟨g, 0, none⟩ → A j ≠ some ⟨g, 0, none⟩

theorem range_two {f : Nat → Value} (k : Nat) : (List.range (2 * (k + 1))).map f = (List.range (2 * k)).map f ++ [f (2 * k), f (2 * k + 1)] := by
  rw [show 2 * (k + 1) = 2 * k + 1 + 1 by omega, List.range_succ, List.range_succ]
  simp

set_option maxRecDepth 100000 in
set_option maxHeartbeats 4000000 in
theorem ownrats_any {w : World} {sa : Option Addr} {K c : Nat} {A : Nat → Option Addr} {N C : Nat → Nat} {L : Nat → List Nat} (hG : RGot w sa K A N C L) (hK : K ≤ 400) (hK0 : 0 < K) (hc : K ≤ c) (hcm : c ≤ maxLen) (hN : ∀ i, i < 2 * K → N i ≤ 268435456) :
    Calls Tryz.prog 20 #[.slice sa K c] w (RetApart w (2 * K) A) := by
  have HG := hid hG
  have HN := hid hN
  clear hG hN
  unfold maxLen at hcm
  go_enter Tryz.func20, Tryz.ntmps20
  go_wp2
  go_loopw [3, 4] (fun v i wr => ∃ (k lc : Nat) (la : Option Addr), k ≤ K ∧ v = .slice la (2 * k) lc ∧ i = .int .i64 k ∧ wr.ownsRow w.heap.size 35 1 (.slice la (2 * k) lc) (2 * k) ((List.range (2 * k)).map fun j => Value.slice (A j) (N j) (C j)) ∧ Below w.heap.size w wr) (fun _ i _ => K - (intOf i).toNat)
  case atStart => exact ⟨0, 0, none, by omega, rfl, rfl, World.ownsRow_nil _ _ _ _, Below.refl _ _⟩
  case round =>
    obtain ⟨k, lc, la, hk, rfl, rfl, hrow, hB⟩ := hrel
    have hsz := hB.size
    by_cases hlt : k < K
    · obtain ⟨g, o, rfl, c1, c2⟩ := HG.out.cells k hlt
      have hgl : g < w.heap.size := World.block_lt_of_cell? _ _ c1
      have e1 := hid c1
      have e3 := hid c2
      have c1 := (hB.cell (p := ⟨g, o + k * 3 + 1, none⟩) hgl).trans c1
      have c2 := (hB.cell (p := ⟨g, o + k * 3 + 2, none⟩) hgl).trans c2
      have e2 := hid (range_two (f := fun j => Value.slice (A j) (N j) (C j)) k)
      have hR := hid (fun (W : World) (h : Below wr.heap.size wr W) => ownsRow_block hrow (w' := W) (fun g' e => h.block g' (by rcases ownsRow_cases hrow with ⟨h1, _⟩ | ⟨g2, h1, _, h2⟩ <;> rw [h1] at e <;> cases e; exact h2)))
      have hla := hid (fun j (hj : j < w.heap.size) (e : la = some ⟨j, 0, none⟩) => (by
        rcases ownsRow_cases hrow with ⟨h1, _⟩ | ⟨g2, h1, h2, _⟩
        · rw [h1] at e; cases e
        · rw [h1] at e; cases e; omega : False))
      clear hrow
      go_wp2_with fail
      go_region_held3 (fun w' => w'.cell? ⟨g, o + k * 3 + 1, none⟩ = some (.slice (A (2 * k)) (N (2 * k)) (C (2 * k))) ∧ w'.cell? ⟨g, o + k * 3 + 2, none⟩ = some (.slice (A (2 * k + 1)) (N (2 * k + 1)) (C (2 * k + 1))))
        (first | exact ⟨c1, c2⟩ | exact ⟨d1, d2⟩ | go_keep)
        ((rw [if_pos (by rfl)]; refine wp_appS2 (u := .slice (A (2 * k)) (N (2 * k)) (C (2 * k))) (v := .slice (A (2 * k + 1)) (N (2 * k + 1)) (C (2 * k + 1))) _ _ rfl rfl (hR.out _ ((Below.refl _ wr).alloc (Nat.le_refl _) _).drew) _ _ rfl rfl rfl (by go_simp) (by go_simp) (by show w.heap.size ≤ (wr.alloc _).heap.size; simp; omega) (by omega) ?_; intro a2 ca w2 hO2 hK2; have hB2 : Below w.heap.size w w2 := ((hB.alloc hsz _).drew).kp hK2 (by show w.heap.size ≤ (wr.alloc _).heap.size; simp; omega) hla.out; have d1 := (hB2.cell (p := ⟨g, o + k * 3 + 1, none⟩) hgl).trans e1.out; have d2 := (hB2.cell (p := ⟨g, o + k * 3 + 2, none⟩) hgl).trans e3.out))
      rw [← e2.out] at hO2
      go_wp2
      exact ⟨⟨k + 1, ca, a2, by omega, rfl, by go_num, hO2, hB2⟩, by simp [intOf]; omega⟩
    · obtain rfl : k = K := by omega
      obtain ⟨ga, rfl, hga, hgl⟩ : ∃ g, la = some ⟨g, 0, none⟩ ∧ w.heap.size ≤ g ∧ g < wr.heap.size := by
        rcases ownsRow_cases hrow with ⟨_, h, _⟩ | ⟨g, h, h2, h3⟩
        · omega
        · exact ⟨g, h, h2, h3⟩
      have hbn := ownsRow_bnd hrow
      have hGot : Got wr ga (2 * k) A N C L := ⟨fun i hi => by
          rw [hrow.cellAt i (by omega)]; simp [hi], fun i hi => (HG.out.own i hi).below hB, HG.out.parted, fun i hi e => by
          have := (HG.out.own i hi).lt' ga e; omega⟩
      have hG2 := hid hGot
      have hB2 := hid hB
      obtain ⟨hb1, hb2, _⟩ := hbn
      clear hGot hB hrow
      go_wp2_with fail
      refine (own_all (by omega) hb1 hb2 hG2.out HN.out).mono ?_
      rintro e w' ⟨rfl, hK⟩
      go_wp2
      go_ret
      exact ⟨rfl, (kp_of_below hB2.out).kp hK (fun _ _ h => .inl h)⟩

end Go.Proofs.YtokkfppchfmjcaaGreat
