/- WALKS, 1: trim, own, Clone, Norm of the program; Norm of the reference. -/
import Derived.Test.YtennilapmcgnbaaMb
import Derived.Outline
import Derived.Deep.QuietTactic
import Derived.BigQuiet
import Derived.Laws.BitsAllLaws
namespace Go.Proofs.Ytennilapmcgnbaa
set_option linter.unusedVariables false
open Go.ChangeShapes Go.WideShapes Go.ChangeAt Go.RowKit Go.NatP

theorem Rd.pre {w : World} {a : Option Addr} {n c k : Nat} {l : List Nat} (h : Rd w a n c l) (hk : k ≤ n) : Rd w a k c (l.take k) := by
  refine ⟨by rw [List.length_take, h.1]; omega, h.2.1.take k, by have := h.bnd; omega, h.2.2.2.1, fun i hi => ?_⟩
  obtain ⟨b, o, e, hc⟩ := h.get (i := i) (by omega)
  exact ⟨b, o, e, by rw [getD_take _ _ _ hi]; exact hc⟩
theorem Rd.trim {w : World} {a : Option Addr} {n c k : Nat} {l : List Nat} (h : Rd w a n c l) (hk : (lm (val l)).length = k) : Rd w a k c (lm (val l)) ∧ k ≤ n := by
  have e := take_tlen_all h.lim
  have h1 := tlen_eq h.lim
  have h2 := tlen_le l l.length
  have hkn : k ≤ n := by rw [← h.len]; omega
  have := h.pre hkn
  rw [← hk, ← h1, e, h1, hk] at this
  exact ⟨this, hkn⟩
theorem Own.trim {B : Nat} {w : World} {a : Option Addr} {n c k : Nat} {l : List Nat} (h : Own B w a n c l) (hk : (lm (val l)).length = k) : Own B w a k c (lm (val l)) ∧ k ≤ n := by
  have e := take_tlen_all h.lim
  have h1 := tlen_eq h.lim
  have h2 := tlen_le l l.length
  have hkn : k ≤ n := by rw [← h.len]; omega
  have := h.take hkn
  rw [← hk, ← h1, e, h1, hk] at this
  exact ⟨this, hkn⟩

def lenV : Value → Nat | .slice _ n _ => n | _ => 0

theorem tlen_step {l : List Nat} {k n : Nat} (hk : 0 < k) (h : l.getD (k - 1) 0 = 0) (ht : tlen l k = n) : tlen l (k - 1) = n := by
  obtain ⟨j, rfl⟩ : ∃ j, k = j + 1 := ⟨k - 1, by omega⟩
  rw [tlen_zero (by simpa using h)] at ht
  simpa using ht
theorem tlen_end {l : List Nat} {k n : Nat} (hk : 0 < k) (h : l.getD (k - 1) 0 ≠ 0) (ht : tlen l k = n) : k = n := by
  obtain ⟨j, rfl⟩ : ∃ j, k = j + 1 := ⟨k - 1, by omega⟩
  rw [tlen_stop (by simpa using h)] at ht
  exact ht

set_option maxHeartbeats 400000 in
theorem trim_any {w : World} {a : Option Addr} {n c k : Nat} {l : List Nat} (hR : Rd w a n c l) (hk : (lm (val l)).length = k) :
    Calls Try.prog 56 #[.slice a n c] w fun e w' => e = .returned (.slice a k c) ∧ w = w' := by
  have hb := hR.bnd
  have hT : Hid (tlen l n = k) := by rw [← hR.len, tlen_eq hR.lim]; exact hk
  clear hk
  go_enter Try.func56, Try.ntmps56
  go_wp2
  go_loop [0] (fun t => ∃ j : Nat, j ≤ n ∧ t = .slice a j c ∧ Hid (tlen l j = k)) (fun t => lenV t)
  case atStart => exact ⟨n, Nat.le_refl _, rfl, hT⟩
  case round =>
    clear hT
    obtain ⟨j, hj, rfl, hT⟩ := hrel
    by_cases h0 : j = 0
    · subst h0
      obtain rfl : 0 = k := by have := hT.out; simpa [tlen] using this
      go_wp2
      go_ret
      exact ⟨rfl, rfl⟩
    · have hj0 : 0 < j := by omega
      obtain ⟨b, o, rfl, hc⟩ := hR.get (i := j - 1) (by omega)
      by_cases hz : l.getD (j-1) 0 = 0
      · have hT' : Hid (tlen l (j - 1) = k) := tlen_step hj0 hz hT.out
        rw [hz] at hc
        clear hz hT
        go_wp2
        exact ⟨⟨j - 1, by omega, by go_num, hT'⟩, by simp [lenV]; omega⟩
      · obtain rfl := tlen_end hj0 hz hT.out
        have hz' : ((l.getD (j-1) 0 : Nat) : Int) ≠ 0 := by omega
        generalize ((l.getD (j-1) 0 : Nat) : Int) = x at *
        have hx : (x == 0) = false := beq_eq_false_iff_ne.2 hz'
        clear hz hz'
        go_wp2
        go_ret
        exact ⟨rfl, rfl⟩

theorem own_zero (B : Nat) (w : World) (hB : B ≤ w.heap.size) : Own B (w.alloc (.cells #[] 97)) (some ⟨w.heap.size, 0, none⟩) 0 0 [] :=
  ⟨rfl, lim_nil, World.ownsRow_made w #[] 0 hB (by simp [maxLen]) (by simp)⟩

set_option maxHeartbeats 400000 in
theorem clone_any {w : World} {a : Option Addr} {n c : Nat} {l : List Nat} (hR : Rd w a n c l) (hn : n ≤ 268435456) :
    Calls Try.prog 68 #[.slice a n c] w (Ret1 w l) := by
  have hb := hR.bnd
  have hnil := fun (w : World) (a : Option Addr) => Lib.run_eql_slice_nil (P := Try.prog) w 24 97 a n c 0 0 Try.underlying24
  by_cases h0 : n = 0
  · subst h0
    have hl : l = [] := List.eq_nil_of_length_eq_zero hR.len
    subst hl
    cases a with
    | none =>
      go_enter Try.func68, Try.ntmps68
      go_wp2
      go_ret
      exact ⟨none, 0, 0, rfl, own_nil _ _, Below.refl _ _⟩
    | some ad =>
      go_enter Try.func68, Try.ntmps68
      go_wp2_with (at_builtin; refine wpList_app rfl _ _ rfl rfl (own_zero w.heap.size w (Nat.le_refl _)) _ 0 c rfl (m := []) rfl lim_nil (fun i hi => absurd hi (by omega)) (by simp) (by omega) ?_; intro a' c' w' hO hK _)
      go_ret
      exact ⟨a', 0, c', rfl, by simpa using hO, (Below.refl _ _).alloc (Nat.le_refl _) _ |>.kp hK (by simp) (by intro k hk e; simp at e)⟩
  · obtain ⟨b, o, rfl⟩ := hR.head (by omega)
    have hR' : ∀ o1, Rd (w.alloc o1) (some ⟨b, o, none⟩) n c l := fun o1 => hR.alloc o1
    have hcell : Hid (∀ i, i < n → (w.alloc (.cells #[] 97)).cell? ((⟨b, o, none⟩ : Addr).add i) = some (.int .u32 (l.getD i 0 : Nat))) := fun i hi => by rw [Addr.add_lit]; exact (hR' _).cell hi
    clear hR'
    go_enter Try.func68, Try.ntmps68
    go_wp2_with (at_builtin; refine wpList_app rfl _ _ rfl rfl (own_zero w.heap.size w (Nat.le_refl _)) _ n c rfl hR.len hR.lim hcell.out (by simp) (by omega) ?_; intro a' c' w' hO hK _)
    go_ret
    rw [Nat.zero_add] at hO
    exact ⟨a', n, c', rfl, by simpa using hO, (Below.refl _ _).alloc (Nat.le_refl _) _ |>.kp hK (by simp) (by intro k hk e; simp at e)⟩

set_option maxHeartbeats 400000 in
theorem own_any {w : World} {a : Option Addr} {n c : Nat} {l : List Nat} (hR : Rd w a n c l) (hn : n ≤ 268435456) :
    Calls Try.prog 57 #[.slice a n c] w (Ret1 w (lm (val l))) := by
  obtain ⟨k, hk⟩ : ∃ k, (lm (val l)).length = k := ⟨_, rfl⟩
  obtain ⟨hRk, hkn⟩ := hR.trim hk
  have hk' : Hid ((lm (val l)).length = k) := hk
  by_cases h0 : k = 0
  · subst h0
    have hv : lm (val l) = [] := List.eq_nil_of_length_eq_zero hk
    have hv' : Hid (lm (val l) = []) := hv
    clear hv hk
    go_enter Try.func57, Try.ntmps57
    go_wp2_with (go_at_call 56; refine (trim_any hR hk'.out).mono ?_; rintro e w' ⟨rfl, rfl⟩)
    go_ret
    exact ⟨none, 0, 0, rfl, by rw [hv'.out]; exact own_nil _ _, Below.refl _ _⟩
  · have hk0 : ((k : Int) == 0) = false := beq_eq_false_iff_ne.2 (by omega)
    clear hk h0
    go_enter Try.func57, Try.ntmps57
    go_wp2_with (first
      | (go_at_call 56; refine (trim_any hR hk'.out).mono ?_; rintro e w' ⟨rfl, rfl⟩)
      | (go_at_call 68; refine (clone_any hRk (by omega)).mono ?_; rintro e w' ⟨a', n', c', rfl, hO, hB⟩))
    go_ret
    exact ⟨a', n', c', rfl, hO, hB⟩

set_option maxHeartbeats 400000 in
theorem norm_any {w : World} {a : Option Addr} {n c : Nat} {l : List Nat} (hR : Rd w a n c l) (hn : n ≤ 268435456) :
    Calls Try.prog 52 #[.slice a n c] w (Ret1 w (lm (val l))) := by
  go_enter Try.func52, Try.ntmps52
  go_wp2_with (go_at_call 57; refine (own_any hR hn).mono ?_; rintro e w' ⟨a', n', c', rfl, hO, hB⟩)
  go_ret
  exact ⟨a', n', c', rfl, hO, hB⟩

end Go.Proofs.Ytennilapmcgnbaa
/- WALKS, 2: equality of lists; numbers of a uint64; what the statements make and look at. -/
namespace Go.Proofs.Ytennilapmcgnbaa
set_option linter.unusedVariables false
open Go.ChangeShapes Go.WideShapes Go.ChangeAt Go.RowKit Go.NatP

/-- ONE BOOL, nothing written. -/
def RetB (w : World) (b : Bool) (e : Ending) (w' : World) : Prop := e = .returned (.bool b) ∧ ∃ q, w' = w.drewN q

theorem list_eq_of_getD {la lb : List Nat} (h : la.length = lb.length) (hg : ∀ i, i < la.length → la.getD i 0 = lb.getD i 0) : la = lb := by
  apply List.ext_getElem h
  intro i h1 h2
  have := hg i h1
  rwa [getD_eq _ _ h1, getD_eq _ _ h2] at this

end Go.Proofs.Ytennilapmcgnbaa
/- WALKS, 3: what the statements make and look at: cut, roomy, kept; Of and Uint. -/
namespace Go.Proofs.Ytennilapmcgnbaa
set_option linter.unusedVariables false
open Go.ChangeShapes Go.WideShapes Go.ChangeAt Go.RowKit Go.NatP

/-- The slice itself, cut at k. -/
def RetCut (w : World) (a : Option Addr) (c : Nat) (l : List Nat) (k : Nat) (e : Ending) (w' : World) : Prop :=
  ∃ n, e = .returned (.slice a n c) ∧ w = w' ∧ n ≤ k ∧ Rd w a n c (l.take k)

/-- A copy with five marked limbs of room behind. -/
def RetRoom (w : World) (n : Nat) (l : List Nat) (e : Ending) (w' : World) : Prop :=
  ∃ a c, e = .returned (.slice a n c) ∧ Own w.heap.size w' a (n + 5) c (l ++ List.replicate 5 77) ∧ Below w.heap.size w w'

theorem repl_snoc (l : List Nat) (k : Nat) : l ++ List.replicate k 77 ++ [77] = l ++ List.replicate (k + 1) 77 := by
  rw [List.append_assoc, ← List.replicate_succ']

theorem own_ne {B : Nat} {w wB : World} {a : Option Addr} {n c : Nat} {l : List Nat} (hO : Own B w a n c l) (hb : B ≤ wB.heap.size) : ∀ k, k < B → ¬ (a = some ⟨k, 0, none⟩) := by
  intro j hj e
  have := hO.cases
  rcases this with ⟨h, _⟩ | ⟨g, h, h2⟩
  · rw [h] at e; cases e
  · rw [h] at e; cases e; omega

theorem room_lo (l : List Nat) (r : List Nat) (k : Nat) (h : k < l.length) : (l ++ r).getD k 0 = l.getD k 0 := by
  simp [List.getD_eq_getElem?_getD, List.getElem?_append_left h]
theorem room_hi (l : List Nat) (k : Nat) (h : l.length ≤ k) (h2 : k < l.length + 5) : (l ++ List.replicate 5 77).getD k 0 = 77 := by
  rw [List.getD_eq_getElem?_getD, List.getElem?_append_right h, List.getElem?_replicate, if_pos (by omega)]
  rfl

end Go.Proofs.Ytennilapmcgnbaa
/- WALKS, 4: apart: what was told is what must be told, and each answer is its holder's own. -/
namespace Go.Proofs.Ytennilapmcgnbaa
set_option linter.unusedVariables false
/-- K answers in a row at block gb, each the holder's own. -/
structure Got (w : World) (gb K : Nat) (A : Nat → Option Addr) (N C : Nat → Nat) (L : Nat → List Nat) : Prop where
  cells : ∀ i, i < K → w.cell? ⟨gb, i, none⟩ = some (.slice (A i) (N i) (C i))
  own : ∀ i, i < K → Own 0 w (A i) (N i) (C i) (L i)
  parted : ∀ i j, i < K → j < K → i ≠ j → ∀ g, A i = some ⟨g, 0, none⟩ → A j ≠ some ⟨g, 0, none⟩
  away : ∀ i, i < K → A i ≠ some ⟨gb, 0, none⟩

/-- K answers that must be. -/
def Want (w : World) (wb K : Nat) (L : Nat → List Nat) : Prop :=
  ∀ i, i < K → ∃ b m d, w.cell? ⟨wb, i, none⟩ = some (.slice b m d) ∧ Rd w b m d (L i)

def RetApart (w : World) (K : Nat) (A : Nat → Option Addr) (e : Ending) (w' : World) : Prop :=
  e = .returned (.bool true) ∧ Kp (fun b => ∃ i, i < K ∧ A i = some ⟨b, 0, none⟩) w w'

theorem Got.setCell {w : World} {gb K : Nat} {A : Nat → Option Addr} {N C : Nat → Nat} {L : Nat → List Nat} (h : Got w gb K A N C L)
    {i g k x : Nat} (hi : i < K) (hg : A i = some ⟨g, 0, none⟩) (hx : x < 4294967296) :
    Got (w.setCell ⟨g, k, none⟩ (.int .u32 (x : Int))) gb K A N C (fun j => if j = i then (L i).set k x else L j) := by
  refine ⟨fun j hj => ?_, fun j hj => ?_, h.parted, h.away⟩
  · rw [World.cell?_of_block (w := w) (heap_setCell_other w _ gb _ (fun e => h.away i hi (by rw [hg]; simp only [e])))]
    exact h.cells j hj
  · by_cases hji : j = i
    · subst hji
      simp only [if_true]
      have := h.own j hj
      rw [hg] at this ⊢
      exact this.set k x hx
    · simp only [if_neg hji]
      exact (h.own j hj).set_other _ fun g' e e2 => by
        subst e2
        exact h.parted j i hj hi hji g' e hg

theorem Got.dr {w w' : World} {gb K : Nat} {A : Nat → Option Addr} {N C : Nat → Nat} {L : Nat → List Nat} (h : Got w gb K A N C L) (hD : Dr w w') : Got w' gb K A N C L := by
  obtain ⟨q, rfl⟩ := hD
  exact ⟨h.cells, h.own, h.parted, h.away⟩

/-- what an answer holds when it is written full of marks -/
def mrk (N : Nat → Nat) (i : Nat) : List Nat := List.replicate (N i) (1000 + i)
def mrk9 (N : Nat → Nat) (i t : Nat) : List Nat := mrk N i ++ List.replicate t (2000 + i)

/-- the blocks of the answers -/
def pA (K : Nat) (A : Nat → Option Addr) (b : Nat) : Prop := ∃ i, i < K ∧ A i = some ⟨b, 0, none⟩

/-- BEFORE ROUND k OF THE THIRD LOOP: the first k were gone on with. -/
structure S4 (w wr : World) (gb K : Nat) (A : Nat → Option Addr) (N C : Nat → Nat) (k : Nat) (la : Option Addr) (lc : Nat) (A' : Nat → Option Addr) (C' : Nat → Nat) : Prop where
  row : wr.ownsRow w.heap.size 24 1 (.slice la k lc) k ((List.range k).map fun j => Value.slice (A' j) (N j + 9) (C' j))
  gcells : ∀ i, i < K → wr.cell? ⟨gb, i, none⟩ = some (.slice (A i) (N i) (C i))
  gown : ∀ i, i < K → k ≤ i → Own 0 wr (A i) (N i) (C i) (mrk N i)
  grd : ∀ i, i < k → Rd wr (A i) (N i) (C i) (mrk N i)
  lrd : ∀ i, i < k → Rd wr (A' i) (N i + 9) (C' i) (mrk9 N i 9)
  lblk : ∀ i, i < k → ∀ b o, A' i = some ⟨b, o, none⟩ → (A i = some ⟨b, 0, none⟩ ∨ w.heap.size ≤ b) ∧ la ≠ some ⟨b, 0, none⟩
  kp : Kp (pA K A) w wr

/-- IN ROUND k, t marks appended. -/
structure S4i (w wr : World) (gb K : Nat) (A : Nat → Option Addr) (N C : Nat → Nat) (k : Nat) (la : Option Addr) (lc : Nat) (A' : Nat → Option Addr) (C' : Nat → Nat) (t : Nat) (al : Option Addr) (cl : Nat) : Prop where
  row : wr.ownsRow w.heap.size 24 1 (.slice la k lc) k ((List.range k).map fun j => Value.slice (A' j) (N j + 9) (C' j))
  gcells : ∀ i, i < K → wr.cell? ⟨gb, i, none⟩ = some (.slice (A i) (N i) (C i))
  gown : ∀ i, i < K → k < i → Own 0 wr (A i) (N i) (C i) (mrk N i)
  grd : ∀ i, i ≤ k → Rd wr (A i) (N i) (C i) (mrk N i)
  lrd : ∀ i, i < k → Rd wr (A' i) (N i + 9) (C' i) (mrk9 N i 9)
  lblk : ∀ i, i < k → ∀ b o, A' i = some ⟨b, o, none⟩ → (A i = some ⟨b, 0, none⟩ ∨ w.heap.size ≤ b) ∧ la ≠ some ⟨b, 0, none⟩ ∧ al ≠ some ⟨b, 0, none⟩
  lown : Own 0 wr al (N k + t) cl (mrk9 N k t)
  alb : al = A k ∨ ∀ g, al = some ⟨g, 0, none⟩ → w.heap.size ≤ g
  alla : ∀ g, al = some ⟨g, 0, none⟩ → la ≠ some ⟨g, 0, none⟩
  kp : Kp (pA K A) w wr

/-- what is the same all the way -/
structure Fix (w : World) (gb K : Nat) (A : Nat → Option Addr) (C : Nat → Nat) : Prop where
  parted : ∀ i j, i < K → j < K → i ≠ j → ∀ g, A i = some ⟨g, 0, none⟩ → A j ≠ some ⟨g, 0, none⟩
  away : ∀ i, i < K → A i ≠ some ⟨gb, 0, none⟩
  old : ∀ i, i < K → ∀ g, A i = some ⟨g, 0, none⟩ → g < w.heap.size
  gold : 0 < K → gb < w.heap.size
  shape : ∀ i, i < K → ∀ b o, A i = some ⟨b, o, none⟩ → o = 0

section
variable {w wr w' : World} {gb K k lc t cl cl' : Nat} {A A' : Nat → Option Addr} {N C C' : Nat → Nat} {la al al' : Option Addr}

theorem S4.into (hF : Fix w gb K A C) (h : S4 w wr gb K A N C k la lc A' C') (hk : k < K) : S4i w wr gb K A N C k la lc A' C' 0 (A k) (C k) := by
  refine ⟨h.row, h.gcells, fun i h1 h2 => h.gown i h1 (by omega), fun i hi => ?_, h.lrd, fun i hi b o e => ?_, ?_, .inl rfl, fun g e e2 => ?_, h.kp⟩
  · rcases Nat.lt_or_ge i k with h1 | h1
    · exact h.grd i h1
    · exact (h.gown i (by omega) h1).rd
  · obtain ⟨h1, h2⟩ := h.lblk i hi b o e
    refine ⟨h1, h2, fun e2 => ?_⟩
    rcases h1 with h1 | h1
    · exact hF.parted k i hk (by omega) (by omega) b e2 h1
    · have := hF.old k hk b e2; omega
  · have := h.gown k hk (Nat.le_refl _)
    simpa [mrk9] using this
  · have h1 := hF.old k hk g e
    rcases ownsRow_cases h.row with ⟨h2, _⟩ | ⟨g', h2, h3, _⟩
    · rw [h2] at e2; cases e2
    · rw [h2] at e2; cases e2; omega

theorem S4i.step (hF : Fix w gb K A C) (h : S4i w wr gb K A N C k la lc A' C' t al cl) (hk : k < K) {o : Obj}
    (hO : Own 0 w' al' (N k + t + 1) cl' (mrk9 N k t ++ [2000 + k])) (hK : Kp (fun j => al = some ⟨j, 0, none⟩) (wr.alloc o) w')
    (hf : al' = al ∨ (∀ g, al' = some ⟨g, 0, none⟩ → (wr.alloc o).heap.size ≤ g) ∧ Kp (fun _ => False) (wr.alloc o) w') :
    S4i w w' gb K A N C k la lc A' C' (t + 1) al' cl' := by
  have hsz := h.kp.size
  have hKw : Kp (fun j => al = some ⟨j, 0, none⟩) wr w' := ((Kp.refl _ wr).alloc o).kp hK (fun j hj e => .inl e)
  have hsz' := hKw.size
  have alne : ∀ b, b < w.heap.size → (∀ (_ : al = A k), A k ≠ some ⟨b, 0, none⟩) → al ≠ some ⟨b, 0, none⟩ := by
    intro b hb h1 e
    rcases h.alb with h2 | h2
    · exact h1 h2 (h2 ▸ e)
    · have := h2 b e; omega
  refine ⟨?_, fun i hi => ?_, fun i h1 h2 => ?_, fun i hi => ?_, fun i hi => ?_, fun i hi b o' e => ?_, ?_, ?_, fun g e => ?_, ?_⟩
  · refine ownsRow_block h.row fun g e => hKw.block g ?_ fun e2 => h.alla g e2 e
    rcases ownsRow_cases h.row with ⟨h2, _⟩ | ⟨g', h2, _, h4⟩
    · rw [h2] at e; cases e
    · rw [h2] at e; cases e; exact h4
  · have hg := hF.gold (by omega)
    rw [World.cell?_of_block (w := wr) (hKw.block gb (by omega) (alne gb hg fun _ => hF.away k hk))]
    exact h.gcells i hi
  · exact (h.gown i h1 h2).kp hKw fun g e => alne g (hF.old i h1 g e) fun _ => fun e2 => hF.parted i k h1 hk (by omega) g e e2
  · rcases Nat.lt_or_ge i k with h1 | h1
    · refine (h.grd i hi).kp hKw fun b o' e => ?_
      obtain rfl := hF.shape i (by omega) b o' e
      exact alne b (hF.old i (by omega) b e) fun _ => fun e2 => hF.parted i k (by omega) hk (by omega) b e e2
    · obtain rfl : i = k := by omega
      rcases h.alb with h2 | h2
      · rcases hf with h3 | ⟨_, h3⟩
        · have hR := (hO.take (k := N i) (by omega)).rd
          have e1 : (mrk9 N i t ++ [2000 + i]).take (N i) = mrk N i := by
            rw [mrk9, List.append_assoc, List.take_left' (by simp [mrk])]
          rw [e1, h3, h2] at hR
          exact hR.cap (h.grd i hi).2.2.1 (h.grd i hi).2.2.2.1
        · exact ((h.grd i hi).alloc o).kp h3 (fun _ _ _ e => e)
      · refine (h.grd i hi).kp hKw fun b o' e e2 => ?_
        obtain rfl := hF.shape i (by omega) b o' e
        have := hF.old i hk b e
        have := h2 b e2
        omega
  · exact (h.lrd i hi).kp hKw fun b o' e => (h.lblk i hi b o' e).2.2
  · obtain ⟨h1, h2, h3⟩ := h.lblk i hi b o' e
    refine ⟨h1, h2, fun e2 => ?_⟩
    rcases hf with h4 | ⟨h4, _⟩
    · exact h3 (h4 ▸ e2)
    · have h5 := h4 b e2
      obtain ⟨b', o2, e3, hc⟩ := (h.lrd i hi).get (i := 0) (by omega)
      rw [e] at e3
      cases e3
      have h6 := World.block_lt_of_cell? wr _ hc
      simp at h5 h6
      omega
  · have : mrk9 N k t ++ [2000 + k] = mrk9 N k (t + 1) := by
      rw [mrk9, mrk9, List.append_assoc, ← List.replicate_succ']
    rw [← this]; exact hO
  · rcases hf with h4 | ⟨h4, _⟩
    · rw [h4]; exact h.alb
    · right; intro g e; have := h4 g e; simp at this; omega
  · rcases hf with h4 | ⟨h4, _⟩
    · exact h.alla g (h4 ▸ e)
    · intro e2
      have h5 := h4 g e
      rcases ownsRow_cases h.row with ⟨h2, _⟩ | ⟨g', h2, _, h6⟩
      · rw [h2] at e2; cases e2
      · rw [h2] at e2; cases e2; simp at h5; omega
  · refine h.kp.kp hKw fun j hj e => ?_
    rcases h.alb with h2 | h2
    · exact .inl ⟨k, hk, h2 ▸ e⟩
    · exact .inr (h2 j e)

theorem S4i.out (hF : Fix w gb K A C) (h : S4i w wr gb K A N C k la lc A' C' 9 al cl) (hk : k < K) {o : Obj} {la' : Option Addr} {lc' : Nat}
    (hO : w'.ownsRow w.heap.size 24 1 (.slice la' (k + 1) lc') (k + 1) ((List.range k).map (fun j => Value.slice (A' j) (N j + 9) (C' j)) ++ [.slice al (N k + 9) cl]))
    (hK : Kp (fun j => la = some ⟨j, 0, none⟩) (wr.alloc o) w')
    (hf : la' = la ∨ (∀ g, la' = some ⟨g, 0, none⟩ → (wr.alloc o).heap.size ≤ g) ∧ Kp (fun _ => False) (wr.alloc o) w') :
    S4 w w' gb K A N C (k + 1) la' lc' (fun j => if j = k then al else A' j) (fun j => if j = k then cl else C' j) := by
  have hsz := h.kp.size
  have hKw : Kp (fun j => la = some ⟨j, 0, none⟩) wr w' := ((Kp.refl _ wr).alloc o).kp hK (fun j hj e => .inl e)
  have hsz' := hKw.size
  have lane : ∀ b, b < w.heap.size → la ≠ some ⟨b, 0, none⟩ := by
    intro b hb e
    rcases ownsRow_cases h.row with ⟨h2, _⟩ | ⟨g', h2, h3, _⟩
    · rw [h2] at e; cases e
    · rw [h2] at e; cases e; omega
  have la'ne : ∀ b, b < wr.heap.size → la ≠ some ⟨b, 0, none⟩ → la' ≠ some ⟨b, 0, none⟩ := by
    intro b hb h1 e
    rcases hf with h4 | ⟨h4, _⟩
    · exact h1 (h4 ▸ e)
    · have := h4 b e; simp at this; omega
  have lrd' : ∀ i, i < k + 1 → Rd wr (if i = k then al else A' i) (N i + 9) (if i = k then cl else C' i) (mrk9 N i 9) := by
    intro i hi
    by_cases hik : i = k
    · subst hik; simpa using h.lown.rd
    · simpa only [if_neg hik] using h.lrd i (by omega)
  have lbl' : ∀ i, i < k + 1 → ∀ b o', (if i = k then al else A' i) = some ⟨b, o', none⟩ → (A i = some ⟨b, 0, none⟩ ∨ w.heap.size ≤ b) ∧ la ≠ some ⟨b, 0, none⟩ := by
    intro i hi b o' e
    by_cases hik : i = k
    · subst hik
      simp only [if_true] at e
      obtain rfl : o' = 0 := by
        rcases h.lown.cases with ⟨h2, _⟩ | ⟨g', h2, _⟩
        · rw [h2] at e; cases e
        · rw [h2] at e; cases e; rfl
      refine ⟨?_, h.alla b e⟩
      rcases h.alb with h2 | h2
      · exact .inl (h2 ▸ e)
      · exact .inr (h2 b e)
    · rw [if_neg hik] at e
      obtain ⟨h1, h2, _⟩ := h.lblk i (by omega) b o' e
      exact ⟨h1, h2⟩
  refine ⟨?_, fun i hi => ?_, fun i h1 h2 => ?_, fun i hi => ?_, fun i hi => ?_, fun i hi b o' e => ?_, ?_⟩
  · have : (List.range (k + 1)).map (fun j => Value.slice ((fun j => if j = k then al else A' j) j) (N j + 9) ((fun j => if j = k then cl else C' j) j)) =
        (List.range k).map (fun j => Value.slice (A' j) (N j + 9) (C' j)) ++ [.slice al (N k + 9) cl] := by
      rw [List.range_succ, List.map_append]
      congr 1
      · apply List.map_congr_left
        intro j hj
        have : j ≠ k := by have := List.mem_range.1 hj; omega
        simp [this]
      · simp
    rw [this]; exact hO
  · have hg := hF.gold (by omega)
    rw [World.cell?_of_block (w := wr) (hKw.block gb (by omega) (lane gb hg))]
    exact h.gcells i hi
  · exact (h.gown i h1 (by omega)).kp hKw fun g e => lane g (hF.old i h1 g e)
  · refine (h.grd i (by omega)).kp hKw fun b o' e => ?_
    obtain rfl := hF.shape i (by omega) b o' e
    exact lane b (hF.old i (by omega) b e)
  · exact (lrd' i hi).kp hKw fun b o' e => (lbl' i hi b o' e).2
  · obtain ⟨h1, h2⟩ := lbl' i hi b o' e
    refine ⟨h1, la'ne b ?_ h2⟩
    obtain ⟨b', o2, e3, hc⟩ := (lrd' i hi).get (i := 0) (by omega)
    rw [e] at e3
    cases e3
    exact World.block_lt_of_cell? wr _ hc
  · exact h.kp.kp hKw fun j hj e => .inr (by
      rcases ownsRow_cases h.row with ⟨h2, _⟩ | ⟨g', h2, h3, _⟩
      · rw [h2] at e; cases e
      · rw [h2] at e; cases e; exact h3)
end

end Go.Proofs.Ytennilapmcgnbaa
/- WALKS, 5: Of and Uint, of the program and of the reference. -/
namespace Go.Proofs.Ytennilapmcgnbaa
set_option linter.unusedVariables false
open Go.ChangeShapes Go.WideShapes Go.ChangeAt Go.RowKit Go.NatP

theorem lm_of64 (u : Nat) (h : u < 18446744073709551616) : lm (val [u % 4294967296, u / 4294967296]) = lm u := by
  congr 1
  simp [val]
  omega

theorem rd_two {w : World} {x y : Nat} {X Y : Int} {e : TypeId} (hX : X = (x : Int)) (hY : Y = (y : Int)) (hx : x < 4294967296) (hy : y < 4294967296) :
    Rd (w.alloc (.cells #[.int .u32 X, .int .u32 Y] e)) (some ⟨w.heap.size, 0, none⟩) 2 2 [x, y] := by
  subst hX hY
  refine ⟨rfl, lim_cons hx (lim_cons hy lim_nil), by omega, by simp [maxLen], fun i hi => ⟨w.heap.size, 0, rfl, ?_⟩⟩
  have := cell_two_new w (.int .u32 (x : Int)) (.int .u32 (y : Int)) e i
  rw [Addr.add_lit] at this
  match i, hi with
  | 0, _ => exact this _ rfl
  | 1, _ => exact this _ rfl

theorem Ret1.alloc {w : World} {o : Obj} {l : List Nat} {e : Ending} {w' : World} (h : Ret1 (w.alloc o) l e w') : Ret1 w l e w' := by
  obtain ⟨a, n, c, h1, h2, h3⟩ := h
  exact ⟨a, n, c, h1, h2.mono (by simp), ((Below.refl _ w).alloc (Nat.le_refl _) o).then h3 (by simp)⟩

set_option maxHeartbeats 400000 in
theorem of_any {w : World} (u : Int) (h0 : 0 ≤ u) (h1 : u ≤ 18446744073709551615) :
    Calls Try.prog 45 #[.int .u64 u] w (Ret1 w (lm u.toNat)) := by
  obtain ⟨u, rfl⟩ := Int.eq_ofNat_of_zero_le h0
  have hu : u < 18446744073709551616 := by omega
  have hl : Hid (lm (val [u % 4294967296, u / 4294967296]) = lm u) := lm_of64 u hu
  clear hu
  go_enter Try.func45, Try.ntmps45
  go_wp2_with (go_at_call 57; refine (own_any (rd_two (x := u % 4294967296) (y := u / 4294967296) ?_ ?_ ?_ ?_) ?_).mono ?_)
  · omega
  · omega
  · omega
  · omega
  · omega
  · intro e w' h
    rw [hl.out] at h
    obtain ⟨a, n, c, rfl, hO, hB⟩ := h.alloc
    go_wp2
    go_ret
    exact ⟨a, n, c, rfl, hO, hB⟩

/-- the uint64 of a number, if it has one -/
def two64 : Nat := 18446744073709551616
def uv (n : Nat) : Nat := if n < two64 then n else 0
def RetUint (w : World) (n : Nat) (e : Ending) (w' : World) : Prop :=
  e = .returned (.tuple #[.int .u64 (uv n : Int), .bool (decide (n < two64))]) ∧ Below w.heap.size w w'

theorem two64_le {n : Nat} : (lm n).length ≤ 2 ↔ n < two64 := by
  unfold two64
  constructor
  · intro h
    have := lt_pow_length n
    exact Nat.lt_of_lt_of_le this (Nat.pow_le_pow_right (n := 4294967296) (by decide) h)
  · intro h; exact length_lm_le (k := 2) (by simpa using h)

theorem or_hi (u x k : Nat) (hu : u < 4294967296 ^ k) (hk : k ≤ 1) (hx : x < 4294967296) :
    bits BinOp.or IntKind.u64 (u : Int) (((x * 4294967296 ^ k : Nat)) : Int) = ((u + x * 4294967296 ^ k : Nat) : Int) := by
  have hk' : k = 0 ∨ k = 1 := by omega
  have h64 : x * 4294967296 ^ k < 18446744073709551616 := by
    rcases hk' with rfl | rfl <;> simp <;> omega
  rw [u64_or_nat _ _ (by rcases hk' with rfl | rfl <;> simp at hu <;> omega) h64]
  congr 1
  rw [Nat.or_comm, Nat.mul_comm]
  have e : 4294967296 ^ k = 2 ^ (32 * k) := by rw [Nat.pow_mul]
  rw [e] at hu ⊢
  rw [← Nat.two_pow_add_eq_or_of_lt hu]
  omega

end Go.Proofs.Ytennilapmcgnbaa
/- WALKS, 6: what was told, laid in rows for apart. -/
namespace Go.Proofs.Ytennilapmcgnbaa
set_option linter.unusedVariables false
open Go.ChangeShapes Go.WideShapes Go.ChangeAt Go.RowKit Go.NatP

/-- an answer: the slice and what it holds -/
structure It where
  a : Option Addr
  n : Nat
  c : Nat
  l : List Nat
def It.v (x : It) : Value := .slice x.a x.n x.c
def It.d : It := ⟨none, 0, 0, []⟩

/-- answers, each its holder's own, newest first -/
def Told (B : Nat) (w : World) (xs : List It) : Prop :=
  (∀ x ∈ xs, Own B w x.a x.n x.c x.l) ∧ xs.Pairwise fun x y => ∀ g, x.a = some ⟨g, 0, none⟩ → y.a ≠ some ⟨g, 0, none⟩

theorem told_nil (B : Nat) (w : World) : Told B w [] := ⟨(fun x h => by cases h), List.Pairwise.nil⟩
theorem Told.below {B : Nat} {w w' : World} {xs : List It} (h : Told B w xs) (hB : Below w.heap.size w w') : Told B w' xs :=
  ⟨fun x hx => (h.1 x hx).below hB, h.2⟩
theorem Told.cons {B : Nat} {w w' : World} {xs : List It} {a : Option Addr} {n c : Nat} {l : List Nat} (h : Told B w xs) (hs : B ≤ w.heap.size) (hO : Own w.heap.size w' a n c l) (hB : Below w.heap.size w w') :
    Told B w' (⟨a, n, c, l⟩ :: xs) := by
  refine ⟨fun x hx => ?_, List.pairwise_cons.2 ⟨fun y hy g e e2 => ?_, h.2⟩⟩
  · rcases List.mem_cons.1 hx with rfl | hx
    · exact hO.mono hs
    · exact (h.1 x hx).below hB
  · have h1 := h.1 y hy
    rw [e2] at h1
    have := h1.lt
    simp only at e
    rw [e] at hO
    have := hO.lt
    omega

theorem Told.lt {B : Nat} {w : World} {xs : List It} (h : Told B w xs) {x : It} (hx : x ∈ xs) {g : Nat} (e : x.a = some ⟨g, 0, none⟩) : B ≤ g ∧ g < w.heap.size := by
  have := h.1 x hx
  rw [e] at this
  exact this.lt

theorem getD_mem {xs : List It} {i : Nat} (h : i < xs.length) : xs.getD i It.d ∈ xs := by
  rw [List.getD_eq_getElem?_getD, List.getElem?_eq_getElem h]
  exact List.getElem_mem h

theorem row_cell {w : World} {g : Nat} {vs : List Value} {t : TypeId} (hc : w.heap[g]? = some (.cells vs.toArray t (0, 0))) (i : Nat) : w.cell? ⟨g, i, none⟩ = vs[i]? := by
  rw [cell_of_row w g i _ t (0, 0) hc]; simp

/-- The answers in the order s, as a row at block gb. -/
theorem got_of {B : Nat} {w : World} {xs : List It} (s : List Nat) {gb K : Nat} (hK : s.length = K) (h : Told B w xs) (hs : s.Nodup) (hlt : ∀ i ∈ s, i < xs.length)
    (hc : w.heap[gb]? = some (.cells (s.map fun i => (xs.getD i It.d).v).toArray 24 (0, 0))) (hgb : ∀ x ∈ xs, x.a ≠ some ⟨gb, 0, none⟩) :
    Got w gb K (fun i => (xs.getD (s.getD i 0) It.d).a) (fun i => (xs.getD (s.getD i 0) It.d).n) (fun i => (xs.getD (s.getD i 0) It.d).c) (fun i => (xs.getD (s.getD i 0) It.d).l) := by
  subst hK
  have hm : ∀ i, i < s.length → s.getD i 0 < xs.length := fun i hi => hlt _ (by rw [getD_eq _ _ hi]; exact List.getElem_mem hi)
  refine ⟨fun i hi => ?_, fun i hi => ?_, fun i j hi hj hij g e => ?_, fun i hi => ?_⟩
  · rw [row_cell hc, List.getElem?_map, List.getElem?_eq_getElem hi]
    simp [It.v, List.getElem?_eq_getElem hi]
  · exact (h.1 _ (getD_mem (hm i hi))).mono (Nat.zero_le _)
  · have hne : s.getD i 0 ≠ s.getD j 0 := by
      rw [getD_eq _ _ hi, getD_eq _ _ hj]
      rcases Nat.lt_or_gt_of_ne hij with h1 | h1
      · exact (List.pairwise_iff_getElem.1 hs) i j hi hj h1
      · exact ((List.pairwise_iff_getElem.1 hs) j i hj hi h1).symm
    have hi' := hm i hi
    have hj' := hm j hj
    generalize s.getD i 0 = i' at *
    generalize s.getD j 0 = j' at *
    have e1 : xs.getD i' It.d = xs[i'] := by rw [List.getD_eq_getElem?_getD, List.getElem?_eq_getElem hi']; rfl
    have e2 : xs.getD j' It.d = xs[j'] := by rw [List.getD_eq_getElem?_getD, List.getElem?_eq_getElem hj']; rfl
    rw [e1] at e
    rw [e2]
    rcases Nat.lt_or_gt_of_ne hne with h1 | h1
    · exact (List.pairwise_iff_getElem.1 h.2) i' j' hi' hj' h1 g e
    · intro e3
      exact (List.pairwise_iff_getElem.1 h.2) j' i' hj' hi' h1 g e3 e
  · exact hgb _ (getD_mem (hm i hi))

/-- What must be, as a row at block wb. -/
theorem want_of {w : World} (ys : List It) {wb K : Nat} {L : Nat → List Nat} (hK : ys.length = K) (hc : w.heap[wb]? = some (.cells (ys.map It.v).toArray 24 (0, 0)))
    (hr : ∀ y ∈ ys, Rd w y.a y.n y.c y.l) (hL : ∀ i, i < K → (ys.getD i It.d).l = L i) : Want w wb K L := by
  subst hK
  intro i hi
  refine ⟨ys[i].a, ys[i].n, ys[i].c, ?_, ?_⟩
  · rw [row_cell hc, List.getElem?_map, List.getElem?_eq_getElem hi]; rfl
  · rw [← hL i hi, List.getD_eq_getElem?_getD, List.getElem?_eq_getElem hi]
    exact hr _ (List.getElem_mem hi)

theorem RetApart.below {w : World} {K : Nat} {A : Nat → Option Addr} {e : Ending} {w' : World} (h : RetApart w K A e w') {w0 : World} (hB : Below w0.heap.size w0 w) (hA : ∀ i, i < K → ∀ g, A i = some ⟨g, 0, none⟩ → w0.heap.size ≤ g) :
    e = .returned (.bool true) ∧ Below w0.heap.size w0 w' :=
  ⟨h.1, hB.kp h.2 hB.size fun k hk ⟨i, hi, e⟩ => by have := hA i hi k e; omega⟩

theorem two_new1 (w : World) (o1 o2 : Obj) : ((w.alloc o1).alloc o2).heap[w.heap.size]? = some o1 := by
  rw [Below.heap_alloc _ _ _ (by simp)]; exact heap_alloc_new w o1
theorem two_new2 (w : World) (o1 o2 : Obj) : ((w.alloc o1).alloc o2).heap[w.heap.size + 1]? = some o2 := by
  have := heap_alloc_new (w.alloc o1) o2
  simpa using this
theorem below_two (w : World) (o1 o2 : Obj) : Below w.heap.size w ((w.alloc o1).alloc o2) := ((Below.refl _ w).alloc (Nat.le_refl _) o1).alloc (by simp) o2

/-- WHERE A STATEMENT STANDS: what it may still read (rs), what it was told (xs); what was there before is as it was. -/
structure Ev (w0 w : World) (rs xs : List It) : Prop where
  rd : ∀ r ∈ rs, Rd w r.a r.n r.c r.l
  told : Told w0.heap.size w xs
  bel : Below w0.heap.size w0 w
  sep : ∀ r ∈ rs, 0 < r.n → ∀ x ∈ xs, ∀ g, x.a = some ⟨g, 0, none⟩ → ∀ o, r.a ≠ some ⟨g, o, none⟩
  sm : ∀ x ∈ xs, x.n ≤ 268435456

section ev
variable {w0 w w' : World} {rs xs : List It} {a : Option Addr} {n c : Nat} {l : List Nat}

theorem ev_start (w : World) : Ev w w [] [] := ⟨(fun r h => by cases h), told_nil _ _, Below.refl _ _, (fun r h => by cases h), (fun r h => by cases h)⟩
theorem Ev.old (h : Ev w w rs []) (hR : Rd w a n c l) : Ev w w (⟨a, n, c, l⟩ :: rs) [] :=
  ⟨fun r hr => by
    rcases List.mem_cons.1 hr with rfl | hr
    · exact hR
    · exact h.rd r hr, h.told, h.bel, (fun r hr h0 x hx => by cases hx), h.sm⟩
theorem Ev.step (h : Ev w0 w rs xs) (hB : Below w.heap.size w w') : Ev w0 w' rs xs :=
  ⟨fun r hr => (h.rd r hr).below hB, h.told.below hB, h.bel.next hB, h.sep, h.sm⟩
theorem Rd.blk_lt (h : Rd w a n c l) (hn : 0 < n) {g o : Nat} (e : a = some ⟨g, o, none⟩) : g < w.heap.size := by
  obtain ⟨b', o', e2, hc⟩ := h.get hn
  rw [e] at e2
  cases e2
  exact World.block_lt_of_cell? _ _ hc
theorem Ev.tell (h : Ev w0 w rs xs) (hO : Own w.heap.size w' a n c l) (hB : Below w.heap.size w w') (hn : n ≤ 268435456) : Ev w0 w' rs (⟨a, n, c, l⟩ :: xs) :=
  ⟨fun r hr => (h.rd r hr).below hB, h.told.cons h.bel.size hO hB, h.bel.next hB, fun r hr h0 x hx g e o e2 => by
    rcases List.mem_cons.1 hx with rfl | hx
    · simp only at e
      rw [e] at hO
      have := hO.lt
      have := (h.rd r hr).blk_lt h0 e2
      omega
    · exact h.sep r hr h0 x hx g e o e2, fun x hx => by
    rcases List.mem_cons.1 hx with rfl | hx
    · exact hn
    · exact h.sm x hx⟩
theorem Ev.note (h : Ev w0 w rs xs) (hO : Own w.heap.size w' a n c l) (hB : Below w.heap.size w w') : Ev w0 w' (⟨a, n, c, l⟩ :: rs) xs :=
  ⟨fun r hr => by
    rcases List.mem_cons.1 hr with rfl | hr
    · exact hO.rd
    · exact (h.rd r hr).below hB, h.told.below hB, h.bel.next hB, fun r hr h0 x hx g e o e2 => by
    rcases List.mem_cons.1 hr with rfl | hr
    · simp only at e2
      rcases hO.cases with ⟨h1, _⟩ | ⟨g', h1, h2, _⟩
      · rw [h1] at e2; cases e2
      · rw [h1] at e2; cases e2
        have := (h.told.lt hx e).2
        omega
    · exact h.sep r hr h0 x hx g e o e2, h.sm⟩
/-- a piece from the front of what may be read -/
theorem Ev.pre (h : Ev w0 w rs xs) (hm : (⟨a, n, c, l⟩ : It) ∈ rs) {k : Nat} {l' : List Nat} (hk : k ≤ n) (hl : l.take k = l') : Ev w0 w (⟨a, k, c, l'⟩ :: rs) xs := by
  have hR := (h.rd _ hm).pre hk
  subst hl
  exact ⟨fun r hr => by
    rcases List.mem_cons.1 hr with rfl | hr
    · exact hR
    · exact h.rd r hr, h.told, h.bel, fun r hr h0 => by
    rcases List.mem_cons.1 hr with rfl | hr
    · exact h.sep ⟨a, n, c, l⟩ hm (by simp only at h0 ⊢; omega)
    · exact h.sep r hr h0, h.sm⟩
/-- behind apart -/
theorem Ev.apart (h : Ev w0 w rs xs) (hB : Below w0.heap.size w0 w') (hK : Kp (fun b => ∃ x ∈ xs, x.a = some ⟨b, 0, none⟩) w w') : Ev w0 w' rs [] := by
  refine ⟨fun r hr => ?_, told_nil _ _, hB, (fun r hr h0 x hx => by cases hx), (fun x hx => by cases hx)⟩
  have hR := h.rd r hr
  rcases Nat.eq_zero_or_pos r.n with h0 | h0
  · exact ⟨hR.1, hR.2.1, hR.2.2.1, hR.2.2.2.1, fun i hi => by omega⟩
  · exact hR.kp hK fun b o e ⟨x, hx, e2⟩ => h.sep r hr h0 x hx b e2 o e

/-- a step to new memory that nobody needs -/
theorem Ev.alloc (h : Ev w0 w rs xs) (o : Obj) : Ev w0 (w.alloc o) rs xs := h.step ((Below.refl _ _).alloc (Nat.le_refl _) o)
theorem Ev.dr (h : Ev w0 w rs xs) (hD : Dr w w') : Ev w0 w' rs xs := h.step (hD.below _)
end ev

theorem rd_one {w : World} {x : Nat} {X : Int} {e : TypeId} (hX : X = (x : Int)) (hx : x < 4294967296) :
    Rd (w.alloc (.cells #[.int .u32 X] e)) (some ⟨w.heap.size, 0, none⟩) 1 1 [x] := by
  subst hX
  refine ⟨rfl, lim_cons hx lim_nil, by omega, by simp [maxLen], fun i hi => ⟨w.heap.size, 0, rfl, ?_⟩⟩
  obtain rfl : i = 0 := by omega
  have := cell_one_new w (.int .u32 (x : Int)) e 0 _ rfl
  rwa [Addr.add_lit] at this

end Go.Proofs.Ytennilapmcgnbaa
