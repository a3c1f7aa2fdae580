/- WALKS OF WHOLE NUMBERS, 16: rows of numbers that were answered; they are their holder's (for WholeMakes). -/
import Derived.Test.YtokkfppchfmjcaaAw
import Derived.Test.YtokkfppchfmjcaaZf
import Derived.BigQuiet
namespace Go.Proofs.Ytokkfppchfmjcaa
set_option linter.unusedVariables false
set_option linter.unusedSimpArgs false
open Go.ChangeShapes Go.WideShapes Go.ChangeAt Go.RowKit Go.NatP

/-- a row of K numbers that were answered -/
structure Nums (B : Nat) (W : World) (g K : Nat) (A : Nat → Option Addr) (N C : Nat → Nat) (Z : Nat → Int) : Prop where
  c0 : ∀ i, i < K → W.cell? ⟨g, i * 2, none⟩ = some (.bool (decide (Z i < 0)))
  c1 : ∀ i, i < K → W.cell? ⟨g, i * 2 + 1, none⟩ = some (.slice (A i) (N i) (C i))
  own : ∀ i, i < K → Own B W (A i) (N i) (C i) (lm (Z i).natAbs)
  dif : ∀ i j, i < K → j < K → i ≠ j → Diff (A i) (A j)
  away : ∀ i, i < K → Aw (A i) g
  lo : B ≤ g
  hi : g < W.heap.size
def RetNums (w : World) (K : Nat) (Z : Nat → Int) (er : Int) (e : Ending) (w' : World) : Prop :=
  ∃ g A N C, e = .returned (.tuple #[.slice (some ⟨g, 0, none⟩) K K, .int .i64 er]) ∧ Nums w.heap.size w' g K A N C Z ∧ Below w.heap.size w w'
section
variable {B g n c m d l r K : Nat} {W W' : World} {a b p : Option Addr} {x y z : Int} {Z : Nat → Int} {A : Nat → Option Addr} {N C : Nat → Nat}
theorem Nums.below (h : Nums B W g K A N C Z) (hB : Below W.heap.size W W') : Nums B W' g K A N C Z :=
  ⟨fun i hi => (hB.cell (p := ⟨g, i * 2, none⟩) h.hi).trans (h.c0 i hi), fun i hi => (hB.cell (p := ⟨g, i * 2 + 1, none⟩) h.hi).trans (h.c1 i hi), fun i hi => (h.own i hi).below hB, h.dif, h.away, h.lo, Nat.lt_of_lt_of_le h.hi hB.size⟩
theorem Nums.kp {q : Nat → Prop} (h : Nums B W g K A N C Z) (hk : Kp q W W') (h1 : ¬ q g) (h2 : ∀ i, i < K → ∀ j, A i = some ⟨j, 0, none⟩ → ¬ q j) : Nums B W' g K A N C Z := by
  have hc : ∀ i, W'.cell? ⟨g, i, none⟩ = W.cell? ⟨g, i, none⟩ := fun i => World.cell?_of_block (w := W) (hk.block g h.hi h1)
  exact ⟨fun i hi => (hc _).trans (h.c0 i hi), fun i hi => (hc _).trans (h.c1 i hi), fun i hi => (h.own i hi).kp hk (h2 i hi), h.dif, h.away, h.lo, Nat.lt_of_lt_of_le h.hi hk.size⟩
theorem nums1 (hb : Blk W g #[.bool (decide (x < 0)), .slice a n c]) (hO : Own B W a n c (lm x.natAbs)) (hg : B ≤ g) (ha : Aw a g) (h0 : Z 0 = x) : Nums B W g 1 (fun _ => a) (fun _ => n) (fun _ => c) Z := by
  refine ⟨fun i hi => ?_, fun i hi => ?_, fun i hi => ?_, fun i j hi hj hij => by omega, fun i hi => ha, hg, hb.lt⟩ <;> (obtain rfl : i = 0 := by omega) <;> (try rw [h0])
  · exact hb.cell 0
  · exact hb.cell 1
  · exact hO
theorem nums2 (hb : Blk W g #[.bool (decide (x < 0)), .slice a n c, .bool (decide (y < 0)), .slice b m d]) (hO : Own B W a n c (lm x.natAbs)) (hP : Own B W b m d (lm y.natAbs)) (hD : Diff a b) (hg : B ≤ g) (ha : Aw a g) (hb' : Aw b g) (h0 : Z 0 = x) (h1 : Z 1 = y) :
    Nums B W g 2 (fun i => if i = 0 then a else b) (fun i => if i = 0 then n else m) (fun i => if i = 0 then c else d) Z := by
  refine ⟨fun i hi => ?_, fun i hi => ?_, fun i hi => ?_, fun i j hi hj hij => ?_, fun i hi => ?_, hg, hb.lt⟩
  · rcases (by omega : i = 0 ∨ i = 1) with rfl | rfl
    · rw [h0]; exact hb.cell 0
    · rw [h1]; exact hb.cell 2
  · rcases (by omega : i = 0 ∨ i = 1) with rfl | rfl
    · exact hb.cell 1
    · exact hb.cell 3
  · rcases (by omega : i = 0 ∨ i = 1) with rfl | rfl
    · rw [h0]; exact hO
    · rw [h1]; exact hP
  · rcases (by omega : (i = 0 ∧ j = 1) ∨ (i = 1 ∧ j = 0)) with ⟨rfl, rfl⟩ | ⟨rfl, rfl⟩
    · exact hD
    · exact hD.symm
  · rcases (by omega : i = 0 ∨ i = 1) with rfl | rfl
    · exact ha
    · exact hb'
theorem nums3 (hb : Blk W g #[.bool (decide (x < 0)), .slice a n c, .bool (decide (y < 0)), .slice b m d, .bool (decide (z < 0)), .slice p l r]) (hO : Own B W a n c (lm x.natAbs)) (hP : Own B W b m d (lm y.natAbs)) (hQ : Own B W p l r (lm z.natAbs)) (hD : Diff a b) (hE : Diff a p) (hF : Diff b p)
    (hg : B ≤ g) (ha : Aw a g) (hb' : Aw b g) (hp : Aw p g) (h0 : Z 0 = x) (h1 : Z 1 = y) (h2 : Z 2 = z) :
    Nums B W g 3 (fun i => if i = 0 then a else if i = 1 then b else p) (fun i => if i = 0 then n else if i = 1 then m else l) (fun i => if i = 0 then c else if i = 1 then d else r) Z := by
  refine ⟨fun i hi => ?_, fun i hi => ?_, fun i hi => ?_, fun i j hi hj hij => ?_, fun i hi => ?_, hg, hb.lt⟩
  · rcases (by omega : i = 0 ∨ i = 1 ∨ i = 2) with rfl | rfl | rfl
    · rw [h0]; exact hb.cell 0
    · rw [h1]; exact hb.cell 2
    · rw [h2]; exact hb.cell 4
  · rcases (by omega : i = 0 ∨ i = 1 ∨ i = 2) with rfl | rfl | rfl
    · exact hb.cell 1
    · exact hb.cell 3
    · exact hb.cell 5
  · rcases (by omega : i = 0 ∨ i = 1 ∨ i = 2) with rfl | rfl | rfl
    · rw [h0]; exact hO
    · rw [h1]; exact hP
    · rw [h2]; exact hQ
  · rcases (by omega : (i = 0 ∧ j = 1) ∨ (i = 1 ∧ j = 0) ∨ (i = 0 ∧ j = 2) ∨ (i = 2 ∧ j = 0) ∨ (i = 1 ∧ j = 2) ∨ (i = 2 ∧ j = 1)) with ⟨rfl, rfl⟩ | ⟨rfl, rfl⟩ | ⟨rfl, rfl⟩ | ⟨rfl, rfl⟩ | ⟨rfl, rfl⟩ | ⟨rfl, rfl⟩
    · exact hD
    · exact hD.symm
    · exact hE
    · exact hE.symm
    · exact hF
    · exact hF.symm
  · rcases (by omega : i = 0 ∨ i = 1 ∨ i = 2) with rfl | rfl | rfl
    · exact ha
    · exact hb'
    · exact hp
end

set_option maxRecDepth 100000 in
set_option maxHeartbeats 4000000 in
theorem nsame {w : World} {B B' g g' K : Nat} {A A' : Nat → Option Addr} {N C N' C' : Nat → Nat} {Z : Nat → Int} (h : Nums B w g K A N C Z) (h' : Nums B' w g' K A' N' C' Z) (hK : K ≤ 3) :
    Calls Try.prog 35 #[.slice (some ⟨g, 0, none⟩) K K, .slice (some ⟨g', 0, none⟩) K K] w fun e w' => e = .returned (.bool true) ∧ Below w.heap.size w w' := by
  have H := hid h
  have H' := hid h'
  clear h h'
  have hd : (decide ((K : Int) = (K : Int))) = true := by simp
  go_enter Try.func35, Try.ntmps35
  go_wp2_with fail
  go_loopw [5] (fun i wr => ∃ k : Nat, k ≤ K ∧ i = .int .i64 k ∧ Below w.heap.size w wr) (fun i _ => K - (intOf i).toNat)
  case atStart => exact ⟨0, by omega, rfl, Below.refl _ _⟩
  case round =>
    obtain ⟨k, hk, rfl, hB⟩ := hrel
    by_cases hlt : k < K
    · have h1 := H.out.below hB
      have h2 := H'.out.below hB
      have c0 := h1.c0 k hlt
      have c1 := h1.c1 k hlt
      have d0 := h2.c0 k hlt
      have d1 := h2.c1 k hlt
      have R1 := hid (h1.own k hlt).rd
      have R2 := hid (h2.own k hlt).rd
      clear h1 h2
      generalize Z k = z at *
      go_wp2_with fail
      go_region_with
        (first
          | (go_at_call 68; ((with_reducible refine (zsame_true (decide (z < 0)) (R1.out.below (by first | exact Below.refl _ _ | exact (Below.refl _ _).drew)) (R2.out.below (by first | exact Below.refl _ _ | exact (Below.refl _ _).drew))).mono ?_); rintro e w1 ⟨rfl, hB1⟩; have hB2 := hB.next (show Below wr.heap.size wr w1 from by first | exact hB1 | exact below_drew hB1))))
      all_goals (go_wp2; go_roundw)
      all_goals first | exact ⟨k + 1, by omega, by go_num, hB2⟩ | (simp [intOf]; omega)
    · obtain rfl : k = K := by omega
      go_wp2
      go_ret
      exact ⟨rfl, hB⟩

/-- limbs with 20 marks behind them -/
def mk20 (l : List Nat) (k : Nat) : List Nat := l ++ (List.range k).map (90000 + ·)
theorem mk20_snoc (l : List Nat) (k : Nat) : mk20 l k ++ [90000 + k] = mk20 l (k + 1) := by unfold mk20; rw [List.range_succ, List.map_append, List.append_assoc]; rfl
theorem mk20_len (l : List Nat) (k : Nat) : (mk20 l k).length = l.length + k := by simp [mk20]
set_option maxRecDepth 100000 in
set_option maxHeartbeats 4000000 in
theorem nlong {w : World} {s : Bool} {a : Option Addr} {n c : Nat} {l : List Nat} (hR : Rd w a n c l) (hn : n ≤ 1000) :
    Calls Try.prog 33 #[.agg #[.bool s, .slice a n c]] w (Ret1 w (mk20 l 20)) := by
  obtain ⟨X, hb0, hsz0⟩ := ent1 w #[Value.bool s, Value.slice a n c] 25
  have x0 : _ = some (Value.bool s) := X.cell 0
  have x1 : _ = some (Value.slice a n c) := X.cell 1
  have R0 := hid (hR.below hb0)
  have hsz1 := hid (show w.heap.size ≤ (w.alloc (.cells #[Value.bool s, Value.slice a n c] 25)).heap.size by omega)
  clear hR
  go_enter Try.func33, Try.ntmps33
  go_wp2_with (at_builtin; refine wpList_appR (l := []) rfl _ _ rfl rfl (own_nil w.heap.size _) rfl R0.out hsz1.out (by omega) ?_; intro a2 c2 w2 hO2 hK2 _)
  have hB2 : Below w.heap.size w w2 := hb0.kp hK2 hsz1.out (fun k hk e => by cases e)
  rw [Nat.zero_add, List.nil_append] at hO2
  clear x0 x1 X R0 hK2 hb0 hsz0 hsz1
  obtain ⟨vA, hvA⟩ : ∃ y : World, y = w2 := ⟨_, rfl⟩
  subst hvA
  go_wp2_with fail
  go_loopw [3, 4] (fun v i wr => ∃ (t m cl : Nat) (al : Option Addr), t ≤ 20 ∧ v = .slice al m cl ∧ i = .int .i64 t ∧ m = n + t ∧ Own w.heap.size wr al m cl (mk20 l t) ∧ Below w.heap.size w wr) (fun _ i _ => 20 - (intOf i).toNat)
  case atStart => exact ⟨0, _, _, _, by omega, rfl, rfl, (Nat.add_zero n).symm ▸ rfl, (by simpa [mk20] using hO2), hB2⟩
  case round =>
    clear hO2 hB2
    obtain ⟨t, m, cl, al, ht, rfl, rfl, hm, hO, hB⟩ := hrel
    have hsz := hB.size
    by_cases htl : t < 20
    · have hla := hid (fun j (hj : j < w.heap.size) (e : al = some ⟨j, 0, none⟩) => (by have := hO.lt' j e; omega : False))
      go_wp2_with (at_builtin; refine wpList_app1 (y := 90000 + t) rfl _ _ rfl rfl (hO.alloc _) _ 1 rfl (by omega) (by go_simp) (by simp; omega) (by omega) ?_; intro a3 c3 w3 hO3 hK3 _)
      have hB3 : Below w.heap.size w w3 := (hB.alloc hsz _).kp hK3 (by simp; omega) hla.out
      rw [mk20_snoc] at hO3
      go_wp2
      go_roundw
      case rel => exact ⟨t + 1, _, c3, a3, by omega, rfl, by go_num, by omega, hm ▸ hO3, hB3⟩
      case measure => simp [intOf]; omega
    · obtain rfl : t = 20 := by omega
      go_wp2
      go_ret
      exact ⟨al, m, cl, rfl, hO, hB⟩
set_option maxRecDepth 100000 in
set_option maxHeartbeats 4000000 in
theorem nstands {w : World} {s : Bool} {a b : Option Addr} {n c m d : Nat} {l : List Nat} (hR : Rd w a n c l) (hn : n ≤ 1000) (hL : Rd w b m d (mk20 l 20)) :
    Calls Try.prog 36 #[.slice b m d, .agg #[.bool s, .slice a n c]] w fun e w' => e = .returned (.bool true) ∧ Below w.heap.size w w' := by
  have hent := ent1 w #[Value.bool s, Value.slice a n c] 25
  have HR := hid hR
  have HL := hid hL
  have hm : m = n + 20 := by have h1 := hL.len; have h2 := hR.len; rw [mk20_len] at h1; omega
  clear hR hL
  go_enter Try.func36, Try.ntmps36
  go_wp2_with fail
  generalize (w.alloc (.cells #[Value.bool s, Value.slice a n c] 25)) = W0 at hent ⊢
  obtain ⟨X, hb0, hsz0⟩ := hent
  have x0 : _ = some (Value.bool s) := X.cell 0
  have x1 : _ = some (Value.slice a n c) := X.cell 1
  have R0 := hid (HR.out.below hb0)
  have HL0 := hid (HL.out.below hb0)
  clear HR HL
  go_wp2_with fail
  refine (nlong R0.out hn).mono ?_
  rintro e w1 ⟨b', m', d', rfl, hO', hB1⟩
  have hm' : m' = n + 20 := by have h1 := hO'.len; have h2 := R0.out.len; rw [mk20_len] at h1; omega
  obtain rfl : m = m' := by omega
  have hB := hb0.next hB1
  have L1 := hid (HL0.out.below hB1)
  have L2 := hid hO'.rd
  have hbd1 := L1.out.bnd
  have hbd2 := L2.out.bnd
  clear x0 x1 X R0 HL0 hO' hB1
  obtain ⟨vA, hvA⟩ : ∃ y : World, y = w1 := ⟨_, rfl⟩
  subst hvA
  go_wp2_with fail
  go_loopw [6] (fun i wr => ∃ k : Nat, k ≤ m ∧ i = .int .i64 k ∧ Dr vA wr) (fun i _ => m - (intOf i).toNat)
  case atStart => exact ⟨0, by omega, rfl, Dr.refl _⟩
  case round =>
    obtain ⟨k, hk, rfl, hD⟩ := hrel
    by_cases hlt : k < m
    · obtain ⟨g1, o1, rfl, e1⟩ := L1.out.get hlt
      obtain ⟨g2, o2, rfl, e2⟩ := L2.out.get hlt
      have e1 := (hD.cell _).trans e1
      have e2 := (hD.cell _).trans e2
      generalize (mk20 l 20).getD k 0 = v at *
      go_wp2_with fail
      go_quiet (fail)
      go_wp2
      exact ⟨⟨k + 1, by omega, by go_num, hD.drewN _⟩, by simp [intOf]; omega⟩
    · obtain rfl : k = m := by omega
      go_wp2
      go_ret
      exact ⟨rfl, by obtain ⟨q, rfl⟩ := hD; exact hB.drewN' q⟩

/-! ### answers are their holder's -/
def mrk7 (mk : Nat) (N : Nat → Nat) (i : Nat) : List Nat := List.replicate (N i) (mk + i)
def mrk7t (mk : Nat) (N : Nat → Nat) (i t : Nat) : List Nat := mrk7 mk N i ++ List.replicate t 7
/-- the limbs' blocks -/
def pL (K : Nat) (A : Nat → Option Addr) (j : Nat) : Prop := ∃ i, i < K ∧ A i = some ⟨j, 0, none⟩
structure S7 (w wr : World) (mk K : Nat) (A : Nat → Option Addr) (N C : Nat → Nat) (k : Nat) : Prop where
  gown : ∀ i, i < K → k ≤ i → Own 0 wr (A i) (N i) (C i) (mrk7 mk N i)
  grd : ∀ i, i < k → Rd wr (A i) (N i) (C i) (mrk7 mk N i)
  kp : Kp (pL K A) w wr
structure S7i (w wr : World) (mk K : Nat) (A : Nat → Option Addr) (N C : Nat → Nat) (k t : Nat) (al : Option Addr) (cl : Nat) : Prop where
  gown : ∀ i, i < K → k < i → Own 0 wr (A i) (N i) (C i) (mrk7 mk N i)
  grd : ∀ i, i ≤ k → Rd wr (A i) (N i) (C i) (mrk7 mk N i)
  lown : Own 0 wr al (N k + t) cl (mrk7t mk N k t)
  alb : al = A k ∨ ∀ g, al = some ⟨g, 0, none⟩ → w.heap.size ≤ g
  kp : Kp (pL K A) w wr
/-- the answers' limbs lie apart, in old memory -/
structure Fix7 (w : World) (g K : Nat) (A : Nat → Option Addr) : Prop where
  parted : ∀ i j, i < K → j < K → i ≠ j → Diff (A i) (A j)
  old : ∀ i, i < K → ∀ j, A i = some ⟨j, 0, none⟩ → j < w.heap.size
  shape : ∀ i, i < K → ∀ b o, A i = some ⟨b, o, none⟩ → o = 0
  away : ¬ pL K A g
  gold : g < w.heap.size
section
variable {w wr w' : World} {mk g K k t cl cl' : Nat} {A : Nat → Option Addr} {N C : Nat → Nat} {al al' : Option Addr}
theorem S7.into (h : S7 w wr mk K A N C k) (hk : k < K) : S7i w wr mk K A N C k 0 (A k) (C k) := by
  refine ⟨fun i h1 h2 => h.gown i h1 (by omega), fun i hi => ?_, ?_, .inl rfl, h.kp⟩
  · rcases Nat.lt_or_ge i k with h1 | h1
    · exact h.grd i h1
    · exact (h.gown i (by omega) h1).rd
  · have := h.gown k hk (Nat.le_refl _)
    simpa [mrk7t] using this
theorem S7i.out (h : S7i w wr mk K A N C k t al cl) : S7 w wr mk K A N C (k + 1) :=
  ⟨fun i h1 h2 => h.gown i h1 (by omega), fun i hi => h.grd i (by omega), h.kp⟩
theorem S7i.step (hF : Fix7 w g K A) (h : S7i w wr mk K A N C k t al cl) (hk : k < K) {o : Obj}
    (hO : Own 0 w' al' (N k + t + 1) cl' (mrk7t mk N k t ++ [7])) (hK : Kp (fun j => al = some ⟨j, 0, none⟩) (wr.alloc o) w')
    (hf : al' = al ∨ (∀ g, al' = some ⟨g, 0, none⟩ → (wr.alloc o).heap.size ≤ g) ∧ Kp (fun _ => False) (wr.alloc o) w') :
    S7i w w' mk K A N C k (t + 1) al' cl' := by
  have hsz := h.kp.size
  have hKw : Kp (fun j => al = some ⟨j, 0, none⟩) wr w' := ((Kp.refl _ wr).alloc o).kp hK (fun j hj e => .inl e)
  have alne : ∀ b, b < w.heap.size → (∀ (_ : al = A k), A k ≠ some ⟨b, 0, none⟩) → al ≠ some ⟨b, 0, none⟩ := by
    intro b hb h1 e
    rcases h.alb with h2 | h2
    · exact h1 h2 (h2 ▸ e)
    · have := h2 b e; omega
  refine ⟨fun i h1 h2 => ?_, fun i hi => ?_, ?_, ?_, ?_⟩
  · exact (h.gown i h1 h2).kp hKw fun g e => alne g (hF.old i h1 g e) fun _ => fun e2 => hF.parted i k h1 hk (by omega) g e e2
  · rcases Nat.lt_or_ge i k with h1 | h1
    · refine (h.grd i hi).kp hKw fun b o' e => ?_
      obtain rfl := hF.shape i (by omega) b o' e
      exact alne b (hF.old i (by omega) b e) fun _ => fun e2 => hF.parted i k (by omega) hk (by omega) b e e2
    · obtain rfl : i = k := by omega
      rcases h.alb with h2 | h2
      · rcases hf with h3 | ⟨_, h3⟩
        · have hR := (hO.take (k := N i) (by omega)).rd
          have e1 : (mrk7t mk N i t ++ [7]).take (N i) = mrk7 mk N i := by
            rw [mrk7t, List.append_assoc, List.take_left' (by simp [mrk7])]
          rw [e1, h3, h2] at hR
          exact hR.cap (h.grd i hi).2.2.1 (h.grd i hi).2.2.2.1
        · exact ((h.grd i hi).alloc o).kp h3 (fun _ _ _ e => e)
      · refine (h.grd i hi).kp hKw fun b o' e e2 => ?_
        obtain rfl := hF.shape i (by omega) b o' e
        have := hF.old i hk b e
        have := h2 b e2
        omega
  · have : mrk7t mk N k t ++ [7] = mrk7t mk N k (t + 1) := by
      rw [mrk7t, mrk7t, List.append_assoc, ← List.replicate_succ']
    rw [← this]; exact hO
  · rcases hf with h4 | ⟨h4, _⟩
    · rw [h4]; exact h.alb
    · right; intro g e; have := h4 g e; simp at this; omega
  · refine h.kp.kp hKw fun j hj e => ?_
    rcases h.alb with h2 | h2
    · exact .inl ⟨k, hk, h2 ▸ e⟩
    · exact .inr (h2 j e)
end
set_option maxRecDepth 100000 in
set_option maxHeartbeats 4000000 in
theorem nspoilt {w : World} {B g K mk : Nat} {A : Nat → Option Addr} {N C : Nat → Nat} {Z : Nat → Int} (h : Nums B w g K A N C Z) (hK : K ≤ 3) (hN : ∀ i, i < K → N i ≤ 1000) (hmk : mk ≤ 100000) :
    Calls Try.prog 37 #[.slice (some ⟨g, 0, none⟩) K K, .int .u32 (mk : Int)] w fun e w' => e = .returned (.bool true) ∧ Kp (pL K A) w w' := by
  have HC : Hid (∀ i, i < K → w.cell? ⟨g, i * 2 + 1, none⟩ = some (.slice (A i) (N i) (C i))) := h.c1
  have HN := hid hN
  have HF : Hid (Fix7 w g K A) := ⟨h.dif, fun i hi j e => ((h.own i hi).lt' j e).2, fun i hi b o e => by
      rcases (h.own i hi).cases with ⟨h, _⟩ | ⟨g, h, _⟩
      · rw [h] at e; cases e
      · rw [h] at e; cases e; rfl, fun ⟨i, hi, e⟩ => h.away i hi g e rfl, h.hi⟩
  have hO0 : Hid (∃ L : Nat → List Nat, (∀ i, i < K → Own 0 w (A i) (N i) (C i) (L i)) ∧ (∀ i, i < 0 → L i = mrk7 mk N i)) := ⟨fun i => lm (Z i).natAbs, fun i hi => (h.own i hi).mono (Nat.zero_le _), fun i hi => absurd hi (by omega)⟩
  have HG : Hid (∀ wr, Kp (pL K A) w wr → ∀ i, i < K → wr.cell? ⟨g, i * 2 + 1, none⟩ = some (.slice (A i) (N i) (C i))) := fun wr hk i hi =>
    (World.cell?_of_block (w := w) (hk.block g HF.out.gold HF.out.away)).trans (HC.out i hi)
  have HKp : Hid (Kp (pL K A) w w) := Kp.refl _ _
  clear h hN HC
  go_enter Try.func37, Try.ntmps37
  go_wp2_with fail
  go_loopw [5] (fun i wr => ∃ (j : Nat), j ≤ K ∧ i = .int .i64 j ∧ Hid (∃ L : Nat → List Nat, (∀ i, i < K → Own 0 wr (A i) (N i) (C i) (L i)) ∧ (∀ i, i < j → L i = mrk7 mk N i)) ∧ Hid (Kp (pL K A) w wr)) (fun i _ => K - (intOf i).toNat)
  case atStart => exact ⟨0, by omega, rfl, hO0, HKp⟩
  case round =>
    clear hO0 HKp
    obtain ⟨wo, rfl⟩ : ∃ wo : World, wo = wr := ⟨_, rfl⟩
    obtain ⟨j, hj, rfl, HO, HKp⟩ := hrel
    by_cases hlt : j < K
    · have HO1 : Hid (∃ L : Nat → List Nat, (∀ i, i < K → Own 0 wo (A i) (N i) (C i) (L i)) ∧ (∀ i, i < j → L i = mrk7 mk N i) ∧ (∀ s, s < 0 → (L j).getD s 0 = mk + j)) := by
        obtain ⟨L, h1, h2⟩ := HO.out
        exact ⟨L, h1, h2, fun s hs => absurd hs (by omega)⟩
      clear HO
      go_wp2_with fail
      go_loopw [6] (fun i wr => ∃ (t : Nat), t ≤ N j ∧ i = .int .i64 t ∧ Hid (∃ L : Nat → List Nat, (∀ i, i < K → Own 0 wr (A i) (N i) (C i) (L i)) ∧ (∀ i, i < j → L i = mrk7 mk N i) ∧ (∀ s, s < t → (L j).getD s 0 = mk + j)) ∧ Hid (Kp (pL K A) w wr)) (fun i _ => N j - (intOf i).toNat)
      case atStart => exact ⟨0, by omega, rfl, HO1, HKp⟩
      case round =>
        clear HO1 HKp
        obtain ⟨t, ht, rfl, HO, HKp⟩ := hrel
        have hNj : N j ≤ 1000 := HN.out j hlt
        have hcl := HG.out wr HKp.out j hlt
        by_cases htl : t < N j
        · obtain ⟨L, hL1, hL2, hL3⟩ := HO.out
          have hOj := hL1 j hlt
          rcases hOj.cases with ⟨_, h, _⟩ | ⟨g', hAj, _⟩
          · omega
          have HAj := hid hAj
          rw [hAj] at hcl hOj
          have hfr := hOj.free t
          have hcc := hOj.cell htl
          have hbd := hOj.bnd
          have HO' : Hid (∃ L : Nat → List Nat, (∀ i, i < K → Own 0 (wr.setCell ⟨g', t, none⟩ (.int .u32 ((mk + j : Nat) : Int))) (A i) (N i) (C i) (L i)) ∧ (∀ i, i < j → L i = mrk7 mk N i) ∧ (∀ s, s < t + 1 → (L j).getD s 0 = mk + j)) := by
            refine ⟨fun i => if i = j then (L j).set t (mk + j) else L i, fun i hi => ?_, fun i hi => ?_, fun s hs => ?_⟩
            · by_cases hij : i = j
              · subst hij; simp only [if_true]; rw [hAj]; exact hOj.set t (mk + i) (by omega)
              · simp only [if_neg hij]
                exact (hL1 i hi).set_other _ (fun g2 e e2 => HF.out.parted i j hi hlt hij g2 e (by rw [hAj, e2]))
            · simp only [if_neg (show i ≠ j by omega)]; exact hL2 i hi
            · simp only [if_true]
              by_cases hst : s = t
              · subst hst; exact NatP.getD_set_eq _ _ _ (by rw [hOj.len]; exact htl)
              · rw [NatP.getD_set_ne _ _ _ _ (by omega)]; exact hL3 s (by omega)
          have HKp' : Hid (Kp (pL K A) w (wr.setCell ⟨g', t, none⟩ (.int .u32 ((mk + j : Nat) : Int)))) := HKp.out.setCell ⟨j, hlt, hAj⟩ _
          clear hAj hOj HO HKp hL1 hL2 hL3
          go_wp2
          go_roundw
          case rel => exact ⟨t + 1, by omega, by go_num, HO', HKp'⟩
          case measure => simp [intOf]; omega
        · obtain rfl : t = N j := by omega
          have HO' : Hid (∃ L : Nat → List Nat, (∀ i, i < K → Own 0 wr (A i) (N i) (C i) (L i)) ∧ (∀ i, i < j + 1 → L i = mrk7 mk N i)) := by
            obtain ⟨L, hL1, hL2, hL3⟩ := HO.out
            refine ⟨L, hL1, fun i hi => ?_⟩
            by_cases hij : i = j
            · subst hij
              exact list_eq_of_getD (by rw [(hL1 i hlt).len]; simp [mrk7]) fun s hs => by
                rw [(hL1 i hlt).len] at hs
                rw [hL3 s hs]
                simp [mrk7, List.getD_eq_getElem?_getD, hs]
            · exact hL2 i (by omega)
          clear HO
          go_wp2
          go_roundw
          case rel => exact ⟨j + 1, by omega, by go_num, HO', HKp⟩
          case measure => simp [intOf]; omega
    · obtain rfl : j = K := by omega
      have hS : Hid (S7 w wo mk j A N C 0) := by
        obtain ⟨L, hL1, hL2⟩ := HO.out
        exact ⟨fun i hi _ => by rw [← hL2 i hi]; exact hL1 i hi, fun i hi => absurd hi (by omega), HKp.out⟩
      clear HO HKp
      go_wp2_with fail
      go_loopw [7] (fun i wr => ∃ k, k ≤ j ∧ i = .int .i64 k ∧ Hid (S7 w wr mk j A N C k)) (fun i _ => j - (intOf i).toNat)
      case atStart => exact ⟨0, by omega, rfl, hS⟩
      case round =>
        clear hS wo
        obtain ⟨wo, rfl⟩ : ∃ wo : World, wo = wr := ⟨_, rfl⟩
        obtain ⟨k, hk, rfl, hS⟩ := hrel
        by_cases hlt : k < j
        · have hcl := HG.out wo hS.out.kp k hlt
          have hI := hid (hS.out.into hlt)
          have hNk : N k ≤ 1000 := HN.out k hlt
          clear hS
          go_wp2_with fail
          go_loopw [8, 9] (fun v i wr => ∃ (t m cl : Nat) (al : Option Addr), t ≤ 40 ∧ v = .slice al m cl ∧ i = .int .i64 t ∧ m ≤ N k + t ∧ N k + t ≤ m ∧ Hid (S7i w wr mk j A N C k t al cl)) (fun _ i _ => 40 - (intOf i).toNat)
          case atStart => exact ⟨0, N k, C k, A k, by omega, rfl, rfl, by omega, by omega, hI⟩
          case round =>
            clear hI hcl wo
            obtain ⟨t, m, cl, al, ht, rfl, rfl, hm1, hm2, hI⟩ := hrel
            by_cases htl : t < 40
            · have hO : Own 0 wr al m cl (mrk7t mk N k t) := by
                have := hI.out.lown
                rwa [show N k + t = m by omega] at this
              go_wp2_with (at_builtin; refine wpList_app1 (y := 7) rfl _ _ rfl rfl (hO.alloc _) _ 1 rfl (by omega) (by go_simp) (by simp) (by omega) ?_; intro a2 c2 w2 hO2 hK2 hF2)
              have hI' := hid (hI.out.step HF.out hlt (by rw [show N k + t + 1 = m + 1 by omega]; exact hO2) hK2 hF2)
              clear hO hO2 hK2 hF2 hI
              go_wp2
              go_roundw
              case rel => exact ⟨t + 1, m + 1, c2, a2, by omega, rfl, by go_num, by omega, by omega, hI'⟩
              case measure => simp [intOf]; omega
            · obtain rfl : t = 40 := by omega
              have hS' := hid hI.out.out
              clear hI
              go_wp2
              go_roundw
              case rel => exact ⟨k + 1, by omega, by go_num, hS'⟩
              case measure => simp [intOf]; omega
        · obtain rfl : k = j := by omega
          have HKp : Hid (Kp (pL k A) w wo) := hS.out.kp
          go_wp2_with fail
          go_loopw [10] (fun i wr => ∃ s : Nat, s ≤ k ∧ i = .int .i64 s ∧ Dr wo wr) (fun i _ => k - (intOf i).toNat)
          case atStart => exact ⟨0, by omega, rfl, Dr.refl _⟩
          case round =>
            obtain ⟨s, hs, rfl, hD⟩ := hrel
            by_cases hlt : s < k
            · have hgc := HG.out wo HKp.out s hlt
              have hNs : N s ≤ 1000 := HN.out s hlt
              have hRs := hid (hS.out.grd s hlt)
              go_wp2_with fail
              go_loopw [11] (fun i wr => ∃ t : Nat, t ≤ N s ∧ i = .int .i64 t ∧ Dr wo wr) (fun i _ => N s - (intOf i).toNat)
              case atStart => exact ⟨0, by omega, rfl, hD⟩
              case round =>
                clear hD
                obtain ⟨t, ht, rfl, hD⟩ := hrel
                have hc1 := (hD.cell _).trans hgc
                have hbd := hRs.out.bnd
                clear hgc
                by_cases htl : t < N s
                · obtain ⟨b, o, hA', hcc⟩ := hRs.out.get htl
                  have hcc := (hD.cell _).trans hcc
                  rw [hA'] at hc1
                  have e1 : (mrk7 mk N s).getD t 0 = mk + s := by simp [mrk7, List.getD_eq_getElem?_getD, htl]
                  rw [e1] at hcc
                  clear hA' e1 hS hRs
                  go_wp2
                  exact ⟨⟨t + 1, by omega, by go_num, hD⟩, by simp [intOf]; omega⟩
                · obtain rfl : t = N s := by omega
                  clear hS hRs
                  go_wp2
                  go_roundw
                  case rel => exact ⟨s + 1, by omega, by go_num, hD⟩
                  case measure => simp [intOf]; omega
            · go_wp2
              go_ret
              exact ⟨rfl, HKp.out.kp (hD.kp (pL k A)) fun _ _ h => .inl h⟩
end Go.Proofs.Ytokkfppchfmjcaa
