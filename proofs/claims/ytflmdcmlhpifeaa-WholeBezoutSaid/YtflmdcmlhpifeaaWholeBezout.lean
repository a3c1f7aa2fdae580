/- THE WALK OF credencelaw02.WholeBezout: g is made of both, divides both; x and y are small. -/
import Derived.Test.YtflmdcmlhpifeaaZo
import Derived.Deep.Cut
import Derived.Deep.CutRange
namespace Go.Proofs.Ytflmdcmlhpifeaa
set_option linter.unusedVariables false
set_option linter.unusedSimpArgs false
open Go.ChangeShapes Go.WideShapes Go.ChangeAt Go.RowKit Go.NatP

theorem bz_bound (A B : Nat) : (bzX A B 1 0).natAbs ≤ B + 1 ∧ (bzX A B 0 1).natAbs ≤ A + 1 := by
  by_cases h : B = 0
  · rw [bzX_end h, bzX_end h]; simp
  · have hg : 1 ≤ Nat.gcd A B := Nat.gcd_pos_of_pos_right _ (Nat.pos_of_ne_zero h)
    obtain ⟨_, h1, h2⟩ := bz_law A B
    have e1 : (bzX A B 1 0).natAbs ≤ (bzX A B 1 0).natAbs * Nat.gcd A B := Nat.le_mul_of_pos_right _ hg
    have e2 : (bzX A B 0 1).natAbs ≤ (bzX A B 0 1).natAbs * Nat.gcd A B := Nat.le_mul_of_pos_right _ hg
    omega
theorem bzS_abs (z x : Int) : (bzS z x).natAbs = x.natAbs := by unfold bzS; split <;> omega
theorem bzS_mul (s : Bool) (A : Nat) (x : Int) : zv s A * bzS (zv s A) x = A * x := by
  unfold bzS
  cases s
  · have h : ¬ zv false A < 0 := by unfold zv; simp
    rw [if_neg h]; rfl
  · by_cases h : zv true A < 0
    · rw [if_pos h]; show -(A : Int) * -x = A * x; exact Int.neg_mul_neg _ _
    · have h0 : A = 0 := by unfold zv at h; simp at h; omega
      subst h0; rw [if_neg h]; rfl
theorem le_div {x g B : Nat} (hg : 0 < g) (h : x * g ≤ B) : x ≤ B / g := (Nat.le_div_iff_mul_le hg).2 h
theorem size_abs {la : List Nat} {s : Bool} {x u : Int} (hx : zv s (val la) = x) (hu : zv false (val la) = u) : u = x.natAbs := by
  have h1 := zv_abs s (val la); rw [hx] at h1; unfold zv at hu; simp at hu; omega

set_option maxRecDepth 100000 in
set_option maxHeartbeats 8000000 in
theorem wholeBezout_walk {w : World} {a : Option Addr} {na ca : Nat} {la : List Nat} {b : Option Addr} {nb cb : Nat} {lb : List Nat} (sa : Bool) (ha : Rd w a na ca la) (sb : Bool) (hb : Rd w b nb cb lb) :
    Calls Try.prog 10 #[.agg #[.bool sa, .slice a na ca], .agg #[.bool sb, .slice b nb cb]] w fun e w' => e = .returned (.bool true) ∧ Below w.heap.size w w' := by
  have hba := ha.bnd
  have hbb := hb.bnd
  by_cases hga : 30 < na
  · have da : decide (30 < na) = true := decide_eq_true hga
    have hent := ent2 w #[Value.bool sa, Value.slice a na ca] #[Value.bool sb, Value.slice b nb cb] 25 25
    go_enter Try.func10, Try.ntmps10
    go_wp2_with fail
    generalize ((w.alloc (.cells #[Value.bool sa, Value.slice a na ca] 25)).alloc (.cells #[Value.bool sb, Value.slice b nb cb] 25)) = W0 at hent ⊢
    obtain ⟨Xa_0, Xb_0, hbel0, hsz0⟩ := hent
    have Ra_1 := ha.below hbel0
    have Rb_2 := hb.below hbel0
    have cXa0_2 : _ = some (Value.bool sa) := Xa_0.cell 0
    have cXa1_2 : _ = some (Value.slice a na ca) := Xa_0.cell 1
    have cXb0_2 : _ = some (Value.bool sb) := Xb_0.cell 0
    have cXb1_2 : _ = some (Value.slice b nb cb) := Xb_0.cell 1
    go_wp2_with fail
    refine (alive_any).mono ?_
    rintro e w1 ⟨rfl, hB⟩
    clear cXa0_2 cXa1_2 cXb0_2 cXb1_2
    have hstep : Below W0.heap.size W0 w1 := (by first | exact hB | exact below_drew hB)
    have Xa_3 := Xa_0.next hstep
    have Xb_4 := Xb_0.next hstep
    have Ra_5 := Ra_1.below hstep
    have Rb_6 := Rb_2.below hstep
    have hbel7 := hbel0.next hstep
    have hle7 := hbel7.size
    have hls7 := hstep.size
    clear Xa_0 Xb_0 Ra_1 Rb_2 hbel0 hstep
    have cXa0_7 : _ = some (Value.bool sa) := Xa_3.cell 0
    have cXa1_7 : _ = some (Value.slice a na ca) := Xa_3.cell 1
    have cXb0_7 : _ = some (Value.bool sb) := Xb_4.cell 0
    have cXb1_7 : _ = some (Value.slice b nb cb) := Xb_4.cell 1
    go_wp2_with fail
    refine (big_any sa Ra_5 (by omega)).mono ?_
    rw [da]
    rintro e w2 ⟨rfl, hB⟩
    clear cXa0_7 cXa1_7 cXb0_7 cXb1_7
    have hstep : Below w1.heap.size w1 w2 := (by first | exact hB | exact below_drew hB)
    have Xa_8 := Xa_3.next hstep
    have Xb_9 := Xb_4.next hstep
    have Ra_10 := Ra_5.below hstep
    have Rb_11 := Rb_6.below hstep
    have hbel12 := hbel7.next hstep
    have hle12 := hbel12.size
    have hls12 := hstep.size
    clear Xa_3 Xb_4 Ra_5 Rb_6 hbel7 hstep
    have cXa0_12 : _ = some (Value.bool sa) := Xa_8.cell 0
    have cXa1_12 : _ = some (Value.slice a na ca) := Xa_8.cell 1
    have cXb0_12 : _ = some (Value.bool sb) := Xb_9.cell 0
    have cXb1_12 : _ = some (Value.slice b nb cb) := Xb_9.cell 1
    go_wp2
    go_ret
    exact ⟨rfl, hbel12⟩
  have da : decide (30 < na) = false := decide_eq_false hga
  by_cases hgb : 30 < nb
  · have db : decide (30 < nb) = true := decide_eq_true hgb
    have hent := ent2 w #[Value.bool sa, Value.slice a na ca] #[Value.bool sb, Value.slice b nb cb] 25 25
    go_enter Try.func10, Try.ntmps10
    go_wp2_with fail
    generalize ((w.alloc (.cells #[Value.bool sa, Value.slice a na ca] 25)).alloc (.cells #[Value.bool sb, Value.slice b nb cb] 25)) = W0 at hent ⊢
    obtain ⟨Xa_0, Xb_0, hbel0, hsz0⟩ := hent
    have Ra_1 := ha.below hbel0
    have Rb_2 := hb.below hbel0
    have cXa0_2 : _ = some (Value.bool sa) := Xa_0.cell 0
    have cXa1_2 : _ = some (Value.slice a na ca) := Xa_0.cell 1
    have cXb0_2 : _ = some (Value.bool sb) := Xb_0.cell 0
    have cXb1_2 : _ = some (Value.slice b nb cb) := Xb_0.cell 1
    go_wp2_with fail
    refine (alive_any).mono ?_
    rintro e w1 ⟨rfl, hB⟩
    clear cXa0_2 cXa1_2 cXb0_2 cXb1_2
    have hstep : Below W0.heap.size W0 w1 := (by first | exact hB | exact below_drew hB)
    have Xa_3 := Xa_0.next hstep
    have Xb_4 := Xb_0.next hstep
    have Ra_5 := Ra_1.below hstep
    have Rb_6 := Rb_2.below hstep
    have hbel7 := hbel0.next hstep
    have hle7 := hbel7.size
    have hls7 := hstep.size
    clear Xa_0 Xb_0 Ra_1 Rb_2 hbel0 hstep
    have cXa0_7 : _ = some (Value.bool sa) := Xa_3.cell 0
    have cXa1_7 : _ = some (Value.slice a na ca) := Xa_3.cell 1
    have cXb0_7 : _ = some (Value.bool sb) := Xb_4.cell 0
    have cXb1_7 : _ = some (Value.slice b nb cb) := Xb_4.cell 1
    go_wp2_with fail
    refine (big_any sa Ra_5 (by omega)).mono ?_
    rw [da]
    rintro e w2 ⟨rfl, hB⟩
    clear cXa0_7 cXa1_7 cXb0_7 cXb1_7
    have hstep : Below w1.heap.size w1 w2 := (by first | exact hB | exact below_drew hB)
    have Xa_8 := Xa_3.next hstep
    have Xb_9 := Xb_4.next hstep
    have Ra_10 := Ra_5.below hstep
    have Rb_11 := Rb_6.below hstep
    have hbel12 := hbel7.next hstep
    have hle12 := hbel12.size
    have hls12 := hstep.size
    clear Xa_3 Xb_4 Ra_5 Rb_6 hbel7 hstep
    have cXa0_12 : _ = some (Value.bool sa) := Xa_8.cell 0
    have cXa1_12 : _ = some (Value.slice a na ca) := Xa_8.cell 1
    have cXb0_12 : _ = some (Value.bool sb) := Xb_9.cell 0
    have cXb1_12 : _ = some (Value.slice b nb cb) := Xb_9.cell 1
    go_wp2_with fail
    refine (big_any sb Rb_11 (by omega)).mono ?_
    rw [db]
    rintro e w3 ⟨rfl, hB⟩
    clear cXa0_12 cXa1_12 cXb0_12 cXb1_12
    have hstep : Below w2.heap.size w2 w3 := (by first | exact hB | exact below_drew hB)
    have Xa_13 := Xa_8.next hstep
    have Xb_14 := Xb_9.next hstep
    have Ra_15 := Ra_10.below hstep
    have Rb_16 := Rb_11.below hstep
    have hbel17 := hbel12.next hstep
    have hle17 := hbel17.size
    have hls17 := hstep.size
    clear Xa_8 Xb_9 Ra_10 Rb_11 hbel12 hstep
    have cXa0_17 : _ = some (Value.bool sa) := Xa_13.cell 0
    have cXa1_17 : _ = some (Value.slice a na ca) := Xa_13.cell 1
    have cXb0_17 : _ = some (Value.bool sb) := Xb_14.cell 0
    have cXb1_17 : _ = some (Value.slice b nb cb) := Xb_14.cell 1
    go_wp2
    go_ret
    exact ⟨rfl, hbel17⟩
  have db : decide (30 < nb) = false := decide_eq_false hgb
  obtain ⟨za, hza⟩ : ∃ z, zv sa (val la) = z := ⟨_, rfl⟩
  have HXa := hid hza
  have HBza : Hid (Sz za.natAbs 30) := by show Sz _ _; rw [← hza, zv_abs]; exact ha.szv.mono (Nat.le_refl _) (by omega)
  clear hza
  obtain ⟨zb, hzb⟩ : ∃ z, zv sb (val lb) = z := ⟨_, rfl⟩
  have HXb := hid hzb
  have HBzb : Hid (Sz zb.natAbs 30) := by show Sz _ _; rw [← hzb, zv_abs]; exact hb.szv.mono (Nat.le_refl _) (by omega)
  clear hzb
  have hent := ent2 w #[Value.bool sa, Value.slice a na ca] #[Value.bool sb, Value.slice b nb cb] 25 25
  go_enter Try.func10, Try.ntmps10
  go_wp2_with fail
  generalize ((w.alloc (.cells #[Value.bool sa, Value.slice a na ca] 25)).alloc (.cells #[Value.bool sb, Value.slice b nb cb] 25)) = W0 at hent ⊢
  obtain ⟨Xa_0, Xb_0, hbel0, hsz0⟩ := hent
  have Ra_1 := ha.below hbel0
  have Rb_2 := hb.below hbel0
  have cXa0_2 : _ = some (Value.bool sa) := Xa_0.cell 0
  have cXa1_2 : _ = some (Value.slice a na ca) := Xa_0.cell 1
  have cXb0_2 : _ = some (Value.bool sb) := Xb_0.cell 0
  have cXb1_2 : _ = some (Value.slice b nb cb) := Xb_0.cell 1
  go_wp2_with fail
  refine (alive_any).mono ?_
  rintro e w1 ⟨rfl, hB⟩
  clear cXa0_2 cXa1_2 cXb0_2 cXb1_2
  have hstep : Below W0.heap.size W0 w1 := (by first | exact hB | exact below_drew hB)
  have Xa_3 := Xa_0.next hstep
  have Xb_4 := Xb_0.next hstep
  have Ra_5 := Ra_1.below hstep
  have Rb_6 := Rb_2.below hstep
  have hbel7 := hbel0.next hstep
  have hle7 := hbel7.size
  have hls7 := hstep.size
  clear Xa_0 Xb_0 Ra_1 Rb_2 hbel0 hstep
  have cXa0_7 : _ = some (Value.bool sa) := Xa_3.cell 0
  have cXa1_7 : _ = some (Value.slice a na ca) := Xa_3.cell 1
  have cXb0_7 : _ = some (Value.bool sb) := Xb_4.cell 0
  have cXb1_7 : _ = some (Value.slice b nb cb) := Xb_4.cell 1
  go_wp2_with fail
  refine (big_any sa Ra_5 (by omega)).mono ?_
  rw [da]
  rintro e w2 ⟨rfl, hB⟩
  clear cXa0_7 cXa1_7 cXb0_7 cXb1_7
  have hstep : Below w1.heap.size w1 w2 := (by first | exact hB | exact below_drew hB)
  have Xa_8 := Xa_3.next hstep
  have Xb_9 := Xb_4.next hstep
  have Ra_10 := Ra_5.below hstep
  have Rb_11 := Rb_6.below hstep
  have hbel12 := hbel7.next hstep
  have hle12 := hbel12.size
  have hls12 := hstep.size
  clear Xa_3 Xb_4 Ra_5 Rb_6 hbel7 hstep
  have cXa0_12 : _ = some (Value.bool sa) := Xa_8.cell 0
  have cXa1_12 : _ = some (Value.slice a na ca) := Xa_8.cell 1
  have cXb0_12 : _ = some (Value.bool sb) := Xb_9.cell 0
  have cXb1_12 : _ = some (Value.slice b nb cb) := Xb_9.cell 1
  go_wp2_with fail
  refine (big_any sb Rb_11 (by omega)).mono ?_
  rw [db]
  rintro e w3 ⟨rfl, hB⟩
  clear cXa0_12 cXa1_12 cXb0_12 cXb1_12
  have hstep : Below w2.heap.size w2 w3 := (by first | exact hB | exact below_drew hB)
  have Xa_13 := Xa_8.next hstep
  have Xb_14 := Xb_9.next hstep
  have Ra_15 := Ra_10.below hstep
  have Rb_16 := Rb_11.below hstep
  have hbel17 := hbel12.next hstep
  have hle17 := hbel17.size
  have hls17 := hstep.size
  clear Xa_8 Xb_9 Ra_10 Rb_11 hbel12 hstep
  have cXa0_17 : _ = some (Value.bool sa) := Xa_13.cell 0
  have cXa1_17 : _ = some (Value.slice a na ca) := Xa_13.cell 1
  have cXb0_17 : _ = some (Value.bool sb) := Xb_14.cell 0
  have cXb1_17 : _ = some (Value.slice b nb cb) := Xb_14.cell 1
  obtain ⟨g0, hg0⟩ : ∃ g, Nat.gcd (val la) (val lb) = g := ⟨_, rfl⟩
  obtain ⟨x0, hx0⟩ : ∃ z, bzS (zv sa (val la)) (bzX (val la) (val lb) 1 0) = z := ⟨_, rfl⟩
  obtain ⟨y0, hy0⟩ : ∃ z, bzS (zv sb (val lb)) (bzX (val la) (val lb) 0 1) = z := ⟨_, rfl⟩
  obtain ⟨n0, hn0⟩ : ∃ z, zv false (val (lm g0)) = z := ⟨_, rfl⟩
  have hn0' : n0 = (g0 : Int) := by rw [← hn0, val_lm]; rfl
  have hsum : za * x0 + zb * y0 = n0 := by rw [hn0', ← hg0, ← hx0, ← hy0, ← HXa.out, ← HXb.out, bzS_mul, bzS_mul]; exact (bz_law _ _).1
  have hxs : x0.natAbs * g0 ≤ val lb ∨ x0.natAbs ≤ 1 := by rw [← hx0, bzS_abs, ← hg0]; exact (bz_law _ _).2.1
  have hys : y0.natAbs * g0 ≤ val la ∨ y0.natAbs ≤ 1 := by rw [← hy0, bzS_abs, ← hg0]; exact (bz_law _ _).2.2
  have hxb : x0.natAbs ≤ val lb + 1 := by rw [← hx0, bzS_abs]; exact (bz_bound _ _).1
  have hyb : y0.natAbs ≤ val la + 1 := by rw [← hy0, bzS_abs]; exact (bz_bound _ _).2
  have hA : za.natAbs = val la := by rw [← HXa.out]; exact zv_abs _ _
  have hB : zb.natAbs = val lb := by rw [← HXb.out]; exact zv_abs _ _
  have hS1 : Sz 1 30 := by show _ < _; decide
  have HBx0 : Hid (Sz x0.natAbs 31) := (HBzb.out.add hS1).mono (by omega) (Nat.le_refl _)
  have HBy0 : Hid (Sz y0.natAbs 31) := (HBza.out.add hS1).mono (by omega) (Nat.le_refl _)
  have HBn0 : Hid (Sz n0.natAbs 31) := by
      refine (HBza.out.add HBzb.out).mono ?_ (Nat.le_refl _)
      have h1 := Nat.gcd_le_left (val lb) (m := val la); have h2 := Nat.gcd_le_right (val la) (n := val lb); rw [hg0] at h1 h2
      rcases Nat.eq_zero_or_pos (val la) with h | h
      · rcases Nat.eq_zero_or_pos (val lb) with h' | h'
        · have : g0 = 0 := by rw [← hg0, h, h']; rfl
          omega
        · have := h2 h'; omega
      · have := h1 h; omega
  have Hg0 := hid hg0
  have Hx0 := hid hx0
  have Hy0 := hid hy0
  have Hn0 := hid hn0
  have Hn1 := hid hn0'
  have Hsum := hid hsum
  have Hxs := hid hxs
  have Hys := hid hys
  have HgS : Hid (Sz g0 31) := by have := HBn0.out; rw [hn0'] at this; exact this
  have HA := hid hA
  have HB := hid hB
  clear hg0 hx0 hy0 hn0 hn0' hsum hxs hys hxb hyb hA hB hS1
  go_wp2_with fail
  refine (zbezG Ra_15 (by omega) Rb_16 (by omega) HXa.out HXb.out Hg0.out Hx0.out Hy0.out).mono ?_
  rintro e w4 ⟨g, gn, gc, x, xn, xc, y, yn, yc, rfl, hO, hO2, hO3, hD1, hD2, hD3, hB⟩
  clear cXa0_17 cXa1_17 cXb0_17 cXb1_17
  have hstep : Below w3.heap.size w3 w4 := (by first | exact hB | exact below_drew hB)
  have Xa_18 := Xa_13.next hstep
  have Xb_19 := Xb_14.next hstep
  have Ra_20 := Ra_15.below hstep
  have Rb_21 := Rb_16.below hstep
  have hbel22 := hbel17.next hstep
  have hle22 := hbel22.size
  have hls22 := hstep.size
  clear Xa_13 Xb_14 Ra_15 Rb_16 hbel17 hstep
  have cXa0_22 : _ = some (Value.bool sa) := Xa_18.cell 0
  have cXa1_22 : _ = some (Value.slice a na ca) := Xa_18.cell 1
  have cXb0_22 : _ = some (Value.bool sb) := Xb_19.cell 0
  have cXb1_22 : _ = some (Value.slice b nb cb) := Xb_19.cell 1
  have hlg : gn ≤ 31 := len_le (l := la) hO.len HgS.out
  have hlx : xn ≤ 31 := len_le (l := la) hO2.len HBx0.out
  have hly : yn ≤ 31 := len_le (l := la) hO3.len HBy0.out
  have Og_23 := hO
  have Ox_24 := hO2
  have Oy_25 := hO3
  clear hO hO2 hO3 hB hD1 hD2 hD3
  have hbx := blk_new' w4 #[Value.bool (decide (x0 < 0)), Value.slice x xn xc] 25 (g := w4.heap.size) (by simp)
  have hbB := (Below.refl w4.heap.size w4).alloc (Nat.le_refl _) (.cells #[Value.bool (decide (x0 < 0)), Value.slice x xn xc] 25)
  have hbg := hbx.lt
  clear cXa0_22 cXa1_22 cXb0_22 cXb1_22
  have hstep : Below w4.heap.size w4 (w4.alloc (.cells #[Value.bool (decide (x0 < 0)), Value.slice x xn xc] 25)) := (by first | exact hbB | exact below_drew hbB)
  have Xa_26 := Xa_18.next hstep
  have Xb_27 := Xb_19.next hstep
  have Ra_28 := Ra_20.below hstep
  have Rb_29 := Rb_21.below hstep
  have Og_30 := Og_23.below hstep
  have Ox_31 := Ox_24.below hstep
  have Oy_32 := Oy_25.below hstep
  have hbel33 := hbel22.next hstep
  have hle33 := hbel33.size
  have hls33 := hstep.size
  clear Xa_18 Xb_19 Ra_20 Rb_21 Og_23 Ox_24 Oy_25 hbel22 hstep
  have cXa0_33 : _ = some (Value.bool sa) := Xa_26.cell 0
  have cXa1_33 : _ = some (Value.slice a na ca) := Xa_26.cell 1
  have cXb0_33 : _ = some (Value.bool sb) := Xb_27.cell 0
  have cXb1_33 : _ = some (Value.slice b nb cb) := Xb_27.cell 1
  have Xx_34 := hbx
  have cXx0_34 : _ = some (Value.bool (decide (x0 < 0))) := Xx_34.cell 0
  have cXx1_34 : _ = some (Value.slice x xn xc) := Xx_34.cell 1
  clear hbx hbB
  have hbx := blk_new' (w4.alloc (.cells #[Value.bool (decide (x0 < 0)), Value.slice x xn xc] 25)) #[Value.bool (decide (y0 < 0)), Value.slice y yn yc] 25 (g := w4.heap.size + 1) (by simp)
  have hbB := (Below.refl (w4.alloc (.cells #[Value.bool (decide (x0 < 0)), Value.slice x xn xc] 25)).heap.size (w4.alloc (.cells #[Value.bool (decide (x0 < 0)), Value.slice x xn xc] 25))).alloc (Nat.le_refl _) (.cells #[Value.bool (decide (y0 < 0)), Value.slice y yn yc] 25)
  have hbg := hbx.lt
  clear cXa0_33 cXa1_33 cXb0_33 cXb1_33 cXx0_34 cXx1_34
  have hstep : Below (w4.alloc (.cells #[Value.bool (decide (x0 < 0)), Value.slice x xn xc] 25)).heap.size (w4.alloc (.cells #[Value.bool (decide (x0 < 0)), Value.slice x xn xc] 25)) ((w4.alloc (.cells #[Value.bool (decide (x0 < 0)), Value.slice x xn xc] 25)).alloc (.cells #[Value.bool (decide (y0 < 0)), Value.slice y yn yc] 25)) := (by first | exact hbB | exact below_drew hbB)
  have Xa_35 := Xa_26.next hstep
  have Xb_36 := Xb_27.next hstep
  have Xx_37 := Xx_34.next hstep
  have Ra_38 := Ra_28.below hstep
  have Rb_39 := Rb_29.below hstep
  have Og_40 := Og_30.below hstep
  have Ox_41 := Ox_31.below hstep
  have Oy_42 := Oy_32.below hstep
  have hbel43 := hbel33.next hstep
  have hle43 := hbel43.size
  have hls43 := hstep.size
  clear Xa_26 Xb_27 Xx_34 Ra_28 Rb_29 Og_30 Ox_31 Oy_32 hbel33 hstep
  have cXa0_43 : _ = some (Value.bool sa) := Xa_35.cell 0
  have cXa1_43 : _ = some (Value.slice a na ca) := Xa_35.cell 1
  have cXb0_43 : _ = some (Value.bool sb) := Xb_36.cell 0
  have cXb1_43 : _ = some (Value.slice b nb cb) := Xb_36.cell 1
  have cXx0_43 : _ = some (Value.bool (decide (x0 < 0))) := Xx_37.cell 0
  have cXx1_43 : _ = some (Value.slice x xn xc) := Xx_37.cell 1
  have Xy_44 := hbx
  have cXy0_44 : _ = some (Value.bool (decide (y0 < 0))) := Xy_44.cell 0
  have cXy1_44 : _ = some (Value.slice y yn yc) := Xy_44.cell 1
  clear hbx hbB
  have hbx := blk_new' ((w4.alloc (.cells #[Value.bool (decide (x0 < 0)), Value.slice x xn xc] 25)).alloc (.cells #[Value.bool (decide (y0 < 0)), Value.slice y yn yc] 25)) #[Value.bool false, Value.slice g gn gc] 25 (g := w4.heap.size + 1 + 1) (by simp)
  have hbB := (Below.refl ((w4.alloc (.cells #[Value.bool (decide (x0 < 0)), Value.slice x xn xc] 25)).alloc (.cells #[Value.bool (decide (y0 < 0)), Value.slice y yn yc] 25)).heap.size ((w4.alloc (.cells #[Value.bool (decide (x0 < 0)), Value.slice x xn xc] 25)).alloc (.cells #[Value.bool (decide (y0 < 0)), Value.slice y yn yc] 25))).alloc (Nat.le_refl _) (.cells #[Value.bool false, Value.slice g gn gc] 25)
  have hbg := hbx.lt
  clear cXa0_43 cXa1_43 cXb0_43 cXb1_43 cXx0_43 cXx1_43 cXy0_44 cXy1_44
  have hstep : Below ((w4.alloc (.cells #[Value.bool (decide (x0 < 0)), Value.slice x xn xc] 25)).alloc (.cells #[Value.bool (decide (y0 < 0)), Value.slice y yn yc] 25)).heap.size ((w4.alloc (.cells #[Value.bool (decide (x0 < 0)), Value.slice x xn xc] 25)).alloc (.cells #[Value.bool (decide (y0 < 0)), Value.slice y yn yc] 25)) (((w4.alloc (.cells #[Value.bool (decide (x0 < 0)), Value.slice x xn xc] 25)).alloc (.cells #[Value.bool (decide (y0 < 0)), Value.slice y yn yc] 25)).alloc (.cells #[Value.bool false, Value.slice g gn gc] 25)) := (by first | exact hbB | exact below_drew hbB)
  have Xa_45 := Xa_35.next hstep
  have Xb_46 := Xb_36.next hstep
  have Xx_47 := Xx_37.next hstep
  have Xy_48 := Xy_44.next hstep
  have Ra_49 := Ra_38.below hstep
  have Rb_50 := Rb_39.below hstep
  have Og_51 := Og_40.below hstep
  have Ox_52 := Ox_41.below hstep
  have Oy_53 := Oy_42.below hstep
  have hbel54 := hbel43.next hstep
  have hle54 := hbel54.size
  have hls54 := hstep.size
  clear Xa_35 Xb_36 Xx_37 Xy_44 Ra_38 Rb_39 Og_40 Ox_41 Oy_42 hbel43 hstep
  have cXa0_54 : _ = some (Value.bool sa) := Xa_45.cell 0
  have cXa1_54 : _ = some (Value.slice a na ca) := Xa_45.cell 1
  have cXb0_54 : _ = some (Value.bool sb) := Xb_46.cell 0
  have cXb1_54 : _ = some (Value.slice b nb cb) := Xb_46.cell 1
  have cXx0_54 : _ = some (Value.bool (decide (x0 < 0))) := Xx_47.cell 0
  have cXx1_54 : _ = some (Value.slice x xn xc) := Xx_47.cell 1
  have cXy0_54 : _ = some (Value.bool (decide (y0 < 0))) := Xy_48.cell 0
  have cXy1_54 : _ = some (Value.slice y yn yc) := Xy_48.cell 1
  have Xn_55 := hbx
  have cXn0_55 : _ = some (Value.bool false) := Xn_55.cell 0
  have cXn1_55 : _ = some (Value.slice g gn gc) := Xn_55.cell 1
  clear hbx hbB
  go_wp2_with fail
  generalize (((w4.alloc (.cells #[Value.bool (decide (x0 < 0)), Value.slice x xn xc] 25)).alloc (.cells #[Value.bool (decide (y0 < 0)), Value.slice y yn yc] 25)).alloc (.cells #[Value.bool false, Value.slice g gn gc] 25)) = v5 at *
  obtain ⟨z1, hzz⟩ : ∃ z, za * x0 = z := ⟨_, rfl⟩
  have Hz1 := hid hzz
  have HBz1 : Hid (Sz z1.natAbs 61) := szI_mul HBza.out HBx0.out hzz
  clear hzz
  obtain ⟨z2, hzz⟩ : ∃ z, zb * y0 = z := ⟨_, rfl⟩
  have Hz2 := hid hzz
  have HBz2 : Hid (Sz z2.natAbs 61) := szI_mul HBzb.out HBy0.out hzz
  clear hzz
  obtain ⟨z3, hzz⟩ : ∃ z, z1 + z2 = z := ⟨_, rfl⟩
  have Hz3 := hid hzz
  have HBz3 : Hid (Sz z3.natAbs 62) := szI_add HBz1.out HBz2.out hzz
  clear hzz
  have HE4 := hid (show decide (z3 = n0) = true from decide_eq_true (by rw [← Hz3.out, ← Hz1.out, ← Hz2.out]; exact Hsum.out))
  go_wp2_with fail
  have KXa0_0 : _ = some (Value.bool sa) := Xa_45.cell 0
  have KXa1_0 : _ = some (Value.slice a na ca) := Xa_45.cell 1
  have KXb0_0 : _ = some (Value.bool sb) := Xb_46.cell 0
  have KXb1_0 : _ = some (Value.slice b nb cb) := Xb_46.cell 1
  have KXx0_0 : _ = some (Value.bool (decide (x0 < 0))) := Xx_47.cell 0
  have KXx1_0 : _ = some (Value.slice x xn xc) := Xx_47.cell 1
  have KXy0_0 : _ = some (Value.bool (decide (y0 < 0))) := Xy_48.cell 0
  have KXy1_0 : _ = some (Value.slice y yn yc) := Xy_48.cell 1
  have KXn0_0 : _ = some (Value.bool false) := Xn_55.cell 0
  have KXn1_0 : _ = some (Value.slice g gn gc) := Xn_55.cell 1
  have Xa_h0 := Xa_45
  have Xb_h0 := Xb_46
  have Xx_h0 := Xx_47
  have Xy_h0 := Xy_48
  have Xn_h0 := Xn_55
  have acc0 : Below v5.heap.size v5 v5 := Below.refl _ _
  go_region_held3 (fun w' => w'.cell? ⟨w.heap.size, 0, none⟩ = some (Value.bool sa) ∧ w'.cell? ⟨w.heap.size, 1, none⟩ = some (Value.slice a na ca) ∧ w'.cell? ⟨w.heap.size + 1, 0, none⟩ = some (Value.bool sb) ∧ w'.cell? ⟨w.heap.size + 1, 1, none⟩ = some (Value.slice b nb cb) ∧ w'.cell? ⟨w4.heap.size, 0, none⟩ = some (Value.bool (decide (x0 < 0))) ∧ w'.cell? ⟨w4.heap.size, 1, none⟩ = some (Value.slice x xn xc) ∧ w'.cell? ⟨w4.heap.size + 1, 0, none⟩ = some (Value.bool (decide (y0 < 0))) ∧ w'.cell? ⟨w4.heap.size + 1, 1, none⟩ = some (Value.slice y yn yc) ∧ w'.cell? ⟨w4.heap.size + 1 + 1, 0, none⟩ = some (Value.bool false) ∧ w'.cell? ⟨w4.heap.size + 1 + 1, 1, none⟩ = some (Value.slice g gn gc))
    (first | exact ⟨KXa0_0, KXa1_0, KXb0_0, KXb1_0, KXx0_0, KXx1_0, KXy0_0, KXy1_0, KXn0_0, KXn1_0⟩ | exact ⟨KXa0_1, KXa1_1, KXb0_1, KXb1_1, KXx0_1, KXx1_1, KXy0_1, KXy1_1, KXn0_1, KXn1_1⟩ | exact ⟨KXa0_2, KXa1_2, KXb0_2, KXb1_2, KXx0_2, KXx1_2, KXy0_2, KXy1_2, KXn0_2, KXn1_2⟩ | exact ⟨KXa0_3, KXa1_3, KXb0_3, KXb1_3, KXx0_3, KXx1_3, KXy0_3, KXy1_3, KXn0_3, KXn1_3⟩ | exact ⟨KXa0_4, KXa1_4, KXb0_4, KXb1_4, KXx0_4, KXx1_4, KXy0_4, KXy1_4, KXn0_4, KXn1_4⟩ | go_keep)
    (first
      | (go_at_call 32; ((with_reducible refine (zmulG (show Rd _ a na ca la from Ra_49.below (by first | exact acc0 | exact (acc0).drew)) (show na ≤ 4194304 by omega) (show Rd _ x xn xc (lm x0.natAbs) from (Ox_52.below (by first | exact acc0 | exact (acc0).drew)).rd) (show xn ≤ 4194304 by omega) HXa.out (zvlm x0) Hz1.out).mono ?_); (rintro e w8 ⟨r1, r1n, r1c, rfl, hO1_1, hB⟩; have hst1 : Below v5.heap.size v5 w8 := (by first | exact hB | exact below_drew hB); have acc1 := acc0.next hst1; have Xa_h1 := Xa_h0.next hst1; have Xb_h1 := Xb_h0.next hst1; have Xx_h1 := Xx_h0.next hst1; have Xy_h1 := Xy_h0.next hst1; have Xn_h1 := Xn_h0.next hst1; have KXa0_1 : _ = some (Value.bool sa) := Xa_h1.cell 0; have KXa1_1 : _ = some (Value.slice a na ca) := Xa_h1.cell 1; have KXb0_1 : _ = some (Value.bool sb) := Xb_h1.cell 0; have KXb1_1 : _ = some (Value.slice b nb cb) := Xb_h1.cell 1; have KXx0_1 : _ = some (Value.bool (decide (x0 < 0))) := Xx_h1.cell 0; have KXx1_1 : _ = some (Value.slice x xn xc) := Xx_h1.cell 1; have KXy0_1 : _ = some (Value.bool (decide (y0 < 0))) := Xy_h1.cell 0; have KXy1_1 : _ = some (Value.slice y yn yc) := Xy_h1.cell 1; have KXn0_1 : _ = some (Value.bool false) := Xn_h1.cell 0; have KXn1_1 : _ = some (Value.slice g gn gc) := Xn_h1.cell 1; have hlr1 : r1n ≤ 61 := len_le (l := la) hO1_1.len HBz1.out)))
      | (go_at_call 32; ((with_reducible refine (zmulG (show Rd _ b nb cb lb from Rb_50.below (by first | exact acc1 | exact (acc1).drew)) (show nb ≤ 4194304 by omega) (show Rd _ y yn yc (lm y0.natAbs) from (Oy_53.below (by first | exact acc1 | exact (acc1).drew)).rd) (show yn ≤ 4194304 by omega) HXb.out (zvlm y0) Hz2.out).mono ?_); (rintro e w9 ⟨r2, r2n, r2c, rfl, hO2_2, hB⟩; have hst2 : Below w8.heap.size w8 w9 := (by first | exact hB | exact below_drew hB); have acc2 := acc1.next hst2; have Xa_h2 := Xa_h1.next hst2; have Xb_h2 := Xb_h1.next hst2; have Xx_h2 := Xx_h1.next hst2; have Xy_h2 := Xy_h1.next hst2; have Xn_h2 := Xn_h1.next hst2; have KXa0_2 : _ = some (Value.bool sa) := Xa_h2.cell 0; have KXa1_2 : _ = some (Value.slice a na ca) := Xa_h2.cell 1; have KXb0_2 : _ = some (Value.bool sb) := Xb_h2.cell 0; have KXb1_2 : _ = some (Value.slice b nb cb) := Xb_h2.cell 1; have KXx0_2 : _ = some (Value.bool (decide (x0 < 0))) := Xx_h2.cell 0; have KXx1_2 : _ = some (Value.slice x xn xc) := Xx_h2.cell 1; have KXy0_2 : _ = some (Value.bool (decide (y0 < 0))) := Xy_h2.cell 0; have KXy1_2 : _ = some (Value.slice y yn yc) := Xy_h2.cell 1; have KXn0_2 : _ = some (Value.bool false) := Xn_h2.cell 0; have KXn1_2 : _ = some (Value.slice g gn gc) := Xn_h2.cell 1; have hlr2 : r2n ≤ 61 := len_le (l := la) hO2_2.len HBz2.out; have hO1_2 := hO1_1.below hst2)))
      | (go_at_call 31; ((with_reducible refine (zaddG (show Rd _ r1 r1n r1c (lm z1.natAbs) from (hO1_2.below (by first | exact Below.refl _ _ | exact (Below.refl _ _).drew)).rd) (show r1n ≤ 4194304 by omega) (show Rd _ r2 r2n r2c (lm z2.natAbs) from (hO2_2.below (by first | exact Below.refl _ _ | exact (Below.refl _ _).drew)).rd) (show r2n ≤ 4194304 by omega) (zvlm z1) (zvlm z2) Hz3.out).mono ?_); (rintro e w10 ⟨r3, r3n, r3c, rfl, hO3_3, hB⟩; have hst3 : Below w9.heap.size w9 w10 := (by first | exact hB | exact below_drew hB); have acc3 := acc2.next hst3; have Xa_h3 := Xa_h2.next hst3; have Xb_h3 := Xb_h2.next hst3; have Xx_h3 := Xx_h2.next hst3; have Xy_h3 := Xy_h2.next hst3; have Xn_h3 := Xn_h2.next hst3; have KXa0_3 : _ = some (Value.bool sa) := Xa_h3.cell 0; have KXa1_3 : _ = some (Value.slice a na ca) := Xa_h3.cell 1; have KXb0_3 : _ = some (Value.bool sb) := Xb_h3.cell 0; have KXb1_3 : _ = some (Value.slice b nb cb) := Xb_h3.cell 1; have KXx0_3 : _ = some (Value.bool (decide (x0 < 0))) := Xx_h3.cell 0; have KXx1_3 : _ = some (Value.slice x xn xc) := Xx_h3.cell 1; have KXy0_3 : _ = some (Value.bool (decide (y0 < 0))) := Xy_h3.cell 0; have KXy1_3 : _ = some (Value.slice y yn yc) := Xy_h3.cell 1; have KXn0_3 : _ = some (Value.bool false) := Xn_h3.cell 0; have KXn1_3 : _ = some (Value.slice g gn gc) := Xn_h3.cell 1; have hlr3 : r3n ≤ 62 := len_le (l := la) hO3_3.len HBz3.out)))
      | (go_at_call 30; ((with_reducible refine (zequalG (show Rd _ r3 r3n r3c (lm z3.natAbs) from (hO3_3.below (by first | exact Below.refl _ _ | exact (Below.refl _ _).drew)).rd) (show r3n ≤ 4194304 by omega) (show Rd _ g gn gc (lm g0) from (Og_51.below (by first | exact acc3 | exact (acc3).drew)).rd) (show gn ≤ 4194304 by omega) (zvlm z3) Hn0.out HE4.out).mono ?_); (rintro e w11 ⟨rfl, hB⟩; have hst4 : Below w10.heap.size w10 w11 := (by first | exact hB | exact below_drew hB); have acc4 := acc3.next hst4; have Xa_h4 := Xa_h3.next hst4; have Xb_h4 := Xb_h3.next hst4; have Xx_h4 := Xx_h3.next hst4; have Xy_h4 := Xy_h3.next hst4; have Xn_h4 := Xn_h3.next hst4; have KXa0_4 : _ = some (Value.bool sa) := Xa_h4.cell 0; have KXa1_4 : _ = some (Value.slice a na ca) := Xa_h4.cell 1; have KXb0_4 : _ = some (Value.bool sb) := Xb_h4.cell 0; have KXb1_4 : _ = some (Value.slice b nb cb) := Xb_h4.cell 1; have KXx0_4 : _ = some (Value.bool (decide (x0 < 0))) := Xx_h4.cell 0; have KXx1_4 : _ = some (Value.slice x xn xc) := Xx_h4.cell 1; have KXy0_4 : _ = some (Value.bool (decide (y0 < 0))) := Xy_h4.cell 0; have KXy1_4 : _ = some (Value.slice y yn yc) := Xy_h4.cell 1; have KXn0_4 : _ = some (Value.bool false) := Xn_h4.cell 0; have KXn1_4 : _ = some (Value.slice g gn gc) := Xn_h4.cell 1))))
  clear cXa0_54 cXa1_54 cXb0_54 cXb1_54 cXx0_54 cXx1_54 cXy0_54 cXy1_54 cXn0_55 cXn1_55
  have hstep : Below v5.heap.size v5 w11 := (by first | exact acc4 | exact below_drew acc4)
  have Xa_56 := Xa_45.next hstep
  have Xb_57 := Xb_46.next hstep
  have Xx_58 := Xx_47.next hstep
  have Xy_59 := Xy_48.next hstep
  have Xn_60 := Xn_55.next hstep
  have Ra_61 := Ra_49.below hstep
  have Rb_62 := Rb_50.below hstep
  have Og_63 := Og_51.below hstep
  have Ox_64 := Ox_52.below hstep
  have Oy_65 := Oy_53.below hstep
  have hbel66 := hbel54.next hstep
  have hle66 := hbel66.size
  have hls66 := hstep.size
  clear Xa_45 Xb_46 Xx_47 Xy_48 Xn_55 Ra_49 Rb_50 Og_51 Ox_52 Oy_53 hbel54 hstep
  have cXa0_66 : _ = some (Value.bool sa) := Xa_56.cell 0
  have cXa1_66 : _ = some (Value.slice a na ca) := Xa_56.cell 1
  have cXb0_66 : _ = some (Value.bool sb) := Xb_57.cell 0
  have cXb1_66 : _ = some (Value.slice b nb cb) := Xb_57.cell 1
  have cXx0_66 : _ = some (Value.bool (decide (x0 < 0))) := Xx_58.cell 0
  have cXx1_66 : _ = some (Value.slice x xn xc) := Xx_58.cell 1
  have cXy0_66 : _ = some (Value.bool (decide (y0 < 0))) := Xy_59.cell 0
  have cXy1_66 : _ = some (Value.slice y yn yc) := Xy_59.cell 1
  have cXn0_66 : _ = some (Value.bool false) := Xn_60.cell 0
  have cXn1_66 : _ = some (Value.slice g gn gc) := Xn_60.cell 1
  clear acc0 acc1 acc2 acc3 acc4 hst1 hst2 hst3 hst4 KXa0_0 KXa1_0 KXb0_0 KXb1_0 KXx0_0 KXx1_0 KXy0_0 KXy1_0 KXn0_0 KXn1_0 KXa0_1 KXa1_1 KXb0_1 KXb1_1 KXx0_1 KXx1_1 KXy0_1 KXy1_1 KXn0_1 KXn1_1 KXa0_2 KXa1_2 KXb0_2 KXb1_2 KXx0_2 KXx1_2 KXy0_2 KXy1_2 KXn0_2 KXn1_2 KXa0_3 KXa1_3 KXb0_3 KXb1_3 KXx0_3 KXx1_3 KXy0_3 KXy1_3 KXn0_3 KXn1_3 KXa0_4 KXa1_4 KXb0_4 KXb1_4 KXx0_4 KXx1_4 KXy0_4 KXy1_4 KXn0_4 KXn1_4 Xa_h0 Xa_h1 Xa_h2 Xa_h3 Xa_h4 Xb_h0 Xb_h1 Xb_h2 Xb_h3 Xb_h4 Xx_h0 Xx_h1 Xx_h2 Xx_h3 Xx_h4 Xy_h0 Xy_h1 Xy_h2 Xy_h3 Xy_h4 Xn_h0 Xn_h1 Xn_h2 Xn_h3 Xn_h4
  clear hO1_1 hO1_2 hO2_2 hO3_3
  go_wp2_with fail
  by_cases hgz : g0 = 0
  · skip
    have hz : val la = 0 ∧ val lb = 0 := by have h := Hg0.out; rw [hgz] at h; exact Nat.gcd_eq_zero_iff.1 h
    have HZA := hid (show sgn za = 0 by rw [← HXa.out]; exact sgn_zero hz.1)
    have HZB := hid (show sgn zb = 0 by rw [← HXb.out]; exact sgn_zero hz.2)
    have HZN := hid (show sgn n0 = 0 by rw [Hn1.out, hgz]; rfl)
    clear hz hgz
    have HE5 := hid (show sgn n0 = 0 from (by exact HZN.out))
    have HE6 := hid (show sgn za = 0 from (by exact HZA.out))
    have HE7 := hid (show sgn zb = 0 from (by exact HZB.out))
    go_wp2_with fail
    refine (zsignG (show Rd _ g gn gc (lm g0) from Og_63.rd) (show gn ≤ 4194304 by omega) Hn0.out HE5.out).mono ?_
    rintro e w12 ⟨rfl, hB⟩
    clear cXa0_66 cXa1_66 cXb0_66 cXb1_66 cXx0_66 cXx1_66 cXy0_66 cXy1_66 cXn0_66 cXn1_66
    have hstep : Below w11.heap.size w11 w12 := (by first | exact hB | exact below_drew hB)
    have Xa_67 := Xa_56.next hstep
    have Xb_68 := Xb_57.next hstep
    have Xx_69 := Xx_58.next hstep
    have Xy_70 := Xy_59.next hstep
    have Xn_71 := Xn_60.next hstep
    have Ra_72 := Ra_61.below hstep
    have Rb_73 := Rb_62.below hstep
    have Og_74 := Og_63.below hstep
    have Ox_75 := Ox_64.below hstep
    have Oy_76 := Oy_65.below hstep
    have hbel77 := hbel66.next hstep
    have hle77 := hbel77.size
    have hls77 := hstep.size
    clear Xa_56 Xb_57 Xx_58 Xy_59 Xn_60 Ra_61 Rb_62 Og_63 Ox_64 Oy_65 hbel66 hstep
    have cXa0_77 : _ = some (Value.bool sa) := Xa_67.cell 0
    have cXa1_77 : _ = some (Value.slice a na ca) := Xa_67.cell 1
    have cXb0_77 : _ = some (Value.bool sb) := Xb_68.cell 0
    have cXb1_77 : _ = some (Value.slice b nb cb) := Xb_68.cell 1
    have cXx0_77 : _ = some (Value.bool (decide (x0 < 0))) := Xx_69.cell 0
    have cXx1_77 : _ = some (Value.slice x xn xc) := Xx_69.cell 1
    have cXy0_77 : _ = some (Value.bool (decide (y0 < 0))) := Xy_70.cell 0
    have cXy1_77 : _ = some (Value.slice y yn yc) := Xy_70.cell 1
    have cXn0_77 : _ = some (Value.bool false) := Xn_71.cell 0
    have cXn1_77 : _ = some (Value.slice g gn gc) := Xn_71.cell 1
    go_wp2_with fail
    refine (zsignG (show Rd _ a na ca la from Ra_72) (show na ≤ 4194304 by omega) HXa.out HE6.out).mono ?_
    rintro e w13 ⟨rfl, hB⟩
    clear cXa0_77 cXa1_77 cXb0_77 cXb1_77 cXx0_77 cXx1_77 cXy0_77 cXy1_77 cXn0_77 cXn1_77
    have hstep : Below w12.heap.size w12 w13 := (by first | exact hB | exact below_drew hB)
    have Xa_78 := Xa_67.next hstep
    have Xb_79 := Xb_68.next hstep
    have Xx_80 := Xx_69.next hstep
    have Xy_81 := Xy_70.next hstep
    have Xn_82 := Xn_71.next hstep
    have Ra_83 := Ra_72.below hstep
    have Rb_84 := Rb_73.below hstep
    have Og_85 := Og_74.below hstep
    have Ox_86 := Ox_75.below hstep
    have Oy_87 := Oy_76.below hstep
    have hbel88 := hbel77.next hstep
    have hle88 := hbel88.size
    have hls88 := hstep.size
    clear Xa_67 Xb_68 Xx_69 Xy_70 Xn_71 Ra_72 Rb_73 Og_74 Ox_75 Oy_76 hbel77 hstep
    have cXa0_88 : _ = some (Value.bool sa) := Xa_78.cell 0
    have cXa1_88 : _ = some (Value.slice a na ca) := Xa_78.cell 1
    have cXb0_88 : _ = some (Value.bool sb) := Xb_79.cell 0
    have cXb1_88 : _ = some (Value.slice b nb cb) := Xb_79.cell 1
    have cXx0_88 : _ = some (Value.bool (decide (x0 < 0))) := Xx_80.cell 0
    have cXx1_88 : _ = some (Value.slice x xn xc) := Xx_80.cell 1
    have cXy0_88 : _ = some (Value.bool (decide (y0 < 0))) := Xy_81.cell 0
    have cXy1_88 : _ = some (Value.slice y yn yc) := Xy_81.cell 1
    have cXn0_88 : _ = some (Value.bool false) := Xn_82.cell 0
    have cXn1_88 : _ = some (Value.slice g gn gc) := Xn_82.cell 1
    go_wp2_with fail
    refine (zsignG (show Rd _ b nb cb lb from Rb_84) (show nb ≤ 4194304 by omega) HXb.out HE7.out).mono ?_
    rintro e w14 ⟨rfl, hB⟩
    clear cXa0_88 cXa1_88 cXb0_88 cXb1_88 cXx0_88 cXx1_88 cXy0_88 cXy1_88 cXn0_88 cXn1_88
    have hstep : Below w13.heap.size w13 w14 := (by first | exact hB | exact below_drew hB)
    have Xa_89 := Xa_78.next hstep
    have Xb_90 := Xb_79.next hstep
    have Xx_91 := Xx_80.next hstep
    have Xy_92 := Xy_81.next hstep
    have Xn_93 := Xn_82.next hstep
    have Ra_94 := Ra_83.below hstep
    have Rb_95 := Rb_84.below hstep
    have Og_96 := Og_85.below hstep
    have Ox_97 := Ox_86.below hstep
    have Oy_98 := Oy_87.below hstep
    have hbel99 := hbel88.next hstep
    have hle99 := hbel99.size
    have hls99 := hstep.size
    clear Xa_78 Xb_79 Xx_80 Xy_81 Xn_82 Ra_83 Rb_84 Og_85 Ox_86 Oy_87 hbel88 hstep
    have cXa0_99 : _ = some (Value.bool sa) := Xa_89.cell 0
    have cXa1_99 : _ = some (Value.slice a na ca) := Xa_89.cell 1
    have cXb0_99 : _ = some (Value.bool sb) := Xb_90.cell 0
    have cXb1_99 : _ = some (Value.slice b nb cb) := Xb_90.cell 1
    have cXx0_99 : _ = some (Value.bool (decide (x0 < 0))) := Xx_91.cell 0
    have cXx1_99 : _ = some (Value.slice x xn xc) := Xx_91.cell 1
    have cXy0_99 : _ = some (Value.bool (decide (y0 < 0))) := Xy_92.cell 0
    have cXy1_99 : _ = some (Value.slice y yn yc) := Xy_92.cell 1
    have cXn0_99 : _ = some (Value.bool false) := Xn_93.cell 0
    have cXn1_99 : _ = some (Value.slice g gn gc) := Xn_93.cell 1
    go_wp2
    go_ret
    exact ⟨rfl, hbel99⟩
  · skip
    have HZN := hid (show sgn n0 = 1 by rw [Hn1.out]; have := sgn_cases (g0 : Int); omega)
    have HE := hid (show dvE (val (lm g0)) = 0 by rw [val_lm]; exact dvE_pos hgz)
    obtain ⟨p0, hp0⟩ : ∃ z, zv (!(sa == false)) (val la / val (lm g0)) = z := ⟨_, rfl⟩
    have hab : p0.natAbs = val la / g0 := by rw [← hp0, zv_abs, val_lm]
    have Hp0A := hid hab
    have Hp0 := hid hp0
    have HBp0 : Hid (Sz p0.natAbs 31) := HBza.out.mono (by rw [hab, HA.out]; exact Nat.div_le_self _ _) (by omega)
    have HRp0 : Hid (zv sa (dvR (val la) (val (lm g0))) = 0) := zv_zero _ (by rw [val_lm]; unfold dvR; rw [if_neg hgz]; exact Nat.mod_eq_zero_of_dvd (by rw [← Hg0.out]; exact Nat.gcd_dvd_left _ _))
    clear hab hp0
    obtain ⟨q0, hq0⟩ : ∃ z, zv (!(sb == false)) (val lb / val (lm g0)) = z := ⟨_, rfl⟩
    have hab : q0.natAbs = val lb / g0 := by rw [← hq0, zv_abs, val_lm]
    have Hq0A := hid hab
    have Hq0 := hid hq0
    have HBq0 : Hid (Sz q0.natAbs 31) := HBzb.out.mono (by rw [hab, HB.out]; exact Nat.div_le_self _ _) (by omega)
    have HRq0 : Hid (zv sb (dvR (val lb) (val (lm g0))) = 0) := zv_zero _ (by rw [val_lm]; unfold dvR; rw [if_neg hgz]; exact Nat.mod_eq_zero_of_dvd (by rw [← Hg0.out]; exact Nat.gcd_dvd_right _ _))
    clear hab hq0
    have hxc : x0.natAbs ≤ q0.natAbs ∨ x0.natAbs ≤ 1 := Hxs.out.imp (fun h => by rw [Hq0A.out]; exact le_div (by omega) h) id
    have hyc : y0.natAbs ≤ p0.natAbs ∨ y0.natAbs ≤ 1 := Hys.out.imp (fun h => by rw [Hp0A.out]; exact le_div (by omega) h) id
    have HXC := hid hxc
    have HYC := hid hyc
    clear hxc hyc hgz
    have hS0 : Sz (0 : Int).natAbs 31 := by show _ < _; decide
    have HE5 := hid (show sgn n0 = 1 from (by exact HZN.out))
    go_wp2_with fail
    refine (zsignG (show Rd _ g gn gc (lm g0) from Og_63.rd) (show gn ≤ 4194304 by omega) Hn0.out HE5.out).mono ?_
    rintro e w12 ⟨rfl, hB⟩
    clear cXa0_66 cXa1_66 cXb0_66 cXb1_66 cXx0_66 cXx1_66 cXy0_66 cXy1_66 cXn0_66 cXn1_66
    have hstep : Below w11.heap.size w11 w12 := (by first | exact hB | exact below_drew hB)
    have Xa_67 := Xa_56.next hstep
    have Xb_68 := Xb_57.next hstep
    have Xx_69 := Xx_58.next hstep
    have Xy_70 := Xy_59.next hstep
    have Xn_71 := Xn_60.next hstep
    have Ra_72 := Ra_61.below hstep
    have Rb_73 := Rb_62.below hstep
    have Og_74 := Og_63.below hstep
    have Ox_75 := Ox_64.below hstep
    have Oy_76 := Oy_65.below hstep
    have hbel77 := hbel66.next hstep
    have hle77 := hbel77.size
    have hls77 := hstep.size
    clear Xa_56 Xb_57 Xx_58 Xy_59 Xn_60 Ra_61 Rb_62 Og_63 Ox_64 Oy_65 hbel66 hstep
    have cXa0_77 : _ = some (Value.bool sa) := Xa_67.cell 0
    have cXa1_77 : _ = some (Value.slice a na ca) := Xa_67.cell 1
    have cXb0_77 : _ = some (Value.bool sb) := Xb_68.cell 0
    have cXb1_77 : _ = some (Value.slice b nb cb) := Xb_68.cell 1
    have cXx0_77 : _ = some (Value.bool (decide (x0 < 0))) := Xx_69.cell 0
    have cXx1_77 : _ = some (Value.slice x xn xc) := Xx_69.cell 1
    have cXy0_77 : _ = some (Value.bool (decide (y0 < 0))) := Xy_70.cell 0
    have cXy1_77 : _ = some (Value.slice y yn yc) := Xy_70.cell 1
    have cXn0_77 : _ = some (Value.bool false) := Xn_71.cell 0
    have cXn1_77 : _ = some (Value.slice g gn gc) := Xn_71.cell 1
    go_wp2_with fail
    refine (zquoG Ra_72 (by omega) Og_74.rd (by omega) HXa.out Hn0.out Hp0.out HRp0.out HE.out).mono ?_
    rintro e w13 ⟨p, pn, pc, r, rn, rc, rfl, hO, hO2, hD, hB⟩
    clear cXa0_77 cXa1_77 cXb0_77 cXb1_77 cXx0_77 cXx1_77 cXy0_77 cXy1_77 cXn0_77 cXn1_77
    have hstep : Below w12.heap.size w12 w13 := (by first | exact hB | exact below_drew hB)
    have Xa_78 := Xa_67.next hstep
    have Xb_79 := Xb_68.next hstep
    have Xx_80 := Xx_69.next hstep
    have Xy_81 := Xy_70.next hstep
    have Xn_82 := Xn_71.next hstep
    have Ra_83 := Ra_72.below hstep
    have Rb_84 := Rb_73.below hstep
    have Og_85 := Og_74.below hstep
    have Ox_86 := Ox_75.below hstep
    have Oy_87 := Oy_76.below hstep
    have hbel88 := hbel77.next hstep
    have hle88 := hbel88.size
    have hls88 := hstep.size
    clear Xa_67 Xb_68 Xx_69 Xy_70 Xn_71 Ra_72 Rb_73 Og_74 Ox_75 Oy_76 hbel77 hstep
    have cXa0_88 : _ = some (Value.bool sa) := Xa_78.cell 0
    have cXa1_88 : _ = some (Value.slice a na ca) := Xa_78.cell 1
    have cXb0_88 : _ = some (Value.bool sb) := Xb_79.cell 0
    have cXb1_88 : _ = some (Value.slice b nb cb) := Xb_79.cell 1
    have cXx0_88 : _ = some (Value.bool (decide (x0 < 0))) := Xx_80.cell 0
    have cXx1_88 : _ = some (Value.slice x xn xc) := Xx_80.cell 1
    have cXy0_88 : _ = some (Value.bool (decide (y0 < 0))) := Xy_81.cell 0
    have cXy1_88 : _ = some (Value.slice y yn yc) := Xy_81.cell 1
    have cXn0_88 : _ = some (Value.bool false) := Xn_82.cell 0
    have cXn1_88 : _ = some (Value.slice g gn gc) := Xn_82.cell 1
    have hlp : pn ≤ 31 := len_le (l := la) hO.len HBp0.out
    have hlr : rn ≤ 31 := len_le (l := la) hO2.len hS0
    have Op_89 := hO
    have Or_90 := hO2
    clear hO hO2 hB hD
    have hbx := blk_new' w13 #[Value.bool (decide (p0 < 0)), Value.slice p pn pc] 25 (g := w13.heap.size) (by simp)
    have hbB := (Below.refl w13.heap.size w13).alloc (Nat.le_refl _) (.cells #[Value.bool (decide (p0 < 0)), Value.slice p pn pc] 25)
    have hbg := hbx.lt
    clear cXa0_88 cXa1_88 cXb0_88 cXb1_88 cXx0_88 cXx1_88 cXy0_88 cXy1_88 cXn0_88 cXn1_88
    have hstep : Below w13.heap.size w13 (w13.alloc (.cells #[Value.bool (decide (p0 < 0)), Value.slice p pn pc] 25)) := (by first | exact hbB | exact below_drew hbB)
    have Xa_91 := Xa_78.next hstep
    have Xb_92 := Xb_79.next hstep
    have Xx_93 := Xx_80.next hstep
    have Xy_94 := Xy_81.next hstep
    have Xn_95 := Xn_82.next hstep
    have Ra_96 := Ra_83.below hstep
    have Rb_97 := Rb_84.below hstep
    have Og_98 := Og_85.below hstep
    have Ox_99 := Ox_86.below hstep
    have Oy_100 := Oy_87.below hstep
    have Op_101 := Op_89.below hstep
    have Or_102 := Or_90.below hstep
    have hbel103 := hbel88.next hstep
    have hle103 := hbel103.size
    have hls103 := hstep.size
    clear Xa_78 Xb_79 Xx_80 Xy_81 Xn_82 Ra_83 Rb_84 Og_85 Ox_86 Oy_87 Op_89 Or_90 hbel88 hstep
    have cXa0_103 : _ = some (Value.bool sa) := Xa_91.cell 0
    have cXa1_103 : _ = some (Value.slice a na ca) := Xa_91.cell 1
    have cXb0_103 : _ = some (Value.bool sb) := Xb_92.cell 0
    have cXb1_103 : _ = some (Value.slice b nb cb) := Xb_92.cell 1
    have cXx0_103 : _ = some (Value.bool (decide (x0 < 0))) := Xx_93.cell 0
    have cXx1_103 : _ = some (Value.slice x xn xc) := Xx_93.cell 1
    have cXy0_103 : _ = some (Value.bool (decide (y0 < 0))) := Xy_94.cell 0
    have cXy1_103 : _ = some (Value.slice y yn yc) := Xy_94.cell 1
    have cXn0_103 : _ = some (Value.bool false) := Xn_95.cell 0
    have cXn1_103 : _ = some (Value.slice g gn gc) := Xn_95.cell 1
    have Xp_104 := hbx
    have cXp0_104 : _ = some (Value.bool (decide (p0 < 0))) := Xp_104.cell 0
    have cXp1_104 : _ = some (Value.slice p pn pc) := Xp_104.cell 1
    clear hbx hbB
    have hbx := blk_new' (w13.alloc (.cells #[Value.bool (decide (p0 < 0)), Value.slice p pn pc] 25)) #[Value.bool false, Value.slice r rn rc] 25 (g := w13.heap.size + 1) (by simp)
    have hbB := (Below.refl (w13.alloc (.cells #[Value.bool (decide (p0 < 0)), Value.slice p pn pc] 25)).heap.size (w13.alloc (.cells #[Value.bool (decide (p0 < 0)), Value.slice p pn pc] 25))).alloc (Nat.le_refl _) (.cells #[Value.bool false, Value.slice r rn rc] 25)
    have hbg := hbx.lt
    clear cXa0_103 cXa1_103 cXb0_103 cXb1_103 cXx0_103 cXx1_103 cXy0_103 cXy1_103 cXn0_103 cXn1_103 cXp0_104 cXp1_104
    have hstep : Below (w13.alloc (.cells #[Value.bool (decide (p0 < 0)), Value.slice p pn pc] 25)).heap.size (w13.alloc (.cells #[Value.bool (decide (p0 < 0)), Value.slice p pn pc] 25)) ((w13.alloc (.cells #[Value.bool (decide (p0 < 0)), Value.slice p pn pc] 25)).alloc (.cells #[Value.bool false, Value.slice r rn rc] 25)) := (by first | exact hbB | exact below_drew hbB)
    have Xa_105 := Xa_91.next hstep
    have Xb_106 := Xb_92.next hstep
    have Xx_107 := Xx_93.next hstep
    have Xy_108 := Xy_94.next hstep
    have Xn_109 := Xn_95.next hstep
    have Xp_110 := Xp_104.next hstep
    have Ra_111 := Ra_96.below hstep
    have Rb_112 := Rb_97.below hstep
    have Og_113 := Og_98.below hstep
    have Ox_114 := Ox_99.below hstep
    have Oy_115 := Oy_100.below hstep
    have Op_116 := Op_101.below hstep
    have Or_117 := Or_102.below hstep
    have hbel118 := hbel103.next hstep
    have hle118 := hbel118.size
    have hls118 := hstep.size
    clear Xa_91 Xb_92 Xx_93 Xy_94 Xn_95 Xp_104 Ra_96 Rb_97 Og_98 Ox_99 Oy_100 Op_101 Or_102 hbel103 hstep
    have cXa0_118 : _ = some (Value.bool sa) := Xa_105.cell 0
    have cXa1_118 : _ = some (Value.slice a na ca) := Xa_105.cell 1
    have cXb0_118 : _ = some (Value.bool sb) := Xb_106.cell 0
    have cXb1_118 : _ = some (Value.slice b nb cb) := Xb_106.cell 1
    have cXx0_118 : _ = some (Value.bool (decide (x0 < 0))) := Xx_107.cell 0
    have cXx1_118 : _ = some (Value.slice x xn xc) := Xx_107.cell 1
    have cXy0_118 : _ = some (Value.bool (decide (y0 < 0))) := Xy_108.cell 0
    have cXy1_118 : _ = some (Value.slice y yn yc) := Xy_108.cell 1
    have cXn0_118 : _ = some (Value.bool false) := Xn_109.cell 0
    have cXn1_118 : _ = some (Value.slice g gn gc) := Xn_109.cell 1
    have cXp0_118 : _ = some (Value.bool (decide (p0 < 0))) := Xp_110.cell 0
    have cXp1_118 : _ = some (Value.slice p pn pc) := Xp_110.cell 1
    have Xr_119 := hbx
    have cXr0_119 : _ = some (Value.bool false) := Xr_119.cell 0
    have cXr1_119 : _ = some (Value.slice r rn rc) := Xr_119.cell 1
    clear hbx hbB
    go_wp2_with fail
    generalize ((w13.alloc (.cells #[Value.bool (decide (p0 < 0)), Value.slice p pn pc] 25)).alloc (.cells #[Value.bool false, Value.slice r rn rc] 25)) = v14 at *
    go_wp2_with fail
    refine (zquoG Rb_112 (by omega) Og_113.rd (by omega) HXb.out Hn0.out Hq0.out HRq0.out HE.out).mono ?_
    rintro e w16 ⟨q, qn, qc, s', s'n, s'c, rfl, hO, hO2, hD, hB⟩
    clear cXa0_118 cXa1_118 cXb0_118 cXb1_118 cXx0_118 cXx1_118 cXy0_118 cXy1_118 cXn0_118 cXn1_118 cXp0_118 cXp1_118 cXr0_119 cXr1_119
    have hstep : Below v14.heap.size v14 w16 := (by first | exact hB | exact below_drew hB)
    have Xa_120 := Xa_105.next hstep
    have Xb_121 := Xb_106.next hstep
    have Xx_122 := Xx_107.next hstep
    have Xy_123 := Xy_108.next hstep
    have Xn_124 := Xn_109.next hstep
    have Xp_125 := Xp_110.next hstep
    have Xr_126 := Xr_119.next hstep
    have Ra_127 := Ra_111.below hstep
    have Rb_128 := Rb_112.below hstep
    have Og_129 := Og_113.below hstep
    have Ox_130 := Ox_114.below hstep
    have Oy_131 := Oy_115.below hstep
    have Op_132 := Op_116.below hstep
    have Or_133 := Or_117.below hstep
    have hbel134 := hbel118.next hstep
    have hle134 := hbel134.size
    have hls134 := hstep.size
    clear Xa_105 Xb_106 Xx_107 Xy_108 Xn_109 Xp_110 Xr_119 Ra_111 Rb_112 Og_113 Ox_114 Oy_115 Op_116 Or_117 hbel118 hstep
    have cXa0_134 : _ = some (Value.bool sa) := Xa_120.cell 0
    have cXa1_134 : _ = some (Value.slice a na ca) := Xa_120.cell 1
    have cXb0_134 : _ = some (Value.bool sb) := Xb_121.cell 0
    have cXb1_134 : _ = some (Value.slice b nb cb) := Xb_121.cell 1
    have cXx0_134 : _ = some (Value.bool (decide (x0 < 0))) := Xx_122.cell 0
    have cXx1_134 : _ = some (Value.slice x xn xc) := Xx_122.cell 1
    have cXy0_134 : _ = some (Value.bool (decide (y0 < 0))) := Xy_123.cell 0
    have cXy1_134 : _ = some (Value.slice y yn yc) := Xy_123.cell 1
    have cXn0_134 : _ = some (Value.bool false) := Xn_124.cell 0
    have cXn1_134 : _ = some (Value.slice g gn gc) := Xn_124.cell 1
    have cXp0_134 : _ = some (Value.bool (decide (p0 < 0))) := Xp_125.cell 0
    have cXp1_134 : _ = some (Value.slice p pn pc) := Xp_125.cell 1
    have cXr0_134 : _ = some (Value.bool false) := Xr_126.cell 0
    have cXr1_134 : _ = some (Value.slice r rn rc) := Xr_126.cell 1
    have hlq : qn ≤ 31 := len_le (l := la) hO.len HBq0.out
    have hls' : s'n ≤ 31 := len_le (l := la) hO2.len hS0
    have Oq_135 := hO
    have Os'_136 := hO2
    clear hO hO2 hB hD
    have hbx := blk_new' w16 #[Value.bool (decide (q0 < 0)), Value.slice q qn qc] 25 (g := w16.heap.size) (by simp)
    have hbB := (Below.refl w16.heap.size w16).alloc (Nat.le_refl _) (.cells #[Value.bool (decide (q0 < 0)), Value.slice q qn qc] 25)
    have hbg := hbx.lt
    clear cXa0_134 cXa1_134 cXb0_134 cXb1_134 cXx0_134 cXx1_134 cXy0_134 cXy1_134 cXn0_134 cXn1_134 cXp0_134 cXp1_134 cXr0_134 cXr1_134
    have hstep : Below w16.heap.size w16 (w16.alloc (.cells #[Value.bool (decide (q0 < 0)), Value.slice q qn qc] 25)) := (by first | exact hbB | exact below_drew hbB)
    have Xa_137 := Xa_120.next hstep
    have Xb_138 := Xb_121.next hstep
    have Xx_139 := Xx_122.next hstep
    have Xy_140 := Xy_123.next hstep
    have Xn_141 := Xn_124.next hstep
    have Xp_142 := Xp_125.next hstep
    have Xr_143 := Xr_126.next hstep
    have Ra_144 := Ra_127.below hstep
    have Rb_145 := Rb_128.below hstep
    have Og_146 := Og_129.below hstep
    have Ox_147 := Ox_130.below hstep
    have Oy_148 := Oy_131.below hstep
    have Op_149 := Op_132.below hstep
    have Or_150 := Or_133.below hstep
    have Oq_151 := Oq_135.below hstep
    have Os'_152 := Os'_136.below hstep
    have hbel153 := hbel134.next hstep
    have hle153 := hbel153.size
    have hls153 := hstep.size
    clear Xa_120 Xb_121 Xx_122 Xy_123 Xn_124 Xp_125 Xr_126 Ra_127 Rb_128 Og_129 Ox_130 Oy_131 Op_132 Or_133 Oq_135 Os'_136 hbel134 hstep
    have cXa0_153 : _ = some (Value.bool sa) := Xa_137.cell 0
    have cXa1_153 : _ = some (Value.slice a na ca) := Xa_137.cell 1
    have cXb0_153 : _ = some (Value.bool sb) := Xb_138.cell 0
    have cXb1_153 : _ = some (Value.slice b nb cb) := Xb_138.cell 1
    have cXx0_153 : _ = some (Value.bool (decide (x0 < 0))) := Xx_139.cell 0
    have cXx1_153 : _ = some (Value.slice x xn xc) := Xx_139.cell 1
    have cXy0_153 : _ = some (Value.bool (decide (y0 < 0))) := Xy_140.cell 0
    have cXy1_153 : _ = some (Value.slice y yn yc) := Xy_140.cell 1
    have cXn0_153 : _ = some (Value.bool false) := Xn_141.cell 0
    have cXn1_153 : _ = some (Value.slice g gn gc) := Xn_141.cell 1
    have cXp0_153 : _ = some (Value.bool (decide (p0 < 0))) := Xp_142.cell 0
    have cXp1_153 : _ = some (Value.slice p pn pc) := Xp_142.cell 1
    have cXr0_153 : _ = some (Value.bool false) := Xr_143.cell 0
    have cXr1_153 : _ = some (Value.slice r rn rc) := Xr_143.cell 1
    have Xq_154 := hbx
    have cXq0_154 : _ = some (Value.bool (decide (q0 < 0))) := Xq_154.cell 0
    have cXq1_154 : _ = some (Value.slice q qn qc) := Xq_154.cell 1
    clear hbx hbB
    have hbx := blk_new' (w16.alloc (.cells #[Value.bool (decide (q0 < 0)), Value.slice q qn qc] 25)) #[Value.bool false, Value.slice s' s'n s'c] 25 (g := w16.heap.size + 1) (by simp)
    have hbB := (Below.refl (w16.alloc (.cells #[Value.bool (decide (q0 < 0)), Value.slice q qn qc] 25)).heap.size (w16.alloc (.cells #[Value.bool (decide (q0 < 0)), Value.slice q qn qc] 25))).alloc (Nat.le_refl _) (.cells #[Value.bool false, Value.slice s' s'n s'c] 25)
    have hbg := hbx.lt
    clear cXa0_153 cXa1_153 cXb0_153 cXb1_153 cXx0_153 cXx1_153 cXy0_153 cXy1_153 cXn0_153 cXn1_153 cXp0_153 cXp1_153 cXr0_153 cXr1_153 cXq0_154 cXq1_154
    have hstep : Below (w16.alloc (.cells #[Value.bool (decide (q0 < 0)), Value.slice q qn qc] 25)).heap.size (w16.alloc (.cells #[Value.bool (decide (q0 < 0)), Value.slice q qn qc] 25)) ((w16.alloc (.cells #[Value.bool (decide (q0 < 0)), Value.slice q qn qc] 25)).alloc (.cells #[Value.bool false, Value.slice s' s'n s'c] 25)) := (by first | exact hbB | exact below_drew hbB)
    have Xa_155 := Xa_137.next hstep
    have Xb_156 := Xb_138.next hstep
    have Xx_157 := Xx_139.next hstep
    have Xy_158 := Xy_140.next hstep
    have Xn_159 := Xn_141.next hstep
    have Xp_160 := Xp_142.next hstep
    have Xr_161 := Xr_143.next hstep
    have Xq_162 := Xq_154.next hstep
    have Ra_163 := Ra_144.below hstep
    have Rb_164 := Rb_145.below hstep
    have Og_165 := Og_146.below hstep
    have Ox_166 := Ox_147.below hstep
    have Oy_167 := Oy_148.below hstep
    have Op_168 := Op_149.below hstep
    have Or_169 := Or_150.below hstep
    have Oq_170 := Oq_151.below hstep
    have Os'_171 := Os'_152.below hstep
    have hbel172 := hbel153.next hstep
    have hle172 := hbel172.size
    have hls172 := hstep.size
    clear Xa_137 Xb_138 Xx_139 Xy_140 Xn_141 Xp_142 Xr_143 Xq_154 Ra_144 Rb_145 Og_146 Ox_147 Oy_148 Op_149 Or_150 Oq_151 Os'_152 hbel153 hstep
    have cXa0_172 : _ = some (Value.bool sa) := Xa_155.cell 0
    have cXa1_172 : _ = some (Value.slice a na ca) := Xa_155.cell 1
    have cXb0_172 : _ = some (Value.bool sb) := Xb_156.cell 0
    have cXb1_172 : _ = some (Value.slice b nb cb) := Xb_156.cell 1
    have cXx0_172 : _ = some (Value.bool (decide (x0 < 0))) := Xx_157.cell 0
    have cXx1_172 : _ = some (Value.slice x xn xc) := Xx_157.cell 1
    have cXy0_172 : _ = some (Value.bool (decide (y0 < 0))) := Xy_158.cell 0
    have cXy1_172 : _ = some (Value.slice y yn yc) := Xy_158.cell 1
    have cXn0_172 : _ = some (Value.bool false) := Xn_159.cell 0
    have cXn1_172 : _ = some (Value.slice g gn gc) := Xn_159.cell 1
    have cXp0_172 : _ = some (Value.bool (decide (p0 < 0))) := Xp_160.cell 0
    have cXp1_172 : _ = some (Value.slice p pn pc) := Xp_160.cell 1
    have cXr0_172 : _ = some (Value.bool false) := Xr_161.cell 0
    have cXr1_172 : _ = some (Value.slice r rn rc) := Xr_161.cell 1
    have cXq0_172 : _ = some (Value.bool (decide (q0 < 0))) := Xq_162.cell 0
    have cXq1_172 : _ = some (Value.slice q qn qc) := Xq_162.cell 1
    have Xs'_173 := hbx
    have cXs'0_173 : _ = some (Value.bool false) := Xs'_173.cell 0
    have cXs'1_173 : _ = some (Value.slice s' s'n s'c) := Xs'_173.cell 1
    clear hbx hbB
    go_wp2_with fail
    generalize ((w16.alloc (.cells #[Value.bool (decide (q0 < 0)), Value.slice q qn qc] 25)).alloc (.cells #[Value.bool false, Value.slice s' s'n s'c] 25)) = v17 at *
    obtain ⟨z6, hzz⟩ : ∃ z, (1 : Int) = z := ⟨_, rfl⟩
    have Hz6 := hid hzz
    have HBz6 : Hid (Sz z6.natAbs 1) := (by rw [← hzz]; show _ < _; decide)
    clear hzz
    go_wp2_with fail
    refine (zofG (q := 1) (by omega) (by omega) Hz6.out).mono ?_
    rintro e w19 ⟨r6, r6n, r6c, rfl, hO1_1, hB⟩
    clear cXa0_172 cXa1_172 cXb0_172 cXb1_172 cXx0_172 cXx1_172 cXy0_172 cXy1_172 cXn0_172 cXn1_172 cXp0_172 cXp1_172 cXr0_172 cXr1_172 cXq0_172 cXq1_172 cXs'0_173 cXs'1_173
    have hstep : Below v17.heap.size v17 w19 := (by first | exact hB | exact below_drew hB)
    have Xa_174 := Xa_155.next hstep
    have Xb_175 := Xb_156.next hstep
    have Xx_176 := Xx_157.next hstep
    have Xy_177 := Xy_158.next hstep
    have Xn_178 := Xn_159.next hstep
    have Xp_179 := Xp_160.next hstep
    have Xr_180 := Xr_161.next hstep
    have Xq_181 := Xq_162.next hstep
    have Xs'_182 := Xs'_173.next hstep
    have Ra_183 := Ra_163.below hstep
    have Rb_184 := Rb_164.below hstep
    have Og_185 := Og_165.below hstep
    have Ox_186 := Ox_166.below hstep
    have Oy_187 := Oy_167.below hstep
    have Op_188 := Op_168.below hstep
    have Or_189 := Or_169.below hstep
    have Oq_190 := Oq_170.below hstep
    have Os'_191 := Os'_171.below hstep
    have hbel192 := hbel172.next hstep
    have hle192 := hbel192.size
    have hls192 := hstep.size
    clear Xa_155 Xb_156 Xx_157 Xy_158 Xn_159 Xp_160 Xr_161 Xq_162 Xs'_173 Ra_163 Rb_164 Og_165 Ox_166 Oy_167 Op_168 Or_169 Oq_170 Os'_171 hbel172 hstep
    have cXa0_192 : _ = some (Value.bool sa) := Xa_174.cell 0
    have cXa1_192 : _ = some (Value.slice a na ca) := Xa_174.cell 1
    have cXb0_192 : _ = some (Value.bool sb) := Xb_175.cell 0
    have cXb1_192 : _ = some (Value.slice b nb cb) := Xb_175.cell 1
    have cXx0_192 : _ = some (Value.bool (decide (x0 < 0))) := Xx_176.cell 0
    have cXx1_192 : _ = some (Value.slice x xn xc) := Xx_176.cell 1
    have cXy0_192 : _ = some (Value.bool (decide (y0 < 0))) := Xy_177.cell 0
    have cXy1_192 : _ = some (Value.slice y yn yc) := Xy_177.cell 1
    have cXn0_192 : _ = some (Value.bool false) := Xn_178.cell 0
    have cXn1_192 : _ = some (Value.slice g gn gc) := Xn_178.cell 1
    have cXp0_192 : _ = some (Value.bool (decide (p0 < 0))) := Xp_179.cell 0
    have cXp1_192 : _ = some (Value.slice p pn pc) := Xp_179.cell 1
    have cXr0_192 : _ = some (Value.bool false) := Xr_180.cell 0
    have cXr1_192 : _ = some (Value.slice r rn rc) := Xr_180.cell 1
    have cXq0_192 : _ = some (Value.bool (decide (q0 < 0))) := Xq_181.cell 0
    have cXq1_192 : _ = some (Value.slice q qn qc) := Xq_181.cell 1
    have cXs'0_192 : _ = some (Value.bool false) := Xs'_182.cell 0
    have cXs'1_192 : _ = some (Value.slice s' s'n s'c) := Xs'_182.cell 1
    have hlr6 : r6n ≤ 1 := len_le (l := la) hO1_1.len HBz6.out
    have Or6_193 := hO1_1
    clear hO1_1
    have HONE : Hid (z6 = 1) := (Hz6.out).symm
    have hbx := blk_new' w19 #[Value.bool (decide (z6 < 0)), Value.slice r6 r6n r6c] 25 (g := w19.heap.size) (by simp)
    have hbB := (Below.refl w19.heap.size w19).alloc (Nat.le_refl _) (.cells #[Value.bool (decide (z6 < 0)), Value.slice r6 r6n r6c] 25)
    have hbg := hbx.lt
    clear cXa0_192 cXa1_192 cXb0_192 cXb1_192 cXx0_192 cXx1_192 cXy0_192 cXy1_192 cXn0_192 cXn1_192 cXp0_192 cXp1_192 cXr0_192 cXr1_192 cXq0_192 cXq1_192 cXs'0_192 cXs'1_192
    have hstep : Below w19.heap.size w19 (w19.alloc (.cells #[Value.bool (decide (z6 < 0)), Value.slice r6 r6n r6c] 25)) := (by first | exact hbB | exact below_drew hbB)
    have Xa_194 := Xa_174.next hstep
    have Xb_195 := Xb_175.next hstep
    have Xx_196 := Xx_176.next hstep
    have Xy_197 := Xy_177.next hstep
    have Xn_198 := Xn_178.next hstep
    have Xp_199 := Xp_179.next hstep
    have Xr_200 := Xr_180.next hstep
    have Xq_201 := Xq_181.next hstep
    have Xs'_202 := Xs'_182.next hstep
    have Ra_203 := Ra_183.below hstep
    have Rb_204 := Rb_184.below hstep
    have Og_205 := Og_185.below hstep
    have Ox_206 := Ox_186.below hstep
    have Oy_207 := Oy_187.below hstep
    have Op_208 := Op_188.below hstep
    have Or_209 := Or_189.below hstep
    have Oq_210 := Oq_190.below hstep
    have Os'_211 := Os'_191.below hstep
    have Or6_212 := Or6_193.below hstep
    have hbel213 := hbel192.next hstep
    have hle213 := hbel213.size
    have hls213 := hstep.size
    clear Xa_174 Xb_175 Xx_176 Xy_177 Xn_178 Xp_179 Xr_180 Xq_181 Xs'_182 Ra_183 Rb_184 Og_185 Ox_186 Oy_187 Op_188 Or_189 Oq_190 Os'_191 Or6_193 hbel192 hstep
    have cXa0_213 : _ = some (Value.bool sa) := Xa_194.cell 0
    have cXa1_213 : _ = some (Value.slice a na ca) := Xa_194.cell 1
    have cXb0_213 : _ = some (Value.bool sb) := Xb_195.cell 0
    have cXb1_213 : _ = some (Value.slice b nb cb) := Xb_195.cell 1
    have cXx0_213 : _ = some (Value.bool (decide (x0 < 0))) := Xx_196.cell 0
    have cXx1_213 : _ = some (Value.slice x xn xc) := Xx_196.cell 1
    have cXy0_213 : _ = some (Value.bool (decide (y0 < 0))) := Xy_197.cell 0
    have cXy1_213 : _ = some (Value.slice y yn yc) := Xy_197.cell 1
    have cXn0_213 : _ = some (Value.bool false) := Xn_198.cell 0
    have cXn1_213 : _ = some (Value.slice g gn gc) := Xn_198.cell 1
    have cXp0_213 : _ = some (Value.bool (decide (p0 < 0))) := Xp_199.cell 0
    have cXp1_213 : _ = some (Value.slice p pn pc) := Xp_199.cell 1
    have cXr0_213 : _ = some (Value.bool false) := Xr_200.cell 0
    have cXr1_213 : _ = some (Value.slice r rn rc) := Xr_200.cell 1
    have cXq0_213 : _ = some (Value.bool (decide (q0 < 0))) := Xq_201.cell 0
    have cXq1_213 : _ = some (Value.slice q qn qc) := Xq_201.cell 1
    have cXs'0_213 : _ = some (Value.bool false) := Xs'_202.cell 0
    have cXs'1_213 : _ = some (Value.slice s' s'n s'c) := Xs'_202.cell 1
    have Xo_214 := hbx
    have cXo0_214 : _ = some (Value.bool (decide (z6 < 0))) := Xo_214.cell 0
    have cXo1_214 : _ = some (Value.slice r6 r6n r6c) := Xo_214.cell 1
    clear hbx hbB
    go_wp2_with fail
    generalize (w19.alloc (.cells #[Value.bool (decide (z6 < 0)), Value.slice r6 r6n r6c] 25)) = v20 at *
    go_wp2_with fail
    go_cut [17] from 75 to 87 (fun s17 wx => s17 = .bool true ∧ Blk wx (w4.heap.size + 1) #[Value.bool (decide (y0 < 0)), Value.slice y yn yc] ∧ Blk wx (w13.heap.size) #[Value.bool (decide (p0 < 0)), Value.slice p pn pc] ∧ Blk wx (w19.heap.size) #[Value.bool (decide (z6 < 0)), Value.slice r6 r6n r6c] ∧ Blk wx (w13.heap.size + 1) #[Value.bool false, Value.slice r rn rc] ∧ Blk wx (w16.heap.size + 1) #[Value.bool false, Value.slice s' s'n s'c] ∧ Own w.heap.size wx y yn yc (lm y0.natAbs) ∧ Own w.heap.size wx p pn pc (lm p0.natAbs) ∧ Own w.heap.size wx r6 r6n r6c (lm z6.natAbs) ∧ Own w.heap.size wx r rn rc (lm (Int.natAbs 0)) ∧ Own w.heap.size wx s' s'n s'c (lm (Int.natAbs 0)) ∧ Below w.heap.size w wx)
    case first =>
      rcases Nat.lt_or_ge q0.natAbs x0.natAbs with hc | hc
      · skip
        have HC1 : Hid (x0.natAbs ≤ 1) := by show _ ≤ _; have := HXC.out; omega
        have HC0 := hid hc
        clear hc
        obtain ⟨z7, hzz⟩ : ∃ z, zv false (val (lm x0.natAbs)) = z := ⟨_, rfl⟩
        have Hz7 := hid hzz
        clear hzz
        obtain ⟨z8, hzz⟩ : ∃ z, zv false (val (lm q0.natAbs)) = z := ⟨_, rfl⟩
        have Hz8 := hid hzz
        clear hzz
        have HE9 := hid (show cmpZ z7 z8 = 1 from (by have h1 := size_abs (zvlm x0) Hz7.out; have h2 := size_abs (zvlm q0) Hz8.out; have h3 := HC0.out; have h4 := cmpZ_cases z7 z8; omega))
        obtain ⟨z10, hzz⟩ : ∃ z, zv false (val (lm x0.natAbs)) = z := ⟨_, rfl⟩
        have Hz10 := hid hzz
        clear hzz
        obtain ⟨c1, hc1⟩ : ∃ c, cmpZ z10 z6 = c := ⟨_, rfl⟩
        have hc2 : -1 ≤ c1 ∧ c1 ≤ 0 := by have h1 := size_abs (zvlm x0) Hz10.out; have h3 := HC1.out; have h4 := cmpZ_cases z10 z6; have h5 := HONE.out; omega
        have HCc := hid hc1
        clear hc1
        have hd1 : decide (c1 ≤ 0) = true := decide_eq_true hc2.2
        have HE11 := hid (show cmpZ z10 z6 = c1 from (by exact HCc.out))
        go_wp2_with fail
        have KXx0_0 : _ = some (Value.bool (decide (x0 < 0))) := Xx_196.cell 0
        have KXx1_0 : _ = some (Value.slice x xn xc) := Xx_196.cell 1
        have KXq0_0 : _ = some (Value.bool (decide (q0 < 0))) := Xq_201.cell 0
        have KXq1_0 : _ = some (Value.slice q qn qc) := Xq_201.cell 1
        have KXo0_0 : _ = some (Value.bool (decide (z6 < 0))) := Xo_214.cell 0
        have KXo1_0 : _ = some (Value.slice r6 r6n r6c) := Xo_214.cell 1
        have Xx_h0 := Xx_196
        have Xq_h0 := Xq_201
        have Xo_h0 := Xo_214
        have acc0 : Below v20.heap.size v20 v20 := Below.refl _ _
        go_region_held3 (fun w' => w'.cell? ⟨w4.heap.size, 0, none⟩ = some (Value.bool (decide (x0 < 0))) ∧ w'.cell? ⟨w4.heap.size, 1, none⟩ = some (Value.slice x xn xc) ∧ w'.cell? ⟨w16.heap.size, 0, none⟩ = some (Value.bool (decide (q0 < 0))) ∧ w'.cell? ⟨w16.heap.size, 1, none⟩ = some (Value.slice q qn qc) ∧ w'.cell? ⟨w19.heap.size, 0, none⟩ = some (Value.bool (decide (z6 < 0))) ∧ w'.cell? ⟨w19.heap.size, 1, none⟩ = some (Value.slice r6 r6n r6c))
          (first | exact ⟨KXx0_0, KXx1_0, KXq0_0, KXq1_0, KXo0_0, KXo1_0⟩ | exact ⟨KXx0_1, KXx1_1, KXq0_1, KXq1_1, KXo0_1, KXo1_1⟩ | exact ⟨KXx0_2, KXx1_2, KXq0_2, KXq1_2, KXo0_2, KXo1_2⟩ | exact ⟨KXx0_3, KXx1_3, KXq0_3, KXq1_3, KXo0_3, KXo1_3⟩ | exact ⟨KXx0_4, KXx1_4, KXq0_4, KXq1_4, KXo0_4, KXo1_4⟩ | exact ⟨KXx0_5, KXx1_5, KXq0_5, KXq1_5, KXo0_5, KXo1_5⟩ | go_keep)
          (first
            | (go_at_call 36; ((with_reducible refine (zsize_any (decide (x0 < 0)) (show Rd _ x xn xc (lm x0.natAbs) from (Ox_206.below (by first | exact acc0 | exact (acc0).drew)).rd) (by omega)).mono ?_); (rintro e w21 ⟨rfl, hB⟩; have hst1 : Below v20.heap.size v20 w21 := (by first | exact hB | exact below_drew hB); have acc1 := acc0.next hst1; have Xx_h1 := Xx_h0.next hst1; have Xq_h1 := Xq_h0.next hst1; have Xo_h1 := Xo_h0.next hst1; have KXx0_1 : _ = some (Value.bool (decide (x0 < 0))) := Xx_h1.cell 0; have KXx1_1 : _ = some (Value.slice x xn xc) := Xx_h1.cell 1; have KXq0_1 : _ = some (Value.bool (decide (q0 < 0))) := Xq_h1.cell 0; have KXq1_1 : _ = some (Value.slice q qn qc) := Xq_h1.cell 1; have KXo0_1 : _ = some (Value.bool (decide (z6 < 0))) := Xo_h1.cell 0; have KXo1_1 : _ = some (Value.slice r6 r6n r6c) := Xo_h1.cell 1)))
            | (go_at_call 36; ((with_reducible refine (zsize_any (decide (q0 < 0)) (show Rd _ q qn qc (lm q0.natAbs) from (Oq_210.below (by first | exact acc1 | exact (acc1).drew)).rd) (by omega)).mono ?_); (rintro e w22 ⟨rfl, hB⟩; have hst2 : Below w21.heap.size w21 w22 := (by first | exact hB | exact below_drew hB); have acc2 := acc1.next hst2; have Xx_h2 := Xx_h1.next hst2; have Xq_h2 := Xq_h1.next hst2; have Xo_h2 := Xo_h1.next hst2; have KXx0_2 : _ = some (Value.bool (decide (x0 < 0))) := Xx_h2.cell 0; have KXx1_2 : _ = some (Value.slice x xn xc) := Xx_h2.cell 1; have KXq0_2 : _ = some (Value.bool (decide (q0 < 0))) := Xq_h2.cell 0; have KXq1_2 : _ = some (Value.slice q qn qc) := Xq_h2.cell 1; have KXo0_2 : _ = some (Value.bool (decide (z6 < 0))) := Xo_h2.cell 0; have KXo1_2 : _ = some (Value.slice r6 r6n r6c) := Xo_h2.cell 1)))
            | (go_at_call 20; ((with_reducible refine (zcmpG (show Rd _ x xn xc (lm x0.natAbs) from (Ox_206.below (by first | exact acc2 | exact (acc2).drew)).rd) (show xn ≤ 4194304 by omega) (show Rd _ q qn qc (lm q0.natAbs) from (Oq_210.below (by first | exact acc2 | exact (acc2).drew)).rd) (show qn ≤ 4194304 by omega) Hz7.out Hz8.out HE9.out).mono ?_); (rintro e w23 ⟨rfl, hB⟩; have hst3 : Below w22.heap.size w22 w23 := (by first | exact hB | exact below_drew hB); have acc3 := acc2.next hst3; have Xx_h3 := Xx_h2.next hst3; have Xq_h3 := Xq_h2.next hst3; have Xo_h3 := Xo_h2.next hst3; have KXx0_3 : _ = some (Value.bool (decide (x0 < 0))) := Xx_h3.cell 0; have KXx1_3 : _ = some (Value.slice x xn xc) := Xx_h3.cell 1; have KXq0_3 : _ = some (Value.bool (decide (q0 < 0))) := Xq_h3.cell 0; have KXq1_3 : _ = some (Value.slice q qn qc) := Xq_h3.cell 1; have KXo0_3 : _ = some (Value.bool (decide (z6 < 0))) := Xo_h3.cell 0; have KXo1_3 : _ = some (Value.slice r6 r6n r6c) := Xo_h3.cell 1)))
            | (go_at_call 36; ((with_reducible refine (zsize_any (decide (x0 < 0)) (show Rd _ x xn xc (lm x0.natAbs) from (Ox_206.below (by first | exact acc3 | exact (acc3).drew)).rd) (by omega)).mono ?_); (rintro e w24 ⟨rfl, hB⟩; have hst4 : Below w23.heap.size w23 w24 := (by first | exact hB | exact below_drew hB); have acc4 := acc3.next hst4; have Xx_h4 := Xx_h3.next hst4; have Xq_h4 := Xq_h3.next hst4; have Xo_h4 := Xo_h3.next hst4; have KXx0_4 : _ = some (Value.bool (decide (x0 < 0))) := Xx_h4.cell 0; have KXx1_4 : _ = some (Value.slice x xn xc) := Xx_h4.cell 1; have KXq0_4 : _ = some (Value.bool (decide (q0 < 0))) := Xq_h4.cell 0; have KXq1_4 : _ = some (Value.slice q qn qc) := Xq_h4.cell 1; have KXo0_4 : _ = some (Value.bool (decide (z6 < 0))) := Xo_h4.cell 0; have KXo1_4 : _ = some (Value.slice r6 r6n r6c) := Xo_h4.cell 1)))
            | (go_at_call 20; ((with_reducible refine (zcmpG (show Rd _ x xn xc (lm x0.natAbs) from (Ox_206.below (by first | exact acc4 | exact (acc4).drew)).rd) (show xn ≤ 4194304 by omega) (show Rd _ r6 r6n r6c (lm z6.natAbs) from (Or6_212.below (by first | exact acc4 | exact (acc4).drew)).rd) (show r6n ≤ 4194304 by omega) Hz10.out (zvlm z6) HE11.out).mono ?_); (rintro e w25 ⟨rfl, hB⟩; have hst5 : Below w24.heap.size w24 w25 := (by first | exact hB | exact below_drew hB); have acc5 := acc4.next hst5; have Xx_h5 := Xx_h4.next hst5; have Xq_h5 := Xq_h4.next hst5; have Xo_h5 := Xo_h4.next hst5; have KXx0_5 : _ = some (Value.bool (decide (x0 < 0))) := Xx_h5.cell 0; have KXx1_5 : _ = some (Value.slice x xn xc) := Xx_h5.cell 1; have KXq0_5 : _ = some (Value.bool (decide (q0 < 0))) := Xq_h5.cell 0; have KXq1_5 : _ = some (Value.slice q qn qc) := Xq_h5.cell 1; have KXo0_5 : _ = some (Value.bool (decide (z6 < 0))) := Xo_h5.cell 0; have KXo1_5 : _ = some (Value.slice r6 r6n r6c) := Xo_h5.cell 1))))
        clear cXa0_213 cXa1_213 cXb0_213 cXb1_213 cXx0_213 cXx1_213 cXy0_213 cXy1_213 cXn0_213 cXn1_213 cXp0_213 cXp1_213 cXr0_213 cXr1_213 cXq0_213 cXq1_213 cXs'0_213 cXs'1_213 cXo0_214 cXo1_214
        have hstep : Below v20.heap.size v20 w25 := (by first | exact acc5 | exact below_drew acc5)
        have Xa_215 := Xa_194.next hstep
        have Xb_216 := Xb_195.next hstep
        have Xx_217 := Xx_196.next hstep
        have Xy_218 := Xy_197.next hstep
        have Xn_219 := Xn_198.next hstep
        have Xp_220 := Xp_199.next hstep
        have Xr_221 := Xr_200.next hstep
        have Xq_222 := Xq_201.next hstep
        have Xs'_223 := Xs'_202.next hstep
        have Xo_224 := Xo_214.next hstep
        have Ra_225 := Ra_203.below hstep
        have Rb_226 := Rb_204.below hstep
        have Og_227 := Og_205.below hstep
        have Ox_228 := Ox_206.below hstep
        have Oy_229 := Oy_207.below hstep
        have Op_230 := Op_208.below hstep
        have Or_231 := Or_209.below hstep
        have Oq_232 := Oq_210.below hstep
        have Os'_233 := Os'_211.below hstep
        have Or6_234 := Or6_212.below hstep
        have hbel235 := hbel213.next hstep
        have hle235 := hbel235.size
        have hls235 := hstep.size
        clear Xa_194 Xb_195 Xx_196 Xy_197 Xn_198 Xp_199 Xr_200 Xq_201 Xs'_202 Xo_214 Ra_203 Rb_204 Og_205 Ox_206 Oy_207 Op_208 Or_209 Oq_210 Os'_211 Or6_212 hbel213 hstep
        have cXa0_235 : _ = some (Value.bool sa) := Xa_215.cell 0
        have cXa1_235 : _ = some (Value.slice a na ca) := Xa_215.cell 1
        have cXb0_235 : _ = some (Value.bool sb) := Xb_216.cell 0
        have cXb1_235 : _ = some (Value.slice b nb cb) := Xb_216.cell 1
        have cXx0_235 : _ = some (Value.bool (decide (x0 < 0))) := Xx_217.cell 0
        have cXx1_235 : _ = some (Value.slice x xn xc) := Xx_217.cell 1
        have cXy0_235 : _ = some (Value.bool (decide (y0 < 0))) := Xy_218.cell 0
        have cXy1_235 : _ = some (Value.slice y yn yc) := Xy_218.cell 1
        have cXn0_235 : _ = some (Value.bool false) := Xn_219.cell 0
        have cXn1_235 : _ = some (Value.slice g gn gc) := Xn_219.cell 1
        have cXp0_235 : _ = some (Value.bool (decide (p0 < 0))) := Xp_220.cell 0
        have cXp1_235 : _ = some (Value.slice p pn pc) := Xp_220.cell 1
        have cXr0_235 : _ = some (Value.bool false) := Xr_221.cell 0
        have cXr1_235 : _ = some (Value.slice r rn rc) := Xr_221.cell 1
        have cXq0_235 : _ = some (Value.bool (decide (q0 < 0))) := Xq_222.cell 0
        have cXq1_235 : _ = some (Value.slice q qn qc) := Xq_222.cell 1
        have cXs'0_235 : _ = some (Value.bool false) := Xs'_223.cell 0
        have cXs'1_235 : _ = some (Value.slice s' s'n s'c) := Xs'_223.cell 1
        have cXo0_235 : _ = some (Value.bool (decide (z6 < 0))) := Xo_224.cell 0
        have cXo1_235 : _ = some (Value.slice r6 r6n r6c) := Xo_224.cell 1
        clear acc0 acc1 acc2 acc3 acc4 acc5 hst1 hst2 hst3 hst4 hst5 KXx0_0 KXx1_0 KXq0_0 KXq1_0 KXo0_0 KXo1_0 KXx0_1 KXx1_1 KXq0_1 KXq1_1 KXo0_1 KXo1_1 KXx0_2 KXx1_2 KXq0_2 KXq1_2 KXo0_2 KXo1_2 KXx0_3 KXx1_3 KXq0_3 KXq1_3 KXo0_3 KXo1_3 KXx0_4 KXx1_4 KXq0_4 KXq1_4 KXo0_4 KXo1_4 KXx0_5 KXx1_5 KXq0_5 KXq1_5 KXo0_5 KXo1_5 Xx_h0 Xx_h1 Xx_h2 Xx_h3 Xx_h4 Xx_h5 Xq_h0 Xq_h1 Xq_h2 Xq_h3 Xq_h4 Xq_h5 Xo_h0 Xo_h1 Xo_h2 Xo_h3 Xo_h4 Xo_h5
        all_goals (go_wp2_with fail; go_meet; exact ⟨rfl, Xy_218, Xp_220, Xo_224, Xr_221, Xs'_223, Oy_229.mono (by omega), Op_230.mono (by omega), Or6_234.mono (by omega), Or_231.mono (by omega), Os'_233.mono (by omega), (by first | exact hbel235 | exact ⟨hbel235.os, hbel235.tape, hbel235.output, hbel235.size, hbel235.block⟩)⟩)
      · skip
        obtain ⟨z7, hzz⟩ : ∃ z, zv false (val (lm x0.natAbs)) = z := ⟨_, rfl⟩
        have Hz7 := hid hzz
        clear hzz
        obtain ⟨z8, hzz⟩ : ∃ z, zv false (val (lm q0.natAbs)) = z := ⟨_, rfl⟩
        have Hz8 := hid hzz
        clear hzz
        obtain ⟨c1, hc1⟩ : ∃ c, cmpZ z7 z8 = c := ⟨_, rfl⟩
        have hc2 : -1 ≤ c1 ∧ c1 ≤ 0 := by have h1 := size_abs (zvlm x0) Hz7.out; have h2 := size_abs (zvlm q0) Hz8.out; have h4 := cmpZ_cases z7 z8; omega
        have HCc := hid hc1
        clear hc1 hc
        have hd1 : decide (c1 ≤ 0) = true := decide_eq_true hc2.2
        have HE9 := hid (show cmpZ z7 z8 = c1 from (by exact HCc.out))
        go_wp2_with fail
        have KXx0_0 : _ = some (Value.bool (decide (x0 < 0))) := Xx_196.cell 0
        have KXx1_0 : _ = some (Value.slice x xn xc) := Xx_196.cell 1
        have KXq0_0 : _ = some (Value.bool (decide (q0 < 0))) := Xq_201.cell 0
        have KXq1_0 : _ = some (Value.slice q qn qc) := Xq_201.cell 1
        have KXo0_0 : _ = some (Value.bool (decide (z6 < 0))) := Xo_214.cell 0
        have KXo1_0 : _ = some (Value.slice r6 r6n r6c) := Xo_214.cell 1
        have Xx_h0 := Xx_196
        have Xq_h0 := Xq_201
        have Xo_h0 := Xo_214
        have acc0 : Below v20.heap.size v20 v20 := Below.refl _ _
        go_region_with
          (first
            | (go_at_call 36; ((with_reducible refine (zsize_any (decide (x0 < 0)) (show Rd _ x xn xc (lm x0.natAbs) from (Ox_206.below (by first | exact acc0 | exact (acc0).drew)).rd) (by omega)).mono ?_); (rintro e w21 ⟨rfl, hB⟩; have hst1 : Below v20.heap.size v20 w21 := (by first | exact hB | exact below_drew hB); have acc1 := acc0.next hst1; have Xx_h1 := Xx_h0.next hst1; have Xq_h1 := Xq_h0.next hst1; have Xo_h1 := Xo_h0.next hst1; have KXx0_1 : _ = some (Value.bool (decide (x0 < 0))) := Xx_h1.cell 0; have KXx1_1 : _ = some (Value.slice x xn xc) := Xx_h1.cell 1; have KXq0_1 : _ = some (Value.bool (decide (q0 < 0))) := Xq_h1.cell 0; have KXq1_1 : _ = some (Value.slice q qn qc) := Xq_h1.cell 1; have KXo0_1 : _ = some (Value.bool (decide (z6 < 0))) := Xo_h1.cell 0; have KXo1_1 : _ = some (Value.slice r6 r6n r6c) := Xo_h1.cell 1)))
            | (go_at_call 36; ((with_reducible refine (zsize_any (decide (q0 < 0)) (show Rd _ q qn qc (lm q0.natAbs) from (Oq_210.below (by first | exact acc1 | exact (acc1).drew)).rd) (by omega)).mono ?_); (rintro e w22 ⟨rfl, hB⟩; have hst2 : Below w21.heap.size w21 w22 := (by first | exact hB | exact below_drew hB); have acc2 := acc1.next hst2; have Xx_h2 := Xx_h1.next hst2; have Xq_h2 := Xq_h1.next hst2; have Xo_h2 := Xo_h1.next hst2; have KXx0_2 : _ = some (Value.bool (decide (x0 < 0))) := Xx_h2.cell 0; have KXx1_2 : _ = some (Value.slice x xn xc) := Xx_h2.cell 1; have KXq0_2 : _ = some (Value.bool (decide (q0 < 0))) := Xq_h2.cell 0; have KXq1_2 : _ = some (Value.slice q qn qc) := Xq_h2.cell 1; have KXo0_2 : _ = some (Value.bool (decide (z6 < 0))) := Xo_h2.cell 0; have KXo1_2 : _ = some (Value.slice r6 r6n r6c) := Xo_h2.cell 1)))
            | (go_at_call 20; ((with_reducible refine (zcmpG (show Rd _ x xn xc (lm x0.natAbs) from (Ox_206.below (by first | exact acc2 | exact (acc2).drew)).rd) (show xn ≤ 4194304 by omega) (show Rd _ q qn qc (lm q0.natAbs) from (Oq_210.below (by first | exact acc2 | exact (acc2).drew)).rd) (show qn ≤ 4194304 by omega) Hz7.out Hz8.out HE9.out).mono ?_); (rintro e w23 ⟨rfl, hB⟩; have hst3 : Below w22.heap.size w22 w23 := (by first | exact hB | exact below_drew hB); have acc3 := acc2.next hst3; have Xx_h3 := Xx_h2.next hst3; have Xq_h3 := Xq_h2.next hst3; have Xo_h3 := Xo_h2.next hst3; have KXx0_3 : _ = some (Value.bool (decide (x0 < 0))) := Xx_h3.cell 0; have KXx1_3 : _ = some (Value.slice x xn xc) := Xx_h3.cell 1; have KXq0_3 : _ = some (Value.bool (decide (q0 < 0))) := Xq_h3.cell 0; have KXq1_3 : _ = some (Value.slice q qn qc) := Xq_h3.cell 1; have KXo0_3 : _ = some (Value.bool (decide (z6 < 0))) := Xo_h3.cell 0; have KXo1_3 : _ = some (Value.slice r6 r6n r6c) := Xo_h3.cell 1))))
        all_goals
          clear cXa0_213 cXa1_213 cXb0_213 cXb1_213 cXx0_213 cXx1_213 cXy0_213 cXy1_213 cXn0_213 cXn1_213 cXp0_213 cXp1_213 cXr0_213 cXr1_213 cXq0_213 cXq1_213 cXs'0_213 cXs'1_213 cXo0_214 cXo1_214
          have hstep : Below v20.heap.size v20 w23 := (by first | exact acc3 | exact below_drew acc3)
          have Xa_215 := Xa_194.next hstep
          have Xb_216 := Xb_195.next hstep
          have Xx_217 := Xx_196.next hstep
          have Xy_218 := Xy_197.next hstep
          have Xn_219 := Xn_198.next hstep
          have Xp_220 := Xp_199.next hstep
          have Xr_221 := Xr_200.next hstep
          have Xq_222 := Xq_201.next hstep
          have Xs'_223 := Xs'_202.next hstep
          have Xo_224 := Xo_214.next hstep
          have Ra_225 := Ra_203.below hstep
          have Rb_226 := Rb_204.below hstep
          have Og_227 := Og_205.below hstep
          have Ox_228 := Ox_206.below hstep
          have Oy_229 := Oy_207.below hstep
          have Op_230 := Op_208.below hstep
          have Or_231 := Or_209.below hstep
          have Oq_232 := Oq_210.below hstep
          have Os'_233 := Os'_211.below hstep
          have Or6_234 := Or6_212.below hstep
          have hbel235 := hbel213.next hstep
          have hle235 := hbel235.size
          have hls235 := hstep.size
          clear Xa_194 Xb_195 Xx_196 Xy_197 Xn_198 Xp_199 Xr_200 Xq_201 Xs'_202 Xo_214 Ra_203 Rb_204 Og_205 Ox_206 Oy_207 Op_208 Or_209 Oq_210 Os'_211 Or6_212 hbel213 hstep
          have cXa0_235 : _ = some (Value.bool sa) := Xa_215.cell 0
          have cXa1_235 : _ = some (Value.slice a na ca) := Xa_215.cell 1
          have cXb0_235 : _ = some (Value.bool sb) := Xb_216.cell 0
          have cXb1_235 : _ = some (Value.slice b nb cb) := Xb_216.cell 1
          have cXx0_235 : _ = some (Value.bool (decide (x0 < 0))) := Xx_217.cell 0
          have cXx1_235 : _ = some (Value.slice x xn xc) := Xx_217.cell 1
          have cXy0_235 : _ = some (Value.bool (decide (y0 < 0))) := Xy_218.cell 0
          have cXy1_235 : _ = some (Value.slice y yn yc) := Xy_218.cell 1
          have cXn0_235 : _ = some (Value.bool false) := Xn_219.cell 0
          have cXn1_235 : _ = some (Value.slice g gn gc) := Xn_219.cell 1
          have cXp0_235 : _ = some (Value.bool (decide (p0 < 0))) := Xp_220.cell 0
          have cXp1_235 : _ = some (Value.slice p pn pc) := Xp_220.cell 1
          have cXr0_235 : _ = some (Value.bool false) := Xr_221.cell 0
          have cXr1_235 : _ = some (Value.slice r rn rc) := Xr_221.cell 1
          have cXq0_235 : _ = some (Value.bool (decide (q0 < 0))) := Xq_222.cell 0
          have cXq1_235 : _ = some (Value.slice q qn qc) := Xq_222.cell 1
          have cXs'0_235 : _ = some (Value.bool false) := Xs'_223.cell 0
          have cXs'1_235 : _ = some (Value.slice s' s'n s'c) := Xs'_223.cell 1
          have cXo0_235 : _ = some (Value.bool (decide (z6 < 0))) := Xo_224.cell 0
          have cXo1_235 : _ = some (Value.slice r6 r6n r6c) := Xo_224.cell 1
          clear acc0 acc1 acc2 acc3 hst1 hst2 hst3 KXx0_0 KXx1_0 KXq0_0 KXq1_0 KXo0_0 KXo1_0 KXx0_1 KXx1_1 KXq0_1 KXq1_1 KXo0_1 KXo1_1 KXx0_2 KXx1_2 KXq0_2 KXq1_2 KXo0_2 KXo1_2 KXx0_3 KXx1_3 KXq0_3 KXq1_3 KXo0_3 KXo1_3 Xx_h0 Xx_h1 Xx_h2 Xx_h3 Xq_h0 Xq_h1 Xq_h2 Xq_h3 Xo_h0 Xo_h1 Xo_h2 Xo_h3
        all_goals (go_wp2_with fail; go_meet; exact ⟨rfl, Xy_218, Xp_220, Xo_224, Xr_221, Xs'_223, Oy_229.mono (by omega), Op_230.mono (by omega), Or6_234.mono (by omega), Or_231.mono (by omega), Os'_233.mono (by omega), (by first | exact hbel235 | exact ⟨hbel235.os, hbel235.tape, hbel235.output, hbel235.size, hbel235.block⟩)⟩)
    case rest =>
      clear Xa_194 Xb_195 Xx_196 Xy_197 Xn_198 Xp_199 Xr_200 Xq_201 Xs'_202 Xo_214 Og_205 Ox_206 Oy_207 Op_208 Or_209 Oq_210 Os'_211 Or6_212 Ra_203 Rb_204 cXa0_213 cXa1_213 cXb0_213 cXb1_213 cXx0_213 cXx1_213 cXy0_213 cXy1_213 cXn0_213 cXn1_213 cXp0_213 cXp1_213 cXr0_213 cXr1_213 cXq0_213 cXq1_213 cXs'0_213 cXs'1_213 cXo0_214 cXo1_214 hbel213
      obtain ⟨rfl, Xy_c215, Xp_c215, Xo_c215, Xr_c215, Xs'_c215, Oy_c215, Op_c215, Or6_c215, Or_c215, Os'_c215, hbelc215⟩ := hcut
      have hlec215 := hbelc215.size
      have cXy0_215 : _ = some (Value.bool (decide (y0 < 0))) := Xy_c215.cell 0
      have cXy1_215 : _ = some (Value.slice y yn yc) := Xy_c215.cell 1
      have cXp0_215 : _ = some (Value.bool (decide (p0 < 0))) := Xp_c215.cell 0
      have cXp1_215 : _ = some (Value.slice p pn pc) := Xp_c215.cell 1
      have cXo0_215 : _ = some (Value.bool (decide (z6 < 0))) := Xo_c215.cell 0
      have cXo1_215 : _ = some (Value.slice r6 r6n r6c) := Xo_c215.cell 1
      have cXr0_215 : _ = some (Value.bool false) := Xr_c215.cell 0
      have cXr1_215 : _ = some (Value.slice r rn rc) := Xr_c215.cell 1
      have cXs'0_215 : _ = some (Value.bool false) := Xs'_c215.cell 0
      have cXs'1_215 : _ = some (Value.slice s' s'n s'c) := Xs'_c215.cell 1
      go_wp2_with fail
      go_cut [18] from 88 to 100 (fun s18 wx => s18 = .bool true ∧ Blk wx (w13.heap.size + 1) #[Value.bool false, Value.slice r rn rc] ∧ Blk wx (w16.heap.size + 1) #[Value.bool false, Value.slice s' s'n s'c] ∧ Own w.heap.size wx r rn rc (lm (Int.natAbs 0)) ∧ Own w.heap.size wx s' s'n s'c (lm (Int.natAbs 0)) ∧ Below w.heap.size w wx)
      case first =>
        rcases Nat.lt_or_ge p0.natAbs y0.natAbs with hc | hc
        · skip
          have HC1 : Hid (y0.natAbs ≤ 1) := by show _ ≤ _; have := HYC.out; omega
          have HC0 := hid hc
          clear hc
          obtain ⟨z10, hzz⟩ : ∃ z, zv false (val (lm y0.natAbs)) = z := ⟨_, rfl⟩
          have Hz10 := hid hzz
          clear hzz
          obtain ⟨z11, hzz⟩ : ∃ z, zv false (val (lm p0.natAbs)) = z := ⟨_, rfl⟩
          have Hz11 := hid hzz
          clear hzz
          have HE12 := hid (show cmpZ z10 z11 = 1 from (by have h1 := size_abs (zvlm y0) Hz10.out; have h2 := size_abs (zvlm p0) Hz11.out; have h3 := HC0.out; have h4 := cmpZ_cases z10 z11; omega))
          obtain ⟨z13, hzz⟩ : ∃ z, zv false (val (lm y0.natAbs)) = z := ⟨_, rfl⟩
          have Hz13 := hid hzz
          clear hzz
          obtain ⟨c1, hc1⟩ : ∃ c, cmpZ z13 z6 = c := ⟨_, rfl⟩
          have hc2 : -1 ≤ c1 ∧ c1 ≤ 0 := by have h1 := size_abs (zvlm y0) Hz13.out; have h3 := HC1.out; have h4 := cmpZ_cases z13 z6; have h5 := HONE.out; omega
          have HCc := hid hc1
          clear hc1
          have hd1 : decide (c1 ≤ 0) = true := decide_eq_true hc2.2
          have HE14 := hid (show cmpZ z13 z6 = c1 from (by exact HCc.out))
          go_wp2_with fail
          have KXy0_0 : _ = some (Value.bool (decide (y0 < 0))) := Xy_c215.cell 0
          have KXy1_0 : _ = some (Value.slice y yn yc) := Xy_c215.cell 1
          have KXp0_0 : _ = some (Value.bool (decide (p0 < 0))) := Xp_c215.cell 0
          have KXp1_0 : _ = some (Value.slice p pn pc) := Xp_c215.cell 1
          have KXo0_0 : _ = some (Value.bool (decide (z6 < 0))) := Xo_c215.cell 0
          have KXo1_0 : _ = some (Value.slice r6 r6n r6c) := Xo_c215.cell 1
          have Xy_h0 := Xy_c215
          have Xp_h0 := Xp_c215
          have Xo_h0 := Xo_c215
          have acc0 : Below wc.heap.size wc wc := Below.refl _ _
          go_region_held3 (fun w' => w'.cell? ⟨w4.heap.size + 1, 0, none⟩ = some (Value.bool (decide (y0 < 0))) ∧ w'.cell? ⟨w4.heap.size + 1, 1, none⟩ = some (Value.slice y yn yc) ∧ w'.cell? ⟨w13.heap.size, 0, none⟩ = some (Value.bool (decide (p0 < 0))) ∧ w'.cell? ⟨w13.heap.size, 1, none⟩ = some (Value.slice p pn pc) ∧ w'.cell? ⟨w19.heap.size, 0, none⟩ = some (Value.bool (decide (z6 < 0))) ∧ w'.cell? ⟨w19.heap.size, 1, none⟩ = some (Value.slice r6 r6n r6c))
            (first | exact ⟨KXy0_0, KXy1_0, KXp0_0, KXp1_0, KXo0_0, KXo1_0⟩ | exact ⟨KXy0_1, KXy1_1, KXp0_1, KXp1_1, KXo0_1, KXo1_1⟩ | exact ⟨KXy0_2, KXy1_2, KXp0_2, KXp1_2, KXo0_2, KXo1_2⟩ | exact ⟨KXy0_3, KXy1_3, KXp0_3, KXp1_3, KXo0_3, KXo1_3⟩ | exact ⟨KXy0_4, KXy1_4, KXp0_4, KXp1_4, KXo0_4, KXo1_4⟩ | exact ⟨KXy0_5, KXy1_5, KXp0_5, KXp1_5, KXo0_5, KXo1_5⟩ | go_keep)
            (first
              | (go_at_call 36; ((with_reducible refine (zsize_any (decide (y0 < 0)) (show Rd _ y yn yc (lm y0.natAbs) from (Oy_c215.below (by first | exact acc0 | exact (acc0).drew)).rd) (by omega)).mono ?_); (rintro e w22 ⟨rfl, hB⟩; have hst1 : Below wc.heap.size wc w22 := (by first | exact hB | exact below_drew hB); have acc1 := acc0.next hst1; have Xy_h1 := Xy_h0.next hst1; have Xp_h1 := Xp_h0.next hst1; have Xo_h1 := Xo_h0.next hst1; have KXy0_1 : _ = some (Value.bool (decide (y0 < 0))) := Xy_h1.cell 0; have KXy1_1 : _ = some (Value.slice y yn yc) := Xy_h1.cell 1; have KXp0_1 : _ = some (Value.bool (decide (p0 < 0))) := Xp_h1.cell 0; have KXp1_1 : _ = some (Value.slice p pn pc) := Xp_h1.cell 1; have KXo0_1 : _ = some (Value.bool (decide (z6 < 0))) := Xo_h1.cell 0; have KXo1_1 : _ = some (Value.slice r6 r6n r6c) := Xo_h1.cell 1)))
              | (go_at_call 36; ((with_reducible refine (zsize_any (decide (p0 < 0)) (show Rd _ p pn pc (lm p0.natAbs) from (Op_c215.below (by first | exact acc1 | exact (acc1).drew)).rd) (by omega)).mono ?_); (rintro e w23 ⟨rfl, hB⟩; have hst2 : Below w22.heap.size w22 w23 := (by first | exact hB | exact below_drew hB); have acc2 := acc1.next hst2; have Xy_h2 := Xy_h1.next hst2; have Xp_h2 := Xp_h1.next hst2; have Xo_h2 := Xo_h1.next hst2; have KXy0_2 : _ = some (Value.bool (decide (y0 < 0))) := Xy_h2.cell 0; have KXy1_2 : _ = some (Value.slice y yn yc) := Xy_h2.cell 1; have KXp0_2 : _ = some (Value.bool (decide (p0 < 0))) := Xp_h2.cell 0; have KXp1_2 : _ = some (Value.slice p pn pc) := Xp_h2.cell 1; have KXo0_2 : _ = some (Value.bool (decide (z6 < 0))) := Xo_h2.cell 0; have KXo1_2 : _ = some (Value.slice r6 r6n r6c) := Xo_h2.cell 1)))
              | (go_at_call 20; ((with_reducible refine (zcmpG (show Rd _ y yn yc (lm y0.natAbs) from (Oy_c215.below (by first | exact acc2 | exact (acc2).drew)).rd) (show yn ≤ 4194304 by omega) (show Rd _ p pn pc (lm p0.natAbs) from (Op_c215.below (by first | exact acc2 | exact (acc2).drew)).rd) (show pn ≤ 4194304 by omega) Hz10.out Hz11.out HE12.out).mono ?_); (rintro e w24 ⟨rfl, hB⟩; have hst3 : Below w23.heap.size w23 w24 := (by first | exact hB | exact below_drew hB); have acc3 := acc2.next hst3; have Xy_h3 := Xy_h2.next hst3; have Xp_h3 := Xp_h2.next hst3; have Xo_h3 := Xo_h2.next hst3; have KXy0_3 : _ = some (Value.bool (decide (y0 < 0))) := Xy_h3.cell 0; have KXy1_3 : _ = some (Value.slice y yn yc) := Xy_h3.cell 1; have KXp0_3 : _ = some (Value.bool (decide (p0 < 0))) := Xp_h3.cell 0; have KXp1_3 : _ = some (Value.slice p pn pc) := Xp_h3.cell 1; have KXo0_3 : _ = some (Value.bool (decide (z6 < 0))) := Xo_h3.cell 0; have KXo1_3 : _ = some (Value.slice r6 r6n r6c) := Xo_h3.cell 1)))
              | (go_at_call 36; ((with_reducible refine (zsize_any (decide (y0 < 0)) (show Rd _ y yn yc (lm y0.natAbs) from (Oy_c215.below (by first | exact acc3 | exact (acc3).drew)).rd) (by omega)).mono ?_); (rintro e w25 ⟨rfl, hB⟩; have hst4 : Below w24.heap.size w24 w25 := (by first | exact hB | exact below_drew hB); have acc4 := acc3.next hst4; have Xy_h4 := Xy_h3.next hst4; have Xp_h4 := Xp_h3.next hst4; have Xo_h4 := Xo_h3.next hst4; have KXy0_4 : _ = some (Value.bool (decide (y0 < 0))) := Xy_h4.cell 0; have KXy1_4 : _ = some (Value.slice y yn yc) := Xy_h4.cell 1; have KXp0_4 : _ = some (Value.bool (decide (p0 < 0))) := Xp_h4.cell 0; have KXp1_4 : _ = some (Value.slice p pn pc) := Xp_h4.cell 1; have KXo0_4 : _ = some (Value.bool (decide (z6 < 0))) := Xo_h4.cell 0; have KXo1_4 : _ = some (Value.slice r6 r6n r6c) := Xo_h4.cell 1)))
              | (go_at_call 20; ((with_reducible refine (zcmpG (show Rd _ y yn yc (lm y0.natAbs) from (Oy_c215.below (by first | exact acc4 | exact (acc4).drew)).rd) (show yn ≤ 4194304 by omega) (show Rd _ r6 r6n r6c (lm z6.natAbs) from (Or6_c215.below (by first | exact acc4 | exact (acc4).drew)).rd) (show r6n ≤ 4194304 by omega) Hz13.out (zvlm z6) HE14.out).mono ?_); (rintro e w26 ⟨rfl, hB⟩; have hst5 : Below w25.heap.size w25 w26 := (by first | exact hB | exact below_drew hB); have acc5 := acc4.next hst5; have Xy_h5 := Xy_h4.next hst5; have Xp_h5 := Xp_h4.next hst5; have Xo_h5 := Xo_h4.next hst5; have KXy0_5 : _ = some (Value.bool (decide (y0 < 0))) := Xy_h5.cell 0; have KXy1_5 : _ = some (Value.slice y yn yc) := Xy_h5.cell 1; have KXp0_5 : _ = some (Value.bool (decide (p0 < 0))) := Xp_h5.cell 0; have KXp1_5 : _ = some (Value.slice p pn pc) := Xp_h5.cell 1; have KXo0_5 : _ = some (Value.bool (decide (z6 < 0))) := Xo_h5.cell 0; have KXo1_5 : _ = some (Value.slice r6 r6n r6c) := Xo_h5.cell 1))))
          clear cXy0_215 cXy1_215 cXp0_215 cXp1_215 cXo0_215 cXo1_215 cXr0_215 cXr1_215 cXs'0_215 cXs'1_215
          have hstep : Below wc.heap.size wc w26 := (by first | exact acc5 | exact below_drew acc5)
          have Xy_216 := Xy_c215.next hstep
          have Xp_217 := Xp_c215.next hstep
          have Xo_218 := Xo_c215.next hstep
          have Xr_219 := Xr_c215.next hstep
          have Xs'_220 := Xs'_c215.next hstep
          have Oy_221 := Oy_c215.below hstep
          have Op_222 := Op_c215.below hstep
          have Or6_223 := Or6_c215.below hstep
          have Or_224 := Or_c215.below hstep
          have Os'_225 := Os'_c215.below hstep
          have hbel226 := hbelc215.next hstep
          have hle226 := hbel226.size
          have hls226 := hstep.size
          clear Xy_c215 Xp_c215 Xo_c215 Xr_c215 Xs'_c215 Oy_c215 Op_c215 Or6_c215 Or_c215 Os'_c215 hbelc215 hstep
          have cXy0_226 : _ = some (Value.bool (decide (y0 < 0))) := Xy_216.cell 0
          have cXy1_226 : _ = some (Value.slice y yn yc) := Xy_216.cell 1
          have cXp0_226 : _ = some (Value.bool (decide (p0 < 0))) := Xp_217.cell 0
          have cXp1_226 : _ = some (Value.slice p pn pc) := Xp_217.cell 1
          have cXo0_226 : _ = some (Value.bool (decide (z6 < 0))) := Xo_218.cell 0
          have cXo1_226 : _ = some (Value.slice r6 r6n r6c) := Xo_218.cell 1
          have cXr0_226 : _ = some (Value.bool false) := Xr_219.cell 0
          have cXr1_226 : _ = some (Value.slice r rn rc) := Xr_219.cell 1
          have cXs'0_226 : _ = some (Value.bool false) := Xs'_220.cell 0
          have cXs'1_226 : _ = some (Value.slice s' s'n s'c) := Xs'_220.cell 1
          clear acc0 acc1 acc2 acc3 acc4 acc5 hst1 hst2 hst3 hst4 hst5 KXy0_0 KXy1_0 KXp0_0 KXp1_0 KXo0_0 KXo1_0 KXy0_1 KXy1_1 KXp0_1 KXp1_1 KXo0_1 KXo1_1 KXy0_2 KXy1_2 KXp0_2 KXp1_2 KXo0_2 KXo1_2 KXy0_3 KXy1_3 KXp0_3 KXp1_3 KXo0_3 KXo1_3 KXy0_4 KXy1_4 KXp0_4 KXp1_4 KXo0_4 KXo1_4 KXy0_5 KXy1_5 KXp0_5 KXp1_5 KXo0_5 KXo1_5 Xy_h0 Xy_h1 Xy_h2 Xy_h3 Xy_h4 Xy_h5 Xp_h0 Xp_h1 Xp_h2 Xp_h3 Xp_h4 Xp_h5 Xo_h0 Xo_h1 Xo_h2 Xo_h3 Xo_h4 Xo_h5
          all_goals (go_wp2_with fail; go_meet; exact ⟨rfl, Xr_219, Xs'_220, Or_224.mono (by omega), Os'_225.mono (by omega), (by first | exact hbel226 | exact ⟨hbel226.os, hbel226.tape, hbel226.output, hbel226.size, hbel226.block⟩)⟩)
        · skip
          obtain ⟨z10, hzz⟩ : ∃ z, zv false (val (lm y0.natAbs)) = z := ⟨_, rfl⟩
          have Hz10 := hid hzz
          clear hzz
          obtain ⟨z11, hzz⟩ : ∃ z, zv false (val (lm p0.natAbs)) = z := ⟨_, rfl⟩
          have Hz11 := hid hzz
          clear hzz
          obtain ⟨c1, hc1⟩ : ∃ c, cmpZ z10 z11 = c := ⟨_, rfl⟩
          have hc2 : -1 ≤ c1 ∧ c1 ≤ 0 := by have h1 := size_abs (zvlm y0) Hz10.out; have h2 := size_abs (zvlm p0) Hz11.out; have h4 := cmpZ_cases z10 z11; omega
          have HCc := hid hc1
          clear hc1 hc
          have hd1 : decide (c1 ≤ 0) = true := decide_eq_true hc2.2
          have HE12 := hid (show cmpZ z10 z11 = c1 from (by exact HCc.out))
          go_wp2_with fail
          have KXy0_0 : _ = some (Value.bool (decide (y0 < 0))) := Xy_c215.cell 0
          have KXy1_0 : _ = some (Value.slice y yn yc) := Xy_c215.cell 1
          have KXp0_0 : _ = some (Value.bool (decide (p0 < 0))) := Xp_c215.cell 0
          have KXp1_0 : _ = some (Value.slice p pn pc) := Xp_c215.cell 1
          have KXo0_0 : _ = some (Value.bool (decide (z6 < 0))) := Xo_c215.cell 0
          have KXo1_0 : _ = some (Value.slice r6 r6n r6c) := Xo_c215.cell 1
          have Xy_h0 := Xy_c215
          have Xp_h0 := Xp_c215
          have Xo_h0 := Xo_c215
          have acc0 : Below wc.heap.size wc wc := Below.refl _ _
          go_region_with
            (first
              | (go_at_call 36; ((with_reducible refine (zsize_any (decide (y0 < 0)) (show Rd _ y yn yc (lm y0.natAbs) from (Oy_c215.below (by first | exact acc0 | exact (acc0).drew)).rd) (by omega)).mono ?_); (rintro e w22 ⟨rfl, hB⟩; have hst1 : Below wc.heap.size wc w22 := (by first | exact hB | exact below_drew hB); have acc1 := acc0.next hst1; have Xy_h1 := Xy_h0.next hst1; have Xp_h1 := Xp_h0.next hst1; have Xo_h1 := Xo_h0.next hst1; have KXy0_1 : _ = some (Value.bool (decide (y0 < 0))) := Xy_h1.cell 0; have KXy1_1 : _ = some (Value.slice y yn yc) := Xy_h1.cell 1; have KXp0_1 : _ = some (Value.bool (decide (p0 < 0))) := Xp_h1.cell 0; have KXp1_1 : _ = some (Value.slice p pn pc) := Xp_h1.cell 1; have KXo0_1 : _ = some (Value.bool (decide (z6 < 0))) := Xo_h1.cell 0; have KXo1_1 : _ = some (Value.slice r6 r6n r6c) := Xo_h1.cell 1)))
              | (go_at_call 36; ((with_reducible refine (zsize_any (decide (p0 < 0)) (show Rd _ p pn pc (lm p0.natAbs) from (Op_c215.below (by first | exact acc1 | exact (acc1).drew)).rd) (by omega)).mono ?_); (rintro e w23 ⟨rfl, hB⟩; have hst2 : Below w22.heap.size w22 w23 := (by first | exact hB | exact below_drew hB); have acc2 := acc1.next hst2; have Xy_h2 := Xy_h1.next hst2; have Xp_h2 := Xp_h1.next hst2; have Xo_h2 := Xo_h1.next hst2; have KXy0_2 : _ = some (Value.bool (decide (y0 < 0))) := Xy_h2.cell 0; have KXy1_2 : _ = some (Value.slice y yn yc) := Xy_h2.cell 1; have KXp0_2 : _ = some (Value.bool (decide (p0 < 0))) := Xp_h2.cell 0; have KXp1_2 : _ = some (Value.slice p pn pc) := Xp_h2.cell 1; have KXo0_2 : _ = some (Value.bool (decide (z6 < 0))) := Xo_h2.cell 0; have KXo1_2 : _ = some (Value.slice r6 r6n r6c) := Xo_h2.cell 1)))
              | (go_at_call 20; ((with_reducible refine (zcmpG (show Rd _ y yn yc (lm y0.natAbs) from (Oy_c215.below (by first | exact acc2 | exact (acc2).drew)).rd) (show yn ≤ 4194304 by omega) (show Rd _ p pn pc (lm p0.natAbs) from (Op_c215.below (by first | exact acc2 | exact (acc2).drew)).rd) (show pn ≤ 4194304 by omega) Hz10.out Hz11.out HE12.out).mono ?_); (rintro e w24 ⟨rfl, hB⟩; have hst3 : Below w23.heap.size w23 w24 := (by first | exact hB | exact below_drew hB); have acc3 := acc2.next hst3; have Xy_h3 := Xy_h2.next hst3; have Xp_h3 := Xp_h2.next hst3; have Xo_h3 := Xo_h2.next hst3; have KXy0_3 : _ = some (Value.bool (decide (y0 < 0))) := Xy_h3.cell 0; have KXy1_3 : _ = some (Value.slice y yn yc) := Xy_h3.cell 1; have KXp0_3 : _ = some (Value.bool (decide (p0 < 0))) := Xp_h3.cell 0; have KXp1_3 : _ = some (Value.slice p pn pc) := Xp_h3.cell 1; have KXo0_3 : _ = some (Value.bool (decide (z6 < 0))) := Xo_h3.cell 0; have KXo1_3 : _ = some (Value.slice r6 r6n r6c) := Xo_h3.cell 1))))
          all_goals
            clear cXy0_215 cXy1_215 cXp0_215 cXp1_215 cXo0_215 cXo1_215 cXr0_215 cXr1_215 cXs'0_215 cXs'1_215
            have hstep : Below wc.heap.size wc w24 := (by first | exact acc3 | exact below_drew acc3)
            have Xy_216 := Xy_c215.next hstep
            have Xp_217 := Xp_c215.next hstep
            have Xo_218 := Xo_c215.next hstep
            have Xr_219 := Xr_c215.next hstep
            have Xs'_220 := Xs'_c215.next hstep
            have Oy_221 := Oy_c215.below hstep
            have Op_222 := Op_c215.below hstep
            have Or6_223 := Or6_c215.below hstep
            have Or_224 := Or_c215.below hstep
            have Os'_225 := Os'_c215.below hstep
            have hbel226 := hbelc215.next hstep
            have hle226 := hbel226.size
            have hls226 := hstep.size
            clear Xy_c215 Xp_c215 Xo_c215 Xr_c215 Xs'_c215 Oy_c215 Op_c215 Or6_c215 Or_c215 Os'_c215 hbelc215 hstep
            have cXy0_226 : _ = some (Value.bool (decide (y0 < 0))) := Xy_216.cell 0
            have cXy1_226 : _ = some (Value.slice y yn yc) := Xy_216.cell 1
            have cXp0_226 : _ = some (Value.bool (decide (p0 < 0))) := Xp_217.cell 0
            have cXp1_226 : _ = some (Value.slice p pn pc) := Xp_217.cell 1
            have cXo0_226 : _ = some (Value.bool (decide (z6 < 0))) := Xo_218.cell 0
            have cXo1_226 : _ = some (Value.slice r6 r6n r6c) := Xo_218.cell 1
            have cXr0_226 : _ = some (Value.bool false) := Xr_219.cell 0
            have cXr1_226 : _ = some (Value.slice r rn rc) := Xr_219.cell 1
            have cXs'0_226 : _ = some (Value.bool false) := Xs'_220.cell 0
            have cXs'1_226 : _ = some (Value.slice s' s'n s'c) := Xs'_220.cell 1
            clear acc0 acc1 acc2 acc3 hst1 hst2 hst3 KXy0_0 KXy1_0 KXp0_0 KXp1_0 KXo0_0 KXo1_0 KXy0_1 KXy1_1 KXp0_1 KXp1_1 KXo0_1 KXo1_1 KXy0_2 KXy1_2 KXp0_2 KXp1_2 KXo0_2 KXo1_2 KXy0_3 KXy1_3 KXp0_3 KXp1_3 KXo0_3 KXo1_3 Xy_h0 Xy_h1 Xy_h2 Xy_h3 Xp_h0 Xp_h1 Xp_h2 Xp_h3 Xo_h0 Xo_h1 Xo_h2 Xo_h3
          all_goals (go_wp2_with fail; go_meet; exact ⟨rfl, Xr_219, Xs'_220, Or_224.mono (by omega), Os'_225.mono (by omega), (by first | exact hbel226 | exact ⟨hbel226.os, hbel226.tape, hbel226.output, hbel226.size, hbel226.block⟩)⟩)
      case rest =>
        clear Xy_c215 Xp_c215 Xo_c215 Xr_c215 Xs'_c215 Oy_c215 Op_c215 Or6_c215 Or_c215 Os'_c215 cXy0_215 cXy1_215 cXp0_215 cXp1_215 cXo0_215 cXo1_215 cXr0_215 cXr1_215 cXs'0_215 cXs'1_215 hbelc215
        obtain ⟨rfl, Xr_c216, Xs'_c216, Or_c216, Os'_c216, hbelc216⟩ := hcut
        have hlec216 := hbelc216.size
        have cXr0_216 : _ = some (Value.bool false) := Xr_c216.cell 0
        have cXr1_216 : _ = some (Value.slice r rn rc) := Xr_c216.cell 1
        have cXs'0_216 : _ = some (Value.bool false) := Xs'_c216.cell 0
        have cXs'1_216 : _ = some (Value.slice s' s'n s'c) := Xs'_c216.cell 1
        go_wp2_with fail
        have HE13 := hid (show sgn (0 : Int) = 0 from (by rfl))
        have HE14 := hid (show sgn (0 : Int) = 0 from (by rfl))
        go_wp2_with fail
        refine (zsignG (show Rd _ r rn rc (lm (Int.natAbs 0)) from Or_c216.rd) (show rn ≤ 4194304 by omega) (show zv false (val (lm (Int.natAbs 0))) = 0 from by decide +kernel) HE13.out).mono ?_
        rintro e w23 ⟨rfl, hB⟩
        clear cXr0_216 cXr1_216 cXs'0_216 cXs'1_216
        have hstep : Below wc.heap.size wc w23 := (by first | exact hB | exact below_drew hB)
        have Xr_217 := Xr_c216.next hstep
        have Xs'_218 := Xs'_c216.next hstep
        have Or_219 := Or_c216.below hstep
        have Os'_220 := Os'_c216.below hstep
        have hbel221 := hbelc216.next hstep
        have hle221 := hbel221.size
        have hls221 := hstep.size
        clear Xr_c216 Xs'_c216 Or_c216 Os'_c216 hbelc216 hstep
        have cXr0_221 : _ = some (Value.bool false) := Xr_217.cell 0
        have cXr1_221 : _ = some (Value.slice r rn rc) := Xr_217.cell 1
        have cXs'0_221 : _ = some (Value.bool false) := Xs'_218.cell 0
        have cXs'1_221 : _ = some (Value.slice s' s'n s'c) := Xs'_218.cell 1
        go_wp2_with fail
        refine (zsignG (show Rd _ s' s'n s'c (lm (Int.natAbs 0)) from Os'_220.rd) (show s'n ≤ 4194304 by omega) (show zv false (val (lm (Int.natAbs 0))) = 0 from by decide +kernel) HE14.out).mono ?_
        rintro e w24 ⟨rfl, hB⟩
        clear cXr0_221 cXr1_221 cXs'0_221 cXs'1_221
        have hstep : Below w23.heap.size w23 w24 := (by first | exact hB | exact below_drew hB)
        have Xr_222 := Xr_217.next hstep
        have Xs'_223 := Xs'_218.next hstep
        have Or_224 := Or_219.below hstep
        have Os'_225 := Os'_220.below hstep
        have hbel226 := hbel221.next hstep
        have hle226 := hbel226.size
        have hls226 := hstep.size
        clear Xr_217 Xs'_218 Or_219 Os'_220 hbel221 hstep
        have cXr0_226 : _ = some (Value.bool false) := Xr_222.cell 0
        have cXr1_226 : _ = some (Value.slice r rn rc) := Xr_222.cell 1
        have cXs'0_226 : _ = some (Value.bool false) := Xs'_223.cell 0
        have cXs'1_226 : _ = some (Value.slice s' s'n s'c) := Xs'_223.cell 1
        go_wp2
        go_ret
        exact ⟨rfl, hbel226⟩

end Go.Proofs.Ytflmdcmlhpifeaa
