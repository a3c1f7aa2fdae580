/- MEMORY, 5: floors by a natural number above 0. -/
import Derived.Test.YtnpkmlpmeeidbaaRMq
import Derived.Test.YtnpkmlpmeeidbaaRZi
import Derived.Test.YtnpkmlpmeeidbaaRQm
namespace Go.Proofs.Ytnpkmlpmeeidbaa
set_option linter.unusedVariables false
open Go.ChangeShapes Go.WideShapes Go.ChangeAt Go.RowKit Go.NatP

/-! ### floors -/
theorem floor_pos (s : Bool) (A : Nat) {B : Nat} (h : B ≠ 0) :
    (if dvE B = 0 ∧ sgn (zv s (dvR A B)) * sgn (zv false B) < 0 then zv (!(s == false)) (A / B) - 1 else zv (!(s == false)) (A / B)) = zv s A / (B : Int) ∧
    (if dvE B = 0 ∧ sgn (zv s (dvR A B)) * sgn (zv false B) < 0 then zv s (dvR A B) + zv false B else zv s (dvR A B)) = zv s A % (B : Int) := by
  rw [dvE_pos h, dvR_pos h, sgn_pos h]
  have hB : (0 : Int) < (B : Int) := by omega
  have h1 := Nat.div_add_mod A B
  have h2 := Nat.mod_lt A (show 0 < B by omega)
  have key : ∀ q r : Int, zv s A / (B : Int) = q ∧ zv s A % (B : Int) = r ↔ r + (B : Int) * q = zv s A ∧ 0 ≤ r ∧ r < (B : Int) := fun q r => Int.ediv_emod_unique hB
  have e1 : ((B * (A / B) : Nat) : Int) = (B : Int) * ((A / B : Nat) : Int) := Int.natCast_mul _ _
  have e2 : (B : Int) * (-((A / B : Nat) : Int) - 1) = -((B : Int) * ((A / B : Nat) : Int)) - B := by rw [Int.mul_sub, Int.mul_neg, Int.mul_one]
  generalize hP : (B : Int) * ((A / B : Nat) : Int) = P at *
  cases s
  · have hs := sgn_cases (zv false (A % B))
    have hz : zv false (A % B) = ((A % B : Nat) : Int) := by simp [zv]
    rw [if_neg (by omega), if_neg (by omega)]
    have := (key (zv (!(false == false)) (A / B)) (zv false (A % B))).2 (by
      have hz2 : zv false A = (A : Int) := by simp [zv]
      have hz3 : zv (!(false == false)) (A / B) = ((A / B : Nat) : Int) := by simp [zv]
      rw [hz3, hP]
      omega)
    exact ⟨this.1.symm, this.2.symm⟩
  · have hz : zv true (A % B) = -((A % B : Nat) : Int) := by simp [zv]
    have hz2 : zv true A = -(A : Int) := by simp [zv]
    have hz3 : zv (!(true == false)) (A / B) = -((A / B : Nat) : Int) := by simp [zv]
    have hz4 : zv false B = (B : Int) := by simp [zv]
    have hs := sgn_cases (zv true (A % B))
    by_cases h0 : A % B = 0
    · rw [if_neg (by omega), if_neg (by omega)]
      have := (key (zv (!(true == false)) (A / B)) (zv true (A % B))).2 (by
        rw [hz3, Int.mul_neg, hP]
        omega)
      exact ⟨this.1.symm, this.2.symm⟩
    · rw [if_pos ⟨rfl, by omega⟩, if_pos ⟨rfl, by omega⟩]
      have := (key (zv (!(true == false)) (A / B) - 1) (zv true (A % B) + zv false B)).2 (by
        rw [hz3, e2]
        omega)
      exact ⟨this.1.symm, this.2.symm⟩

section
variable {W : World} {a b : Option Addr} {n c m d u v j k : Nat} {s t : Bool} {x y : Int}
theorem zfloorR (ha : RdZ j W s a n c x) (hb : RdN k W b m d v) (hj : j ≤ 4194304) (hk : k ≤ 4194304) (hv : v ≠ 0) :
    Calls Try.prog 119 #[.agg #[.bool s, .slice a n c], .agg #[.bool false, .slice b m d]] W (RetZZ W (x / (v : Int)) (x % (v : Int)) 0) := by
  obtain ⟨u, ⟨la, ha, rfl, hn⟩, rfl⟩ := ha
  obtain ⟨lb, hb, rfl, hm⟩ := hb
  have h := zfloor_any s false ha (by omega) hb (by omega)
  rwa [(floor_pos s (val la) hv).1, (floor_pos s (val la) hv).2, dvE_pos hv] at h
end
end Go.Proofs.Ytnpkmlpmeeidbaa
/- WALKS OF FRACTIONS, 17: floors. -/
namespace Go.Proofs.Ytnpkmlpmeeidbaa
set_option linter.unusedVariables false
set_option linter.unusedSimpArgs false
open Go.ChangeShapes Go.WideShapes Go.ChangeAt Go.RowKit Go.NatP

theorem blk_z2 {W : World} {g : Nat} {a0 a1 v0 v1 : Value} (h : Blk W g #[a0, a1]) : Blk ((W.setCell ⟨g, 0, none⟩ v0).setCell ⟨g, 1, none⟩ v1) g #[v0, v1] :=
  (show Blk _ _ #[_, _] from (h.setCell (i := 0) (v := v0) (by simp)).setCell (i := 1) (v := v1) (by simp))
theorem sz_floor {x : Int} {v j : Nat} (h : Sz x.natAbs j) : Sz (x / (v : Int)).natAbs (j + 1) := by
  have h1 : (x / (v : Int)).natAbs ≤ x.natAbs + 1 := by
    rcases Nat.eq_zero_or_pos v with h0 | h0
    · subst h0; simp
    · have hv : (0 : Int) < v := by omega
      have h2 := Int.mul_ediv_add_emod x v
      have h3 := Int.emod_nonneg x (show (v : Int) ≠ 0 by omega)
      have h4 := Int.emod_lt_of_pos x hv
      generalize x / (v : Int) = q at *
      generalize x % (v : Int) = r at *
      rcases Int.lt_or_le q 0 with hq | hq
      · have h5 : (v : Int) * q ≤ q := by
          have := Int.mul_le_mul_of_nonpos_right (show (1 : Int) ≤ v by omega) (show q ≤ 0 by omega)
          omega
        have h6 : (v : Int) * (q + 1) ≤ q + 1 := by
          have := Int.mul_le_mul_of_nonpos_right (show (1 : Int) ≤ v by omega) (show q + 1 ≤ 0 by omega)
          omega
        rw [Int.mul_add, Int.mul_one] at h6
        omega
      · have h5 : q ≤ (v : Int) * q := by
          have := Int.mul_le_mul_of_nonneg_right (show (1 : Int) ≤ v by omega) hq
          omega
        omega
  have h2 : 1 ≤ 4294967296 ^ j := Nat.pow_pos (by decide)
  show _ < 4294967296 ^ (j + 1)
  have h3 : x.natAbs < 4294967296 ^ j := h
  rw [Nat.pow_succ]
  omega

set_option maxRecDepth 100000 in
set_option maxHeartbeats 8000000 in
theorem qfloor {w : World} {a1 b1 : Option Addr} {n1 c1 m1 d1 : Nat} {s : Bool} {x : Rat} {J : Nat} (hx : RdQ J w s a1 n1 c1 b1 m1 d1 x) (hJ : J ≤ 1000000) :
    Calls Try.prog 55 #[.agg #[.bool s, .slice a1 n1 c1, .slice b1 m1 d1]] w (RetZ w x.floor) := by
  obtain ⟨u1, v1, h1, hd1, rfl⟩ := hx
  have hz1 := h1.toZ (s := s)
  have sd1 := hid (sz_und (hd1.sz.mono (Nat.le_refl _) (Nat.le_succ J)) (by omega))
  have su1 := hid h1.sz
  have hu1 := hid (und_ne v1)
  unfold qv
  rw [floor_mk _ hu1.out]
  have HU1 := hid (fun W (h : RdN J W b1 m1 d1 v1) => qunder (w := W) (s := s) (a := a1) (n := n1) (c := c1) (h.mono (show _ ≤ 4194304 by omega)))
  generalize hD1 : und v1 = e1 at *
  clear hD1
  clear h1
  have sz1 := hid hz1.sz
  generalize zv s u1 = x1 at *
  have sf := hid (show Sz (x1 / (e1 : Int)).natAbs (J + 1) from sz_floor sz1.out)
  obtain ⟨f, hf0⟩ : ∃ f, x1 / (e1 : Int) = f := ⟨_, rfl⟩
  obtain ⟨m, hm0⟩ : ∃ f, x1 % (e1 : Int) = f := ⟨_, rfl⟩
  have hf := hid hf0
  have hm := hid hm0
  rw [hf0] at sf
  rw [hf0]
  clear hf0 hm0
  have hent := ent2 w #[Value.bool s, Value.slice a1 n1 c1, Value.slice b1 m1 d1] #[Value.bool false, Value.slice none 0 0] 29 27
  go_enter Try.func55, Try.ntmps55
  go_wp2_with fail
  generalize ((w.alloc (.cells #[Value.bool s, Value.slice a1 n1 c1, Value.slice b1 m1 d1] 29)).alloc (.cells #[Value.bool false, Value.slice none 0 0] 27)) = W0 at hent ⊢
  obtain ⟨X_0, R0_0, hbel_0, hsz_0⟩ := hent
  have cX_0_0 : _ = some (Value.bool s) := X_0.cell 0
  have cX_0_1 : _ = some (Value.slice a1 n1 c1) := X_0.cell 1
  have cX_0_2 : _ = some (Value.slice b1 m1 d1) := X_0.cell 2
  have cR0_0_0 : _ = some (Value.bool false) := R0_0.cell 0
  have fR0_0_0 := R0_0.free 0
  have cR0_0_1 : _ = some (Value.slice none 0 0) := R0_0.cell 1
  have fR0_0_1 := R0_0.free 1
  have hz1_0 := hz1.below hbel_0
  clear hz1
  have hd1_0 := hd1.below hbel_0
  clear hd1
  go_wp2_with fail
  go_cut [3] (fun s3 wx => BoxZ W0 f s3 wx)
  case first =>
    have acc_0 : Below W0.heap.size W0 W0 := Below.refl _ _
    go_wp2_with fail
    go_region_held3 (fun w' => w'.cell? ⟨w.heap.size, 0, none⟩ = some (Value.bool s) ∧ w'.cell? ⟨w.heap.size, 1, none⟩ = some (Value.slice a1 n1 c1) ∧ w'.cell? ⟨w.heap.size, 2, none⟩ = some (Value.slice b1 m1 d1))
      (first | with_reducible exact ⟨cX_0_0, cX_0_1, cX_0_2⟩ | with_reducible exact ⟨cX_1_0, cX_1_1, cX_1_2⟩ | with_reducible exact ⟨cX_2_0, cX_2_1, cX_2_2⟩ | with_reducible exact ⟨(X_0.alloc _).cell 0, (X_0.alloc _).cell 1, (X_0.alloc _).cell 2⟩ | with_reducible exact ⟨((X_0.alloc _).alloc _).cell 0, ((X_0.alloc _).alloc _).cell 1, ((X_0.alloc _).alloc _).cell 2⟩ | with_reducible exact ⟨(X_1.alloc _).cell 0, (X_1.alloc _).cell 1, (X_1.alloc _).cell 2⟩ | with_reducible exact ⟨((X_1.alloc _).alloc _).cell 0, ((X_1.alloc _).alloc _).cell 1, ((X_1.alloc _).alloc _).cell 2⟩ | with_reducible exact ⟨(X_2.alloc _).cell 0, (X_2.alloc _).cell 1, (X_2.alloc _).cell 2⟩ | with_reducible exact ⟨((X_2.alloc _).alloc _).cell 0, ((X_2.alloc _).alloc _).cell 1, ((X_2.alloc _).alloc _).cell 2⟩ | (refine (fun hX : Blk _ (w.heap.size) #[Value.bool s, Value.slice a1 n1 c1, Value.slice b1 m1 d1] => ⟨hX.cell 0, hX.cell 1, hX.cell 2⟩) ?_; (repeat (first | with_reducible exact X_2 | with_reducible exact X_1 | with_reducible exact X_0 | with_reducible refine Blk.set2 ?_ (by first | omega | (simp only [World.heap_alloc_size, World.heap_setCell_size]; omega) | (simp [World.setCell]; omega) | (simp; omega)) _ _ | with_reducible refine Blk.alloc ?_ _)); done) | exact ⟨cX_0_0, cX_0_1, cX_0_2⟩ | go_keep)
      (first
        | (go_at_call 112; ((with_reducible refine (HU1.out _ (hd1_0.below (by first | exact Below.refl _ _ | exact (Below.refl _ _).drew | exact (Below.refl _ _).alloc (Nat.le_refl _) _ | exact ((Below.refl _ _).alloc (Nat.le_refl _) _).drew | exact (Below.refl _ _).drew.alloc (Nat.le_refl _) _ | exact ((Below.refl _ _).alloc (Nat.le_refl _) _).alloc (by simp) _ | exact (((Below.refl _ _).alloc (Nat.le_refl _) _).alloc (by simp) _).drew))).mono ?_); (rintro e w1 ⟨ua, un, uc, rfl, hO, hB⟩; have hB_1 : Below W0.heap.size W0 w1 := (by first | exact hB | exact below_drew hB | exact bel_alloc hB | exact below_drew (bel_alloc hB) | exact bel_alloc (below_drew hB) | exact bel_alloc (bel_alloc hB) | exact bel_alloc (bel_alloc (below_drew hB))); have X_1 := X_0.next hB_1; have cX_1_0 : _ = some (Value.bool s) := X_1.cell 0; have cX_1_1 : _ = some (Value.slice a1 n1 c1) := X_1.cell 1; have cX_1_2 : _ = some (Value.slice b1 m1 d1) := X_1.cell 2; have R0_1 := R0_0.next hB_1; have cR0_1_0 : _ = some (Value.bool false) := R0_1.cell 0; have fR0_1_0 := R0_1.free 0; have cR0_1_1 : _ = some (Value.slice none 0 0) := R0_1.cell 1; have fR0_1_1 := R0_1.free 1; have hz1_1 := hz1_0.below hB_1; have hd1_1 := hd1_0.below hB_1; have hbel_1 := hbel_0.next hB_1; have hsz_1 := hB_1.size; clear X_0 cX_0_0 cX_0_1 cX_0_2 R0_0 cR0_0_0 fR0_0_0 cR0_0_1 fR0_0_1 hz1_0 hd1_0 hbel_0 hB_1; have acc_1 := acc_0.next (show Below _ _ _ from (by first | exact hB | exact below_drew hB | exact bel_alloc hB | exact below_drew (bel_alloc hB) | exact bel_alloc (below_drew hB) | exact bel_alloc (bel_alloc hB) | exact bel_alloc (bel_alloc (below_drew hB)))); (first | (have A := A.next (show Below _ _ _ from (by first | exact hB | exact below_drew hB | exact bel_alloc hB | exact below_drew (bel_alloc hB) | exact bel_alloc (below_drew hB) | exact bel_alloc (bel_alloc hB) | exact bel_alloc (bel_alloc (below_drew hB)))); have C := C.next (show Below _ _ _ from (by first | exact hB | exact below_drew hB | exact bel_alloc hB | exact below_drew (bel_alloc hB) | exact bel_alloc (below_drew hB) | exact bel_alloc (bel_alloc hB) | exact bel_alloc (bel_alloc (below_drew hB)))); have ltA := A.lt; have cA0 : _ = some (Value.bool false) := A.cell 0; have fA0 := A.free 0; have cA1 : _ = some (Value.slice none 0 0) := A.cell 1; have fA1 := A.free 1; have ltC := C.lt; have cC0 : _ = some (Value.bool false) := C.cell 0; have fC0 := C.free 0; have cC1 : _ = some (Value.slice none 0 0) := C.cell 1; have fC1 := C.free 1) | (have A := A.next (show Below _ _ _ from (by first | exact hB | exact below_drew hB | exact bel_alloc hB | exact below_drew (bel_alloc hB) | exact bel_alloc (below_drew hB) | exact bel_alloc (bel_alloc hB) | exact bel_alloc (bel_alloc (below_drew hB)))); have C := (blk_new' _ #[Value.bool false, Value.slice none 0 0] 27 (g := W0.heap.size) rfl).next (by first | exact hB | exact below_drew hB); have hAC := Nat.ne_of_lt ltA; have hCA := Ne.symm hAC; have ltA := A.lt; have cA0 : _ = some (Value.bool false) := A.cell 0; have fA0 := A.free 0; have cA1 : _ = some (Value.slice none 0 0) := A.cell 1; have fA1 := A.free 1; have ltC := C.lt; have cC0 : _ = some (Value.bool false) := C.cell 0; have fC0 := C.free 0; have cC1 : _ = some (Value.slice none 0 0) := C.cell 1; have fC1 := C.free 1) | (have A := A.next (show Below _ _ _ from (by first | exact hB | exact below_drew hB | exact bel_alloc hB | exact below_drew (bel_alloc hB) | exact bel_alloc (below_drew hB) | exact bel_alloc (bel_alloc hB) | exact bel_alloc (bel_alloc (below_drew hB)))); have ltA := A.lt; have cA0 : _ = some (Value.bool false) := A.cell 0; have fA0 := A.free 0; have cA1 : _ = some (Value.slice none 0 0) := A.cell 1; have fA1 := A.free 1) | (have A := ((blk_new' W0 #[Value.bool false, Value.slice none 0 0] 27 (g := W0.heap.size) rfl).alloc _).next (by first | exact hB | exact below_drew hB); have C := (blk_new' (W0.alloc (.cells #[Value.bool false, Value.slice none 0 0] 27)) #[Value.bool false, Value.slice none 0 0] 27 (g := W0.heap.size + 1) (by first | simp | simp [World.drew])).next (by first | exact hB | exact below_drew hB); have ltA := A.lt; have cA0 : _ = some (Value.bool false) := A.cell 0; have fA0 := A.free 0; have cA1 : _ = some (Value.slice none 0 0) := A.cell 1; have fA1 := A.free 1; have ltC := C.lt; have cC0 : _ = some (Value.bool false) := C.cell 0; have fC0 := C.free 0; have cC1 : _ = some (Value.slice none 0 0) := C.cell 1; have fC1 := C.free 1) | (have A := ((blk_new' W0.drew #[Value.bool false, Value.slice none 0 0] 27 (g := W0.heap.size) rfl).alloc _).next (by first | exact hB | exact below_drew hB); have C := (blk_new' (W0.drew.alloc (.cells #[Value.bool false, Value.slice none 0 0] 27)) #[Value.bool false, Value.slice none 0 0] 27 (g := W0.heap.size + 1) (by first | simp | simp [World.drew])).next (by first | exact hB | exact below_drew hB); have ltA := A.lt; have cA0 : _ = some (Value.bool false) := A.cell 0; have fA0 := A.free 0; have cA1 : _ = some (Value.slice none 0 0) := A.cell 1; have fA1 := A.free 1; have ltC := C.lt; have cC0 : _ = some (Value.bool false) := C.cell 0; have fC0 := C.free 0; have cC1 : _ = some (Value.slice none 0 0) := C.cell 1; have fC1 := C.free 1) | (have A := (blk_new' _ #[Value.bool false, Value.slice none 0 0] 27 (g := W0.heap.size) rfl).next (by first | exact hB | exact below_drew hB); have ltA := A.lt; have cA0 : _ = some (Value.bool false) := A.cell 0; have fA0 := A.free 0; have cA1 : _ = some (Value.slice none 0 0) := A.cell 1; have fA1 := A.free 1) | skip); have U_1 := hO.rdN sd1.out; clear hO; try clear hB)))
        | (go_at_call 119; ((with_reducible refine (zfloorR (hz1_1.below (by first | exact Below.refl _ _ | exact (Below.refl _ _).drew | exact (Below.refl _ _).alloc (Nat.le_refl _) _ | exact ((Below.refl _ _).alloc (Nat.le_refl _) _).drew | exact (Below.refl _ _).drew.alloc (Nat.le_refl _) _ | exact ((Below.refl _ _).alloc (Nat.le_refl _) _).alloc (by simp) _ | exact (((Below.refl _ _).alloc (Nat.le_refl _) _).alloc (by simp) _).drew)) (U_1.below (by first | exact Below.refl _ _ | exact (Below.refl _ _).drew | exact (Below.refl _ _).alloc (Nat.le_refl _) _ | exact ((Below.refl _ _).alloc (Nat.le_refl _) _).drew | exact (Below.refl _ _).drew.alloc (Nat.le_refl _) _ | exact ((Below.refl _ _).alloc (Nat.le_refl _) _).alloc (by simp) _ | exact (((Below.refl _ _).alloc (Nat.le_refl _) _).alloc (by simp) _).drew)) (by omega) (by omega) hu1.out).mono ?_); (rw [hf.out, hm.out]; rintro e w2 ⟨fa, fn, fc, ga, gn, gc, rfl, hO, hO', hD, hB⟩; have hB_2 : Below w1.heap.size w1 w2 := (by first | exact hB | exact below_drew hB | exact bel_alloc hB | exact below_drew (bel_alloc hB) | exact bel_alloc (below_drew hB) | exact bel_alloc (bel_alloc hB) | exact bel_alloc (bel_alloc (below_drew hB))); have X_2 := X_1.next hB_2; have cX_2_0 : _ = some (Value.bool s) := X_2.cell 0; have cX_2_1 : _ = some (Value.slice a1 n1 c1) := X_2.cell 1; have cX_2_2 : _ = some (Value.slice b1 m1 d1) := X_2.cell 2; have R0_2 := R0_1.next hB_2; have cR0_2_0 : _ = some (Value.bool false) := R0_2.cell 0; have fR0_2_0 := R0_2.free 0; have cR0_2_1 : _ = some (Value.slice none 0 0) := R0_2.cell 1; have fR0_2_1 := R0_2.free 1; have hz1_2 := hz1_1.below hB_2; have hd1_2 := hd1_1.below hB_2; have U_2 := U_1.below hB_2; have hbel_2 := hbel_1.next hB_2; have hsz_2 := hB_2.size; clear X_1 cX_1_0 cX_1_1 cX_1_2 R0_1 cR0_1_0 fR0_1_0 cR0_1_1 fR0_1_1 hz1_1 hd1_1 U_1 hbel_1 hB_2; have acc_2 := acc_1.next (show Below _ _ _ from (by first | exact hB | exact below_drew hB | exact bel_alloc hB | exact below_drew (bel_alloc hB) | exact bel_alloc (below_drew hB) | exact bel_alloc (bel_alloc hB) | exact bel_alloc (bel_alloc (below_drew hB)))); (first | (have A := A.next (show Below _ _ _ from (by first | exact hB | exact below_drew hB | exact bel_alloc hB | exact below_drew (bel_alloc hB) | exact bel_alloc (below_drew hB) | exact bel_alloc (bel_alloc hB) | exact bel_alloc (bel_alloc (below_drew hB)))); have C := C.next (show Below _ _ _ from (by first | exact hB | exact below_drew hB | exact bel_alloc hB | exact below_drew (bel_alloc hB) | exact bel_alloc (below_drew hB) | exact bel_alloc (bel_alloc hB) | exact bel_alloc (bel_alloc (below_drew hB)))); have ltA := A.lt; have cA0 : _ = some (Value.bool false) := A.cell 0; have fA0 := A.free 0; have cA1 : _ = some (Value.slice none 0 0) := A.cell 1; have fA1 := A.free 1; have ltC := C.lt; have cC0 : _ = some (Value.bool false) := C.cell 0; have fC0 := C.free 0; have cC1 : _ = some (Value.slice none 0 0) := C.cell 1; have fC1 := C.free 1) | (have A := A.next (show Below _ _ _ from (by first | exact hB | exact below_drew hB | exact bel_alloc hB | exact below_drew (bel_alloc hB) | exact bel_alloc (below_drew hB) | exact bel_alloc (bel_alloc hB) | exact bel_alloc (bel_alloc (below_drew hB)))); have C := (blk_new' _ #[Value.bool false, Value.slice none 0 0] 27 (g := w1.heap.size) rfl).next (by first | exact hB | exact below_drew hB); have hAC := Nat.ne_of_lt ltA; have hCA := Ne.symm hAC; have ltA := A.lt; have cA0 : _ = some (Value.bool false) := A.cell 0; have fA0 := A.free 0; have cA1 : _ = some (Value.slice none 0 0) := A.cell 1; have fA1 := A.free 1; have ltC := C.lt; have cC0 : _ = some (Value.bool false) := C.cell 0; have fC0 := C.free 0; have cC1 : _ = some (Value.slice none 0 0) := C.cell 1; have fC1 := C.free 1) | (have A := A.next (show Below _ _ _ from (by first | exact hB | exact below_drew hB | exact bel_alloc hB | exact below_drew (bel_alloc hB) | exact bel_alloc (below_drew hB) | exact bel_alloc (bel_alloc hB) | exact bel_alloc (bel_alloc (below_drew hB)))); have ltA := A.lt; have cA0 : _ = some (Value.bool false) := A.cell 0; have fA0 := A.free 0; have cA1 : _ = some (Value.slice none 0 0) := A.cell 1; have fA1 := A.free 1) | (have A := ((blk_new' w1 #[Value.bool false, Value.slice none 0 0] 27 (g := w1.heap.size) rfl).alloc _).next (by first | exact hB | exact below_drew hB); have C := (blk_new' (w1.alloc (.cells #[Value.bool false, Value.slice none 0 0] 27)) #[Value.bool false, Value.slice none 0 0] 27 (g := w1.heap.size + 1) (by first | simp | simp [World.drew])).next (by first | exact hB | exact below_drew hB); have ltA := A.lt; have cA0 : _ = some (Value.bool false) := A.cell 0; have fA0 := A.free 0; have cA1 : _ = some (Value.slice none 0 0) := A.cell 1; have fA1 := A.free 1; have ltC := C.lt; have cC0 : _ = some (Value.bool false) := C.cell 0; have fC0 := C.free 0; have cC1 : _ = some (Value.slice none 0 0) := C.cell 1; have fC1 := C.free 1) | (have A := ((blk_new' w1.drew #[Value.bool false, Value.slice none 0 0] 27 (g := w1.heap.size) rfl).alloc _).next (by first | exact hB | exact below_drew hB); have C := (blk_new' (w1.drew.alloc (.cells #[Value.bool false, Value.slice none 0 0] 27)) #[Value.bool false, Value.slice none 0 0] 27 (g := w1.heap.size + 1) (by first | simp | simp [World.drew])).next (by first | exact hB | exact below_drew hB); have ltA := A.lt; have cA0 : _ = some (Value.bool false) := A.cell 0; have fA0 := A.free 0; have cA1 : _ = some (Value.slice none 0 0) := A.cell 1; have fA1 := A.free 1; have ltC := C.lt; have cC0 : _ = some (Value.bool false) := C.cell 0; have fC0 := C.free 0; have cC1 : _ = some (Value.slice none 0 0) := C.cell 1; have fC1 := C.free 1) | (have A := (blk_new' _ #[Value.bool false, Value.slice none 0 0] 27 (g := w1.heap.size) rfl).next (by first | exact hB | exact below_drew hB); have ltA := A.lt; have cA0 : _ = some (Value.bool false) := A.cell 0; have fA0 := A.free 0; have cA1 : _ = some (Value.slice none 0 0) := A.cell 1; have fA1 := A.free 1) | skip); have ltF := hO.ltB; have f2 := (blk_new' w2 #[Value.bool false, Value.slice none 0 0] 27 (g := w2.heap.size) rfl).alloc (.cells #[Value.bool false, Value.slice none 0 0] 27); have ltf2 := f2.lt; have cf20 : _ = some (Value.bool false) := f2.cell 0; have ff20 := f2.free 0; have cf21 : _ = some (Value.slice none 0 0) := f2.cell 1; have ff21 := f2.free 1; have f3 := blk_new' (w2.alloc (.cells #[Value.bool false, Value.slice none 0 0] 27)) #[Value.bool false, Value.slice none 0 0] 27 (g := w2.heap.size + 1) (by simp); have ltf3 := f3.lt; have cf30 : _ = some (Value.bool false) := f3.cell 0; have ff30 := f3.free 0; have cf31 : _ = some (Value.slice none 0 0) := f3.cell 1; have ff31 := f3.free 1; (first | (have hAn := Nat.ne_of_lt ltA; have hnA := Ne.symm hAn; have f4 := A.alloc (.cells #[Value.bool false, Value.slice none 0 0] 27); have ltf4 := f4.lt; have cf40 : _ = some (Value.bool false) := f4.cell 0; have ff40 := f4.free 0; have cf41 : _ = some (Value.slice none 0 0) := f4.cell 1; have ff41 := f4.free 1) | skip); try clear hB))))
    all_goals (go_wp2_with fail; go_meet; refine ⟨_, fa, fn, fc, rfl, ?_, ?_, ?_, ?_, ?_⟩)
    all_goals first | ((repeat (first | with_reducible exact A | with_reducible exact C | with_reducible exact blk_new' _ _ _ (by first | rfl | simp) | with_reducible apply blk_z2 | with_reducible refine Blk.set2 ?_ (by first | omega | (simp only [World.heap_alloc_size, World.heap_setCell_size]; omega) | (simp [World.setCell]; omega) | (simp; omega)) _ _ | with_reducible refine Blk.alloc ?_ _)); done) | (first | omega | (simp only [World.heap_alloc_size, World.heap_setCell_size]; omega) | (simp [World.setCell]; omega) | (simp; omega)) | exact Own.mono (hO.block (fun g e => by have h1 := hO.lt' g e; have h2 := ltF g e; (repeat (first | rfl | rw [heap_setCell_other _ _ _ _ (show g ≠ _ from (by first | omega | (simp at h1 ⊢; omega) | (simp at h1; omega) | (simp; omega)))] | rw [Below.heap_alloc _ _ _ (by first | omega | (simp at h1 ⊢; omega) | (simp at h1; omega) | (simp; omega))])))) (by first | omega | (simp only [World.heap_alloc_size, World.heap_setCell_size]; omega) | (simp [World.setCell]; omega) | (simp; omega)) | (intro g' e; have h1 := hO.lt' g' e; have h2 := ltF g' e; first | omega | (simp at h1; omega)) | ((repeat (first | with_reducible exact acc_2 | with_reducible refine Below.set2 ?_ (by first | omega | (simp only [World.heap_alloc_size, World.heap_setCell_size]; omega) | (simp [World.setCell]; omega) | (simp; omega)) _ _ | with_reducible refine Below.alloc ?_ (by first | omega | (simp only [World.heap_alloc_size, World.heap_setCell_size]; omega) | (simp [World.setCell]; omega) | (simp; omega)) _)); done)
  case rest =>
    obtain ⟨gS, Sa, Sn, Sc, rfl, hbk, hgeS, hO, awS, hBc⟩ := hcut
    have hB_1 : Below W0.heap.size W0 wc := hBc
    have X_1 := X_0.next hB_1
    have cX_1_0 : _ = some (Value.bool s) := X_1.cell 0
    have cX_1_1 : _ = some (Value.slice a1 n1 c1) := X_1.cell 1
    have cX_1_2 : _ = some (Value.slice b1 m1 d1) := X_1.cell 2
    have R0_1 := R0_0.next hB_1
    have cR0_1_0 : _ = some (Value.bool false) := R0_1.cell 0
    have fR0_1_0 := R0_1.free 0
    have cR0_1_1 : _ = some (Value.slice none 0 0) := R0_1.cell 1
    have fR0_1_1 := R0_1.free 1
    have hz1_1 := hz1_0.below hB_1
    have hd1_1 := hd1_0.below hB_1
    have hbel_1 := hbel_0.next hB_1
    have hsz_1 := hB_1.size
    clear X_0 cX_0_0 cX_0_1 cX_0_2 R0_0 cR0_0_0 fR0_0_0 cR0_0_1 fR0_0_1 hz1_0 hd1_0 hbel_0 hB_1
    clear hBc
    obtain ⟨wc1, hwc⟩ : ∃ y : World, y = wc := ⟨_, rfl⟩
    subst hwc
    have S_1 := hbk
    have hltS := hbk.lt
    clear hbk
    have cS_1_0 : _ = some (Value.bool (decide (f < 0))) := S_1.cell 0
    have cS_1_1 : _ = some (Value.slice Sa Sn Sc) := S_1.cell 1
    have OS_1 := hO
    have ltOS := hO.ltB
    clear hO
    go_wp2
    refine bodyPost_ret (v := .agg #[.bool (decide (f < 0)), .slice Sa Sn Sc]) (by simp [results, Try.results55, go_sem, cR0_1_0, cR0_1_1]) rfl ?_
    exact retz_set OS_1 hbel_1 (by omega) (by omega)

end Go.Proofs.Ytnpkmlpmeeidbaa
