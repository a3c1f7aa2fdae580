/- THE WALK OF credencelaw02.WholeDivides: what is divided is put together again, and which way is rounded. -/
import Derived.Test.YtflmdcmlhpifeaaZo
namespace Go.Proofs.Ytflmdcmlhpifeaa
set_option linter.unusedVariables false
set_option linter.unusedSimpArgs false
open Go.ChangeShapes Go.WideShapes Go.ChangeAt Go.RowKit Go.NatP

structure Dvs (za zb q r f t : Int) : Prop where
  p1 : q * zb + r = za
  p2 : f * zb + t = za
  s1 : r.natAbs < zb.natAbs
  s2 : t.natAbs < zb.natAbs
  d1 : 0 ≤ sgn r * sgn za
  d2 : 0 ≤ sgn t * sgn zb
  al : decide (q = f) = (decide (sgn r = 0) || decide (sgn za = sgn zb))
  b1 : q.natAbs ≤ za.natAbs
  b2 : r.natAbs ≤ za.natAbs
  b3 : f.natAbs ≤ za.natAbs + 1
theorem dvs_put (s t : Bool) (A B : Nat) : zv (!(s == t)) (A / B) * zv t B + zv s (A % B) = zv s A := by
  have hd : (B : Int) * (A / B : Nat) + (A % B : Nat) = A := by exact_mod_cast Nat.div_add_mod A B
  generalize (A / B : Nat) = q at *
  generalize A % B = m at *
  have hc : (q : Int) * B = B * q := Int.mul_comm _ _
  unfold zv
  cases s <;> cases t <;> simp [Int.neg_mul, Int.mul_neg] <;> omega
theorem dvs_of (s t : Bool) {A B : Nat} (hB : B ≠ 0) {q r f u : Int} (hq : zv (!(s == t)) (A / B) = q) (hr : zv s (dvR A B) = r)
    (hf : (if dvE B = 0 ∧ sgn (zv s (dvR A B)) * sgn (zv t B) < 0 then zv (!(s == t)) (A / B) - 1 else zv (!(s == t)) (A / B)) = f)
    (hu : (if dvE B = 0 ∧ sgn (zv s (dvR A B)) * sgn (zv t B) < 0 then zv s (dvR A B) + zv t B else zv s (dvR A B)) = u) : Dvs (zv s A) (zv t B) q r f u := by
  rw [dvE_pos hB, hr, hq] at hf
  rw [dvE_pos hB, hr] at hu
  have hR : dvR A B = A % B := if_neg hB
  rw [hR] at hr
  have hm := Nat.mod_lt A (Nat.pos_of_ne_zero hB)
  have hdl := Nat.div_le_self A B
  have hml := Nat.mod_le A B
  have h1 := dvs_put s t A B
  rw [hq, hr] at h1
  have ha := zv_abs s A
  have hb := zv_abs t B
  have hra : r.natAbs = A % B := by rw [← hr]; exact zv_abs _ _
  have hqa : q.natAbs = A / B := by rw [← hq]; exact zv_abs _ _
  have hsr : sgn r = 0 ∨ sgn r = sgn (zv s A) := by
    rw [← hr]
    rcases Nat.eq_zero_or_pos (A % B) with h | h
    · rw [h]; cases s <;> exact .inl rfl
    · have hA : A ≠ 0 := by omega
      cases s
      · rw [sgn_pos (by omega), sgn_pos hA]; exact .inr rfl
      · rw [sgn_neg (by omega), sgn_neg hA]; exact .inr rfl
  have c1 := sgn_cases r
  have c2 := sgn_cases (zv s A)
  have c3 := sgn_cases (zv t B)
  have hmul : (q - 1) * zv t B + (r + zv t B) = q * zv t B + r := by rw [Int.sub_mul]; omega
  generalize zv s A = za at *
  generalize zv t B = zb at *
  have hd1 : 0 ≤ sgn r * sgn za := by
    rcases hsr with h | h
    · rw [h]; omega
    · rw [h]; rcases c2 with ⟨_, e⟩ | ⟨_, e⟩ | ⟨_, e⟩ <;> rw [e] <;> omega
  have hz0 : zb ≠ 0 := by omega
  by_cases hc : sgn r * sgn zb < 0
  · rw [if_pos ⟨rfl, hc⟩] at hf hu
    subst hf; subst hu
    have hopp : (r < 0 ∧ 0 < zb) ∨ (0 < r ∧ zb < 0) := by
      rcases c1 with ⟨_, e⟩ | ⟨_, e⟩ | ⟨_, e⟩ <;> rcases c3 with ⟨_, e'⟩ | ⟨_, e'⟩ | ⟨_, e'⟩ <;> rw [e, e'] at hc <;> omega
    refine ⟨h1, by rw [hmul]; exact h1, by omega, by omega, hd1, ?_, ?_, by omega, by omega, by omega⟩
    · have c4 := sgn_cases (r + zb)
      rcases c4 with ⟨_, e⟩ | ⟨_, e⟩ | ⟨_, e⟩ <;> rcases c3 with ⟨_, e'⟩ | ⟨_, e'⟩ | ⟨_, e'⟩ <;> rw [e, e'] <;> omega
    · rw [decide_eq_false (show ¬ q = q - 1 by omega), decide_eq_false (show ¬ sgn r = 0 by omega), decide_eq_false (show ¬ sgn za = sgn zb by omega)]; rfl
  · rw [if_neg (fun h => hc h.2)] at hf hu
    subst hf; subst hu
    refine ⟨h1, h1, by omega, by omega, hd1, by omega, ?_, by omega, by omega, by omega⟩
    rw [decide_eq_true rfl]
    rcases hsr with h | h
    · rw [decide_eq_true h]; rfl
    · have : sgn r = 0 ∨ sgn za = sgn zb := by
        rcases c1 with ⟨_, e⟩ | ⟨_, e⟩ | ⟨_, e⟩ <;> rcases c3 with ⟨_, e'⟩ | ⟨_, e'⟩ | ⟨_, e'⟩ <;> rw [e, e'] at hc <;> omega
      rcases this with h | h
      · rw [decide_eq_true h]; rfl
      · rw [decide_eq_true h, Bool.or_true]
theorem sgn_zero_iff (z : Int) : sgn z = 0 ↔ z = 0 := by have := sgn_cases z; omega
theorem cmpZ_size {x y : Int} {la lb : List Nat} {s t : Bool} {u v : Int} (hx : zv s (val la) = x) (hy : zv t (val lb) = y) (hu : zv false (val la) = u) (hv : zv false (val lb) = v) (h : x.natAbs < y.natAbs) : cmpZ u v = -1 := by
  have h1 := zv_abs s (val la); have h2 := zv_abs t (val lb); have h3 := cmpZ_cases u v
  rw [hx] at h1; rw [hy] at h2
  unfold zv at hu hv
  simp at hu hv
  omega

set_option maxRecDepth 100000 in
set_option maxHeartbeats 8000000 in
theorem wholeDivides_walk {w : World} {a : Option Addr} {na ca : Nat} {la : List Nat} {b : Option Addr} {nb cb : Nat} {lb : List Nat} (sa : Bool) (ha : Rd w a na ca la) (sb : Bool) (hb : Rd w b nb cb lb) :
    Calls Try.prog 9 #[.agg #[.bool sa, .slice a na ca], .agg #[.bool sb, .slice b nb cb]] w fun e w' => e = .returned (.bool true) ∧ Below w.heap.size w w' := by
  have hba := ha.bnd
  have hbb := hb.bnd
  by_cases hga : 30 < na
  · have da : decide (30 < na) = true := decide_eq_true hga
    have hent := ent2 w #[Value.bool sa, Value.slice a na ca] #[Value.bool sb, Value.slice b nb cb] 25 25
    go_enter Try.func9, Try.ntmps9
    go_wp2_with fail
    generalize ((w.alloc (.cells #[Value.bool sa, Value.slice a na ca] 25)).alloc (.cells #[Value.bool sb, Value.slice b nb cb] 25)) = W0 at hent ⊢
    obtain ⟨Xa_0, Xb_0, hbel0, hsz0⟩ := hent
    have Ra_1 := ha.below hbel0
    have Rb_2 := hb.below hbel0
    have cXa0_2 : _ = some (Value.bool sa) := Xa_0.cell 0
    have cXa1_2 : _ = some (Value.slice a na ca) := Xa_0.cell 1
    have cXb0_2 : _ = some (Value.bool sb) := Xb_0.cell 0
    have cXb1_2 : _ = some (Value.slice b nb cb) := Xb_0.cell 1
    go_wp2_with fail
    refine (alive_any).mono ?_
    rintro e w1 ⟨rfl, hB⟩
    clear cXa0_2 cXa1_2 cXb0_2 cXb1_2
    have hstep : Below W0.heap.size W0 w1 := (by first | exact hB | exact below_drew hB)
    have Xa_3 := Xa_0.next hstep
    have Xb_4 := Xb_0.next hstep
    have Ra_5 := Ra_1.below hstep
    have Rb_6 := Rb_2.below hstep
    have hbel7 := hbel0.next hstep
    have hle7 := hbel7.size
    have hls7 := hstep.size
    clear Xa_0 Xb_0 Ra_1 Rb_2 hbel0 hstep
    have cXa0_7 : _ = some (Value.bool sa) := Xa_3.cell 0
    have cXa1_7 : _ = some (Value.slice a na ca) := Xa_3.cell 1
    have cXb0_7 : _ = some (Value.bool sb) := Xb_4.cell 0
    have cXb1_7 : _ = some (Value.slice b nb cb) := Xb_4.cell 1
    go_wp2_with fail
    refine (big_any sa Ra_5 (by omega)).mono ?_
    rw [da]
    rintro e w2 ⟨rfl, hB⟩
    clear cXa0_7 cXa1_7 cXb0_7 cXb1_7
    have hstep : Below w1.heap.size w1 w2 := (by first | exact hB | exact below_drew hB)
    have Xa_8 := Xa_3.next hstep
    have Xb_9 := Xb_4.next hstep
    have Ra_10 := Ra_5.below hstep
    have Rb_11 := Rb_6.below hstep
    have hbel12 := hbel7.next hstep
    have hle12 := hbel12.size
    have hls12 := hstep.size
    clear Xa_3 Xb_4 Ra_5 Rb_6 hbel7 hstep
    have cXa0_12 : _ = some (Value.bool sa) := Xa_8.cell 0
    have cXa1_12 : _ = some (Value.slice a na ca) := Xa_8.cell 1
    have cXb0_12 : _ = some (Value.bool sb) := Xb_9.cell 0
    have cXb1_12 : _ = some (Value.slice b nb cb) := Xb_9.cell 1
    go_wp2
    go_ret
    exact ⟨rfl, hbel12⟩
  have da : decide (30 < na) = false := decide_eq_false hga
  by_cases hgb : 30 < nb
  · have db : decide (30 < nb) = true := decide_eq_true hgb
    have hent := ent2 w #[Value.bool sa, Value.slice a na ca] #[Value.bool sb, Value.slice b nb cb] 25 25
    go_enter Try.func9, Try.ntmps9
    go_wp2_with fail
    generalize ((w.alloc (.cells #[Value.bool sa, Value.slice a na ca] 25)).alloc (.cells #[Value.bool sb, Value.slice b nb cb] 25)) = W0 at hent ⊢
    obtain ⟨Xa_0, Xb_0, hbel0, hsz0⟩ := hent
    have Ra_1 := ha.below hbel0
    have Rb_2 := hb.below hbel0
    have cXa0_2 : _ = some (Value.bool sa) := Xa_0.cell 0
    have cXa1_2 : _ = some (Value.slice a na ca) := Xa_0.cell 1
    have cXb0_2 : _ = some (Value.bool sb) := Xb_0.cell 0
    have cXb1_2 : _ = some (Value.slice b nb cb) := Xb_0.cell 1
    go_wp2_with fail
    refine (alive_any).mono ?_
    rintro e w1 ⟨rfl, hB⟩
    clear cXa0_2 cXa1_2 cXb0_2 cXb1_2
    have hstep : Below W0.heap.size W0 w1 := (by first | exact hB | exact below_drew hB)
    have Xa_3 := Xa_0.next hstep
    have Xb_4 := Xb_0.next hstep
    have Ra_5 := Ra_1.below hstep
    have Rb_6 := Rb_2.below hstep
    have hbel7 := hbel0.next hstep
    have hle7 := hbel7.size
    have hls7 := hstep.size
    clear Xa_0 Xb_0 Ra_1 Rb_2 hbel0 hstep
    have cXa0_7 : _ = some (Value.bool sa) := Xa_3.cell 0
    have cXa1_7 : _ = some (Value.slice a na ca) := Xa_3.cell 1
    have cXb0_7 : _ = some (Value.bool sb) := Xb_4.cell 0
    have cXb1_7 : _ = some (Value.slice b nb cb) := Xb_4.cell 1
    go_wp2_with fail
    refine (big_any sa Ra_5 (by omega)).mono ?_
    rw [da]
    rintro e w2 ⟨rfl, hB⟩
    clear cXa0_7 cXa1_7 cXb0_7 cXb1_7
    have hstep : Below w1.heap.size w1 w2 := (by first | exact hB | exact below_drew hB)
    have Xa_8 := Xa_3.next hstep
    have Xb_9 := Xb_4.next hstep
    have Ra_10 := Ra_5.below hstep
    have Rb_11 := Rb_6.below hstep
    have hbel12 := hbel7.next hstep
    have hle12 := hbel12.size
    have hls12 := hstep.size
    clear Xa_3 Xb_4 Ra_5 Rb_6 hbel7 hstep
    have cXa0_12 : _ = some (Value.bool sa) := Xa_8.cell 0
    have cXa1_12 : _ = some (Value.slice a na ca) := Xa_8.cell 1
    have cXb0_12 : _ = some (Value.bool sb) := Xb_9.cell 0
    have cXb1_12 : _ = some (Value.slice b nb cb) := Xb_9.cell 1
    go_wp2_with fail
    refine (big_any sb Rb_11 (by omega)).mono ?_
    rw [db]
    rintro e w3 ⟨rfl, hB⟩
    clear cXa0_12 cXa1_12 cXb0_12 cXb1_12
    have hstep : Below w2.heap.size w2 w3 := (by first | exact hB | exact below_drew hB)
    have Xa_13 := Xa_8.next hstep
    have Xb_14 := Xb_9.next hstep
    have Ra_15 := Ra_10.below hstep
    have Rb_16 := Rb_11.below hstep
    have hbel17 := hbel12.next hstep
    have hle17 := hbel17.size
    have hls17 := hstep.size
    clear Xa_8 Xb_9 Ra_10 Rb_11 hbel12 hstep
    have cXa0_17 : _ = some (Value.bool sa) := Xa_13.cell 0
    have cXa1_17 : _ = some (Value.slice a na ca) := Xa_13.cell 1
    have cXb0_17 : _ = some (Value.bool sb) := Xb_14.cell 0
    have cXb1_17 : _ = some (Value.slice b nb cb) := Xb_14.cell 1
    go_wp2
    go_ret
    exact ⟨rfl, hbel17⟩
  have db : decide (30 < nb) = false := decide_eq_false hgb
  obtain ⟨za, hza⟩ : ∃ z, zv sa (val la) = z := ⟨_, rfl⟩
  have HXa := hid hza
  have HBza : Hid (Sz za.natAbs 30) := by show Sz _ _; rw [← hza, zv_abs]; exact ha.szv.mono (Nat.le_refl _) (by omega)
  clear hza
  obtain ⟨zb, hzb⟩ : ∃ z, zv sb (val lb) = z := ⟨_, rfl⟩
  have HXb := hid hzb
  have HBzb : Hid (Sz zb.natAbs 30) := by show Sz _ _; rw [← hzb, zv_abs]; exact hb.szv.mono (Nat.le_refl _) (by omega)
  clear hzb
  have hent := ent2 w #[Value.bool sa, Value.slice a na ca] #[Value.bool sb, Value.slice b nb cb] 25 25
  go_enter Try.func9, Try.ntmps9
  go_wp2_with fail
  generalize ((w.alloc (.cells #[Value.bool sa, Value.slice a na ca] 25)).alloc (.cells #[Value.bool sb, Value.slice b nb cb] 25)) = W0 at hent ⊢
  obtain ⟨Xa_0, Xb_0, hbel0, hsz0⟩ := hent
  have Ra_1 := ha.below hbel0
  have Rb_2 := hb.below hbel0
  have cXa0_2 : _ = some (Value.bool sa) := Xa_0.cell 0
  have cXa1_2 : _ = some (Value.slice a na ca) := Xa_0.cell 1
  have cXb0_2 : _ = some (Value.bool sb) := Xb_0.cell 0
  have cXb1_2 : _ = some (Value.slice b nb cb) := Xb_0.cell 1
  go_wp2_with fail
  refine (alive_any).mono ?_
  rintro e w1 ⟨rfl, hB⟩
  clear cXa0_2 cXa1_2 cXb0_2 cXb1_2
  have hstep : Below W0.heap.size W0 w1 := (by first | exact hB | exact below_drew hB)
  have Xa_3 := Xa_0.next hstep
  have Xb_4 := Xb_0.next hstep
  have Ra_5 := Ra_1.below hstep
  have Rb_6 := Rb_2.below hstep
  have hbel7 := hbel0.next hstep
  have hle7 := hbel7.size
  have hls7 := hstep.size
  clear Xa_0 Xb_0 Ra_1 Rb_2 hbel0 hstep
  have cXa0_7 : _ = some (Value.bool sa) := Xa_3.cell 0
  have cXa1_7 : _ = some (Value.slice a na ca) := Xa_3.cell 1
  have cXb0_7 : _ = some (Value.bool sb) := Xb_4.cell 0
  have cXb1_7 : _ = some (Value.slice b nb cb) := Xb_4.cell 1
  go_wp2_with fail
  refine (big_any sa Ra_5 (by omega)).mono ?_
  rw [da]
  rintro e w2 ⟨rfl, hB⟩
  clear cXa0_7 cXa1_7 cXb0_7 cXb1_7
  have hstep : Below w1.heap.size w1 w2 := (by first | exact hB | exact below_drew hB)
  have Xa_8 := Xa_3.next hstep
  have Xb_9 := Xb_4.next hstep
  have Ra_10 := Ra_5.below hstep
  have Rb_11 := Rb_6.below hstep
  have hbel12 := hbel7.next hstep
  have hle12 := hbel12.size
  have hls12 := hstep.size
  clear Xa_3 Xb_4 Ra_5 Rb_6 hbel7 hstep
  have cXa0_12 : _ = some (Value.bool sa) := Xa_8.cell 0
  have cXa1_12 : _ = some (Value.slice a na ca) := Xa_8.cell 1
  have cXb0_12 : _ = some (Value.bool sb) := Xb_9.cell 0
  have cXb1_12 : _ = some (Value.slice b nb cb) := Xb_9.cell 1
  go_wp2_with fail
  refine (big_any sb Rb_11 (by omega)).mono ?_
  rw [db]
  rintro e w3 ⟨rfl, hB⟩
  clear cXa0_12 cXa1_12 cXb0_12 cXb1_12
  have hstep : Below w2.heap.size w2 w3 := (by first | exact hB | exact below_drew hB)
  have Xa_13 := Xa_8.next hstep
  have Xb_14 := Xb_9.next hstep
  have Ra_15 := Ra_10.below hstep
  have Rb_16 := Rb_11.below hstep
  have hbel17 := hbel12.next hstep
  have hle17 := hbel17.size
  have hls17 := hstep.size
  clear Xa_8 Xb_9 Ra_10 Rb_11 hbel12 hstep
  have cXa0_17 : _ = some (Value.bool sa) := Xa_13.cell 0
  have cXa1_17 : _ = some (Value.slice a na ca) := Xa_13.cell 1
  have cXb0_17 : _ = some (Value.bool sb) := Xb_14.cell 0
  have cXb1_17 : _ = some (Value.slice b nb cb) := Xb_14.cell 1
  by_cases hb0 : val lb = 0
  · skip
    have hE := hid (show dvE (val lb) = 11 by rw [hb0]; rfl)
    have hq0 := hid (show zv (!(sa == sb)) (val la / val lb) = 0 from zv_zero _ (by rw [hb0, Nat.div_zero]))
    have hr0 := hid (show zv sa (dvR (val la) (val lb)) = 0 from zv_zero _ (by rw [hb0]; rfl))
    have hn0 : ¬ (dvE (val lb) = 0 ∧ sgn (zv sa (dvR (val la) (val lb))) * sgn (zv sb (val lb)) < 0) := by rw [hE.out]; simp
    have hf0 : Hid ((if dvE (val lb) = 0 ∧ sgn (zv sa (dvR (val la) (val lb))) * sgn (zv sb (val lb)) < 0 then zv (!(sa == sb)) (val la / val lb) - 1 else zv (!(sa == sb)) (val la / val lb)) = 0) := (if_neg hn0).trans hq0.out
    have hu0 : Hid ((if dvE (val lb) = 0 ∧ sgn (zv sa (dvR (val la) (val lb))) * sgn (zv sb (val lb)) < 0 then zv sa (dvR (val la) (val lb)) + zv sb (val lb) else zv sa (dvR (val la) (val lb))) = 0) := (if_neg hn0).trans hr0.out
    have hzb0 : zb = 0 := by rw [← HXb.out]; exact zv_zero _ hb0
    have HZ := hid (show sgn zb = 0 by rw [hzb0]; rfl)
    clear hb0 hn0 hzb0
    have hS0 : Sz (0 : Int).natAbs 31 := by show _ < _; decide
    go_wp2_with fail
    refine (zquoG Ra_15 (by omega) Rb_16 (by omega) HXa.out HXb.out hq0.out hr0.out hE.out).mono ?_
    rintro e w4 ⟨q, qn, qc, r, rn, rc, rfl, hO, hO2, hD, hB⟩
    clear cXa0_17 cXa1_17 cXb0_17 cXb1_17
    have hstep : Below w3.heap.size w3 w4 := (by first | exact hB | exact below_drew hB)
    have Xa_18 := Xa_13.next hstep
    have Xb_19 := Xb_14.next hstep
    have Ra_20 := Ra_15.below hstep
    have Rb_21 := Rb_16.below hstep
    have hbel22 := hbel17.next hstep
    have hle22 := hbel22.size
    have hls22 := hstep.size
    clear Xa_13 Xb_14 Ra_15 Rb_16 hbel17 hstep
    have cXa0_22 : _ = some (Value.bool sa) := Xa_18.cell 0
    have cXa1_22 : _ = some (Value.slice a na ca) := Xa_18.cell 1
    have cXb0_22 : _ = some (Value.bool sb) := Xb_19.cell 0
    have cXb1_22 : _ = some (Value.slice b nb cb) := Xb_19.cell 1
    have hlq : qn ≤ 31 := len_le (l := la) hO.len hS0
    have hlr : rn ≤ 31 := len_le (l := la) hO2.len hS0
    have Oq_23 := hO
    have Or_24 := hO2
    have hq0' : qn = 0 := by rw [← hO.len]; rfl
    subst hq0'
    clear hO hO2 hB hD
    have hbx := blk_new' w4 #[Value.bool false, Value.slice q 0 qc] 25 (g := w4.heap.size) (by simp)
    have hbB := (Below.refl w4.heap.size w4).alloc (Nat.le_refl _) (.cells #[Value.bool false, Value.slice q 0 qc] 25)
    have hbg := hbx.lt
    clear cXa0_22 cXa1_22 cXb0_22 cXb1_22
    have hstep : Below w4.heap.size w4 (w4.alloc (.cells #[Value.bool false, Value.slice q 0 qc] 25)) := (by first | exact hbB | exact below_drew hbB)
    have Xa_25 := Xa_18.next hstep
    have Xb_26 := Xb_19.next hstep
    have Ra_27 := Ra_20.below hstep
    have Rb_28 := Rb_21.below hstep
    have Oq_29 := Oq_23.below hstep
    have Or_30 := Or_24.below hstep
    have hbel31 := hbel22.next hstep
    have hle31 := hbel31.size
    have hls31 := hstep.size
    clear Xa_18 Xb_19 Ra_20 Rb_21 Oq_23 Or_24 hbel22 hstep
    have cXa0_31 : _ = some (Value.bool sa) := Xa_25.cell 0
    have cXa1_31 : _ = some (Value.slice a na ca) := Xa_25.cell 1
    have cXb0_31 : _ = some (Value.bool sb) := Xb_26.cell 0
    have cXb1_31 : _ = some (Value.slice b nb cb) := Xb_26.cell 1
    have Xq_32 := hbx
    have cXq0_32 : _ = some (Value.bool false) := Xq_32.cell 0
    have cXq1_32 : _ = some (Value.slice q 0 qc) := Xq_32.cell 1
    clear hbx hbB
    have hbx := blk_new' (w4.alloc (.cells #[Value.bool false, Value.slice q 0 qc] 25)) #[Value.bool false, Value.slice r rn rc] 25 (g := w4.heap.size + 1) (by simp)
    have hbB := (Below.refl (w4.alloc (.cells #[Value.bool false, Value.slice q 0 qc] 25)).heap.size (w4.alloc (.cells #[Value.bool false, Value.slice q 0 qc] 25))).alloc (Nat.le_refl _) (.cells #[Value.bool false, Value.slice r rn rc] 25)
    have hbg := hbx.lt
    clear cXa0_31 cXa1_31 cXb0_31 cXb1_31 cXq0_32 cXq1_32
    have hstep : Below (w4.alloc (.cells #[Value.bool false, Value.slice q 0 qc] 25)).heap.size (w4.alloc (.cells #[Value.bool false, Value.slice q 0 qc] 25)) ((w4.alloc (.cells #[Value.bool false, Value.slice q 0 qc] 25)).alloc (.cells #[Value.bool false, Value.slice r rn rc] 25)) := (by first | exact hbB | exact below_drew hbB)
    have Xa_33 := Xa_25.next hstep
    have Xb_34 := Xb_26.next hstep
    have Xq_35 := Xq_32.next hstep
    have Ra_36 := Ra_27.below hstep
    have Rb_37 := Rb_28.below hstep
    have Oq_38 := Oq_29.below hstep
    have Or_39 := Or_30.below hstep
    have hbel40 := hbel31.next hstep
    have hle40 := hbel40.size
    have hls40 := hstep.size
    clear Xa_25 Xb_26 Xq_32 Ra_27 Rb_28 Oq_29 Or_30 hbel31 hstep
    have cXa0_40 : _ = some (Value.bool sa) := Xa_33.cell 0
    have cXa1_40 : _ = some (Value.slice a na ca) := Xa_33.cell 1
    have cXb0_40 : _ = some (Value.bool sb) := Xb_34.cell 0
    have cXb1_40 : _ = some (Value.slice b nb cb) := Xb_34.cell 1
    have cXq0_40 : _ = some (Value.bool false) := Xq_35.cell 0
    have cXq1_40 : _ = some (Value.slice q 0 qc) := Xq_35.cell 1
    have Xr_41 := hbx
    have cXr0_41 : _ = some (Value.bool false) := Xr_41.cell 0
    have cXr1_41 : _ = some (Value.slice r rn rc) := Xr_41.cell 1
    clear hbx hbB
    go_wp2_with fail
    generalize ((w4.alloc (.cells #[Value.bool false, Value.slice q 0 qc] 25)).alloc (.cells #[Value.bool false, Value.slice r rn rc] 25)) = v5 at *
    go_wp2_with fail
    refine (zfloorG Ra_36 (by omega) Rb_37 (by omega) HXa.out HXb.out hf0.out hu0.out hE.out).mono ?_
    rintro e w7 ⟨f, fn, fc, u, un, uc, rfl, hO, hO2, hD, hB⟩
    clear cXa0_40 cXa1_40 cXb0_40 cXb1_40 cXq0_40 cXq1_40 cXr0_41 cXr1_41
    have hstep : Below v5.heap.size v5 w7 := (by first | exact hB | exact below_drew hB)
    have Xa_42 := Xa_33.next hstep
    have Xb_43 := Xb_34.next hstep
    have Xq_44 := Xq_35.next hstep
    have Xr_45 := Xr_41.next hstep
    have Ra_46 := Ra_36.below hstep
    have Rb_47 := Rb_37.below hstep
    have Oq_48 := Oq_38.below hstep
    have Or_49 := Or_39.below hstep
    have hbel50 := hbel40.next hstep
    have hle50 := hbel50.size
    have hls50 := hstep.size
    clear Xa_33 Xb_34 Xq_35 Xr_41 Ra_36 Rb_37 Oq_38 Or_39 hbel40 hstep
    have cXa0_50 : _ = some (Value.bool sa) := Xa_42.cell 0
    have cXa1_50 : _ = some (Value.slice a na ca) := Xa_42.cell 1
    have cXb0_50 : _ = some (Value.bool sb) := Xb_43.cell 0
    have cXb1_50 : _ = some (Value.slice b nb cb) := Xb_43.cell 1
    have cXq0_50 : _ = some (Value.bool false) := Xq_44.cell 0
    have cXq1_50 : _ = some (Value.slice q 0 qc) := Xq_44.cell 1
    have cXr0_50 : _ = some (Value.bool false) := Xr_45.cell 0
    have cXr1_50 : _ = some (Value.slice r rn rc) := Xr_45.cell 1
    have hlf : fn ≤ 31 := len_le (l := la) hO.len hS0
    have hlu : un ≤ 31 := len_le (l := la) hO2.len hS0
    have Of_51 := hO
    have Ou_52 := hO2
    have hu0' : un = 0 := by rw [← hO2.len]; rfl
    subst hu0'
    clear hO hO2 hB hD
    have hbx := blk_new' w7 #[Value.bool false, Value.slice f fn fc] 25 (g := w7.heap.size) (by simp)
    have hbB := (Below.refl w7.heap.size w7).alloc (Nat.le_refl _) (.cells #[Value.bool false, Value.slice f fn fc] 25)
    have hbg := hbx.lt
    clear cXa0_50 cXa1_50 cXb0_50 cXb1_50 cXq0_50 cXq1_50 cXr0_50 cXr1_50
    have hstep : Below w7.heap.size w7 (w7.alloc (.cells #[Value.bool false, Value.slice f fn fc] 25)) := (by first | exact hbB | exact below_drew hbB)
    have Xa_53 := Xa_42.next hstep
    have Xb_54 := Xb_43.next hstep
    have Xq_55 := Xq_44.next hstep
    have Xr_56 := Xr_45.next hstep
    have Ra_57 := Ra_46.below hstep
    have Rb_58 := Rb_47.below hstep
    have Oq_59 := Oq_48.below hstep
    have Or_60 := Or_49.below hstep
    have Of_61 := Of_51.below hstep
    have Ou_62 := Ou_52.below hstep
    have hbel63 := hbel50.next hstep
    have hle63 := hbel63.size
    have hls63 := hstep.size
    clear Xa_42 Xb_43 Xq_44 Xr_45 Ra_46 Rb_47 Oq_48 Or_49 Of_51 Ou_52 hbel50 hstep
    have cXa0_63 : _ = some (Value.bool sa) := Xa_53.cell 0
    have cXa1_63 : _ = some (Value.slice a na ca) := Xa_53.cell 1
    have cXb0_63 : _ = some (Value.bool sb) := Xb_54.cell 0
    have cXb1_63 : _ = some (Value.slice b nb cb) := Xb_54.cell 1
    have cXq0_63 : _ = some (Value.bool false) := Xq_55.cell 0
    have cXq1_63 : _ = some (Value.slice q 0 qc) := Xq_55.cell 1
    have cXr0_63 : _ = some (Value.bool false) := Xr_56.cell 0
    have cXr1_63 : _ = some (Value.slice r rn rc) := Xr_56.cell 1
    have Xf_64 := hbx
    have cXf0_64 : _ = some (Value.bool false) := Xf_64.cell 0
    have cXf1_64 : _ = some (Value.slice f fn fc) := Xf_64.cell 1
    clear hbx hbB
    have hbx := blk_new' (w7.alloc (.cells #[Value.bool false, Value.slice f fn fc] 25)) #[Value.bool false, Value.slice u 0 uc] 25 (g := w7.heap.size + 1) (by simp)
    have hbB := (Below.refl (w7.alloc (.cells #[Value.bool false, Value.slice f fn fc] 25)).heap.size (w7.alloc (.cells #[Value.bool false, Value.slice f fn fc] 25))).alloc (Nat.le_refl _) (.cells #[Value.bool false, Value.slice u 0 uc] 25)
    have hbg := hbx.lt
    clear cXa0_63 cXa1_63 cXb0_63 cXb1_63 cXq0_63 cXq1_63 cXr0_63 cXr1_63 cXf0_64 cXf1_64
    have hstep : Below (w7.alloc (.cells #[Value.bool false, Value.slice f fn fc] 25)).heap.size (w7.alloc (.cells #[Value.bool false, Value.slice f fn fc] 25)) ((w7.alloc (.cells #[Value.bool false, Value.slice f fn fc] 25)).alloc (.cells #[Value.bool false, Value.slice u 0 uc] 25)) := (by first | exact hbB | exact below_drew hbB)
    have Xa_65 := Xa_53.next hstep
    have Xb_66 := Xb_54.next hstep
    have Xq_67 := Xq_55.next hstep
    have Xr_68 := Xr_56.next hstep
    have Xf_69 := Xf_64.next hstep
    have Ra_70 := Ra_57.below hstep
    have Rb_71 := Rb_58.below hstep
    have Oq_72 := Oq_59.below hstep
    have Or_73 := Or_60.below hstep
    have Of_74 := Of_61.below hstep
    have Ou_75 := Ou_62.below hstep
    have hbel76 := hbel63.next hstep
    have hle76 := hbel76.size
    have hls76 := hstep.size
    clear Xa_53 Xb_54 Xq_55 Xr_56 Xf_64 Ra_57 Rb_58 Oq_59 Or_60 Of_61 Ou_62 hbel63 hstep
    have cXa0_76 : _ = some (Value.bool sa) := Xa_65.cell 0
    have cXa1_76 : _ = some (Value.slice a na ca) := Xa_65.cell 1
    have cXb0_76 : _ = some (Value.bool sb) := Xb_66.cell 0
    have cXb1_76 : _ = some (Value.slice b nb cb) := Xb_66.cell 1
    have cXq0_76 : _ = some (Value.bool false) := Xq_67.cell 0
    have cXq1_76 : _ = some (Value.slice q 0 qc) := Xq_67.cell 1
    have cXr0_76 : _ = some (Value.bool false) := Xr_68.cell 0
    have cXr1_76 : _ = some (Value.slice r rn rc) := Xr_68.cell 1
    have cXf0_76 : _ = some (Value.bool false) := Xf_69.cell 0
    have cXf1_76 : _ = some (Value.slice f fn fc) := Xf_69.cell 1
    have Xu_77 := hbx
    have cXu0_77 : _ = some (Value.bool false) := Xu_77.cell 0
    have cXu1_77 : _ = some (Value.slice u 0 uc) := Xu_77.cell 1
    clear hbx hbB
    go_wp2_with fail
    generalize ((w7.alloc (.cells #[Value.bool false, Value.slice f fn fc] 25)).alloc (.cells #[Value.bool false, Value.slice u 0 uc] 25)) = v8 at *
    have HE1 := hid (show sgn zb = 0 from (by exact HZ.out))
    go_wp2_with fail
    refine (zsignG (show Rd _ b nb cb lb from Rb_71) (show nb ≤ 4194304 by omega) HXb.out HE1.out).mono ?_
    rintro e w10 ⟨rfl, hB⟩
    clear cXa0_76 cXa1_76 cXb0_76 cXb1_76 cXq0_76 cXq1_76 cXr0_76 cXr1_76 cXf0_76 cXf1_76 cXu0_77 cXu1_77
    have hstep : Below v8.heap.size v8 w10 := (by first | exact hB | exact below_drew hB)
    have Xa_78 := Xa_65.next hstep
    have Xb_79 := Xb_66.next hstep
    have Xq_80 := Xq_67.next hstep
    have Xr_81 := Xr_68.next hstep
    have Xf_82 := Xf_69.next hstep
    have Xu_83 := Xu_77.next hstep
    have Ra_84 := Ra_70.below hstep
    have Rb_85 := Rb_71.below hstep
    have Oq_86 := Oq_72.below hstep
    have Or_87 := Or_73.below hstep
    have Of_88 := Of_74.below hstep
    have Ou_89 := Ou_75.below hstep
    have hbel90 := hbel76.next hstep
    have hle90 := hbel90.size
    have hls90 := hstep.size
    clear Xa_65 Xb_66 Xq_67 Xr_68 Xf_69 Xu_77 Ra_70 Rb_71 Oq_72 Or_73 Of_74 Ou_75 hbel76 hstep
    have cXa0_90 : _ = some (Value.bool sa) := Xa_78.cell 0
    have cXa1_90 : _ = some (Value.slice a na ca) := Xa_78.cell 1
    have cXb0_90 : _ = some (Value.bool sb) := Xb_79.cell 0
    have cXb1_90 : _ = some (Value.slice b nb cb) := Xb_79.cell 1
    have cXq0_90 : _ = some (Value.bool false) := Xq_80.cell 0
    have cXq1_90 : _ = some (Value.slice q 0 qc) := Xq_80.cell 1
    have cXr0_90 : _ = some (Value.bool false) := Xr_81.cell 0
    have cXr1_90 : _ = some (Value.slice r rn rc) := Xr_81.cell 1
    have cXf0_90 : _ = some (Value.bool false) := Xf_82.cell 0
    have cXf1_90 : _ = some (Value.slice f fn fc) := Xf_82.cell 1
    have cXu0_90 : _ = some (Value.bool false) := Xu_83.cell 0
    have cXu1_90 : _ = some (Value.slice u 0 uc) := Xu_83.cell 1
    go_wp2
    go_ret
    exact ⟨rfl, hbel90⟩
  · skip
    have hE := hid (dvE_pos hb0)
    obtain ⟨q0, hq0⟩ : ∃ z, zv (!(sa == sb)) (val la / val lb) = z := ⟨_, rfl⟩
    obtain ⟨r0, hr0⟩ : ∃ z, zv sa (dvR (val la) (val lb)) = z := ⟨_, rfl⟩
    obtain ⟨f0, hf0⟩ : ∃ z, (if dvE (val lb) = 0 ∧ sgn (zv sa (dvR (val la) (val lb))) * sgn (zv sb (val lb)) < 0 then zv (!(sa == sb)) (val la / val lb) - 1 else zv (!(sa == sb)) (val la / val lb)) = z := ⟨_, rfl⟩
    obtain ⟨u0, hu0⟩ : ∃ z, (if dvE (val lb) = 0 ∧ sgn (zv sa (dvR (val la) (val lb))) * sgn (zv sb (val lb)) < 0 then zv sa (dvR (val la) (val lb)) + zv sb (val lb) else zv sa (dvR (val la) (val lb))) = z := ⟨_, rfl⟩
    have hD := dvs_of sa sb hb0 hq0 hr0 hf0 hu0
    rw [HXa.out, HXb.out] at hD
    have HD := hid hD
    have Hq0 := hid hq0
    have Hr0 := hid hr0
    have Hf0 := hid hf0
    have Hu0 := hid hu0
    clear hD hq0 hr0 hf0 hu0
    have HBq0 : Hid (Sz q0.natAbs 31) := HBza.out.mono HD.out.b1 (by omega)
    have HBr0 : Hid (Sz r0.natAbs 31) := HBza.out.mono HD.out.b2 (by omega)
    have HBf0 : Hid (Sz f0.natAbs 31) := (HBza.out.add (show Sz 1 30 by show _ < _; decide)).mono HD.out.b3 (Nat.le_refl _)
    have HBu0 : Hid (Sz u0.natAbs 31) := HBzb.out.mono (Nat.le_of_lt HD.out.s2) (by omega)
    obtain ⟨gr, hgr⟩ : ∃ g, sgn r0 = g := ⟨_, rfl⟩
    obtain ⟨ga, hga⟩ : ∃ g, sgn za = g := ⟨_, rfl⟩
    obtain ⟨gu, hgu⟩ : ∃ g, sgn u0 = g := ⟨_, rfl⟩
    obtain ⟨gb, hgb⟩ : ∃ g, sgn zb = g := ⟨_, rfl⟩
    have hrr := sgn_range r0
    have hra := sgn_range za
    have hru := sgn_range u0
    have hrb := sgn_range zb
    rw [hgr] at hrr
    rw [hga] at hra
    rw [hgu] at hru
    rw [hgb] at hrb
    have hgb0 : decide (gb = 0) = false := decide_eq_false (by rw [← hgb, sgn_zero_iff, ← HXb.out]; intro h; have := zv_abs sb (val lb); omega)
    have hgb1 : (gb == 0) = false := by have := of_decide_eq_false hgb0; simp; exact this
    obtain ⟨P, hP⟩ : ∃ P, gr * ga = P := ⟨_, rfl⟩
    obtain ⟨Q, hQ⟩ : ∃ P, gu * gb = P := ⟨_, rfl⟩
    have hP0 : 0 ≤ P := by rw [← hP, ← hgr, ← hga]; exact HD.out.d1
    have hQ0 : 0 ≤ Q := by rw [← hQ, ← hgu, ← hgb]; exact HD.out.d2
    have hP1 : P ≤ 1 := by rw [← hP]; rcases (show gr = -1 ∨ gr = 0 ∨ gr = 1 by omega) with h | h | h <;> rw [h] <;> omega
    have hQ1 : Q ≤ 1 := by rw [← hQ]; rcases (show gu = -1 ∨ gu = 0 ∨ gu = 1 by omega) with h | h | h <;> rw [h] <;> omega
    have Hgr := hid hgr
    have Hga := hid hga
    have Hgu := hid hgu
    have Hgb := hid hgb
    clear hgr hga hgu hgb hb0
    have hwP : IntKind.i64.wrap P = P := IntWalk.i64_in _ (by omega)
    have hwQ : IntKind.i64.wrap Q = Q := IntWalk.i64_in _ (by omega)
    go_wp2_with fail
    refine (zquoG Ra_15 (by omega) Rb_16 (by omega) HXa.out HXb.out Hq0.out Hr0.out hE.out).mono ?_
    rintro e w4 ⟨q, qn, qc, r, rn, rc, rfl, hO, hO2, hD, hB⟩
    clear cXa0_17 cXa1_17 cXb0_17 cXb1_17
    have hstep : Below w3.heap.size w3 w4 := (by first | exact hB | exact below_drew hB)
    have Xa_18 := Xa_13.next hstep
    have Xb_19 := Xb_14.next hstep
    have Ra_20 := Ra_15.below hstep
    have Rb_21 := Rb_16.below hstep
    have hbel22 := hbel17.next hstep
    have hle22 := hbel22.size
    have hls22 := hstep.size
    clear Xa_13 Xb_14 Ra_15 Rb_16 hbel17 hstep
    have cXa0_22 : _ = some (Value.bool sa) := Xa_18.cell 0
    have cXa1_22 : _ = some (Value.slice a na ca) := Xa_18.cell 1
    have cXb0_22 : _ = some (Value.bool sb) := Xb_19.cell 0
    have cXb1_22 : _ = some (Value.slice b nb cb) := Xb_19.cell 1
    have hlq : qn ≤ 31 := len_le (l := la) hO.len HBq0.out
    have hlr : rn ≤ 31 := len_le (l := la) hO2.len HBr0.out
    have Oq_23 := hO
    have Or_24 := hO2
    clear hO hO2 hB hD
    have hbx := blk_new' w4 #[Value.bool (decide (q0 < 0)), Value.slice q qn qc] 25 (g := w4.heap.size) (by simp)
    have hbB := (Below.refl w4.heap.size w4).alloc (Nat.le_refl _) (.cells #[Value.bool (decide (q0 < 0)), Value.slice q qn qc] 25)
    have hbg := hbx.lt
    clear cXa0_22 cXa1_22 cXb0_22 cXb1_22
    have hstep : Below w4.heap.size w4 (w4.alloc (.cells #[Value.bool (decide (q0 < 0)), Value.slice q qn qc] 25)) := (by first | exact hbB | exact below_drew hbB)
    have Xa_25 := Xa_18.next hstep
    have Xb_26 := Xb_19.next hstep
    have Ra_27 := Ra_20.below hstep
    have Rb_28 := Rb_21.below hstep
    have Oq_29 := Oq_23.below hstep
    have Or_30 := Or_24.below hstep
    have hbel31 := hbel22.next hstep
    have hle31 := hbel31.size
    have hls31 := hstep.size
    clear Xa_18 Xb_19 Ra_20 Rb_21 Oq_23 Or_24 hbel22 hstep
    have cXa0_31 : _ = some (Value.bool sa) := Xa_25.cell 0
    have cXa1_31 : _ = some (Value.slice a na ca) := Xa_25.cell 1
    have cXb0_31 : _ = some (Value.bool sb) := Xb_26.cell 0
    have cXb1_31 : _ = some (Value.slice b nb cb) := Xb_26.cell 1
    have Xq_32 := hbx
    have cXq0_32 : _ = some (Value.bool (decide (q0 < 0))) := Xq_32.cell 0
    have cXq1_32 : _ = some (Value.slice q qn qc) := Xq_32.cell 1
    clear hbx hbB
    have hbx := blk_new' (w4.alloc (.cells #[Value.bool (decide (q0 < 0)), Value.slice q qn qc] 25)) #[Value.bool (decide (r0 < 0)), Value.slice r rn rc] 25 (g := w4.heap.size + 1) (by simp)
    have hbB := (Below.refl (w4.alloc (.cells #[Value.bool (decide (q0 < 0)), Value.slice q qn qc] 25)).heap.size (w4.alloc (.cells #[Value.bool (decide (q0 < 0)), Value.slice q qn qc] 25))).alloc (Nat.le_refl _) (.cells #[Value.bool (decide (r0 < 0)), Value.slice r rn rc] 25)
    have hbg := hbx.lt
    clear cXa0_31 cXa1_31 cXb0_31 cXb1_31 cXq0_32 cXq1_32
    have hstep : Below (w4.alloc (.cells #[Value.bool (decide (q0 < 0)), Value.slice q qn qc] 25)).heap.size (w4.alloc (.cells #[Value.bool (decide (q0 < 0)), Value.slice q qn qc] 25)) ((w4.alloc (.cells #[Value.bool (decide (q0 < 0)), Value.slice q qn qc] 25)).alloc (.cells #[Value.bool (decide (r0 < 0)), Value.slice r rn rc] 25)) := (by first | exact hbB | exact below_drew hbB)
    have Xa_33 := Xa_25.next hstep
    have Xb_34 := Xb_26.next hstep
    have Xq_35 := Xq_32.next hstep
    have Ra_36 := Ra_27.below hstep
    have Rb_37 := Rb_28.below hstep
    have Oq_38 := Oq_29.below hstep
    have Or_39 := Or_30.below hstep
    have hbel40 := hbel31.next hstep
    have hle40 := hbel40.size
    have hls40 := hstep.size
    clear Xa_25 Xb_26 Xq_32 Ra_27 Rb_28 Oq_29 Or_30 hbel31 hstep
    have cXa0_40 : _ = some (Value.bool sa) := Xa_33.cell 0
    have cXa1_40 : _ = some (Value.slice a na ca) := Xa_33.cell 1
    have cXb0_40 : _ = some (Value.bool sb) := Xb_34.cell 0
    have cXb1_40 : _ = some (Value.slice b nb cb) := Xb_34.cell 1
    have cXq0_40 : _ = some (Value.bool (decide (q0 < 0))) := Xq_35.cell 0
    have cXq1_40 : _ = some (Value.slice q qn qc) := Xq_35.cell 1
    have Xr_41 := hbx
    have cXr0_41 : _ = some (Value.bool (decide (r0 < 0))) := Xr_41.cell 0
    have cXr1_41 : _ = some (Value.slice r rn rc) := Xr_41.cell 1
    clear hbx hbB
    go_wp2_with fail
    generalize ((w4.alloc (.cells #[Value.bool (decide (q0 < 0)), Value.slice q qn qc] 25)).alloc (.cells #[Value.bool (decide (r0 < 0)), Value.slice r rn rc] 25)) = v5 at *
    go_wp2_with fail
    refine (zfloorG Ra_36 (by omega) Rb_37 (by omega) HXa.out HXb.out Hf0.out Hu0.out hE.out).mono ?_
    rintro e w7 ⟨f, fn, fc, u, un, uc, rfl, hO, hO2, hD, hB⟩
    clear cXa0_40 cXa1_40 cXb0_40 cXb1_40 cXq0_40 cXq1_40 cXr0_41 cXr1_41
    have hstep : Below v5.heap.size v5 w7 := (by first | exact hB | exact below_drew hB)
    have Xa_42 := Xa_33.next hstep
    have Xb_43 := Xb_34.next hstep
    have Xq_44 := Xq_35.next hstep
    have Xr_45 := Xr_41.next hstep
    have Ra_46 := Ra_36.below hstep
    have Rb_47 := Rb_37.below hstep
    have Oq_48 := Oq_38.below hstep
    have Or_49 := Or_39.below hstep
    have hbel50 := hbel40.next hstep
    have hle50 := hbel50.size
    have hls50 := hstep.size
    clear Xa_33 Xb_34 Xq_35 Xr_41 Ra_36 Rb_37 Oq_38 Or_39 hbel40 hstep
    have cXa0_50 : _ = some (Value.bool sa) := Xa_42.cell 0
    have cXa1_50 : _ = some (Value.slice a na ca) := Xa_42.cell 1
    have cXb0_50 : _ = some (Value.bool sb) := Xb_43.cell 0
    have cXb1_50 : _ = some (Value.slice b nb cb) := Xb_43.cell 1
    have cXq0_50 : _ = some (Value.bool (decide (q0 < 0))) := Xq_44.cell 0
    have cXq1_50 : _ = some (Value.slice q qn qc) := Xq_44.cell 1
    have cXr0_50 : _ = some (Value.bool (decide (r0 < 0))) := Xr_45.cell 0
    have cXr1_50 : _ = some (Value.slice r rn rc) := Xr_45.cell 1
    have hlf : fn ≤ 31 := len_le (l := la) hO.len HBf0.out
    have hlu : un ≤ 31 := len_le (l := la) hO2.len HBu0.out
    have Of_51 := hO
    have Ou_52 := hO2
    clear hO hO2 hB hD
    have hbx := blk_new' w7 #[Value.bool (decide (f0 < 0)), Value.slice f fn fc] 25 (g := w7.heap.size) (by simp)
    have hbB := (Below.refl w7.heap.size w7).alloc (Nat.le_refl _) (.cells #[Value.bool (decide (f0 < 0)), Value.slice f fn fc] 25)
    have hbg := hbx.lt
    clear cXa0_50 cXa1_50 cXb0_50 cXb1_50 cXq0_50 cXq1_50 cXr0_50 cXr1_50
    have hstep : Below w7.heap.size w7 (w7.alloc (.cells #[Value.bool (decide (f0 < 0)), Value.slice f fn fc] 25)) := (by first | exact hbB | exact below_drew hbB)
    have Xa_53 := Xa_42.next hstep
    have Xb_54 := Xb_43.next hstep
    have Xq_55 := Xq_44.next hstep
    have Xr_56 := Xr_45.next hstep
    have Ra_57 := Ra_46.below hstep
    have Rb_58 := Rb_47.below hstep
    have Oq_59 := Oq_48.below hstep
    have Or_60 := Or_49.below hstep
    have Of_61 := Of_51.below hstep
    have Ou_62 := Ou_52.below hstep
    have hbel63 := hbel50.next hstep
    have hle63 := hbel63.size
    have hls63 := hstep.size
    clear Xa_42 Xb_43 Xq_44 Xr_45 Ra_46 Rb_47 Oq_48 Or_49 Of_51 Ou_52 hbel50 hstep
    have cXa0_63 : _ = some (Value.bool sa) := Xa_53.cell 0
    have cXa1_63 : _ = some (Value.slice a na ca) := Xa_53.cell 1
    have cXb0_63 : _ = some (Value.bool sb) := Xb_54.cell 0
    have cXb1_63 : _ = some (Value.slice b nb cb) := Xb_54.cell 1
    have cXq0_63 : _ = some (Value.bool (decide (q0 < 0))) := Xq_55.cell 0
    have cXq1_63 : _ = some (Value.slice q qn qc) := Xq_55.cell 1
    have cXr0_63 : _ = some (Value.bool (decide (r0 < 0))) := Xr_56.cell 0
    have cXr1_63 : _ = some (Value.slice r rn rc) := Xr_56.cell 1
    have Xf_64 := hbx
    have cXf0_64 : _ = some (Value.bool (decide (f0 < 0))) := Xf_64.cell 0
    have cXf1_64 : _ = some (Value.slice f fn fc) := Xf_64.cell 1
    clear hbx hbB
    have hbx := blk_new' (w7.alloc (.cells #[Value.bool (decide (f0 < 0)), Value.slice f fn fc] 25)) #[Value.bool (decide (u0 < 0)), Value.slice u un uc] 25 (g := w7.heap.size + 1) (by simp)
    have hbB := (Below.refl (w7.alloc (.cells #[Value.bool (decide (f0 < 0)), Value.slice f fn fc] 25)).heap.size (w7.alloc (.cells #[Value.bool (decide (f0 < 0)), Value.slice f fn fc] 25))).alloc (Nat.le_refl _) (.cells #[Value.bool (decide (u0 < 0)), Value.slice u un uc] 25)
    have hbg := hbx.lt
    clear cXa0_63 cXa1_63 cXb0_63 cXb1_63 cXq0_63 cXq1_63 cXr0_63 cXr1_63 cXf0_64 cXf1_64
    have hstep : Below (w7.alloc (.cells #[Value.bool (decide (f0 < 0)), Value.slice f fn fc] 25)).heap.size (w7.alloc (.cells #[Value.bool (decide (f0 < 0)), Value.slice f fn fc] 25)) ((w7.alloc (.cells #[Value.bool (decide (f0 < 0)), Value.slice f fn fc] 25)).alloc (.cells #[Value.bool (decide (u0 < 0)), Value.slice u un uc] 25)) := (by first | exact hbB | exact below_drew hbB)
    have Xa_65 := Xa_53.next hstep
    have Xb_66 := Xb_54.next hstep
    have Xq_67 := Xq_55.next hstep
    have Xr_68 := Xr_56.next hstep
    have Xf_69 := Xf_64.next hstep
    have Ra_70 := Ra_57.below hstep
    have Rb_71 := Rb_58.below hstep
    have Oq_72 := Oq_59.below hstep
    have Or_73 := Or_60.below hstep
    have Of_74 := Of_61.below hstep
    have Ou_75 := Ou_62.below hstep
    have hbel76 := hbel63.next hstep
    have hle76 := hbel76.size
    have hls76 := hstep.size
    clear Xa_53 Xb_54 Xq_55 Xr_56 Xf_64 Ra_57 Rb_58 Oq_59 Or_60 Of_61 Ou_62 hbel63 hstep
    have cXa0_76 : _ = some (Value.bool sa) := Xa_65.cell 0
    have cXa1_76 : _ = some (Value.slice a na ca) := Xa_65.cell 1
    have cXb0_76 : _ = some (Value.bool sb) := Xb_66.cell 0
    have cXb1_76 : _ = some (Value.slice b nb cb) := Xb_66.cell 1
    have cXq0_76 : _ = some (Value.bool (decide (q0 < 0))) := Xq_67.cell 0
    have cXq1_76 : _ = some (Value.slice q qn qc) := Xq_67.cell 1
    have cXr0_76 : _ = some (Value.bool (decide (r0 < 0))) := Xr_68.cell 0
    have cXr1_76 : _ = some (Value.slice r rn rc) := Xr_68.cell 1
    have cXf0_76 : _ = some (Value.bool (decide (f0 < 0))) := Xf_69.cell 0
    have cXf1_76 : _ = some (Value.slice f fn fc) := Xf_69.cell 1
    have Xu_77 := hbx
    have cXu0_77 : _ = some (Value.bool (decide (u0 < 0))) := Xu_77.cell 0
    have cXu1_77 : _ = some (Value.slice u un uc) := Xu_77.cell 1
    clear hbx hbB
    go_wp2_with fail
    generalize ((w7.alloc (.cells #[Value.bool (decide (f0 < 0)), Value.slice f fn fc] 25)).alloc (.cells #[Value.bool (decide (u0 < 0)), Value.slice u un uc] 25)) = v8 at *
    have HE2 := hid (show sgn zb = gb from (by exact Hgb.out))
    go_wp2_with fail
    refine (zsignG (show Rd _ b nb cb lb from Rb_71) (show nb ≤ 4194304 by omega) HXb.out HE2.out).mono ?_
    rintro e w10 ⟨rfl, hB⟩
    clear cXa0_76 cXa1_76 cXb0_76 cXb1_76 cXq0_76 cXq1_76 cXr0_76 cXr1_76 cXf0_76 cXf1_76 cXu0_77 cXu1_77
    have hstep : Below v8.heap.size v8 w10 := (by first | exact hB | exact below_drew hB)
    have Xa_78 := Xa_65.next hstep
    have Xb_79 := Xb_66.next hstep
    have Xq_80 := Xq_67.next hstep
    have Xr_81 := Xr_68.next hstep
    have Xf_82 := Xf_69.next hstep
    have Xu_83 := Xu_77.next hstep
    have Ra_84 := Ra_70.below hstep
    have Rb_85 := Rb_71.below hstep
    have Oq_86 := Oq_72.below hstep
    have Or_87 := Or_73.below hstep
    have Of_88 := Of_74.below hstep
    have Ou_89 := Ou_75.below hstep
    have hbel90 := hbel76.next hstep
    have hle90 := hbel90.size
    have hls90 := hstep.size
    clear Xa_65 Xb_66 Xq_67 Xr_68 Xf_69 Xu_77 Ra_70 Rb_71 Oq_72 Or_73 Of_74 Ou_75 hbel76 hstep
    have cXa0_90 : _ = some (Value.bool sa) := Xa_78.cell 0
    have cXa1_90 : _ = some (Value.slice a na ca) := Xa_78.cell 1
    have cXb0_90 : _ = some (Value.bool sb) := Xb_79.cell 0
    have cXb1_90 : _ = some (Value.slice b nb cb) := Xb_79.cell 1
    have cXq0_90 : _ = some (Value.bool (decide (q0 < 0))) := Xq_80.cell 0
    have cXq1_90 : _ = some (Value.slice q qn qc) := Xq_80.cell 1
    have cXr0_90 : _ = some (Value.bool (decide (r0 < 0))) := Xr_81.cell 0
    have cXr1_90 : _ = some (Value.slice r rn rc) := Xr_81.cell 1
    have cXf0_90 : _ = some (Value.bool (decide (f0 < 0))) := Xf_82.cell 0
    have cXf1_90 : _ = some (Value.slice f fn fc) := Xf_82.cell 1
    have cXu0_90 : _ = some (Value.bool (decide (u0 < 0))) := Xu_83.cell 0
    have cXu1_90 : _ = some (Value.slice u un uc) := Xu_83.cell 1
    go_wp2_with fail
    obtain ⟨z3, hzz⟩ : ∃ z, q0 * zb = z := ⟨_, rfl⟩
    have Hz3 := hid hzz
    have HBz3 : Hid (Sz z3.natAbs 61) := szI_mul HBq0.out HBzb.out hzz
    clear hzz
    obtain ⟨z4, hzz⟩ : ∃ z, z3 + r0 = z := ⟨_, rfl⟩
    have Hz4 := hid hzz
    have HBz4 : Hid (Sz z4.natAbs 62) := szI_add HBz3.out (HBr0.out.mono (Nat.le_refl _) (by omega)) hzz
    clear hzz
    have HE5 := hid (show decide (z4 = za) = true from decide_eq_true (by rw [← Hz4.out, ← Hz3.out]; exact HD.out.p1))
    obtain ⟨z6, hzz⟩ : ∃ z, f0 * zb = z := ⟨_, rfl⟩
    have Hz6 := hid hzz
    have HBz6 : Hid (Sz z6.natAbs 61) := szI_mul HBf0.out HBzb.out hzz
    clear hzz
    obtain ⟨z7, hzz⟩ : ∃ z, z6 + u0 = z := ⟨_, rfl⟩
    have Hz7 := hid hzz
    have HBz7 : Hid (Sz z7.natAbs 62) := szI_add HBz6.out (HBu0.out.mono (Nat.le_refl _) (by omega)) hzz
    clear hzz
    have HE8 := hid (show decide (z7 = za) = true from decide_eq_true (by rw [← Hz7.out, ← Hz6.out]; exact HD.out.p2))
    go_wp2_with fail
    have KXa0_0 : _ = some (Value.bool sa) := Xa_78.cell 0
    have KXa1_0 : _ = some (Value.slice a na ca) := Xa_78.cell 1
    have KXb0_0 : _ = some (Value.bool sb) := Xb_79.cell 0
    have KXb1_0 : _ = some (Value.slice b nb cb) := Xb_79.cell 1
    have KXq0_0 : _ = some (Value.bool (decide (q0 < 0))) := Xq_80.cell 0
    have KXq1_0 : _ = some (Value.slice q qn qc) := Xq_80.cell 1
    have KXr0_0 : _ = some (Value.bool (decide (r0 < 0))) := Xr_81.cell 0
    have KXr1_0 : _ = some (Value.slice r rn rc) := Xr_81.cell 1
    have KXf0_0 : _ = some (Value.bool (decide (f0 < 0))) := Xf_82.cell 0
    have KXf1_0 : _ = some (Value.slice f fn fc) := Xf_82.cell 1
    have KXu0_0 : _ = some (Value.bool (decide (u0 < 0))) := Xu_83.cell 0
    have KXu1_0 : _ = some (Value.slice u un uc) := Xu_83.cell 1
    have Xa_h0 := Xa_78
    have Xb_h0 := Xb_79
    have Xq_h0 := Xq_80
    have Xr_h0 := Xr_81
    have Xf_h0 := Xf_82
    have Xu_h0 := Xu_83
    have acc0 : Below w10.heap.size w10 w10 := Below.refl _ _
    go_region_held3 (fun w' => w'.cell? ⟨w.heap.size, 0, none⟩ = some (Value.bool sa) ∧ w'.cell? ⟨w.heap.size, 1, none⟩ = some (Value.slice a na ca) ∧ w'.cell? ⟨w.heap.size + 1, 0, none⟩ = some (Value.bool sb) ∧ w'.cell? ⟨w.heap.size + 1, 1, none⟩ = some (Value.slice b nb cb) ∧ w'.cell? ⟨w4.heap.size, 0, none⟩ = some (Value.bool (decide (q0 < 0))) ∧ w'.cell? ⟨w4.heap.size, 1, none⟩ = some (Value.slice q qn qc) ∧ w'.cell? ⟨w4.heap.size + 1, 0, none⟩ = some (Value.bool (decide (r0 < 0))) ∧ w'.cell? ⟨w4.heap.size + 1, 1, none⟩ = some (Value.slice r rn rc) ∧ w'.cell? ⟨w7.heap.size, 0, none⟩ = some (Value.bool (decide (f0 < 0))) ∧ w'.cell? ⟨w7.heap.size, 1, none⟩ = some (Value.slice f fn fc) ∧ w'.cell? ⟨w7.heap.size + 1, 0, none⟩ = some (Value.bool (decide (u0 < 0))) ∧ w'.cell? ⟨w7.heap.size + 1, 1, none⟩ = some (Value.slice u un uc))
      (first | exact ⟨KXa0_0, KXa1_0, KXb0_0, KXb1_0, KXq0_0, KXq1_0, KXr0_0, KXr1_0, KXf0_0, KXf1_0, KXu0_0, KXu1_0⟩ | exact ⟨KXa0_1, KXa1_1, KXb0_1, KXb1_1, KXq0_1, KXq1_1, KXr0_1, KXr1_1, KXf0_1, KXf1_1, KXu0_1, KXu1_1⟩ | exact ⟨KXa0_2, KXa1_2, KXb0_2, KXb1_2, KXq0_2, KXq1_2, KXr0_2, KXr1_2, KXf0_2, KXf1_2, KXu0_2, KXu1_2⟩ | exact ⟨KXa0_3, KXa1_3, KXb0_3, KXb1_3, KXq0_3, KXq1_3, KXr0_3, KXr1_3, KXf0_3, KXf1_3, KXu0_3, KXu1_3⟩ | exact ⟨KXa0_4, KXa1_4, KXb0_4, KXb1_4, KXq0_4, KXq1_4, KXr0_4, KXr1_4, KXf0_4, KXf1_4, KXu0_4, KXu1_4⟩ | exact ⟨KXa0_5, KXa1_5, KXb0_5, KXb1_5, KXq0_5, KXq1_5, KXr0_5, KXr1_5, KXf0_5, KXf1_5, KXu0_5, KXu1_5⟩ | exact ⟨KXa0_6, KXa1_6, KXb0_6, KXb1_6, KXq0_6, KXq1_6, KXr0_6, KXr1_6, KXf0_6, KXf1_6, KXu0_6, KXu1_6⟩ | go_keep)
      (first
        | (go_at_call 32; ((with_reducible refine (zmulG (show Rd _ q qn qc (lm q0.natAbs) from (Oq_86.below (by first | exact acc0 | exact (acc0).drew)).rd) (show qn ≤ 4194304 by omega) (show Rd _ b nb cb lb from Rb_85.below (by first | exact acc0 | exact (acc0).drew)) (show nb ≤ 4194304 by omega) (zvlm q0) HXb.out Hz3.out).mono ?_); (rintro e w11 ⟨r3, r3n, r3c, rfl, hO1_1, hB⟩; have hst1 : Below w10.heap.size w10 w11 := (by first | exact hB | exact below_drew hB); have acc1 := acc0.next hst1; have Xa_h1 := Xa_h0.next hst1; have Xb_h1 := Xb_h0.next hst1; have Xq_h1 := Xq_h0.next hst1; have Xr_h1 := Xr_h0.next hst1; have Xf_h1 := Xf_h0.next hst1; have Xu_h1 := Xu_h0.next hst1; have KXa0_1 : _ = some (Value.bool sa) := Xa_h1.cell 0; have KXa1_1 : _ = some (Value.slice a na ca) := Xa_h1.cell 1; have KXb0_1 : _ = some (Value.bool sb) := Xb_h1.cell 0; have KXb1_1 : _ = some (Value.slice b nb cb) := Xb_h1.cell 1; have KXq0_1 : _ = some (Value.bool (decide (q0 < 0))) := Xq_h1.cell 0; have KXq1_1 : _ = some (Value.slice q qn qc) := Xq_h1.cell 1; have KXr0_1 : _ = some (Value.bool (decide (r0 < 0))) := Xr_h1.cell 0; have KXr1_1 : _ = some (Value.slice r rn rc) := Xr_h1.cell 1; have KXf0_1 : _ = some (Value.bool (decide (f0 < 0))) := Xf_h1.cell 0; have KXf1_1 : _ = some (Value.slice f fn fc) := Xf_h1.cell 1; have KXu0_1 : _ = some (Value.bool (decide (u0 < 0))) := Xu_h1.cell 0; have KXu1_1 : _ = some (Value.slice u un uc) := Xu_h1.cell 1; have hlr3 : r3n ≤ 61 := len_le (l := la) hO1_1.len HBz3.out)))
        | (go_at_call 31; ((with_reducible refine (zaddG (show Rd _ r3 r3n r3c (lm z3.natAbs) from (hO1_1.below (by first | exact Below.refl _ _ | exact (Below.refl _ _).drew)).rd) (show r3n ≤ 4194304 by omega) (show Rd _ r rn rc (lm r0.natAbs) from (Or_87.below (by first | exact acc1 | exact (acc1).drew)).rd) (show rn ≤ 4194304 by omega) (zvlm z3) (zvlm r0) Hz4.out).mono ?_); (rintro e w12 ⟨r4, r4n, r4c, rfl, hO2_2, hB⟩; have hst2 : Below w11.heap.size w11 w12 := (by first | exact hB | exact below_drew hB); have acc2 := acc1.next hst2; have Xa_h2 := Xa_h1.next hst2; have Xb_h2 := Xb_h1.next hst2; have Xq_h2 := Xq_h1.next hst2; have Xr_h2 := Xr_h1.next hst2; have Xf_h2 := Xf_h1.next hst2; have Xu_h2 := Xu_h1.next hst2; have KXa0_2 : _ = some (Value.bool sa) := Xa_h2.cell 0; have KXa1_2 : _ = some (Value.slice a na ca) := Xa_h2.cell 1; have KXb0_2 : _ = some (Value.bool sb) := Xb_h2.cell 0; have KXb1_2 : _ = some (Value.slice b nb cb) := Xb_h2.cell 1; have KXq0_2 : _ = some (Value.bool (decide (q0 < 0))) := Xq_h2.cell 0; have KXq1_2 : _ = some (Value.slice q qn qc) := Xq_h2.cell 1; have KXr0_2 : _ = some (Value.bool (decide (r0 < 0))) := Xr_h2.cell 0; have KXr1_2 : _ = some (Value.slice r rn rc) := Xr_h2.cell 1; have KXf0_2 : _ = some (Value.bool (decide (f0 < 0))) := Xf_h2.cell 0; have KXf1_2 : _ = some (Value.slice f fn fc) := Xf_h2.cell 1; have KXu0_2 : _ = some (Value.bool (decide (u0 < 0))) := Xu_h2.cell 0; have KXu1_2 : _ = some (Value.slice u un uc) := Xu_h2.cell 1; have hlr4 : r4n ≤ 62 := len_le (l := la) hO2_2.len HBz4.out)))
        | (go_at_call 30; ((with_reducible refine (zequalG (show Rd _ r4 r4n r4c (lm z4.natAbs) from (hO2_2.below (by first | exact Below.refl _ _ | exact (Below.refl _ _).drew)).rd) (show r4n ≤ 4194304 by omega) (show Rd _ a na ca la from Ra_84.below (by first | exact acc2 | exact (acc2).drew)) (show na ≤ 4194304 by omega) (zvlm z4) HXa.out HE5.out).mono ?_); (rintro e w13 ⟨rfl, hB⟩; have hst3 : Below w12.heap.size w12 w13 := (by first | exact hB | exact below_drew hB); have acc3 := acc2.next hst3; have Xa_h3 := Xa_h2.next hst3; have Xb_h3 := Xb_h2.next hst3; have Xq_h3 := Xq_h2.next hst3; have Xr_h3 := Xr_h2.next hst3; have Xf_h3 := Xf_h2.next hst3; have Xu_h3 := Xu_h2.next hst3; have KXa0_3 : _ = some (Value.bool sa) := Xa_h3.cell 0; have KXa1_3 : _ = some (Value.slice a na ca) := Xa_h3.cell 1; have KXb0_3 : _ = some (Value.bool sb) := Xb_h3.cell 0; have KXb1_3 : _ = some (Value.slice b nb cb) := Xb_h3.cell 1; have KXq0_3 : _ = some (Value.bool (decide (q0 < 0))) := Xq_h3.cell 0; have KXq1_3 : _ = some (Value.slice q qn qc) := Xq_h3.cell 1; have KXr0_3 : _ = some (Value.bool (decide (r0 < 0))) := Xr_h3.cell 0; have KXr1_3 : _ = some (Value.slice r rn rc) := Xr_h3.cell 1; have KXf0_3 : _ = some (Value.bool (decide (f0 < 0))) := Xf_h3.cell 0; have KXf1_3 : _ = some (Value.slice f fn fc) := Xf_h3.cell 1; have KXu0_3 : _ = some (Value.bool (decide (u0 < 0))) := Xu_h3.cell 0; have KXu1_3 : _ = some (Value.slice u un uc) := Xu_h3.cell 1)))
        | (go_at_call 32; ((with_reducible refine (zmulG (show Rd _ f fn fc (lm f0.natAbs) from (Of_88.below (by first | exact acc3 | exact (acc3).drew)).rd) (show fn ≤ 4194304 by omega) (show Rd _ b nb cb lb from Rb_85.below (by first | exact acc3 | exact (acc3).drew)) (show nb ≤ 4194304 by omega) (zvlm f0) HXb.out Hz6.out).mono ?_); (rintro e w14 ⟨r6, r6n, r6c, rfl, hO4_4, hB⟩; have hst4 : Below w13.heap.size w13 w14 := (by first | exact hB | exact below_drew hB); have acc4 := acc3.next hst4; have Xa_h4 := Xa_h3.next hst4; have Xb_h4 := Xb_h3.next hst4; have Xq_h4 := Xq_h3.next hst4; have Xr_h4 := Xr_h3.next hst4; have Xf_h4 := Xf_h3.next hst4; have Xu_h4 := Xu_h3.next hst4; have KXa0_4 : _ = some (Value.bool sa) := Xa_h4.cell 0; have KXa1_4 : _ = some (Value.slice a na ca) := Xa_h4.cell 1; have KXb0_4 : _ = some (Value.bool sb) := Xb_h4.cell 0; have KXb1_4 : _ = some (Value.slice b nb cb) := Xb_h4.cell 1; have KXq0_4 : _ = some (Value.bool (decide (q0 < 0))) := Xq_h4.cell 0; have KXq1_4 : _ = some (Value.slice q qn qc) := Xq_h4.cell 1; have KXr0_4 : _ = some (Value.bool (decide (r0 < 0))) := Xr_h4.cell 0; have KXr1_4 : _ = some (Value.slice r rn rc) := Xr_h4.cell 1; have KXf0_4 : _ = some (Value.bool (decide (f0 < 0))) := Xf_h4.cell 0; have KXf1_4 : _ = some (Value.slice f fn fc) := Xf_h4.cell 1; have KXu0_4 : _ = some (Value.bool (decide (u0 < 0))) := Xu_h4.cell 0; have KXu1_4 : _ = some (Value.slice u un uc) := Xu_h4.cell 1; have hlr6 : r6n ≤ 61 := len_le (l := la) hO4_4.len HBz6.out)))
        | (go_at_call 31; ((with_reducible refine (zaddG (show Rd _ r6 r6n r6c (lm z6.natAbs) from (hO4_4.below (by first | exact Below.refl _ _ | exact (Below.refl _ _).drew)).rd) (show r6n ≤ 4194304 by omega) (show Rd _ u un uc (lm u0.natAbs) from (Ou_89.below (by first | exact acc4 | exact (acc4).drew)).rd) (show un ≤ 4194304 by omega) (zvlm z6) (zvlm u0) Hz7.out).mono ?_); (rintro e w15 ⟨r7, r7n, r7c, rfl, hO5_5, hB⟩; have hst5 : Below w14.heap.size w14 w15 := (by first | exact hB | exact below_drew hB); have acc5 := acc4.next hst5; have Xa_h5 := Xa_h4.next hst5; have Xb_h5 := Xb_h4.next hst5; have Xq_h5 := Xq_h4.next hst5; have Xr_h5 := Xr_h4.next hst5; have Xf_h5 := Xf_h4.next hst5; have Xu_h5 := Xu_h4.next hst5; have KXa0_5 : _ = some (Value.bool sa) := Xa_h5.cell 0; have KXa1_5 : _ = some (Value.slice a na ca) := Xa_h5.cell 1; have KXb0_5 : _ = some (Value.bool sb) := Xb_h5.cell 0; have KXb1_5 : _ = some (Value.slice b nb cb) := Xb_h5.cell 1; have KXq0_5 : _ = some (Value.bool (decide (q0 < 0))) := Xq_h5.cell 0; have KXq1_5 : _ = some (Value.slice q qn qc) := Xq_h5.cell 1; have KXr0_5 : _ = some (Value.bool (decide (r0 < 0))) := Xr_h5.cell 0; have KXr1_5 : _ = some (Value.slice r rn rc) := Xr_h5.cell 1; have KXf0_5 : _ = some (Value.bool (decide (f0 < 0))) := Xf_h5.cell 0; have KXf1_5 : _ = some (Value.slice f fn fc) := Xf_h5.cell 1; have KXu0_5 : _ = some (Value.bool (decide (u0 < 0))) := Xu_h5.cell 0; have KXu1_5 : _ = some (Value.slice u un uc) := Xu_h5.cell 1; have hlr7 : r7n ≤ 62 := len_le (l := la) hO5_5.len HBz7.out)))
        | (go_at_call 30; ((with_reducible refine (zequalG (show Rd _ r7 r7n r7c (lm z7.natAbs) from (hO5_5.below (by first | exact Below.refl _ _ | exact (Below.refl _ _).drew)).rd) (show r7n ≤ 4194304 by omega) (show Rd _ a na ca la from Ra_84.below (by first | exact acc5 | exact (acc5).drew)) (show na ≤ 4194304 by omega) (zvlm z7) HXa.out HE8.out).mono ?_); (rintro e w16 ⟨rfl, hB⟩; have hst6 : Below w15.heap.size w15 w16 := (by first | exact hB | exact below_drew hB); have acc6 := acc5.next hst6; have Xa_h6 := Xa_h5.next hst6; have Xb_h6 := Xb_h5.next hst6; have Xq_h6 := Xq_h5.next hst6; have Xr_h6 := Xr_h5.next hst6; have Xf_h6 := Xf_h5.next hst6; have Xu_h6 := Xu_h5.next hst6; have KXa0_6 : _ = some (Value.bool sa) := Xa_h6.cell 0; have KXa1_6 : _ = some (Value.slice a na ca) := Xa_h6.cell 1; have KXb0_6 : _ = some (Value.bool sb) := Xb_h6.cell 0; have KXb1_6 : _ = some (Value.slice b nb cb) := Xb_h6.cell 1; have KXq0_6 : _ = some (Value.bool (decide (q0 < 0))) := Xq_h6.cell 0; have KXq1_6 : _ = some (Value.slice q qn qc) := Xq_h6.cell 1; have KXr0_6 : _ = some (Value.bool (decide (r0 < 0))) := Xr_h6.cell 0; have KXr1_6 : _ = some (Value.slice r rn rc) := Xr_h6.cell 1; have KXf0_6 : _ = some (Value.bool (decide (f0 < 0))) := Xf_h6.cell 0; have KXf1_6 : _ = some (Value.slice f fn fc) := Xf_h6.cell 1; have KXu0_6 : _ = some (Value.bool (decide (u0 < 0))) := Xu_h6.cell 0; have KXu1_6 : _ = some (Value.slice u un uc) := Xu_h6.cell 1))))
    clear cXa0_90 cXa1_90 cXb0_90 cXb1_90 cXq0_90 cXq1_90 cXr0_90 cXr1_90 cXf0_90 cXf1_90 cXu0_90 cXu1_90
    have hstep : Below w10.heap.size w10 w16 := (by first | exact acc6 | exact below_drew acc6)
    have Xa_91 := Xa_78.next hstep
    have Xb_92 := Xb_79.next hstep
    have Xq_93 := Xq_80.next hstep
    have Xr_94 := Xr_81.next hstep
    have Xf_95 := Xf_82.next hstep
    have Xu_96 := Xu_83.next hstep
    have Ra_97 := Ra_84.below hstep
    have Rb_98 := Rb_85.below hstep
    have Oq_99 := Oq_86.below hstep
    have Or_100 := Or_87.below hstep
    have Of_101 := Of_88.below hstep
    have Ou_102 := Ou_89.below hstep
    have hbel103 := hbel90.next hstep
    have hle103 := hbel103.size
    have hls103 := hstep.size
    clear Xa_78 Xb_79 Xq_80 Xr_81 Xf_82 Xu_83 Ra_84 Rb_85 Oq_86 Or_87 Of_88 Ou_89 hbel90 hstep
    have cXa0_103 : _ = some (Value.bool sa) := Xa_91.cell 0
    have cXa1_103 : _ = some (Value.slice a na ca) := Xa_91.cell 1
    have cXb0_103 : _ = some (Value.bool sb) := Xb_92.cell 0
    have cXb1_103 : _ = some (Value.slice b nb cb) := Xb_92.cell 1
    have cXq0_103 : _ = some (Value.bool (decide (q0 < 0))) := Xq_93.cell 0
    have cXq1_103 : _ = some (Value.slice q qn qc) := Xq_93.cell 1
    have cXr0_103 : _ = some (Value.bool (decide (r0 < 0))) := Xr_94.cell 0
    have cXr1_103 : _ = some (Value.slice r rn rc) := Xr_94.cell 1
    have cXf0_103 : _ = some (Value.bool (decide (f0 < 0))) := Xf_95.cell 0
    have cXf1_103 : _ = some (Value.slice f fn fc) := Xf_95.cell 1
    have cXu0_103 : _ = some (Value.bool (decide (u0 < 0))) := Xu_96.cell 0
    have cXu1_103 : _ = some (Value.slice u un uc) := Xu_96.cell 1
    clear acc0 acc1 acc2 acc3 acc4 acc5 acc6 hst1 hst2 hst3 hst4 hst5 hst6 KXa0_0 KXa1_0 KXb0_0 KXb1_0 KXq0_0 KXq1_0 KXr0_0 KXr1_0 KXf0_0 KXf1_0 KXu0_0 KXu1_0 KXa0_1 KXa1_1 KXb0_1 KXb1_1 KXq0_1 KXq1_1 KXr0_1 KXr1_1 KXf0_1 KXf1_1 KXu0_1 KXu1_1 KXa0_2 KXa1_2 KXb0_2 KXb1_2 KXq0_2 KXq1_2 KXr0_2 KXr1_2 KXf0_2 KXf1_2 KXu0_2 KXu1_2 KXa0_3 KXa1_3 KXb0_3 KXb1_3 KXq0_3 KXq1_3 KXr0_3 KXr1_3 KXf0_3 KXf1_3 KXu0_3 KXu1_3 KXa0_4 KXa1_4 KXb0_4 KXb1_4 KXq0_4 KXq1_4 KXr0_4 KXr1_4 KXf0_4 KXf1_4 KXu0_4 KXu1_4 KXa0_5 KXa1_5 KXb0_5 KXb1_5 KXq0_5 KXq1_5 KXr0_5 KXr1_5 KXf0_5 KXf1_5 KXu0_5 KXu1_5 KXa0_6 KXa1_6 KXb0_6 KXb1_6 KXq0_6 KXq1_6 KXr0_6 KXr1_6 KXf0_6 KXf1_6 KXu0_6 KXu1_6 Xa_h0 Xa_h1 Xa_h2 Xa_h3 Xa_h4 Xa_h5 Xa_h6 Xb_h0 Xb_h1 Xb_h2 Xb_h3 Xb_h4 Xb_h5 Xb_h6 Xq_h0 Xq_h1 Xq_h2 Xq_h3 Xq_h4 Xq_h5 Xq_h6 Xr_h0 Xr_h1 Xr_h2 Xr_h3 Xr_h4 Xr_h5 Xr_h6 Xf_h0 Xf_h1 Xf_h2 Xf_h3 Xf_h4 Xf_h5 Xf_h6 Xu_h0 Xu_h1 Xu_h2 Xu_h3 Xu_h4 Xu_h5 Xu_h6
    clear hO1_1 hO2_2 hO4_4 hO5_5
    go_wp2_with fail
    obtain ⟨z9, hzz⟩ : ∃ z, zv false (val (lm r0.natAbs)) = z := ⟨_, rfl⟩
    have Hz9 := hid hzz
    clear hzz
    obtain ⟨z10, hzz⟩ : ∃ z, zv false (val (lb)) = z := ⟨_, rfl⟩
    have Hz10 := hid hzz
    clear hzz
    have HE11 := hid (show cmpZ z9 z10 = (-1) from (by exact cmpZ_size (zvlm r0) HXb.out Hz9.out Hz10.out HD.out.s1))
    obtain ⟨z12, hzz⟩ : ∃ z, zv false (val (lm u0.natAbs)) = z := ⟨_, rfl⟩
    have Hz12 := hid hzz
    clear hzz
    obtain ⟨z13, hzz⟩ : ∃ z, zv false (val (lb)) = z := ⟨_, rfl⟩
    have Hz13 := hid hzz
    clear hzz
    have HE14 := hid (show cmpZ z12 z13 = (-1) from (by exact cmpZ_size (zvlm u0) HXb.out Hz12.out Hz13.out HD.out.s2))
    go_wp2_with fail
    have KXr0_0 : _ = some (Value.bool (decide (r0 < 0))) := Xr_94.cell 0
    have KXr1_0 : _ = some (Value.slice r rn rc) := Xr_94.cell 1
    have KXb0_0 : _ = some (Value.bool sb) := Xb_92.cell 0
    have KXb1_0 : _ = some (Value.slice b nb cb) := Xb_92.cell 1
    have KXu0_0 : _ = some (Value.bool (decide (u0 < 0))) := Xu_96.cell 0
    have KXu1_0 : _ = some (Value.slice u un uc) := Xu_96.cell 1
    have Xr_h0 := Xr_94
    have Xb_h0 := Xb_92
    have Xu_h0 := Xu_96
    have acc0 : Below w16.heap.size w16 w16 := Below.refl _ _
    go_region_held3 (fun w' => w'.cell? ⟨w4.heap.size + 1, 0, none⟩ = some (Value.bool (decide (r0 < 0))) ∧ w'.cell? ⟨w4.heap.size + 1, 1, none⟩ = some (Value.slice r rn rc) ∧ w'.cell? ⟨w.heap.size + 1, 0, none⟩ = some (Value.bool sb) ∧ w'.cell? ⟨w.heap.size + 1, 1, none⟩ = some (Value.slice b nb cb) ∧ w'.cell? ⟨w7.heap.size + 1, 0, none⟩ = some (Value.bool (decide (u0 < 0))) ∧ w'.cell? ⟨w7.heap.size + 1, 1, none⟩ = some (Value.slice u un uc))
      (first | exact ⟨KXr0_0, KXr1_0, KXb0_0, KXb1_0, KXu0_0, KXu1_0⟩ | exact ⟨KXr0_1, KXr1_1, KXb0_1, KXb1_1, KXu0_1, KXu1_1⟩ | exact ⟨KXr0_2, KXr1_2, KXb0_2, KXb1_2, KXu0_2, KXu1_2⟩ | exact ⟨KXr0_3, KXr1_3, KXb0_3, KXb1_3, KXu0_3, KXu1_3⟩ | exact ⟨KXr0_4, KXr1_4, KXb0_4, KXb1_4, KXu0_4, KXu1_4⟩ | exact ⟨KXr0_5, KXr1_5, KXb0_5, KXb1_5, KXu0_5, KXu1_5⟩ | exact ⟨KXr0_6, KXr1_6, KXb0_6, KXb1_6, KXu0_6, KXu1_6⟩ | go_keep)
      (first
        | (go_at_call 36; ((with_reducible refine (zsize_any (decide (r0 < 0)) (show Rd _ r rn rc (lm r0.natAbs) from (Or_100.below (by first | exact acc0 | exact (acc0).drew)).rd) (by omega)).mono ?_); (rintro e w17 ⟨rfl, hB⟩; have hst1 : Below w16.heap.size w16 w17 := (by first | exact hB | exact below_drew hB); have acc1 := acc0.next hst1; have Xr_h1 := Xr_h0.next hst1; have Xb_h1 := Xb_h0.next hst1; have Xu_h1 := Xu_h0.next hst1; have KXr0_1 : _ = some (Value.bool (decide (r0 < 0))) := Xr_h1.cell 0; have KXr1_1 : _ = some (Value.slice r rn rc) := Xr_h1.cell 1; have KXb0_1 : _ = some (Value.bool sb) := Xb_h1.cell 0; have KXb1_1 : _ = some (Value.slice b nb cb) := Xb_h1.cell 1; have KXu0_1 : _ = some (Value.bool (decide (u0 < 0))) := Xu_h1.cell 0; have KXu1_1 : _ = some (Value.slice u un uc) := Xu_h1.cell 1)))
        | (go_at_call 36; ((with_reducible refine (zsize_any sb (show Rd _ b nb cb lb from Rb_98.below (by first | exact acc1 | exact (acc1).drew)) (by omega)).mono ?_); (rintro e w18 ⟨rfl, hB⟩; have hst2 : Below w17.heap.size w17 w18 := (by first | exact hB | exact below_drew hB); have acc2 := acc1.next hst2; have Xr_h2 := Xr_h1.next hst2; have Xb_h2 := Xb_h1.next hst2; have Xu_h2 := Xu_h1.next hst2; have KXr0_2 : _ = some (Value.bool (decide (r0 < 0))) := Xr_h2.cell 0; have KXr1_2 : _ = some (Value.slice r rn rc) := Xr_h2.cell 1; have KXb0_2 : _ = some (Value.bool sb) := Xb_h2.cell 0; have KXb1_2 : _ = some (Value.slice b nb cb) := Xb_h2.cell 1; have KXu0_2 : _ = some (Value.bool (decide (u0 < 0))) := Xu_h2.cell 0; have KXu1_2 : _ = some (Value.slice u un uc) := Xu_h2.cell 1)))
        | (go_at_call 20; ((with_reducible refine (zcmpG (show Rd _ r rn rc (lm r0.natAbs) from (Or_100.below (by first | exact acc2 | exact (acc2).drew)).rd) (show rn ≤ 4194304 by omega) (show Rd _ b nb cb lb from Rb_98.below (by first | exact acc2 | exact (acc2).drew)) (show nb ≤ 4194304 by omega) Hz9.out Hz10.out HE11.out).mono ?_); (rintro e w19 ⟨rfl, hB⟩; have hst3 : Below w18.heap.size w18 w19 := (by first | exact hB | exact below_drew hB); have acc3 := acc2.next hst3; have Xr_h3 := Xr_h2.next hst3; have Xb_h3 := Xb_h2.next hst3; have Xu_h3 := Xu_h2.next hst3; have KXr0_3 : _ = some (Value.bool (decide (r0 < 0))) := Xr_h3.cell 0; have KXr1_3 : _ = some (Value.slice r rn rc) := Xr_h3.cell 1; have KXb0_3 : _ = some (Value.bool sb) := Xb_h3.cell 0; have KXb1_3 : _ = some (Value.slice b nb cb) := Xb_h3.cell 1; have KXu0_3 : _ = some (Value.bool (decide (u0 < 0))) := Xu_h3.cell 0; have KXu1_3 : _ = some (Value.slice u un uc) := Xu_h3.cell 1)))
        | (go_at_call 36; ((with_reducible refine (zsize_any (decide (u0 < 0)) (show Rd _ u un uc (lm u0.natAbs) from (Ou_102.below (by first | exact acc3 | exact (acc3).drew)).rd) (by omega)).mono ?_); (rintro e w20 ⟨rfl, hB⟩; have hst4 : Below w19.heap.size w19 w20 := (by first | exact hB | exact below_drew hB); have acc4 := acc3.next hst4; have Xr_h4 := Xr_h3.next hst4; have Xb_h4 := Xb_h3.next hst4; have Xu_h4 := Xu_h3.next hst4; have KXr0_4 : _ = some (Value.bool (decide (r0 < 0))) := Xr_h4.cell 0; have KXr1_4 : _ = some (Value.slice r rn rc) := Xr_h4.cell 1; have KXb0_4 : _ = some (Value.bool sb) := Xb_h4.cell 0; have KXb1_4 : _ = some (Value.slice b nb cb) := Xb_h4.cell 1; have KXu0_4 : _ = some (Value.bool (decide (u0 < 0))) := Xu_h4.cell 0; have KXu1_4 : _ = some (Value.slice u un uc) := Xu_h4.cell 1)))
        | (go_at_call 36; ((with_reducible refine (zsize_any sb (show Rd _ b nb cb lb from Rb_98.below (by first | exact acc4 | exact (acc4).drew)) (by omega)).mono ?_); (rintro e w21 ⟨rfl, hB⟩; have hst5 : Below w20.heap.size w20 w21 := (by first | exact hB | exact below_drew hB); have acc5 := acc4.next hst5; have Xr_h5 := Xr_h4.next hst5; have Xb_h5 := Xb_h4.next hst5; have Xu_h5 := Xu_h4.next hst5; have KXr0_5 : _ = some (Value.bool (decide (r0 < 0))) := Xr_h5.cell 0; have KXr1_5 : _ = some (Value.slice r rn rc) := Xr_h5.cell 1; have KXb0_5 : _ = some (Value.bool sb) := Xb_h5.cell 0; have KXb1_5 : _ = some (Value.slice b nb cb) := Xb_h5.cell 1; have KXu0_5 : _ = some (Value.bool (decide (u0 < 0))) := Xu_h5.cell 0; have KXu1_5 : _ = some (Value.slice u un uc) := Xu_h5.cell 1)))
        | (go_at_call 20; ((with_reducible refine (zcmpG (show Rd _ u un uc (lm u0.natAbs) from (Ou_102.below (by first | exact acc5 | exact (acc5).drew)).rd) (show un ≤ 4194304 by omega) (show Rd _ b nb cb lb from Rb_98.below (by first | exact acc5 | exact (acc5).drew)) (show nb ≤ 4194304 by omega) Hz12.out Hz13.out HE14.out).mono ?_); (rintro e w22 ⟨rfl, hB⟩; have hst6 : Below w21.heap.size w21 w22 := (by first | exact hB | exact below_drew hB); have acc6 := acc5.next hst6; have Xr_h6 := Xr_h5.next hst6; have Xb_h6 := Xb_h5.next hst6; have Xu_h6 := Xu_h5.next hst6; have KXr0_6 : _ = some (Value.bool (decide (r0 < 0))) := Xr_h6.cell 0; have KXr1_6 : _ = some (Value.slice r rn rc) := Xr_h6.cell 1; have KXb0_6 : _ = some (Value.bool sb) := Xb_h6.cell 0; have KXb1_6 : _ = some (Value.slice b nb cb) := Xb_h6.cell 1; have KXu0_6 : _ = some (Value.bool (decide (u0 < 0))) := Xu_h6.cell 0; have KXu1_6 : _ = some (Value.slice u un uc) := Xu_h6.cell 1))))
    clear cXa0_103 cXa1_103 cXb0_103 cXb1_103 cXq0_103 cXq1_103 cXr0_103 cXr1_103 cXf0_103 cXf1_103 cXu0_103 cXu1_103
    have hstep : Below w16.heap.size w16 w22 := (by first | exact acc6 | exact below_drew acc6)
    have Xa_104 := Xa_91.next hstep
    have Xb_105 := Xb_92.next hstep
    have Xq_106 := Xq_93.next hstep
    have Xr_107 := Xr_94.next hstep
    have Xf_108 := Xf_95.next hstep
    have Xu_109 := Xu_96.next hstep
    have Ra_110 := Ra_97.below hstep
    have Rb_111 := Rb_98.below hstep
    have Oq_112 := Oq_99.below hstep
    have Or_113 := Or_100.below hstep
    have Of_114 := Of_101.below hstep
    have Ou_115 := Ou_102.below hstep
    have hbel116 := hbel103.next hstep
    have hle116 := hbel116.size
    have hls116 := hstep.size
    clear Xa_91 Xb_92 Xq_93 Xr_94 Xf_95 Xu_96 Ra_97 Rb_98 Oq_99 Or_100 Of_101 Ou_102 hbel103 hstep
    have cXa0_116 : _ = some (Value.bool sa) := Xa_104.cell 0
    have cXa1_116 : _ = some (Value.slice a na ca) := Xa_104.cell 1
    have cXb0_116 : _ = some (Value.bool sb) := Xb_105.cell 0
    have cXb1_116 : _ = some (Value.slice b nb cb) := Xb_105.cell 1
    have cXq0_116 : _ = some (Value.bool (decide (q0 < 0))) := Xq_106.cell 0
    have cXq1_116 : _ = some (Value.slice q qn qc) := Xq_106.cell 1
    have cXr0_116 : _ = some (Value.bool (decide (r0 < 0))) := Xr_107.cell 0
    have cXr1_116 : _ = some (Value.slice r rn rc) := Xr_107.cell 1
    have cXf0_116 : _ = some (Value.bool (decide (f0 < 0))) := Xf_108.cell 0
    have cXf1_116 : _ = some (Value.slice f fn fc) := Xf_108.cell 1
    have cXu0_116 : _ = some (Value.bool (decide (u0 < 0))) := Xu_109.cell 0
    have cXu1_116 : _ = some (Value.slice u un uc) := Xu_109.cell 1
    clear acc0 acc1 acc2 acc3 acc4 acc5 acc6 hst1 hst2 hst3 hst4 hst5 hst6 KXr0_0 KXr1_0 KXb0_0 KXb1_0 KXu0_0 KXu1_0 KXr0_1 KXr1_1 KXb0_1 KXb1_1 KXu0_1 KXu1_1 KXr0_2 KXr1_2 KXb0_2 KXb1_2 KXu0_2 KXu1_2 KXr0_3 KXr1_3 KXb0_3 KXb1_3 KXu0_3 KXu1_3 KXr0_4 KXr1_4 KXb0_4 KXb1_4 KXu0_4 KXu1_4 KXr0_5 KXr1_5 KXb0_5 KXb1_5 KXu0_5 KXu1_5 KXr0_6 KXr1_6 KXb0_6 KXb1_6 KXu0_6 KXu1_6 Xr_h0 Xr_h1 Xr_h2 Xr_h3 Xr_h4 Xr_h5 Xr_h6 Xb_h0 Xb_h1 Xb_h2 Xb_h3 Xb_h4 Xb_h5 Xb_h6 Xu_h0 Xu_h1 Xu_h2 Xu_h3 Xu_h4 Xu_h5 Xu_h6
    go_wp2_with fail
    have hw1 : decide (0 ≤ IntKind.i64.wrap P) = true := by rw [hwP]; exact decide_eq_true hP0
    have hw2 : (0 ≤ IntKind.i64.wrap P) = True := by rw [hwP]; exact eq_true hP0
    have HE15 := hid (show sgn r0 = gr from (by exact Hgr.out))
    have HE16 := hid (show sgn za = ga from (by exact Hga.out))
    have HE17 := hid (show sgn u0 = gu from (by exact Hgu.out))
    have HE18 := hid (show sgn zb = gb from (by exact Hgb.out))
    go_wp2_with fail
    have KXr0_0 : _ = some (Value.bool (decide (r0 < 0))) := Xr_107.cell 0
    have KXr1_0 : _ = some (Value.slice r rn rc) := Xr_107.cell 1
    have KXa0_0 : _ = some (Value.bool sa) := Xa_104.cell 0
    have KXa1_0 : _ = some (Value.slice a na ca) := Xa_104.cell 1
    have KXu0_0 : _ = some (Value.bool (decide (u0 < 0))) := Xu_109.cell 0
    have KXu1_0 : _ = some (Value.slice u un uc) := Xu_109.cell 1
    have KXb0_0 : _ = some (Value.bool sb) := Xb_105.cell 0
    have KXb1_0 : _ = some (Value.slice b nb cb) := Xb_105.cell 1
    have Xr_h0 := Xr_107
    have Xa_h0 := Xa_104
    have Xu_h0 := Xu_109
    have Xb_h0 := Xb_105
    have acc0 : Below w22.heap.size w22 w22 := Below.refl _ _
    go_region_held3 (fun w' => w'.cell? ⟨w4.heap.size + 1, 0, none⟩ = some (Value.bool (decide (r0 < 0))) ∧ w'.cell? ⟨w4.heap.size + 1, 1, none⟩ = some (Value.slice r rn rc) ∧ w'.cell? ⟨w.heap.size, 0, none⟩ = some (Value.bool sa) ∧ w'.cell? ⟨w.heap.size, 1, none⟩ = some (Value.slice a na ca) ∧ w'.cell? ⟨w7.heap.size + 1, 0, none⟩ = some (Value.bool (decide (u0 < 0))) ∧ w'.cell? ⟨w7.heap.size + 1, 1, none⟩ = some (Value.slice u un uc) ∧ w'.cell? ⟨w.heap.size + 1, 0, none⟩ = some (Value.bool sb) ∧ w'.cell? ⟨w.heap.size + 1, 1, none⟩ = some (Value.slice b nb cb))
      (first | exact ⟨KXr0_0, KXr1_0, KXa0_0, KXa1_0, KXu0_0, KXu1_0, KXb0_0, KXb1_0⟩ | exact ⟨KXr0_1, KXr1_1, KXa0_1, KXa1_1, KXu0_1, KXu1_1, KXb0_1, KXb1_1⟩ | exact ⟨KXr0_2, KXr1_2, KXa0_2, KXa1_2, KXu0_2, KXu1_2, KXb0_2, KXb1_2⟩ | exact ⟨KXr0_3, KXr1_3, KXa0_3, KXa1_3, KXu0_3, KXu1_3, KXb0_3, KXb1_3⟩ | exact ⟨KXr0_4, KXr1_4, KXa0_4, KXa1_4, KXu0_4, KXu1_4, KXb0_4, KXb1_4⟩ | go_keep)
      (first
        | (go_at_call 22; ((with_reducible refine (zsignG (show Rd _ r rn rc (lm r0.natAbs) from (Or_113.below (by first | exact acc0 | exact (acc0).drew)).rd) (show rn ≤ 4194304 by omega) (zvlm r0) HE15.out).mono ?_); (rintro e w23 ⟨rfl, hB⟩; have hst1 : Below w22.heap.size w22 w23 := (by first | exact hB | exact below_drew hB); have acc1 := acc0.next hst1; have Xr_h1 := Xr_h0.next hst1; have Xa_h1 := Xa_h0.next hst1; have Xu_h1 := Xu_h0.next hst1; have Xb_h1 := Xb_h0.next hst1; have KXr0_1 : _ = some (Value.bool (decide (r0 < 0))) := Xr_h1.cell 0; have KXr1_1 : _ = some (Value.slice r rn rc) := Xr_h1.cell 1; have KXa0_1 : _ = some (Value.bool sa) := Xa_h1.cell 0; have KXa1_1 : _ = some (Value.slice a na ca) := Xa_h1.cell 1; have KXu0_1 : _ = some (Value.bool (decide (u0 < 0))) := Xu_h1.cell 0; have KXu1_1 : _ = some (Value.slice u un uc) := Xu_h1.cell 1; have KXb0_1 : _ = some (Value.bool sb) := Xb_h1.cell 0; have KXb1_1 : _ = some (Value.slice b nb cb) := Xb_h1.cell 1)))
        | (go_at_call 22; ((with_reducible refine (zsignG (show Rd _ a na ca la from Ra_110.below (by first | exact acc1 | exact (acc1).drew)) (show na ≤ 4194304 by omega) HXa.out HE16.out).mono ?_); (rintro e w24 ⟨rfl, hB⟩; have hst2 : Below w23.heap.size w23 w24 := (by first | exact hB | exact below_drew hB); have acc2 := acc1.next hst2; have Xr_h2 := Xr_h1.next hst2; have Xa_h2 := Xa_h1.next hst2; have Xu_h2 := Xu_h1.next hst2; have Xb_h2 := Xb_h1.next hst2; have KXr0_2 : _ = some (Value.bool (decide (r0 < 0))) := Xr_h2.cell 0; have KXr1_2 : _ = some (Value.slice r rn rc) := Xr_h2.cell 1; have KXa0_2 : _ = some (Value.bool sa) := Xa_h2.cell 0; have KXa1_2 : _ = some (Value.slice a na ca) := Xa_h2.cell 1; have KXu0_2 : _ = some (Value.bool (decide (u0 < 0))) := Xu_h2.cell 0; have KXu1_2 : _ = some (Value.slice u un uc) := Xu_h2.cell 1; have KXb0_2 : _ = some (Value.bool sb) := Xb_h2.cell 0; have KXb1_2 : _ = some (Value.slice b nb cb) := Xb_h2.cell 1)))
        | (go_at_call 22; ((with_reducible refine (zsignG (show Rd _ u un uc (lm u0.natAbs) from (Ou_115.below (by first | exact acc2 | exact (acc2).drew)).rd) (show un ≤ 4194304 by omega) (zvlm u0) HE17.out).mono ?_); (rintro e w25 ⟨rfl, hB⟩; have hst3 : Below w24.heap.size w24 w25 := (by first | exact hB | exact below_drew hB); have acc3 := acc2.next hst3; have Xr_h3 := Xr_h2.next hst3; have Xa_h3 := Xa_h2.next hst3; have Xu_h3 := Xu_h2.next hst3; have Xb_h3 := Xb_h2.next hst3; have KXr0_3 : _ = some (Value.bool (decide (r0 < 0))) := Xr_h3.cell 0; have KXr1_3 : _ = some (Value.slice r rn rc) := Xr_h3.cell 1; have KXa0_3 : _ = some (Value.bool sa) := Xa_h3.cell 0; have KXa1_3 : _ = some (Value.slice a na ca) := Xa_h3.cell 1; have KXu0_3 : _ = some (Value.bool (decide (u0 < 0))) := Xu_h3.cell 0; have KXu1_3 : _ = some (Value.slice u un uc) := Xu_h3.cell 1; have KXb0_3 : _ = some (Value.bool sb) := Xb_h3.cell 0; have KXb1_3 : _ = some (Value.slice b nb cb) := Xb_h3.cell 1)))
        | (go_at_call 22; ((with_reducible refine (zsignG (show Rd _ b nb cb lb from Rb_111.below (by first | exact acc3 | exact (acc3).drew)) (show nb ≤ 4194304 by omega) HXb.out HE18.out).mono ?_); (rintro e w26 ⟨rfl, hB⟩; have hst4 : Below w25.heap.size w25 w26 := (by first | exact hB | exact below_drew hB); have acc4 := acc3.next hst4; have Xr_h4 := Xr_h3.next hst4; have Xa_h4 := Xa_h3.next hst4; have Xu_h4 := Xu_h3.next hst4; have Xb_h4 := Xb_h3.next hst4; have KXr0_4 : _ = some (Value.bool (decide (r0 < 0))) := Xr_h4.cell 0; have KXr1_4 : _ = some (Value.slice r rn rc) := Xr_h4.cell 1; have KXa0_4 : _ = some (Value.bool sa) := Xa_h4.cell 0; have KXa1_4 : _ = some (Value.slice a na ca) := Xa_h4.cell 1; have KXu0_4 : _ = some (Value.bool (decide (u0 < 0))) := Xu_h4.cell 0; have KXu1_4 : _ = some (Value.slice u un uc) := Xu_h4.cell 1; have KXb0_4 : _ = some (Value.bool sb) := Xb_h4.cell 0; have KXb1_4 : _ = some (Value.slice b nb cb) := Xb_h4.cell 1))))
    clear cXa0_116 cXa1_116 cXb0_116 cXb1_116 cXq0_116 cXq1_116 cXr0_116 cXr1_116 cXf0_116 cXf1_116 cXu0_116 cXu1_116
    have hstep : Below w22.heap.size w22 w26 := (by first | exact acc4 | exact below_drew acc4)
    have Xa_117 := Xa_104.next hstep
    have Xb_118 := Xb_105.next hstep
    have Xq_119 := Xq_106.next hstep
    have Xr_120 := Xr_107.next hstep
    have Xf_121 := Xf_108.next hstep
    have Xu_122 := Xu_109.next hstep
    have Ra_123 := Ra_110.below hstep
    have Rb_124 := Rb_111.below hstep
    have Oq_125 := Oq_112.below hstep
    have Or_126 := Or_113.below hstep
    have Of_127 := Of_114.below hstep
    have Ou_128 := Ou_115.below hstep
    have hbel129 := hbel116.next hstep
    have hle129 := hbel129.size
    have hls129 := hstep.size
    clear Xa_104 Xb_105 Xq_106 Xr_107 Xf_108 Xu_109 Ra_110 Rb_111 Oq_112 Or_113 Of_114 Ou_115 hbel116 hstep
    have cXa0_129 : _ = some (Value.bool sa) := Xa_117.cell 0
    have cXa1_129 : _ = some (Value.slice a na ca) := Xa_117.cell 1
    have cXb0_129 : _ = some (Value.bool sb) := Xb_118.cell 0
    have cXb1_129 : _ = some (Value.slice b nb cb) := Xb_118.cell 1
    have cXq0_129 : _ = some (Value.bool (decide (q0 < 0))) := Xq_119.cell 0
    have cXq1_129 : _ = some (Value.slice q qn qc) := Xq_119.cell 1
    have cXr0_129 : _ = some (Value.bool (decide (r0 < 0))) := Xr_120.cell 0
    have cXr1_129 : _ = some (Value.slice r rn rc) := Xr_120.cell 1
    have cXf0_129 : _ = some (Value.bool (decide (f0 < 0))) := Xf_121.cell 0
    have cXf1_129 : _ = some (Value.slice f fn fc) := Xf_121.cell 1
    have cXu0_129 : _ = some (Value.bool (decide (u0 < 0))) := Xu_122.cell 0
    have cXu1_129 : _ = some (Value.slice u un uc) := Xu_122.cell 1
    clear acc0 acc1 acc2 acc3 acc4 hst1 hst2 hst3 hst4 KXr0_0 KXr1_0 KXa0_0 KXa1_0 KXu0_0 KXu1_0 KXb0_0 KXb1_0 KXr0_1 KXr1_1 KXa0_1 KXa1_1 KXu0_1 KXu1_1 KXb0_1 KXb1_1 KXr0_2 KXr1_2 KXa0_2 KXa1_2 KXu0_2 KXu1_2 KXb0_2 KXb1_2 KXr0_3 KXr1_3 KXa0_3 KXa1_3 KXu0_3 KXu1_3 KXb0_3 KXb1_3 KXr0_4 KXr1_4 KXa0_4 KXa1_4 KXu0_4 KXu1_4 KXb0_4 KXb1_4 Xr_h0 Xr_h1 Xr_h2 Xr_h3 Xr_h4 Xa_h0 Xa_h1 Xa_h2 Xa_h3 Xa_h4 Xu_h0 Xu_h1 Xu_h2 Xu_h3 Xu_h4 Xb_h0 Xb_h1 Xb_h2 Xb_h3 Xb_h4
    go_wp2_with fail
    by_cases hr0 : gr = 0
    · skip
      have hal := HD.out.al
      rw [Hgr.out, hr0] at hal
      have HAL := hid hal
      clear hal
      have hr1 : decide (gr = 0) = true := decide_eq_true hr0
      have HR0 := hid hr0
      clear hr0
      have HE19 := hid (show sgn r0 = 0 from (by rw [Hgr.out]; exact HR0.out))
      go_wp2_with fail
      have KXr0_0 : _ = some (Value.bool (decide (r0 < 0))) := Xr_120.cell 0
      have KXr1_0 : _ = some (Value.slice r rn rc) := Xr_120.cell 1
      have KXa0_0 : _ = some (Value.bool sa) := Xa_117.cell 0
      have KXa1_0 : _ = some (Value.slice a na ca) := Xa_117.cell 1
      have KXb0_0 : _ = some (Value.bool sb) := Xb_118.cell 0
      have KXb1_0 : _ = some (Value.slice b nb cb) := Xb_118.cell 1
      have Xr_h0 := Xr_120
      have Xa_h0 := Xa_117
      have Xb_h0 := Xb_118
      have acc0 : Below w26.heap.size w26 w26 := Below.refl _ _
      go_region_with
        (first
          | (go_at_call 22; ((with_reducible refine (zsignG (show Rd _ r rn rc (lm r0.natAbs) from (Or_126.below (by first | exact acc0 | exact (acc0).drew)).rd) (show rn ≤ 4194304 by omega) (zvlm r0) HE19.out).mono ?_); (rintro e w27 ⟨rfl, hB⟩; have hst1 : Below w26.heap.size w26 w27 := (by first | exact hB | exact below_drew hB); have acc1 := acc0.next hst1; have Xr_h1 := Xr_h0.next hst1; have Xa_h1 := Xa_h0.next hst1; have Xb_h1 := Xb_h0.next hst1; have KXr0_1 : _ = some (Value.bool (decide (r0 < 0))) := Xr_h1.cell 0; have KXr1_1 : _ = some (Value.slice r rn rc) := Xr_h1.cell 1; have KXa0_1 : _ = some (Value.bool sa) := Xa_h1.cell 0; have KXa1_1 : _ = some (Value.slice a na ca) := Xa_h1.cell 1; have KXb0_1 : _ = some (Value.bool sb) := Xb_h1.cell 0; have KXb1_1 : _ = some (Value.slice b nb cb) := Xb_h1.cell 1))))
      all_goals
        clear cXa0_129 cXa1_129 cXb0_129 cXb1_129 cXq0_129 cXq1_129 cXr0_129 cXr1_129 cXf0_129 cXf1_129 cXu0_129 cXu1_129
        have hstep : Below w26.heap.size w26 w27 := (by first | exact acc1 | exact below_drew acc1)
        have Xa_130 := Xa_117.next hstep
        have Xb_131 := Xb_118.next hstep
        have Xq_132 := Xq_119.next hstep
        have Xr_133 := Xr_120.next hstep
        have Xf_134 := Xf_121.next hstep
        have Xu_135 := Xu_122.next hstep
        have Ra_136 := Ra_123.below hstep
        have Rb_137 := Rb_124.below hstep
        have Oq_138 := Oq_125.below hstep
        have Or_139 := Or_126.below hstep
        have Of_140 := Of_127.below hstep
        have Ou_141 := Ou_128.below hstep
        have hbel142 := hbel129.next hstep
        have hle142 := hbel142.size
        have hls142 := hstep.size
        clear Xa_117 Xb_118 Xq_119 Xr_120 Xf_121 Xu_122 Ra_123 Rb_124 Oq_125 Or_126 Of_127 Ou_128 hbel129 hstep
        have cXa0_142 : _ = some (Value.bool sa) := Xa_130.cell 0
        have cXa1_142 : _ = some (Value.slice a na ca) := Xa_130.cell 1
        have cXb0_142 : _ = some (Value.bool sb) := Xb_131.cell 0
        have cXb1_142 : _ = some (Value.slice b nb cb) := Xb_131.cell 1
        have cXq0_142 : _ = some (Value.bool (decide (q0 < 0))) := Xq_132.cell 0
        have cXq1_142 : _ = some (Value.slice q qn qc) := Xq_132.cell 1
        have cXr0_142 : _ = some (Value.bool (decide (r0 < 0))) := Xr_133.cell 0
        have cXr1_142 : _ = some (Value.slice r rn rc) := Xr_133.cell 1
        have cXf0_142 : _ = some (Value.bool (decide (f0 < 0))) := Xf_134.cell 0
        have cXf1_142 : _ = some (Value.slice f fn fc) := Xf_134.cell 1
        have cXu0_142 : _ = some (Value.bool (decide (u0 < 0))) := Xu_135.cell 0
        have cXu1_142 : _ = some (Value.slice u un uc) := Xu_135.cell 1
        clear acc0 acc1 hst1 KXr0_0 KXr1_0 KXa0_0 KXa1_0 KXb0_0 KXb1_0 KXr0_1 KXr1_1 KXa0_1 KXa1_1 KXb0_1 KXb1_1 Xr_h0 Xr_h1 Xa_h0 Xa_h1 Xb_h0 Xb_h1
        go_wp2_with fail
        have HE20 := hid (show decide (q0 = f0) = true from HAL.out)
        go_wp2_with fail
        refine (zequalG (show Rd _ q qn qc (lm q0.natAbs) from Oq_138.rd) (show qn ≤ 4194304 by omega) (show Rd _ f fn fc (lm f0.natAbs) from Of_140.rd) (show fn ≤ 4194304 by omega) (zvlm q0) (zvlm f0) HE20.out).mono ?_
        rintro e w28 ⟨rfl, hB⟩
        clear cXa0_142 cXa1_142 cXb0_142 cXb1_142 cXq0_142 cXq1_142 cXr0_142 cXr1_142 cXf0_142 cXf1_142 cXu0_142 cXu1_142
        have hstep : Below w27.heap.size w27 w28 := (by first | exact hB | exact below_drew hB)
        have Xa_143 := Xa_130.next hstep
        have Xb_144 := Xb_131.next hstep
        have Xq_145 := Xq_132.next hstep
        have Xr_146 := Xr_133.next hstep
        have Xf_147 := Xf_134.next hstep
        have Xu_148 := Xu_135.next hstep
        have Ra_149 := Ra_136.below hstep
        have Rb_150 := Rb_137.below hstep
        have Oq_151 := Oq_138.below hstep
        have Or_152 := Or_139.below hstep
        have Of_153 := Of_140.below hstep
        have Ou_154 := Ou_141.below hstep
        have hbel155 := hbel142.next hstep
        have hle155 := hbel155.size
        have hls155 := hstep.size
        clear Xa_130 Xb_131 Xq_132 Xr_133 Xf_134 Xu_135 Ra_136 Rb_137 Oq_138 Or_139 Of_140 Ou_141 hbel142 hstep
        have cXa0_155 : _ = some (Value.bool sa) := Xa_143.cell 0
        have cXa1_155 : _ = some (Value.slice a na ca) := Xa_143.cell 1
        have cXb0_155 : _ = some (Value.bool sb) := Xb_144.cell 0
        have cXb1_155 : _ = some (Value.slice b nb cb) := Xb_144.cell 1
        have cXq0_155 : _ = some (Value.bool (decide (q0 < 0))) := Xq_145.cell 0
        have cXq1_155 : _ = some (Value.slice q qn qc) := Xq_145.cell 1
        have cXr0_155 : _ = some (Value.bool (decide (r0 < 0))) := Xr_146.cell 0
        have cXr1_155 : _ = some (Value.slice r rn rc) := Xr_146.cell 1
        have cXf0_155 : _ = some (Value.bool (decide (f0 < 0))) := Xf_147.cell 0
        have cXf1_155 : _ = some (Value.slice f fn fc) := Xf_147.cell 1
        have cXu0_155 : _ = some (Value.bool (decide (u0 < 0))) := Xu_148.cell 0
        have cXu1_155 : _ = some (Value.slice u un uc) := Xu_148.cell 1
        go_wp2
        go_ret
        exact ⟨rfl, hbel155⟩
    · skip
      have hal := HD.out.al
      rw [Hgr.out, decide_eq_false hr0, Hga.out, Hgb.out, Bool.false_or] at hal
      have HAL := hid hal
      clear hal
      have hr1 : decide (gr = 0) = false := decide_eq_false hr0
      have hr2 : (gr == 0) = false := by simp; exact hr0
      have HAL' : Hid (decide (q0 = f0) = (ga == gb)) := by show _ = _; rw [HAL.out]; by_cases h : ga = gb <;> simp [h]
      have HE21 := hid (show sgn r0 = gr from (by exact Hgr.out))
      have HE22 := hid (show sgn za = ga from (by exact Hga.out))
      have HE23 := hid (show sgn zb = gb from (by exact Hgb.out))
      go_wp2_with fail
      have KXr0_0 : _ = some (Value.bool (decide (r0 < 0))) := Xr_120.cell 0
      have KXr1_0 : _ = some (Value.slice r rn rc) := Xr_120.cell 1
      have KXa0_0 : _ = some (Value.bool sa) := Xa_117.cell 0
      have KXa1_0 : _ = some (Value.slice a na ca) := Xa_117.cell 1
      have KXb0_0 : _ = some (Value.bool sb) := Xb_118.cell 0
      have KXb1_0 : _ = some (Value.slice b nb cb) := Xb_118.cell 1
      have Xr_h0 := Xr_120
      have Xa_h0 := Xa_117
      have Xb_h0 := Xb_118
      have acc0 : Below w26.heap.size w26 w26 := Below.refl _ _
      go_region_held3 (fun w' => w'.cell? ⟨w4.heap.size + 1, 0, none⟩ = some (Value.bool (decide (r0 < 0))) ∧ w'.cell? ⟨w4.heap.size + 1, 1, none⟩ = some (Value.slice r rn rc) ∧ w'.cell? ⟨w.heap.size, 0, none⟩ = some (Value.bool sa) ∧ w'.cell? ⟨w.heap.size, 1, none⟩ = some (Value.slice a na ca) ∧ w'.cell? ⟨w.heap.size + 1, 0, none⟩ = some (Value.bool sb) ∧ w'.cell? ⟨w.heap.size + 1, 1, none⟩ = some (Value.slice b nb cb))
        (first | exact ⟨KXr0_0, KXr1_0, KXa0_0, KXa1_0, KXb0_0, KXb1_0⟩ | exact ⟨KXr0_1, KXr1_1, KXa0_1, KXa1_1, KXb0_1, KXb1_1⟩ | exact ⟨KXr0_2, KXr1_2, KXa0_2, KXa1_2, KXb0_2, KXb1_2⟩ | exact ⟨KXr0_3, KXr1_3, KXa0_3, KXa1_3, KXb0_3, KXb1_3⟩ | go_keep)
        (first
          | (go_at_call 22; ((with_reducible refine (zsignG (show Rd _ r rn rc (lm r0.natAbs) from (Or_126.below (by first | exact acc0 | exact (acc0).drew)).rd) (show rn ≤ 4194304 by omega) (zvlm r0) HE21.out).mono ?_); (rintro e w27 ⟨rfl, hB⟩; have hst1 : Below w26.heap.size w26 w27 := (by first | exact hB | exact below_drew hB); have acc1 := acc0.next hst1; have Xr_h1 := Xr_h0.next hst1; have Xa_h1 := Xa_h0.next hst1; have Xb_h1 := Xb_h0.next hst1; have KXr0_1 : _ = some (Value.bool (decide (r0 < 0))) := Xr_h1.cell 0; have KXr1_1 : _ = some (Value.slice r rn rc) := Xr_h1.cell 1; have KXa0_1 : _ = some (Value.bool sa) := Xa_h1.cell 0; have KXa1_1 : _ = some (Value.slice a na ca) := Xa_h1.cell 1; have KXb0_1 : _ = some (Value.bool sb) := Xb_h1.cell 0; have KXb1_1 : _ = some (Value.slice b nb cb) := Xb_h1.cell 1)))
          | (go_at_call 22; ((with_reducible refine (zsignG (show Rd _ a na ca la from Ra_123.below (by first | exact acc1 | exact (acc1).drew)) (show na ≤ 4194304 by omega) HXa.out HE22.out).mono ?_); (rintro e w28 ⟨rfl, hB⟩; have hst2 : Below w27.heap.size w27 w28 := (by first | exact hB | exact below_drew hB); have acc2 := acc1.next hst2; have Xr_h2 := Xr_h1.next hst2; have Xa_h2 := Xa_h1.next hst2; have Xb_h2 := Xb_h1.next hst2; have KXr0_2 : _ = some (Value.bool (decide (r0 < 0))) := Xr_h2.cell 0; have KXr1_2 : _ = some (Value.slice r rn rc) := Xr_h2.cell 1; have KXa0_2 : _ = some (Value.bool sa) := Xa_h2.cell 0; have KXa1_2 : _ = some (Value.slice a na ca) := Xa_h2.cell 1; have KXb0_2 : _ = some (Value.bool sb) := Xb_h2.cell 0; have KXb1_2 : _ = some (Value.slice b nb cb) := Xb_h2.cell 1)))
          | (go_at_call 22; ((with_reducible refine (zsignG (show Rd _ b nb cb lb from Rb_124.below (by first | exact acc2 | exact (acc2).drew)) (show nb ≤ 4194304 by omega) HXb.out HE23.out).mono ?_); (rintro e w29 ⟨rfl, hB⟩; have hst3 : Below w28.heap.size w28 w29 := (by first | exact hB | exact below_drew hB); have acc3 := acc2.next hst3; have Xr_h3 := Xr_h2.next hst3; have Xa_h3 := Xa_h2.next hst3; have Xb_h3 := Xb_h2.next hst3; have KXr0_3 : _ = some (Value.bool (decide (r0 < 0))) := Xr_h3.cell 0; have KXr1_3 : _ = some (Value.slice r rn rc) := Xr_h3.cell 1; have KXa0_3 : _ = some (Value.bool sa) := Xa_h3.cell 0; have KXa1_3 : _ = some (Value.slice a na ca) := Xa_h3.cell 1; have KXb0_3 : _ = some (Value.bool sb) := Xb_h3.cell 0; have KXb1_3 : _ = some (Value.slice b nb cb) := Xb_h3.cell 1))))
      clear cXa0_129 cXa1_129 cXb0_129 cXb1_129 cXq0_129 cXq1_129 cXr0_129 cXr1_129 cXf0_129 cXf1_129 cXu0_129 cXu1_129
      have hstep : Below w26.heap.size w26 w29 := (by first | exact acc3 | exact below_drew acc3)
      have Xa_130 := Xa_117.next hstep
      have Xb_131 := Xb_118.next hstep
      have Xq_132 := Xq_119.next hstep
      have Xr_133 := Xr_120.next hstep
      have Xf_134 := Xf_121.next hstep
      have Xu_135 := Xu_122.next hstep
      have Ra_136 := Ra_123.below hstep
      have Rb_137 := Rb_124.below hstep
      have Oq_138 := Oq_125.below hstep
      have Or_139 := Or_126.below hstep
      have Of_140 := Of_127.below hstep
      have Ou_141 := Ou_128.below hstep
      have hbel142 := hbel129.next hstep
      have hle142 := hbel142.size
      have hls142 := hstep.size
      clear Xa_117 Xb_118 Xq_119 Xr_120 Xf_121 Xu_122 Ra_123 Rb_124 Oq_125 Or_126 Of_127 Ou_128 hbel129 hstep
      have cXa0_142 : _ = some (Value.bool sa) := Xa_130.cell 0
      have cXa1_142 : _ = some (Value.slice a na ca) := Xa_130.cell 1
      have cXb0_142 : _ = some (Value.bool sb) := Xb_131.cell 0
      have cXb1_142 : _ = some (Value.slice b nb cb) := Xb_131.cell 1
      have cXq0_142 : _ = some (Value.bool (decide (q0 < 0))) := Xq_132.cell 0
      have cXq1_142 : _ = some (Value.slice q qn qc) := Xq_132.cell 1
      have cXr0_142 : _ = some (Value.bool (decide (r0 < 0))) := Xr_133.cell 0
      have cXr1_142 : _ = some (Value.slice r rn rc) := Xr_133.cell 1
      have cXf0_142 : _ = some (Value.bool (decide (f0 < 0))) := Xf_134.cell 0
      have cXf1_142 : _ = some (Value.slice f fn fc) := Xf_134.cell 1
      have cXu0_142 : _ = some (Value.bool (decide (u0 < 0))) := Xu_135.cell 0
      have cXu1_142 : _ = some (Value.slice u un uc) := Xu_135.cell 1
      clear acc0 acc1 acc2 acc3 hst1 hst2 hst3 KXr0_0 KXr1_0 KXa0_0 KXa1_0 KXb0_0 KXb1_0 KXr0_1 KXr1_1 KXa0_1 KXa1_1 KXb0_1 KXb1_1 KXr0_2 KXr1_2 KXa0_2 KXa1_2 KXb0_2 KXb1_2 KXr0_3 KXr1_3 KXa0_3 KXa1_3 KXb0_3 KXb1_3 Xr_h0 Xr_h1 Xr_h2 Xr_h3 Xa_h0 Xa_h1 Xa_h2 Xa_h3 Xb_h0 Xb_h1 Xb_h2 Xb_h3
      go_wp2_with fail
      have HE24 := hid (show decide (q0 = f0) = (ga == gb) from HAL'.out)
      go_wp2_with fail
      refine (zequalG (show Rd _ q qn qc (lm q0.natAbs) from Oq_138.rd) (show qn ≤ 4194304 by omega) (show Rd _ f fn fc (lm f0.natAbs) from Of_140.rd) (show fn ≤ 4194304 by omega) (zvlm q0) (zvlm f0) HE24.out).mono ?_
      rintro e w30 ⟨rfl, hB⟩
      clear cXa0_142 cXa1_142 cXb0_142 cXb1_142 cXq0_142 cXq1_142 cXr0_142 cXr1_142 cXf0_142 cXf1_142 cXu0_142 cXu1_142
      have hstep : Below w29.heap.size w29 w30 := (by first | exact hB | exact below_drew hB)
      have Xa_143 := Xa_130.next hstep
      have Xb_144 := Xb_131.next hstep
      have Xq_145 := Xq_132.next hstep
      have Xr_146 := Xr_133.next hstep
      have Xf_147 := Xf_134.next hstep
      have Xu_148 := Xu_135.next hstep
      have Ra_149 := Ra_136.below hstep
      have Rb_150 := Rb_137.below hstep
      have Oq_151 := Oq_138.below hstep
      have Or_152 := Or_139.below hstep
      have Of_153 := Of_140.below hstep
      have Ou_154 := Ou_141.below hstep
      have hbel155 := hbel142.next hstep
      have hle155 := hbel155.size
      have hls155 := hstep.size
      clear Xa_130 Xb_131 Xq_132 Xr_133 Xf_134 Xu_135 Ra_136 Rb_137 Oq_138 Or_139 Of_140 Ou_141 hbel142 hstep
      have cXa0_155 : _ = some (Value.bool sa) := Xa_143.cell 0
      have cXa1_155 : _ = some (Value.slice a na ca) := Xa_143.cell 1
      have cXb0_155 : _ = some (Value.bool sb) := Xb_144.cell 0
      have cXb1_155 : _ = some (Value.slice b nb cb) := Xb_144.cell 1
      have cXq0_155 : _ = some (Value.bool (decide (q0 < 0))) := Xq_145.cell 0
      have cXq1_155 : _ = some (Value.slice q qn qc) := Xq_145.cell 1
      have cXr0_155 : _ = some (Value.bool (decide (r0 < 0))) := Xr_146.cell 0
      have cXr1_155 : _ = some (Value.slice r rn rc) := Xr_146.cell 1
      have cXf0_155 : _ = some (Value.bool (decide (f0 < 0))) := Xf_147.cell 0
      have cXf1_155 : _ = some (Value.slice f fn fc) := Xf_147.cell 1
      have cXu0_155 : _ = some (Value.bool (decide (u0 < 0))) := Xu_148.cell 0
      have cXu1_155 : _ = some (Value.slice u un uc) := Xu_148.cell 1
      go_wp2
      go_ret
      exact ⟨rfl, hbel155⟩

end Go.Proofs.Ytflmdcmlhpifeaa
