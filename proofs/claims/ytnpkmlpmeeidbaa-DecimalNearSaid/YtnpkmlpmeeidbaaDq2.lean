/- PLAIN LAW: decimal numbers written and read again; as few digits as can be; off by at most half of the last digit. No program in sight. -/
import Derived.Test.YtnpkmlpmeeidbaaEa
import Derived.Test.YtnpkmlpmeeidbaaPn
namespace Go.NatP
set_option linter.unusedSimpArgs false

theorem okD_rep (k : Nat) : okD (List.replicate k 48) = true := by
  rw [okD_all, List.all_eq_true]
  intro x hx
  rw [List.eq_of_mem_replicate hx]
  rfl
theorem okD_pad (v k : Nat) : okD (pad (tx v) k) = true := by
  unfold pad
  rw [okD_append, okD_tx, okD_rep]
  rfl
theorem numD_pad (v k : Nat) : numD (pad (tx v) k) = v := by
  unfold pad
  rw [numD_append, numD_zeros, numD_tx, Nat.zero_mul, Nat.zero_add]
theorem okD_parts {l : List Nat} (h : okD l = true) (i : Nat) : okD (l.take i) = true ∧ okD (l.drop i) = true := by
  rw [← List.take_append_drop i l, okD_append, Bool.and_eq_true] at h
  exact h
theorem dgA_app {A t : List Nat} {c : Nat} (h : okD A = true) (hc : isD c = false) : dgA (A ++ c :: t) = A ∧ dgB (A ++ c :: t) = c :: t := by
  induction A with
  | nil => unfold dgA dgB; rw [List.nil_append, List.takeWhile_cons, List.dropWhile_cons, hc]; exact ⟨rfl, rfl⟩
  | cons a A ih =>
    rw [okD_cons, Bool.and_eq_true] at h
    obtain ⟨h1, h2⟩ := ih h.2
    unfold dgA dgB at *
    rw [List.cons_append, List.takeWhile_cons, List.dropWhile_cons, h.1]
    exact ⟨by rw [if_pos rfl, h1], by rw [if_pos rfl, h2]⟩
theorem dgB_ok {A : List Nat} (h : okD A = true) : dgB A = [] := by
  have h1 := dgAB A
  rw [dgA_all h] at h1
  simpa using h1
/-- the digits ahead of the point and behind it -/
theorem ptd_split {v k : Nat} (hk : k ≠ 0) : ∃ A B, ptd v k = A ++ 46 :: B ∧ A ++ B = pad (tx v) k ∧ B.length = k ∧ A ≠ [] ∧ okD A = true ∧ okD B = true := by
  have hl := pad_len (tx v) k
  have ho := okD_parts (okD_pad v k) ((pad (tx v) k).length - k)
  refine ⟨_, _, if_neg hk, List.take_append_drop _ _, by rw [List.length_drop]; omega, fun h => ?_, ho.1, ho.2⟩
  have := congrArg List.length h
  rw [List.length_take, List.length_nil] at this
  omega
theorem pad_zero (v : Nat) : pad (tx v) 0 = tx v := pad_long (by have := tx_ne v; exact List.length_pos_iff.2 this)
theorem dcU_ptd (v k : Nat) : dcU (ptd v k) = some (pad (tx v) k, -(k : Int)) := by
  by_cases hk : k = 0
  · subst hk
    rw [show ptd v 0 = tx v from if_pos rfl, pad_zero]
    unfold dcU
    rw [dgB_ok (okD_tx v)]
    show dcG _ _ _ = _
    unfold dcG
    rw [dgA_all (okD_tx v), if_neg (tx_ne v), exP_nil]
    simp
  · obtain ⟨A, B, h1, h2, h3, h4, h5, h6⟩ := ptd_split (v := v) hk
    obtain ⟨h7, h8⟩ := dgA_app (t := B) h5 (show isD 46 = false from rfl)
    have hB : B ≠ [] := fun h => hk (by rw [h] at h3; exact h3.symm)
    rw [h1]
    unfold dcU
    rw [h8]
    show (if (46 : Nat) = 46 then (if dgA B = [] then none else dcG (dgA (A ++ 46 :: B)) (dgA B) (dgB B)) else dcG (dgA (A ++ 46 :: B)) [] (46 :: B)) = _
    rw [if_pos rfl, dgA_all h6, if_neg hB, h7, dgB_ok h6]
    unfold dcG
    rw [if_neg h4, exP_nil, ← h2, ← h3]
    simp
theorem ptd_head (v k : Nat) : ∃ c t, ptd v k = c :: t ∧ 48 ≤ c ∧ c ≤ 57 := by
  by_cases hk : k = 0
  · subst hk
    rw [show ptd v 0 = tx v from if_pos rfl]
    cases h : tx v with
    | nil => exact absurd h (tx_ne v)
    | cons c t => exact ⟨c, t, rfl, okD_get (okD_tx v) (h ▸ List.mem_cons_self ..)⟩
  · obtain ⟨A, B, h1, h2, h3, h4, h5, h6⟩ := ptd_split (v := v) hk
    cases A with
    | nil => exact absurd rfl h4
    | cons c t => exact ⟨c, t ++ 46 :: B, h1, okD_get h5 (List.mem_cons_self ..)⟩
/-- a sign ahead of a text -/
def sgn1 (b : Bool) (l : List Nat) : List Nat := if b = true then 45 :: l else l
theorem dcP_ptd (b : Bool) (v k : Nat) : dcP (sgn1 b (ptd v k)) = some (b, pad (tx v) k, -(k : Int)) := by
  unfold dcP
  cases b
  · obtain ⟨c, t, h1, h2, h3⟩ := ptd_head v k
    have : sgS (ptd v k) = (false, ptd v k) := by rw [h1]; unfold sgS; exact if_neg (by omega)
    show (dcU (sgS (ptd v k)).2).map (fun p => ((sgS (ptd v k)).1, p)) = _
    rw [this, dcU_ptd]
    rfl
  · show (dcU (ptd v k)).map (fun p => (true, p)) = _
    rw [dcU_ptd]
    rfl
theorem dcV_ptd (b : Bool) (v k : Nat) : dcV (b, pad (tx v) k, -(k : Int)) = mkRat (zv b v) (10 ^ k) := by
  unfold dcV
  dsimp only
  rw [numD_pad]
  by_cases hk : k = 0
  · subst hk
    rw [if_pos (by omega)]
    simp
  · rw [if_neg (by omega), show (-(-(k : Int))).toNat = k by omega]
/-- what is written is read again -/
theorem dc_ptd (b : Bool) (v k : Nat) : dcQ (sgn1 b (ptd v k)) = mkRat (zv b v) (10 ^ k) ∧ dcE (sgn1 b (ptd v k)) = 0 := by
  unfold dcQ dcE
  rw [dcP_ptd]
  exact ⟨dcV_ptd b v k, rfl⟩

/-! ### as few digits as can be -/
/-- where the point stands: nowhere (the text's length is told then), or ahead of the last k digits -/
def ptP (v k : Nat) : Nat := if k = 0 then (ptd v k).length else (ptd v k).length - (k + 1)
theorem ptd_point (v k : Nat) : ∀ j, j < (ptd v k).length → ((ptd v k).getD j 0 = 46 ↔ j = ptP v k) := by
  intro j hj
  by_cases hk : k = 0
  · subst hk
    have h1 : ptd v 0 = tx v := if_pos rfl
    unfold ptP
    rw [if_pos rfl]
    have h2 : 48 ≤ (ptd v 0).getD j 0 := by
      rw [h1] at hj ⊢
      rw [List.getD_eq_getElem?_getD, List.getElem?_eq_getElem hj]
      exact (okD_get (okD_tx v) (List.getElem_mem hj)).1
    omega
  · obtain ⟨A, B, h1, h2, h3, h4, h5, h6⟩ := ptd_split (v := v) hk
    unfold ptP
    rw [if_neg hk]
    rw [h1] at hj ⊢
    have hl : (A ++ 46 :: B).length = A.length + (k + 1) := by simp [h3]
    rw [hl] at hj ⊢
    rw [Nat.add_sub_cancel, List.getD_eq_getElem?_getD]
    rcases Nat.lt_trichotomy j A.length with h | h | h
    · rw [List.getElem?_append_left h, List.getElem?_eq_getElem h]
      have := okD_get h5 (List.getElem_mem h)
      simp
      omega
    · subst h
      simp
    · rw [List.getElem?_append_right (by omega)]
      obtain ⟨i, hi⟩ : ∃ i, j - A.length = i + 1 := ⟨j - A.length - 1, by omega⟩
      rw [hi, List.getElem?_cons_succ, List.getElem?_eq_getElem (show i < B.length by omega)]
      have := okD_get h6 (List.getElem_mem (show i < B.length by omega))
      simp
      omega
theorem ptP_lt {v k : Nat} (hk : k ≠ 0) : 0 < ptP v k ∧ ptP v k + k + 1 = (ptd v k).length := by
  obtain ⟨A, B, h1, h2, h3, h4, h5, h6⟩ := ptd_split (v := v) hk
  have hl : (ptd v k).length = A.length + (k + 1) := by rw [h1]; simp [h3]
  have := List.length_pos_iff.2 h4
  unfold ptP
  rw [if_neg hk]
  omega
theorem zv_muln (s : Bool) (a b : Nat) : zv s (a * b) = zv s a * (b : Int) := by
  unfold zv
  split
  · rw [Int.natCast_mul, Int.neg_mul]
  · rw [Int.natCast_mul]
end Go.NatP
/- PLAIN LAW: rounded decimals lie near; digits that repeat are the fraction. No program in sight. -/
namespace Go.NatP
set_option linter.unusedSimpArgs false

/-! ### rounded: off by at most half of the last digit -/
theorem rdN_bd {a d k : Nat} (hd : 0 < d) : 2 * (rdN a d k * d) ≤ 2 * (a * 10 ^ k) + d ∧ 2 * (a * 10 ^ k) < 2 * (rdN a d k * d) + d := by
  unfold rdN
  rw [Nat.mul_assoc 2 a]
  generalize a * 10 ^ k = X
  have h1 := Nat.div_add_mod (2 * X + d) (2 * d)
  have h2 := Nat.mod_lt (2 * X + d) (show 0 < 2 * d by omega)
  obtain ⟨r, hr⟩ : ∃ r, (2 * X + d) / (2 * d) = r := ⟨_, rfl⟩
  rw [hr] at h1 ⊢
  rw [Nat.mul_assoc, Nat.mul_comm d r] at h1
  generalize r * d = Y at *
  omega
/-- how far off, from 0 on -/
def offQ (x y : Rat) : Rat := if y - x < 0 then -(y - x) else y - x
theorem mkRat_neg_iff {n : Int} {d : Nat} (h : d ≠ 0) : mkRat n d < 0 ↔ n < 0 := by
  rw [show (0 : Rat) = mkRat 0 1 from rfl, mkRat_lt_iff h (by decide)]
  simp
theorem offQ_mk (x y : Int) {d P : Nat} (hd : d ≠ 0) (hP : P ≠ 0) : offQ (mkRat x d) (mkRat y P) = mkRat ((y * d - x * P).natAbs : Int) (P * d) := by
  unfold offQ
  rw [← qv_sub y x hP hd]
  have hn := mkRat_neg_iff (n := y * d - x * P) (Nat.mul_ne_zero hP hd)
  by_cases h : y * d - x * P < 0
  · rw [if_pos (hn.2 h), Rat.neg_mkRat, show -(y * d - x * P) = ((y * d - x * P).natAbs : Int) by omega]
  · rw [if_neg (fun h2 => h (hn.1 h2)), show ((y * d - x * P).natAbs : Int) = y * d - x * P by omega]
theorem half_mk (P : Nat) : mkRat 1 P * mkRat 1 2 = mkRat 1 (P * 2) := by rw [← qv_mul, Int.one_mul]
theorem near_cmp {T : Nat} {d P : Nat} (hd : d ≠ 0) (hP : P ≠ 0) : cmpQ (mkRat (T : Int) (P * d)) (mkRat 1 (P * 2)) = cmpZ ((2 * T : Nat) : Int) (d : Int) := by
  rw [← cmpQ_mk (Nat.mul_ne_zero hP hd) (Nat.mul_ne_zero hP (by decide))]
  have hp : (0 : Int) < (P : Int) := by omega
  have e1 : (T : Int) * ((P * 2 : Nat) : Int) = (P : Int) * ((2 * T : Nat) : Int) := by
    rw [Int.natCast_mul, Int.natCast_mul, Int.mul_left_comm, Int.mul_comm (T : Int)]
  have e2 : (1 : Int) * ((P * d : Nat) : Int) = (P : Int) * (d : Int) := by rw [Int.one_mul, Int.natCast_mul]
  rw [e1, e2]
  unfold cmpZ
  simp only [Int.mul_lt_mul_left hp]
/-- the fraction, rounded to k digits -/
def rdQ (q : Rat) (k : Nat) : Rat := mkRat (zv (decide (q.num < 0)) (rdN q.num.natAbs q.den k)) (10 ^ k)
theorem near_law (q : Rat) (k : Nat) : cmpQ (offQ q (rdQ q k)) (mkRat 1 (10 ^ k) * mkRat 1 2) ≤ 0 ∧
    (cmpQ (offQ q (rdQ q k)) (mkRat 1 (10 ^ k) * mkRat 1 2) = 0 → (q < 0 → rdQ q k < q) ∧ (¬ q < 0 → q < rdQ q k)) := by
  have hd := q.den_nz
  have hb := rdN_bd (a := q.num.natAbs) (k := k) (Nat.pos_of_ne_zero hd)
  have hP : (10 : Nat) ^ k ≠ 0 := Nat.ne_of_gt (Nat.pow_pos (by decide))
  have e1 : offQ q (rdQ q k) = offQ (mkRat q.num q.den) (rdQ q k) := by rw [Rat.mkRat_self]
  have l1 : rdQ q k < q ↔ rdQ q k < mkRat q.num q.den := by rw [Rat.mkRat_self]
  have l2 : q < rdQ q k ↔ mkRat q.num q.den < rdQ q k := by rw [Rat.mkRat_self]
  have l3 : q < 0 ↔ q.num < 0 := by
    conv => lhs; rw [← Rat.mkRat_self q]
    exact mkRat_neg_iff hd
  rw [e1, l1, l2, l3]
  unfold rdQ
  rw [mkRat_lt_iff hP hd, mkRat_lt_iff hd hP, offQ_mk _ _ hd hP, half_mk, near_cmp hd hP]
  generalize rdN q.num.natAbs q.den k = r at *
  generalize q.den = d at *
  generalize 10 ^ k = P at *
  have hz : ∃ z, q.num = z := ⟨_, rfl⟩
  obtain ⟨z, hz⟩ := hz
  rw [hz] at hb ⊢
  have f1 : zv (decide (z < 0)) r * (d : Int) = zv (decide (z < 0)) (r * d) := (zv_muln _ _ _).symm
  have f2 : z * (P : Int) = zv (decide (z < 0)) (z.natAbs * P) := by rw [zv_muln, zv_self]
  rw [f1, f2]
  generalize r * d = R at *
  generalize z.natAbs * P = X at *
  unfold zv cmpZ
  by_cases h : z < 0
  · simp only [h, decide_true, if_true]
    refine ⟨?_, fun h2 => ⟨fun _ => ?_, fun h3 => absurd trivial h3⟩⟩
    · split
      · omega
      · split <;> omega
    · split at h2
      · omega
      · split at h2 <;> omega
  · simp only [h, decide_false, if_false]
    refine ⟨?_, fun h2 => ⟨fun h3 => absurd h3 (by simp), fun _ => ?_⟩⟩
    · simp only [Bool.false_eq_true, if_false]
      split
      · omega
      · split <;> omega
    · simp only [Bool.false_eq_true, if_false] at h2 ⊢
      split at h2
      · omega
      · split at h2 <;> omega

/-! ### digits that repeat -/
theorem rst_step (n d i : Nat) : 10 * rst n d i = dgt n d i * d + rst n d (i + 1) := by
  have := Nat.div_add_mod (10 * rst n d i) d
  show 10 * rst n d i = 10 * rst n d i / d * d + 10 * rst n d i % d
  rw [Nat.mul_comm (_ / d)]
  exact this.symm
/-- the digits from place A on, so many -/
def seg (n d A L : Nat) : List Nat := (List.range L).map fun t => dgt n d (A + t) + 48
theorem seg_succ (n d A L : Nat) : seg n d A (L + 1) = seg n d A L ++ [dgt n d (A + L) + 48] := by simp [seg, List.range_succ]
theorem seg_num (n d A : Nat) : ∀ L, 10 ^ L * rst n d A = numD (seg n d A L) * d + rst n d (A + L)
  | 0 => by simp [seg, numD]
  | L + 1 => by
    have h1 := seg_num n d A L
    have h2 := rst_step n d (A + L)
    rw [seg_succ, numD_snoc, Nat.add_sub_cancel, Nat.add_mul, Nat.mul_assoc, Nat.pow_succ, Nat.mul_comm (10 ^ L) 10, Nat.mul_assoc, h1, Nat.mul_add, h2, ← Nat.add_assoc]
    rfl
/-- the period's end: what is left comes again -/
structure Per (n d A L : Nat) : Prop where
  pos : 0 < L
  eq : rst n d A = rst n d (A + L)
  nz : rst n d A ≠ 0
  fresh : ∀ j, j < A + L → Fresh n d j
section
variable {n d A L : Nat}
theorem Per.num (h : Per n d A L) : numD (seg n d A L) * d = (10 ^ L - 1) * rst n d A := by
  have h1 := seg_num n d A L
  rw [← h.eq] at h1
  rw [Nat.sub_mul, h1]
  omega
/-- the digits go on as they began -/
theorem Per.rst (h : Per n d A L) : ∀ i, rst n d (A + i) = rst n d (A + L + i)
  | 0 => h.eq
  | i + 1 => by
    show 10 * NatP.rst n d (A + i) % d = 10 * NatP.rst n d (A + L + i) % d
    rw [h.rst i]
theorem Per.dgt (h : Per n d A L) (i : Nat) : dgt n d (A + i) = dgt n d (A + L + i) := by
  unfold NatP.dgt
  rw [h.rst i]
theorem Per.more (h : Per n d A L) : 1 < 10 ^ L := Nat.lt_of_lt_of_le (by decide) (Nat.pow_le_pow_right (n := 10) (by decide) h.pos)
end
end Go.NatP
