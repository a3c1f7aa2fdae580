/- THE WALK OF credencelaw04.DecimalRepeats: the digits behind the point, and those that repeat, are the fraction; the period is as short as can be. -/
import Derived.Test.YtnpkmlpmeeidbaaRDw
import Derived.Test.YtnpkmlpmeeidbaaRQu
namespace Go.Proofs.Ytnpkmlpmeeidbaa
set_option linter.unusedVariables false
set_option linter.unusedSimpArgs false
open Go.ChangeShapes Go.WideShapes Go.ChangeAt Go.RowKit Go.NatP

theorem peA_by {n d A K : Nat} (hd : 0 < d) : by' (peA n d (some (A, K))) = seg n d 0 A := by
  show by' (txt (dgs n d A)) = _
  rw [bt_txt (dgs_lt hd A), dgs_seg]
theorem peB_by {n d A K : Nat} (hd : 0 < d) (hAK : A ≤ K) : by' (peB n d (some (A, K))) = seg n d A (K - A) := by
  show by' (txt ((dgs n d K).drop A)) = _
  rw [bt_txt (fun x hx => dgs_lt hd K x (List.mem_of_mem_drop hx)), dgs_drop hAK]
theorem qneg_iff (q : Rat) : q < 0 ↔ q.num < 0 := by
  conv => lhs; rw [← Rat.mkRat_self q]
  exact mkRat_neg_iff q.den_nz
theorem abs_pos {q : Rat} (h : ¬ q < 0) : q = mkRat (q.num.natAbs : Int) q.den := by
  rw [qneg_iff] at h
  rw [show (q.num.natAbs : Int) = q.num by omega, Rat.mkRat_self]
theorem abs_neg {q : Rat} (h : q < 0) : -q = mkRat (q.num.natAbs : Int) q.den := by
  rw [qneg_iff] at h
  rw [show (q.num.natAbs : Int) = -q.num by omega, ← Rat.neg_mkRat, Rat.mkRat_self]
theorem floor_sub (n : Nat) {d : Nat} (hd : d ≠ 0) : mkRat (n : Int) d - (((n / d : Nat) : Int) : Rat) = mkRat ((n % d : Nat) : Int) d := by
  rw [← Rat.mkRat_one (((n / d : Nat) : Int)), ← qv_sub _ _ hd (by decide)]
  have h := Nat.div_add_mod n d
  rw [Nat.mul_comm] at h
  have h2 : (n : Int) * ((1 : Nat) : Int) - ((n / d : Nat) : Int) * (d : Int) = ((n % d : Nat) : Int) := by
    rw [← Int.natCast_mul]
    omega
  rw [h2, Nat.mul_one]
theorem toList_by {s t : ByteArray} (h : s.toList = t.toList) : by' s = by' t := by
  rw [ByteArray.toList_eq, ByteArray.toList_eq] at h
  unfold by'
  rw [h]
theorem turn_by {n d A L t : Nat} {U : ByteArray} (h : Per n d A L) (hU : by' U = seg n d A L) (ht : 0 < t) (htL : t < U.size) (hd : U.size % t = 0) : ((U.extract 0 (U.size - t)).toList == (U.extract t U.size).toList) = false := by
  have hL : U.size = L := by rw [← by_len, hU, seg_len]
  rw [Bool.eq_false_iff]
  intro he
  have h1 := toList_by (eq_of_beq he)
  rw [be_take, be_drop, hU, hL] at h1
  rw [hL] at htL hd
  refine h.turn ht htL hd fun i hi => ?_
  have h2 := congrArg (fun l => l.getD i 0) h1
  simp only [List.getD_eq_getElem?_getD] at h2
  rw [List.getElem?_take, if_pos hi, List.getElem?_drop] at h2
  simp only [← List.getD_eq_getElem?_getD] at h2
  rw [seg_get (by omega), seg_get (by omega)] at h2
  rw [show A + i + t = A + (t + i) by omega]
  omega
theorem seg_sz {n d A L : Nat} (hd : 0 < d) (hL : L ≤ 300) : Sz (numD (seg n d A L)) 301 := by
  show _ < 4294967296 ^ 301
  refine Nat.lt_of_lt_of_le (numD_lt _ fun c hc => (okD_get (seg_ok hd A L) hc).2) ?_
  rw [seg_len]
  obtain ⟨E, hE⟩ : ∃ E : Nat, 301 = E := ⟨_, rfl⟩
  rw [hE]
  exact Nat.pow_le_pow_right (by decide) (by omega)
theorem rdq_ov {W : World} {a b : Option Addr} {c m d B P : Nat} (h : RdN 1 W a 1 c 1) (h2 : Own B W b m d (lm P)) (hs : Sz P 40) (hP : P ≠ 0) : RdQ 40 W false a 1 c b m d (mkRat 1 P) :=
  ⟨1, P, h.mono (by omega), h2.rdN hs, by unfold qv; rw [und_of hP]; rfl⟩
theorem rdq_nat {W : World} {a b : Option Addr} {n c m d B B' p P : Nat} (h : Own B W a n c (lm p)) (h2 : Own B' W b m d (lm P)) (hs' : Sz p 301) (hs : Sz P 40) (hP : P ≠ 0) : RdQ 301 W false a n c b m d (mkRat (p : Int) P) :=
  ⟨p, P, h.rdN hs', (h2.rdN hs).mono (by omega), by unfold qv; rw [und_of hP]; rfl⟩
set_option maxRecDepth 100000 in
theorem field_den (s : Bool) (a b : Option Addr) (n c m d : Nat) (w : World) : (Instr.field 29 (.agg #[.bool s, .slice a n c, .slice b m d]) 1).run Try.prog w = .ok (.slice b m d) w := by rfl

theorem nsub1 {W : World} {b a : Option Addr} {m d n c P : Nat} (h : RdN 40 W b m d P) (h1 : RdN 1 W a n c 1) (hP : 1 < P) : Calls Try.prog 68 #[.slice b m d, .slice a n c] W (fun e w' => ∃ a n c, e = .returned (.tuple #[.slice a n c, .bool true]) ∧ Own W.heap.size w' a n c (lm (P - 1)) ∧ Below W.heap.size W w') := by
  obtain ⟨la, ha, hv, hn⟩ := h
  obtain ⟨lb, hb, hv1, hn1⟩ := h1
  refine (sub_any ha hb (by omega)).mono fun e w' ⟨x, y, z, h, hO, hB⟩ => ?_
  rw [hv, hv1] at hO h
  rw [decide_eq_true (show 1 ≤ P by omega)] at h
  exact ⟨x, y, z, h, hO, hB⟩

set_option maxRecDepth 100000 in
set_option maxHeartbeats 8000000 in
theorem drep_none {w : World} {q : Rat} {s : Bool} {a b : Option Addr} {n c m d : Nat} (HF : Hid (∀ W, Below w.heap.size w W → Calls Try.prog 59 #[.agg #[.bool s, .slice a n c, .slice b m d]] W (fun e w' => RetQ W q e w'))) (hqs : QS q 20) (hR : PerIs q.num.natAbs q.den 300 none) :
    Calls Try.prog 14 #[.agg #[.bool s, .slice a n c, .slice b m d]] w (fun e w' => e = .returned (.bool true) ∧ Below w.heap.size w w') := by
  have HPd := hid (fun (W : World) {a' b' : Option Addr} {n' c' m' d' : Nat} (h : RdQ 20 W (decide (q.num < 0)) a' n' c' b' m' d' q) => (show Calls Try.prog 66 #[.agg #[.bool (decide (q.num < 0)), .slice a' n' c', .slice b' m' d'], .int .i64 300] W (RetSSE W ⟨#[]⟩ ⟨#[]⟩ 4) from dper h (by omega) 300 (by omega) hR))
  clear hR
  have hent := ent1 w #[Value.bool s, Value.slice a n c, Value.slice b m d] 29
  go_enter Try.func14, Try.ntmps14
  go_wp2_with fail
  generalize (w.alloc (.cells #[Value.bool s, Value.slice a n c, Value.slice b m d] 29)) = W0 at hent ⊢
  obtain ⟨X_0, hbel_0, hsz_0⟩ := hent
  have cX_0_0 : _ = some (Value.bool s) := X_0.cell 0
  have cX_0_1 : _ = some (Value.slice a n c) := X_0.cell 1
  have cX_0_2 : _ = some (Value.slice b m d) := X_0.cell 2
  go_wp2_with fail
  refine (lalive).mono ?_
  rintro e w1 ⟨rfl, hB⟩
  have hB_1 : Below W0.heap.size W0 w1 := (bl.next hB)
  have X_1 := X_0.next hB_1
  have cX_1_0 : _ = some (Value.bool s) := X_1.cell 0
  have cX_1_1 : _ = some (Value.slice a n c) := X_1.cell 1
  have cX_1_2 : _ = some (Value.slice b m d) := X_1.cell 2
  have hbel_1 := hbel_0.next hB_1
  have hsz_1 := hB_1.size
  clear X_0 cX_0_0 cX_0_1 cX_0_2 hbel_0 hB_1
  try clear hB
  go_wp2_with fail
  refine (HF.out _ hbel_1).mono ?_
  rintro e w2 ⟨xa, xn, xc, xb, xm, xd, rfl, hO, hO', hDx, hB⟩
  have hB_2 : Below w1.heap.size w1 w2 := (bl.next hB)
  have X_2 := X_1.next hB_2
  have cX_2_0 : _ = some (Value.bool s) := X_2.cell 0
  have cX_2_1 : _ = some (Value.slice a n c) := X_2.cell 1
  have cX_2_2 : _ = some (Value.slice b m d) := X_2.cell 2
  have hbel_2 := hbel_1.next hB_2
  have hsz_2 := hB_2.size
  clear X_1 cX_1_0 cX_1_1 cX_1_2 hbel_1 hB_2
  have Ox_2 := hO
  have ltOx := hO.ltB
  have Px_2 := hO'
  have ltPx := hO'.ltB
  clear hO hO'
  try clear hB
  have hbx := blk_new w2 #[Value.bool (decide (q.num < 0)), Value.slice xa xn xc, Value.slice xb xm xd] 29
  have hbB := (Below.refl w2.heap.size w2).alloc (Nat.le_refl _) (.cells #[Value.bool (decide (q.num < 0)), Value.slice xa xn xc, Value.slice xb xm xd] 29)
  have hltQ := hbx.lt
  have hB_3 : Below w2.heap.size w2 (w2.alloc (.cells #[Value.bool (decide (q.num < 0)), Value.slice xa xn xc, Value.slice xb xm xd] 29)) := hbB
  have X_3 := X_2.next hB_3
  have cX_3_0 : _ = some (Value.bool s) := X_3.cell 0
  have cX_3_1 : _ = some (Value.slice a n c) := X_3.cell 1
  have cX_3_2 : _ = some (Value.slice b m d) := X_3.cell 2
  have Ox_3 := Ox_2.below hB_3
  have Px_3 := Px_2.below hB_3
  have hbel_3 := hbel_2.next hB_3
  have hsz_3 := hB_3.size
  clear hB_3
  have Q_3 := hbx
  clear hbx hbB
  have cQ_3_0 : _ = some (Value.bool (decide (q.num < 0))) := Q_3.cell 0
  have fQ_3_0 := Q_3.free 0
  have cQ_3_1 : _ = some (Value.slice xa xn xc) := Q_3.cell 1
  have fQ_3_1 := Q_3.free 1
  have cQ_3_2 : _ = some (Value.slice xb xm xd) := Q_3.cell 2
  have fQ_3_2 := Q_3.free 2
  go_wp2_with fail
  clear X_2 cX_2_0 cX_2_1 cX_2_2 Ox_2 Px_2 hbel_2
  generalize (w2.alloc (.cells #[Value.bool (decide (q.num < 0)), Value.slice xa xn xc, Value.slice xb xm xd] 29)) = v3 at *
  go_wp2_with fail
  refine (HPd.out _ (Ox_3.rdQ Px_3 hqs)).mono ?_
  rintro e w4 ⟨rfl, hB⟩
  have hB_4 : Below v3.heap.size v3 w4 := (bl.next hB)
  have X_4 := X_3.next hB_4
  have cX_4_0 : _ = some (Value.bool s) := X_4.cell 0
  have cX_4_1 : _ = some (Value.slice a n c) := X_4.cell 1
  have cX_4_2 : _ = some (Value.slice b m d) := X_4.cell 2
  have Q_4 := Q_3.next hB_4
  have cQ_4_0 : _ = some (Value.bool (decide (q.num < 0))) := Q_4.cell 0
  have fQ_4_0 := Q_4.free 0
  have cQ_4_1 : _ = some (Value.slice xa xn xc) := Q_4.cell 1
  have fQ_4_1 := Q_4.free 1
  have cQ_4_2 : _ = some (Value.slice xb xm xd) := Q_4.cell 2
  have fQ_4_2 := Q_4.free 2
  have Ox_4 := Ox_3.below hB_4
  have Px_4 := Px_3.below hB_4
  have hbel_4 := hbel_3.next hB_4
  have hsz_4 := hB_4.size
  clear X_3 cX_3_0 cX_3_1 cX_3_2 Q_3 cQ_3_0 fQ_3_0 cQ_3_1 fQ_3_1 cQ_3_2 fQ_3_2 Ox_3 Px_3 hbel_3 hB_4
  try clear hB
  go_wp2
  go_ret
  exact ⟨rfl, hbel_4⟩

set_option maxRecDepth 100000 in
set_option maxHeartbeats 8000000 in
theorem drep_00 {w : World} {q : Rat} {s : Bool} {a b : Option Addr} {n c m d : Nat} (HF : Hid (∀ W, Below w.heap.size w W → Calls Try.prog 59 #[.agg #[.bool s, .slice a n c, .slice b m d]] W (fun e w' => RetQ W q e w'))) (hqs : QS q 20) (A K : Nat) (hR : PerIs q.num.natAbs q.den 300 (some (A, K))) (hneg : ¬ q < 0) (hp : K = A) :
    Calls Try.prog 14 #[.agg #[.bool s, .slice a n c, .slice b m d]] w (fun e w' => e = .returned (.bool true) ∧ Below w.heap.size w w') := by
  have hdz := q.den_nz
  have hd0 : 0 < q.den := Nat.pos_of_ne_zero hdz
  obtain ⟨hAK, hK3, hFr, hE0, hPer⟩ := per_some hR
  have HPd := hid (fun (W : World) {a' b' : Option Addr} {n' c' m' d' : Nat} (h : RdQ 20 W (decide (q.num < 0)) a' n' c' b' m' d' q) => (show Calls Try.prog 66 #[.agg #[.bool (decide (q.num < 0)), .slice a' n' c', .slice b' m' d'], .int .i64 300] W (RetSSE W (peA q.num.natAbs q.den (some (A, K))) (peB q.num.natAbs q.den (some (A, K))) 0) from dper h (by omega) 300 (by omega) hR))
  have hA := peA_by (n := q.num.natAbs) (A := A) (K := K) hd0
  have hBy := peB_by (n := q.num.natAbs) hd0 hAK
  generalize peA q.num.natAbs q.den (some (A, K)) = T at *
  generalize peB q.num.natAbs q.den (some (A, K)) = U at *
  have hTs : T.size = A := by rw [← by_len, hA, seg_len]
  have hUs : U.size = K - A := by rw [← by_len, hBy, seg_len]
  have HNT := hid (fun w => lnumber (w := w) T (by omega) (by rw [hA]; exact seg_ok hd0 0 A))
  have HNU := hid (fun w => lnumber (w := w) U (by omega) (by rw [hBy]; exact seg_ok hd0 A (K - A)))
  have sT : Sz (numD (by' T)) 301 := by rw [hA]; exact seg_sz hd0 (by omega)
  have sU : Sz (numD (by' U)) 301 := by rw [hBy]; exact seg_sz hd0 (by omega)
  have hres := floor_sub q.num.natAbs hdz
  have hfl := floor_mk (q.num.natAbs : Int) hdz
  rw [← Int.natCast_ediv] at hfl
  have hz := hE0 hp
  have heq := rep_end hdz hz
  rw [← hA, ← hTs] at heq
  have hU0 : U.size = 0 := by omega
  have hlast : Hid (0 < T.size → (by' T).getD (T.size - 1) 0 ≠ 48) := fun h => by
    have h1 := last_nz (show 0 < A by omega) hz (fun j hj => hFr j (by omega))
    rw [hA, seg_get (by omega), show 0 + (T.size - 1) = A - 1 by omega]
    omega
  have hTU : T.size + U.size ≤ 300 := by omega
  have hers : QS (mkRat ((q.num.natAbs % q.den : Nat) : Int) q.den) 20 := QS.mk hdz (by rw [Int.natAbs_natCast]; exact hqs.1.mono (Nat.mod_le _ _) (Nat.le_refl _)) hqs.2
  have hzs : Sz (q.num.natAbs / q.den) 20 := hqs.1.mono (Nat.div_le_self _ _) (Nat.le_refl _)
  have hy := abs_pos hneg
  rw [← hy] at hfl hres
  clear hy
  have hqn : decide (sgnQ q < 0) = false := by
    rcases sgnQ_cases q with ⟨h1, h2⟩ | ⟨h1, h2⟩ | ⟨h1, h2⟩ <;> rw [h2]
    · exact absurd h1 hneg
    · rfl
    · rfl
  generalize mkRat ((q.num.natAbs % q.den : Nat) : Int) q.den = er at *
  generalize hzN : q.num.natAbs / q.den = zN at *
  clear hzN hA hBy hR hPer hFr hE0 hneg hdz hd0 hTs hUs hK3 hAK hz
  obtain ⟨pT, hpT⟩ : ∃ p, numD (by' T) = p := ⟨_, rfl⟩
  rw [hpT] at HNT sT heq
  clear hpT
  obtain ⟨pU, hpU⟩ : ∃ p, numD (by' U) = p := ⟨_, rfl⟩
  rw [hpU] at HNU sU
  clear hpU
  have hflh := hid hfl
  have hresh := hid hres
  have heqh := hid heq
  clear hfl hres heq hp
  obtain ⟨PT, hPT⟩ : ∃ P, 10 ^ T.size = P := ⟨_, rfl⟩
  have HOT : Hid (∀ w, Calls Try.prog 65 #[.int .i64 (T.size : Int)] w (fun e w' => ∃ a c b m d, e = .returned (.agg #[.bool false, .slice a 1 c, .slice b m d]) ∧ RdN 1 w' a 1 c 1 ∧ LtB a w'.heap.size ∧ Own w.heap.size w' b m d (lm PT) ∧ Below w.heap.size w w')) := fun w => hPT ▸ lover T.size (by omega)
  have sPT : Sz PT 40 := by rw [← hPT]; exact (ten_sz9 _).mono (Nat.le_refl _) (by omega)
  have hPTn : PT ≠ 0 := by rw [← hPT]; exact Nat.ne_of_gt (Nat.pow_pos (by decide))
  rw [hPT] at heqh
  clear hPT
  obtain rfl := be_nil hU0
  have hent := ent1 w #[Value.bool s, Value.slice a n c, Value.slice b m d] 29
  go_enter Try.func14, Try.ntmps14
  go_wp2_with fail
  generalize (w.alloc (.cells #[Value.bool s, Value.slice a n c, Value.slice b m d] 29)) = W0 at hent ⊢
  obtain ⟨X_0, hbel_0, hsz_0⟩ := hent
  have cX_0_0 : _ = some (Value.bool s) := X_0.cell 0
  have cX_0_1 : _ = some (Value.slice a n c) := X_0.cell 1
  have cX_0_2 : _ = some (Value.slice b m d) := X_0.cell 2
  go_wp2_with fail
  refine (lalive).mono ?_
  rintro e w1 ⟨rfl, hB⟩
  have hB_1 : Below W0.heap.size W0 w1 := (bl.next hB)
  have X_1 := X_0.next hB_1
  have cX_1_0 : _ = some (Value.bool s) := X_1.cell 0
  have cX_1_1 : _ = some (Value.slice a n c) := X_1.cell 1
  have cX_1_2 : _ = some (Value.slice b m d) := X_1.cell 2
  have hbel_1 := hbel_0.next hB_1
  have hsz_1 := hB_1.size
  clear X_0 cX_0_0 cX_0_1 cX_0_2 hbel_0 hB_1
  try clear hB
  go_wp2_with fail
  refine (HF.out _ hbel_1).mono ?_
  rintro e w2 ⟨xa, xn, xc, xb, xm, xd, rfl, hO, hO', hDx, hB⟩
  have hB_2 : Below w1.heap.size w1 w2 := (bl.next hB)
  have X_2 := X_1.next hB_2
  have cX_2_0 : _ = some (Value.bool s) := X_2.cell 0
  have cX_2_1 : _ = some (Value.slice a n c) := X_2.cell 1
  have cX_2_2 : _ = some (Value.slice b m d) := X_2.cell 2
  have hbel_2 := hbel_1.next hB_2
  have hsz_2 := hB_2.size
  clear X_1 cX_1_0 cX_1_1 cX_1_2 hbel_1 hB_2
  have Ox_2 := hO
  have ltOx := hO.ltB
  have Px_2 := hO'
  have ltPx := hO'.ltB
  clear hO hO'
  try clear hB
  have hbx := blk_new w2 #[Value.bool (decide (q.num < 0)), Value.slice xa xn xc, Value.slice xb xm xd] 29
  have hbB := (Below.refl w2.heap.size w2).alloc (Nat.le_refl _) (.cells #[Value.bool (decide (q.num < 0)), Value.slice xa xn xc, Value.slice xb xm xd] 29)
  have hltQ := hbx.lt
  have hB_3 : Below w2.heap.size w2 (w2.alloc (.cells #[Value.bool (decide (q.num < 0)), Value.slice xa xn xc, Value.slice xb xm xd] 29)) := hbB
  have X_3 := X_2.next hB_3
  have cX_3_0 : _ = some (Value.bool s) := X_3.cell 0
  have cX_3_1 : _ = some (Value.slice a n c) := X_3.cell 1
  have cX_3_2 : _ = some (Value.slice b m d) := X_3.cell 2
  have Ox_3 := Ox_2.below hB_3
  have Px_3 := Px_2.below hB_3
  have hbel_3 := hbel_2.next hB_3
  have hsz_3 := hB_3.size
  clear hB_3
  have Q_3 := hbx
  clear hbx hbB
  have cQ_3_0 : _ = some (Value.bool (decide (q.num < 0))) := Q_3.cell 0
  have fQ_3_0 := Q_3.free 0
  have cQ_3_1 : _ = some (Value.slice xa xn xc) := Q_3.cell 1
  have fQ_3_1 := Q_3.free 1
  have cQ_3_2 : _ = some (Value.slice xb xm xd) := Q_3.cell 2
  have fQ_3_2 := Q_3.free 2
  go_wp2_with fail
  clear X_2 cX_2_0 cX_2_1 cX_2_2 Ox_2 Px_2 hbel_2
  generalize (w2.alloc (.cells #[Value.bool (decide (q.num < 0)), Value.slice xa xn xc, Value.slice xb xm xd] 29)) = v3 at *
  go_wp2_with fail
  refine (HPd.out _ (Ox_3.rdQ Px_3 hqs)).mono ?_
  rintro e w4 ⟨rfl, hB⟩
  have hB_4 : Below v3.heap.size v3 w4 := (bl.next hB)
  have X_4 := X_3.next hB_4
  have cX_4_0 : _ = some (Value.bool s) := X_4.cell 0
  have cX_4_1 : _ = some (Value.slice a n c) := X_4.cell 1
  have cX_4_2 : _ = some (Value.slice b m d) := X_4.cell 2
  have Q_4 := Q_3.next hB_4
  have cQ_4_0 : _ = some (Value.bool (decide (q.num < 0))) := Q_4.cell 0
  have fQ_4_0 := Q_4.free 0
  have cQ_4_1 : _ = some (Value.slice xa xn xc) := Q_4.cell 1
  have fQ_4_1 := Q_4.free 1
  have cQ_4_2 : _ = some (Value.slice xb xm xd) := Q_4.cell 2
  have fQ_4_2 := Q_4.free 2
  have Ox_4 := Ox_3.below hB_4
  have Px_4 := Px_3.below hB_4
  have hbel_4 := hbel_3.next hB_4
  have hsz_4 := hB_4.size
  clear X_3 cX_3_0 cX_3_1 cX_3_2 Q_3 cQ_3_0 fQ_3_0 cQ_3_1 fQ_3_1 cQ_3_2 fQ_3_2 Ox_3 Px_3 hbel_3 hB_4
  try clear hB
  go_wp2_with fail
  refine (qsign (Ox_4.rdQ Px_4 hqs) (by omega)).mono ?_
  rintro e w5 ⟨rfl, hB⟩
  have hB_5 : Below w4.heap.size w4 w5 := (bl.next hB)
  have X_5 := X_4.next hB_5
  have cX_5_0 : _ = some (Value.bool s) := X_5.cell 0
  have cX_5_1 : _ = some (Value.slice a n c) := X_5.cell 1
  have cX_5_2 : _ = some (Value.slice b m d) := X_5.cell 2
  have Q_5 := Q_4.next hB_5
  have cQ_5_0 : _ = some (Value.bool (decide (q.num < 0))) := Q_5.cell 0
  have fQ_5_0 := Q_5.free 0
  have cQ_5_1 : _ = some (Value.slice xa xn xc) := Q_5.cell 1
  have fQ_5_1 := Q_5.free 1
  have cQ_5_2 : _ = some (Value.slice xb xm xd) := Q_5.cell 2
  have fQ_5_2 := Q_5.free 2
  have Ox_5 := Ox_4.below hB_5
  have Px_5 := Px_4.below hB_5
  have hbel_5 := hbel_4.next hB_5
  have hsz_5 := hB_5.size
  clear X_4 cX_4_0 cX_4_1 cX_4_2 Q_4 cQ_4_0 fQ_4_0 cQ_4_1 fQ_4_1 cQ_4_2 fQ_4_2 Ox_4 Px_4 hbel_4 hB_5
  try clear hB
  go_wp2_with fail
  refine (qfloor (Ox_5.rdQ Px_5 hqs) (by omega)).mono ?_
  rw [hflh.out]
  rintro e w6 ⟨za, zn, zc, rfl, hO, hB⟩
  have hB_6 : Below w5.heap.size w5 w6 := (bl.next hB)
  have X_6 := X_5.next hB_6
  have cX_6_0 : _ = some (Value.bool s) := X_6.cell 0
  have cX_6_1 : _ = some (Value.slice a n c) := X_6.cell 1
  have cX_6_2 : _ = some (Value.slice b m d) := X_6.cell 2
  have Q_6 := Q_5.next hB_6
  have cQ_6_0 : _ = some (Value.bool (decide (q.num < 0))) := Q_6.cell 0
  have fQ_6_0 := Q_6.free 0
  have cQ_6_1 : _ = some (Value.slice xa xn xc) := Q_6.cell 1
  have fQ_6_1 := Q_6.free 1
  have cQ_6_2 : _ = some (Value.slice xb xm xd) := Q_6.cell 2
  have fQ_6_2 := Q_6.free 2
  have Ox_6 := Ox_5.below hB_6
  have Px_6 := Px_5.below hB_6
  have hbel_6 := hbel_5.next hB_6
  have hsz_6 := hB_6.size
  clear X_5 cX_5_0 cX_5_1 cX_5_2 Q_5 cQ_5_0 fQ_5_0 cQ_5_1 fQ_5_1 cQ_5_2 fQ_5_2 Ox_5 Px_5 hbel_5 hB_6
  have Oz_6 := hO
  have ltOz := hO.ltB
  clear hO
  try clear hB
  rw [Int.natAbs_natCast] at Oz_6
  have hzd : decide ((zN : Int) < 0) = false := by simp
  rw [hzd]
  clear hzd
  have hbx := blk_new w6 #[Value.bool false, Value.slice za zn zc] 27
  have hbB := (Below.refl w6.heap.size w6).alloc (Nat.le_refl _) (.cells #[Value.bool false, Value.slice za zn zc] 27)
  have hltZ := hbx.lt
  have hB_7 : Below w6.heap.size w6 (w6.alloc (.cells #[Value.bool false, Value.slice za zn zc] 27)) := hbB
  have X_7 := X_6.next hB_7
  have cX_7_0 : _ = some (Value.bool s) := X_7.cell 0
  have cX_7_1 : _ = some (Value.slice a n c) := X_7.cell 1
  have cX_7_2 : _ = some (Value.slice b m d) := X_7.cell 2
  have Q_7 := Q_6.next hB_7
  have cQ_7_0 : _ = some (Value.bool (decide (q.num < 0))) := Q_7.cell 0
  have fQ_7_0 := Q_7.free 0
  have cQ_7_1 : _ = some (Value.slice xa xn xc) := Q_7.cell 1
  have fQ_7_1 := Q_7.free 1
  have cQ_7_2 : _ = some (Value.slice xb xm xd) := Q_7.cell 2
  have fQ_7_2 := Q_7.free 2
  have Ox_7 := Ox_6.below hB_7
  have Px_7 := Px_6.below hB_7
  have Oz_7 := Oz_6.below hB_7
  have hbel_7 := hbel_6.next hB_7
  have hsz_7 := hB_7.size
  clear hB_7
  have Z_7 := hbx
  clear hbx hbB
  have cZ_7_0 : _ = some (Value.bool false) := Z_7.cell 0
  have cZ_7_1 : _ = some (Value.slice za zn zc) := Z_7.cell 1
  have hz7 := hid (show (w6.alloc (.cells #[Value.bool false, Value.slice za zn zc] 27)).heap.size = w6.heap.size + 1 from by simp)
  go_wp2_with fail
  clear X_6 cX_6_0 cX_6_1 cX_6_2 Q_6 cQ_6_0 fQ_6_0 cQ_6_1 fQ_6_1 cQ_6_2 fQ_6_2 Ox_6 Px_6 Oz_6 hbel_6
  generalize (w6.alloc (.cells #[Value.bool false, Value.slice za zn zc] 27)) = v7 at *
  have hbx := blk_new v7 #[Value.int .u32 1] 39
  have hbB := (Below.refl v7.heap.size v7).alloc (Nat.le_refl _) (.cells #[Value.int .u32 1] 39)
  have hltONA := hbx.lt
  have hB_8 : Below v7.heap.size v7 (v7.alloc (.cells #[Value.int .u32 1] 39)) := hbB
  have X_8 := X_7.next hB_8
  have cX_8_0 : _ = some (Value.bool s) := X_8.cell 0
  have cX_8_1 : _ = some (Value.slice a n c) := X_8.cell 1
  have cX_8_2 : _ = some (Value.slice b m d) := X_8.cell 2
  have Q_8 := Q_7.next hB_8
  have cQ_8_0 : _ = some (Value.bool (decide (q.num < 0))) := Q_8.cell 0
  have fQ_8_0 := Q_8.free 0
  have cQ_8_1 : _ = some (Value.slice xa xn xc) := Q_8.cell 1
  have fQ_8_1 := Q_8.free 1
  have cQ_8_2 : _ = some (Value.slice xb xm xd) := Q_8.cell 2
  have fQ_8_2 := Q_8.free 2
  have Z_8 := Z_7.next hB_8
  have cZ_8_0 : _ = some (Value.bool false) := Z_8.cell 0
  have cZ_8_1 : _ = some (Value.slice za zn zc) := Z_8.cell 1
  have Ox_8 := Ox_7.below hB_8
  have Px_8 := Px_7.below hB_8
  have Oz_8 := Oz_7.below hB_8
  have hbel_8 := hbel_7.next hB_8
  have hsz_8 := hB_8.size
  clear hB_8
  have ONA_8 := hbx
  clear hbx hbB
  have cONA_8_0 : _ = some (Value.int .u32 1) := ONA_8.cell 0
  go_wp2_with fail
  clear X_7 cX_7_0 cX_7_1 cX_7_2 Q_7 cQ_7_0 fQ_7_0 cQ_7_1 fQ_7_1 cQ_7_2 fQ_7_2 Z_7 cZ_7_0 cZ_7_1 Ox_7 Px_7 Oz_7 hbel_7
  generalize (v7.alloc (.cells #[Value.int .u32 1] 39)) = v8 at *
  rw [← hz7.out]
  have RZ_8 : RdQ 20 v8 false za zn zc (some ⟨v7.heap.size, 0, none⟩) 1 1 (((zN : Nat) : Int) : Rat) := ⟨zN, 1, Oz_8.rdN hzs, (rdN_blk rfl (by decide) ONA_8).mono (by omega), by unfold qv; rw [und_of (by decide)]; exact Rat.mkRat_one _⟩
  go_wp2_with fail
  refine (qsub (Ox_8.rdQ Px_8 hqs) (by omega) RZ_8 (by omega)).mono ?_
  rw [hresh.out]
  rintro e w9 ⟨ea, en, ec, eb, em, ed, rfl, hO, hO', hDe, hB⟩
  have hB_9 : Below v8.heap.size v8 w9 := (bl.next hB)
  have X_9 := X_8.next hB_9
  have cX_9_0 : _ = some (Value.bool s) := X_9.cell 0
  have cX_9_1 : _ = some (Value.slice a n c) := X_9.cell 1
  have cX_9_2 : _ = some (Value.slice b m d) := X_9.cell 2
  have Q_9 := Q_8.next hB_9
  have cQ_9_0 : _ = some (Value.bool (decide (q.num < 0))) := Q_9.cell 0
  have fQ_9_0 := Q_9.free 0
  have cQ_9_1 : _ = some (Value.slice xa xn xc) := Q_9.cell 1
  have fQ_9_1 := Q_9.free 1
  have cQ_9_2 : _ = some (Value.slice xb xm xd) := Q_9.cell 2
  have fQ_9_2 := Q_9.free 2
  have Z_9 := Z_8.next hB_9
  have cZ_9_0 : _ = some (Value.bool false) := Z_9.cell 0
  have cZ_9_1 : _ = some (Value.slice za zn zc) := Z_9.cell 1
  have ONA_9 := ONA_8.next hB_9
  have cONA_9_0 : _ = some (Value.int .u32 1) := ONA_9.cell 0
  have Ox_9 := Ox_8.below hB_9
  have Px_9 := Px_8.below hB_9
  have Oz_9 := Oz_8.below hB_9
  have RZ_9 := RZ_8.below hB_9
  have hbel_9 := hbel_8.next hB_9
  have hsz_9 := hB_9.size
  clear X_8 cX_8_0 cX_8_1 cX_8_2 Q_8 cQ_8_0 fQ_8_0 cQ_8_1 fQ_8_1 cQ_8_2 fQ_8_2 Z_8 cZ_8_0 cZ_8_1 ONA_8 cONA_8_0 Ox_8 Px_8 Oz_8 RZ_8 hbel_8 hB_9
  have Oe_9 := hO
  have ltOe := hO.ltB
  have Pe_9 := hO'
  have ltPe := hO'.ltB
  clear hO hO'
  try clear hB
  clear RZ_9
  have hbx := blk_new w9 #[Value.bool (decide (er.num < 0)), Value.slice ea en ec, Value.slice eb em ed] 29
  have hbB := (Below.refl w9.heap.size w9).alloc (Nat.le_refl _) (.cells #[Value.bool (decide (er.num < 0)), Value.slice ea en ec, Value.slice eb em ed] 29)
  have hltE := hbx.lt
  have hB_10 : Below w9.heap.size w9 (w9.alloc (.cells #[Value.bool (decide (er.num < 0)), Value.slice ea en ec, Value.slice eb em ed] 29)) := hbB
  have X_10 := X_9.next hB_10
  have cX_10_0 : _ = some (Value.bool s) := X_10.cell 0
  have cX_10_1 : _ = some (Value.slice a n c) := X_10.cell 1
  have cX_10_2 : _ = some (Value.slice b m d) := X_10.cell 2
  have Q_10 := Q_9.next hB_10
  have cQ_10_0 : _ = some (Value.bool (decide (q.num < 0))) := Q_10.cell 0
  have fQ_10_0 := Q_10.free 0
  have cQ_10_1 : _ = some (Value.slice xa xn xc) := Q_10.cell 1
  have fQ_10_1 := Q_10.free 1
  have cQ_10_2 : _ = some (Value.slice xb xm xd) := Q_10.cell 2
  have fQ_10_2 := Q_10.free 2
  have Z_10 := Z_9.next hB_10
  have cZ_10_0 : _ = some (Value.bool false) := Z_10.cell 0
  have cZ_10_1 : _ = some (Value.slice za zn zc) := Z_10.cell 1
  have ONA_10 := ONA_9.next hB_10
  have cONA_10_0 : _ = some (Value.int .u32 1) := ONA_10.cell 0
  have Ox_10 := Ox_9.below hB_10
  have Px_10 := Px_9.below hB_10
  have Oz_10 := Oz_9.below hB_10
  have Oe_10 := Oe_9.below hB_10
  have Pe_10 := Pe_9.below hB_10
  have hbel_10 := hbel_9.next hB_10
  have hsz_10 := hB_10.size
  clear hB_10
  have E_10 := hbx
  clear hbx hbB
  have cE_10_0 : _ = some (Value.bool (decide (er.num < 0))) := E_10.cell 0
  have cE_10_1 : _ = some (Value.slice ea en ec) := E_10.cell 1
  have cE_10_2 : _ = some (Value.slice eb em ed) := E_10.cell 2
  go_wp2_with fail
  clear X_9 cX_9_0 cX_9_1 cX_9_2 Q_9 cQ_9_0 fQ_9_0 cQ_9_1 fQ_9_1 cQ_9_2 fQ_9_2 Z_9 cZ_9_0 cZ_9_1 ONA_9 cONA_9_0 Ox_9 Px_9 Oz_9 Oe_9 Pe_9 hbel_9
  generalize (w9.alloc (.cells #[Value.bool (decide (er.num < 0)), Value.slice ea en ec, Value.slice eb em ed] 29)) = v10 at *
  go_wp2_with fail
  refine (HNT.out _).mono ?_
  rintro e w11 ⟨ta, tn, tc, rfl, hO, hB⟩
  have hB_11 : Below v10.heap.size v10 w11 := (bl.next hB)
  have X_11 := X_10.next hB_11
  have cX_11_0 : _ = some (Value.bool s) := X_11.cell 0
  have cX_11_1 : _ = some (Value.slice a n c) := X_11.cell 1
  have cX_11_2 : _ = some (Value.slice b m d) := X_11.cell 2
  have Q_11 := Q_10.next hB_11
  have cQ_11_0 : _ = some (Value.bool (decide (q.num < 0))) := Q_11.cell 0
  have fQ_11_0 := Q_11.free 0
  have cQ_11_1 : _ = some (Value.slice xa xn xc) := Q_11.cell 1
  have fQ_11_1 := Q_11.free 1
  have cQ_11_2 : _ = some (Value.slice xb xm xd) := Q_11.cell 2
  have fQ_11_2 := Q_11.free 2
  have Z_11 := Z_10.next hB_11
  have cZ_11_0 : _ = some (Value.bool false) := Z_11.cell 0
  have cZ_11_1 : _ = some (Value.slice za zn zc) := Z_11.cell 1
  have ONA_11 := ONA_10.next hB_11
  have cONA_11_0 : _ = some (Value.int .u32 1) := ONA_11.cell 0
  have E_11 := E_10.next hB_11
  have cE_11_0 : _ = some (Value.bool (decide (er.num < 0))) := E_11.cell 0
  have cE_11_1 : _ = some (Value.slice ea en ec) := E_11.cell 1
  have cE_11_2 : _ = some (Value.slice eb em ed) := E_11.cell 2
  have Ox_11 := Ox_10.below hB_11
  have Px_11 := Px_10.below hB_11
  have Oz_11 := Oz_10.below hB_11
  have Oe_11 := Oe_10.below hB_11
  have Pe_11 := Pe_10.below hB_11
  have hbel_11 := hbel_10.next hB_11
  have hsz_11 := hB_11.size
  clear X_10 cX_10_0 cX_10_1 cX_10_2 Q_10 cQ_10_0 fQ_10_0 cQ_10_1 fQ_10_1 cQ_10_2 fQ_10_2 Z_10 cZ_10_0 cZ_10_1 ONA_10 cONA_10_0 E_10 cE_10_0 cE_10_1 cE_10_2 Ox_10 Px_10 Oz_10 Oe_10 Pe_10 hbel_10 hB_11
  have Ot_11 := hO
  have ltOt := hO.ltB
  clear hO
  try clear hB
  have hbx := blk_new w11 #[Value.int .u32 1] 39
  have hbB := (Below.refl w11.heap.size w11).alloc (Nat.le_refl _) (.cells #[Value.int .u32 1] 39)
  have hltONB := hbx.lt
  have hB_12 : Below w11.heap.size w11 (w11.alloc (.cells #[Value.int .u32 1] 39)) := hbB
  have X_12 := X_11.next hB_12
  have cX_12_0 : _ = some (Value.bool s) := X_12.cell 0
  have cX_12_1 : _ = some (Value.slice a n c) := X_12.cell 1
  have cX_12_2 : _ = some (Value.slice b m d) := X_12.cell 2
  have Q_12 := Q_11.next hB_12
  have cQ_12_0 : _ = some (Value.bool (decide (q.num < 0))) := Q_12.cell 0
  have fQ_12_0 := Q_12.free 0
  have cQ_12_1 : _ = some (Value.slice xa xn xc) := Q_12.cell 1
  have fQ_12_1 := Q_12.free 1
  have cQ_12_2 : _ = some (Value.slice xb xm xd) := Q_12.cell 2
  have fQ_12_2 := Q_12.free 2
  have Z_12 := Z_11.next hB_12
  have cZ_12_0 : _ = some (Value.bool false) := Z_12.cell 0
  have cZ_12_1 : _ = some (Value.slice za zn zc) := Z_12.cell 1
  have ONA_12 := ONA_11.next hB_12
  have cONA_12_0 : _ = some (Value.int .u32 1) := ONA_12.cell 0
  have E_12 := E_11.next hB_12
  have cE_12_0 : _ = some (Value.bool (decide (er.num < 0))) := E_12.cell 0
  have cE_12_1 : _ = some (Value.slice ea en ec) := E_12.cell 1
  have cE_12_2 : _ = some (Value.slice eb em ed) := E_12.cell 2
  have Ox_12 := Ox_11.below hB_12
  have Px_12 := Px_11.below hB_12
  have Oz_12 := Oz_11.below hB_12
  have Oe_12 := Oe_11.below hB_12
  have Pe_12 := Pe_11.below hB_12
  have Ot_12 := Ot_11.below hB_12
  have hbel_12 := hbel_11.next hB_12
  have hsz_12 := hB_12.size
  clear hB_12
  have ONB_12 := hbx
  clear hbx hbB
  have cONB_12_0 : _ = some (Value.int .u32 1) := ONB_12.cell 0
  have hz12 := hid (show (w11.alloc (.cells #[Value.int .u32 1] 39)).heap.size = w11.heap.size + 1 from by simp)
  go_upto_region 30 with fail
  clear X_11 cX_11_0 cX_11_1 cX_11_2 Q_11 cQ_11_0 fQ_11_0 cQ_11_1 fQ_11_1 cQ_11_2 fQ_11_2 Z_11 cZ_11_0 cZ_11_1 ONA_11 cONA_11_0 E_11 cE_11_0 cE_11_1 cE_11_2 Ox_11 Px_11 Oz_11 Oe_11 Pe_11 Ot_11 hbel_11
  generalize (w11.alloc (.cells #[Value.int .u32 1] 39)) = v12 at *
  have hbx := blk_new v12 #[Value.bool false, Value.slice ta tn tc, Value.slice (some ⟨w11.heap.size, 0, none⟩) 1 1] 29
  have hbB := (Below.refl v12.heap.size v12).alloc (Nat.le_refl _) (.cells #[Value.bool false, Value.slice ta tn tc, Value.slice (some ⟨w11.heap.size, 0, none⟩) 1 1] 29)
  have hltSUM := hbx.lt
  have hB_13 : Below v12.heap.size v12 (v12.alloc (.cells #[Value.bool false, Value.slice ta tn tc, Value.slice (some ⟨w11.heap.size, 0, none⟩) 1 1] 29)) := hbB
  have X_13 := X_12.next hB_13
  have cX_13_0 : _ = some (Value.bool s) := X_13.cell 0
  have cX_13_1 : _ = some (Value.slice a n c) := X_13.cell 1
  have cX_13_2 : _ = some (Value.slice b m d) := X_13.cell 2
  have Q_13 := Q_12.next hB_13
  have cQ_13_0 : _ = some (Value.bool (decide (q.num < 0))) := Q_13.cell 0
  have fQ_13_0 := Q_13.free 0
  have cQ_13_1 : _ = some (Value.slice xa xn xc) := Q_13.cell 1
  have fQ_13_1 := Q_13.free 1
  have cQ_13_2 : _ = some (Value.slice xb xm xd) := Q_13.cell 2
  have fQ_13_2 := Q_13.free 2
  have Z_13 := Z_12.next hB_13
  have cZ_13_0 : _ = some (Value.bool false) := Z_13.cell 0
  have cZ_13_1 : _ = some (Value.slice za zn zc) := Z_13.cell 1
  have ONA_13 := ONA_12.next hB_13
  have cONA_13_0 : _ = some (Value.int .u32 1) := ONA_13.cell 0
  have E_13 := E_12.next hB_13
  have cE_13_0 : _ = some (Value.bool (decide (er.num < 0))) := E_13.cell 0
  have cE_13_1 : _ = some (Value.slice ea en ec) := E_13.cell 1
  have cE_13_2 : _ = some (Value.slice eb em ed) := E_13.cell 2
  have ONB_13 := ONB_12.next hB_13
  have cONB_13_0 : _ = some (Value.int .u32 1) := ONB_13.cell 0
  have Ox_13 := Ox_12.below hB_13
  have Px_13 := Px_12.below hB_13
  have Oz_13 := Oz_12.below hB_13
  have Oe_13 := Oe_12.below hB_13
  have Pe_13 := Pe_12.below hB_13
  have Ot_13 := Ot_12.below hB_13
  have hbel_13 := hbel_12.next hB_13
  have hsz_13 := hB_13.size
  clear hB_13
  have SUM_13 := hbx
  clear hbx hbB
  have cSUM_13_0 : _ = some (Value.bool false) := SUM_13.cell 0
  have fSUM_13_0 := SUM_13.free 0
  have cSUM_13_1 : _ = some (Value.slice ta tn tc) := SUM_13.cell 1
  have fSUM_13_1 := SUM_13.free 1
  have cSUM_13_2 : _ = some (Value.slice (some ⟨w11.heap.size, 0, none⟩) 1 1) := SUM_13.cell 2
  have fSUM_13_2 := SUM_13.free 2
  skip
  clear X_12 cX_12_0 cX_12_1 cX_12_2 Q_12 cQ_12_0 fQ_12_0 cQ_12_1 fQ_12_1 cQ_12_2 fQ_12_2 Z_12 cZ_12_0 cZ_12_1 ONA_12 cONA_12_0 E_12 cE_12_0 cE_12_1 cE_12_2 ONB_12 cONB_12_0 Ox_12 Px_12 Oz_12 Oe_12 Pe_12 Ot_12 hbel_12
  generalize (v12.alloc (.cells #[Value.bool false, Value.slice ta tn tc, Value.slice (some ⟨w11.heap.size, 0, none⟩) 1 1] 29)) = v13 at *
  rw [← hz12.out]
  have hrsq : QS (mkRat (pT : Int) 1) 301 := QS.mk (by decide) (by rw [Int.natAbs_natCast]; exact sT) (sz_one (by omega))
  have RS_13 : RdQ 301 v13 false ta tn tc (some ⟨w11.heap.size, 0, none⟩) 1 1 (mkRat (pT : Int) 1) := ⟨pT, 1, Ot_13.rdN sT, (rdN_blk rfl (by decide) ONB_13).mono (by omega), rfl⟩
  go_cut [153] (fun s153 wx => s153 = .bool false ∧ wx = v13)
  case first =>
    by_cases hT0 : 0 < T.size
    · obtain ⟨mx, hmx⟩ : ∃ m, T.size - 1 = m := ⟨_, rfl⟩
      have hmlt : mx < T.size := by omega
      have hxl := by_get T mx hmlt
      have hls := hlast.out hT0
      rw [hmx] at hls
      obtain ⟨cl, hcl⟩ : ∃ x, T[mx].toNat = x := ⟨_, rfl⟩
      rw [hxl, hcl] at hls
      have hmi : IntKind.i64.wrap ((T.size : Int) - 1) = (mx : Int) := by rw [IntKind.wrap_i64]; omega
      have hmi2 : (T.size : Int) - 1 = (mx : Int) := by omega
      have hmw : IntKind.i64.wrap (mx : Int) = (mx : Int) := by rw [IntKind.wrap_i64]; omega
      have hd : ((cl : Int) == 48) = false := by simp; omega
      clear hls hxl
      go_wp2_with fail
      go_meet
      exact ⟨rfl, rfl⟩
    · have hT1 : decide (0 < T.size) = false := decide_eq_false hT0
      have hT2 : decide ((0 : Int) < (T.size : Int)) = false := decide_eq_false (by omega)
      clear hT0
      go_wp2_with fail
      go_meet
      exact ⟨rfl, rfl⟩
  case rest =>
    obtain ⟨rfl, rfl⟩ := hcut
    have hT300 : (T.size : Int) ≤ 300 := by have h : (⟨#[]⟩ : ByteArray).size = 0 := rfl; omega
    have hTw : IntKind.i64.wrap (T.size : Int) = (T.size : Int) := by rw [IntKind.wrap_i64]; omega
    go_upto_region 32 with fail
    go_wp2_with fail
    go_region_held3 (fun w' => w'.cell? ⟨v12.heap.size, 0, none⟩ = some (Value.bool false) ∧ w'.cell? ⟨v12.heap.size, 1, none⟩ = some (Value.slice ta tn tc) ∧ w'.cell? ⟨v12.heap.size, 2, none⟩ = some (Value.slice (some ⟨w11.heap.size, 0, none⟩) 1 1) ∧ w'.cell? ⟨w9.heap.size, 0, none⟩ = some (Value.bool (decide (er.num < 0))) ∧ w'.cell? ⟨w9.heap.size, 1, none⟩ = some (Value.slice ea en ec) ∧ w'.cell? ⟨w9.heap.size, 2, none⟩ = some (Value.slice eb em ed))
      (first | exact ⟨cSUM_13_0, cSUM_13_1, cSUM_13_2, cE_13_0, cE_13_1, cE_13_2⟩ | exact ⟨cSUM_14_0, cSUM_14_1, cSUM_14_2, cE_14_0, cE_14_1, cE_14_2⟩ | exact ⟨cSUM_15_0, cSUM_15_1, cSUM_15_2, cE_15_0, cE_15_1, cE_15_2⟩ | exact ⟨cSUM_16_0, cSUM_16_1, cSUM_16_2, cE_16_0, cE_16_1, cE_16_2⟩ | go_keep)
      (first
        | (go_at_call 65; ((with_reducible refine (HOT.out _).mono ?_); (rintro e w14 ⟨pa, pc, pb, pm, pd, rfl, hR1, hR2, hO, hB⟩; have hB_14 : Below wc.heap.size wc w14 := (bl.next hB); have X_14 := X_13.next hB_14; have cX_14_0 : _ = some (Value.bool s) := X_14.cell 0; have cX_14_1 : _ = some (Value.slice a n c) := X_14.cell 1; have cX_14_2 : _ = some (Value.slice b m d) := X_14.cell 2; have Q_14 := Q_13.next hB_14; have cQ_14_0 : _ = some (Value.bool (decide (q.num < 0))) := Q_14.cell 0; have fQ_14_0 := Q_14.free 0; have cQ_14_1 : _ = some (Value.slice xa xn xc) := Q_14.cell 1; have fQ_14_1 := Q_14.free 1; have cQ_14_2 : _ = some (Value.slice xb xm xd) := Q_14.cell 2; have fQ_14_2 := Q_14.free 2; have Z_14 := Z_13.next hB_14; have cZ_14_0 : _ = some (Value.bool false) := Z_14.cell 0; have cZ_14_1 : _ = some (Value.slice za zn zc) := Z_14.cell 1; have ONA_14 := ONA_13.next hB_14; have cONA_14_0 : _ = some (Value.int .u32 1) := ONA_14.cell 0; have E_14 := E_13.next hB_14; have cE_14_0 : _ = some (Value.bool (decide (er.num < 0))) := E_14.cell 0; have cE_14_1 : _ = some (Value.slice ea en ec) := E_14.cell 1; have cE_14_2 : _ = some (Value.slice eb em ed) := E_14.cell 2; have ONB_14 := ONB_13.next hB_14; have cONB_14_0 : _ = some (Value.int .u32 1) := ONB_14.cell 0; have SUM_14 := SUM_13.next hB_14; have cSUM_14_0 : _ = some (Value.bool false) := SUM_14.cell 0; have fSUM_14_0 := SUM_14.free 0; have cSUM_14_1 : _ = some (Value.slice ta tn tc) := SUM_14.cell 1; have fSUM_14_1 := SUM_14.free 1; have cSUM_14_2 : _ = some (Value.slice (some ⟨w11.heap.size, 0, none⟩) 1 1) := SUM_14.cell 2; have fSUM_14_2 := SUM_14.free 2; have Ox_14 := Ox_13.below hB_14; have Px_14 := Px_13.below hB_14; have Oz_14 := Oz_13.below hB_14; have Oe_14 := Oe_13.below hB_14; have Pe_14 := Pe_13.below hB_14; have Ot_14 := Ot_13.below hB_14; have RS_14 := RS_13.below hB_14; have hbel_14 := hbel_13.next hB_14; have hsz_14 := hB_14.size; clear X_13 cX_13_0 cX_13_1 cX_13_2 Q_13 cQ_13_0 fQ_13_0 cQ_13_1 fQ_13_1 cQ_13_2 fQ_13_2 Z_13 cZ_13_0 cZ_13_1 ONA_13 cONA_13_0 E_13 cE_13_0 cE_13_1 cE_13_2 ONB_13 cONB_13_0 SUM_13 cSUM_13_0 fSUM_13_0 cSUM_13_1 fSUM_13_1 cSUM_13_2 fSUM_13_2 Ox_13 Px_13 Oz_13 Oe_13 Pe_13 Ot_13 RS_13 hbel_13 hB_14; have T1_14 := hO; have U1_14 := hR1; try clear hB)))
        | (go_at_call 36; ((with_reducible refine (qmul ((RS_14.below bl))  (by omega) (rdq_ov (U1_14.below bl) (T1_14.below bl) sPT hPTn) (by omega)).mono ?_); (rw [heqh.out]; rintro e w15 ⟨ma, mn, mc, mb, mm, md, rfl, hO, hO', hDm, hB⟩; have hB_15 : Below w14.heap.size w14 w15 := (bl.next hB); have X_15 := X_14.next hB_15; have cX_15_0 : _ = some (Value.bool s) := X_15.cell 0; have cX_15_1 : _ = some (Value.slice a n c) := X_15.cell 1; have cX_15_2 : _ = some (Value.slice b m d) := X_15.cell 2; have Q_15 := Q_14.next hB_15; have cQ_15_0 : _ = some (Value.bool (decide (q.num < 0))) := Q_15.cell 0; have fQ_15_0 := Q_15.free 0; have cQ_15_1 : _ = some (Value.slice xa xn xc) := Q_15.cell 1; have fQ_15_1 := Q_15.free 1; have cQ_15_2 : _ = some (Value.slice xb xm xd) := Q_15.cell 2; have fQ_15_2 := Q_15.free 2; have Z_15 := Z_14.next hB_15; have cZ_15_0 : _ = some (Value.bool false) := Z_15.cell 0; have cZ_15_1 : _ = some (Value.slice za zn zc) := Z_15.cell 1; have ONA_15 := ONA_14.next hB_15; have cONA_15_0 : _ = some (Value.int .u32 1) := ONA_15.cell 0; have E_15 := E_14.next hB_15; have cE_15_0 : _ = some (Value.bool (decide (er.num < 0))) := E_15.cell 0; have cE_15_1 : _ = some (Value.slice ea en ec) := E_15.cell 1; have cE_15_2 : _ = some (Value.slice eb em ed) := E_15.cell 2; have ONB_15 := ONB_14.next hB_15; have cONB_15_0 : _ = some (Value.int .u32 1) := ONB_15.cell 0; have SUM_15 := SUM_14.next hB_15; have cSUM_15_0 : _ = some (Value.bool false) := SUM_15.cell 0; have fSUM_15_0 := SUM_15.free 0; have cSUM_15_1 : _ = some (Value.slice ta tn tc) := SUM_15.cell 1; have fSUM_15_1 := SUM_15.free 1; have cSUM_15_2 : _ = some (Value.slice (some ⟨w11.heap.size, 0, none⟩) 1 1) := SUM_15.cell 2; have fSUM_15_2 := SUM_15.free 2; have Ox_15 := Ox_14.below hB_15; have Px_15 := Px_14.below hB_15; have Oz_15 := Oz_14.below hB_15; have Oe_15 := Oe_14.below hB_15; have Pe_15 := Pe_14.below hB_15; have Ot_15 := Ot_14.below hB_15; have RS_15 := RS_14.below hB_15; have T1_15 := T1_14.below hB_15; have U1_15 := U1_14.below hB_15; have hbel_15 := hbel_14.next hB_15; have hsz_15 := hB_15.size; clear X_14 cX_14_0 cX_14_1 cX_14_2 Q_14 cQ_14_0 fQ_14_0 cQ_14_1 fQ_14_1 cQ_14_2 fQ_14_2 Z_14 cZ_14_0 cZ_14_1 ONA_14 cONA_14_0 E_14 cE_14_0 cE_14_1 cE_14_2 ONB_14 cONB_14_0 SUM_14 cSUM_14_0 fSUM_14_0 cSUM_14_1 fSUM_14_1 cSUM_14_2 fSUM_14_2 Ox_14 Px_14 Oz_14 Oe_14 Pe_14 Ot_14 RS_14 T1_14 U1_14 hbel_14 hB_15; have Om_15 := hO; have Pm_15 := hO'; try clear hB)))
        | (go_at_call 62; ((with_reducible refine (lsame4 (((Om_15.below bl)).rdQ ((Pm_15.below bl)) hers) (by omega) (((Oe_15.below bl)).rdQ ((Pe_15.below bl)) hers) (by omega) rfl).mono ?_); (rintro e w16 ⟨rfl, hB⟩; have hB_16 : Below w15.heap.size w15 w16 := (bl.next hB); have X_16 := X_15.next hB_16; have cX_16_0 : _ = some (Value.bool s) := X_16.cell 0; have cX_16_1 : _ = some (Value.slice a n c) := X_16.cell 1; have cX_16_2 : _ = some (Value.slice b m d) := X_16.cell 2; have Q_16 := Q_15.next hB_16; have cQ_16_0 : _ = some (Value.bool (decide (q.num < 0))) := Q_16.cell 0; have fQ_16_0 := Q_16.free 0; have cQ_16_1 : _ = some (Value.slice xa xn xc) := Q_16.cell 1; have fQ_16_1 := Q_16.free 1; have cQ_16_2 : _ = some (Value.slice xb xm xd) := Q_16.cell 2; have fQ_16_2 := Q_16.free 2; have Z_16 := Z_15.next hB_16; have cZ_16_0 : _ = some (Value.bool false) := Z_16.cell 0; have cZ_16_1 : _ = some (Value.slice za zn zc) := Z_16.cell 1; have ONA_16 := ONA_15.next hB_16; have cONA_16_0 : _ = some (Value.int .u32 1) := ONA_16.cell 0; have E_16 := E_15.next hB_16; have cE_16_0 : _ = some (Value.bool (decide (er.num < 0))) := E_16.cell 0; have cE_16_1 : _ = some (Value.slice ea en ec) := E_16.cell 1; have cE_16_2 : _ = some (Value.slice eb em ed) := E_16.cell 2; have ONB_16 := ONB_15.next hB_16; have cONB_16_0 : _ = some (Value.int .u32 1) := ONB_16.cell 0; have SUM_16 := SUM_15.next hB_16; have cSUM_16_0 : _ = some (Value.bool false) := SUM_16.cell 0; have fSUM_16_0 := SUM_16.free 0; have cSUM_16_1 : _ = some (Value.slice ta tn tc) := SUM_16.cell 1; have fSUM_16_1 := SUM_16.free 1; have cSUM_16_2 : _ = some (Value.slice (some ⟨w11.heap.size, 0, none⟩) 1 1) := SUM_16.cell 2; have fSUM_16_2 := SUM_16.free 2; have Ox_16 := Ox_15.below hB_16; have Px_16 := Px_15.below hB_16; have Oz_16 := Oz_15.below hB_16; have Oe_16 := Oe_15.below hB_16; have Pe_16 := Pe_15.below hB_16; have Ot_16 := Ot_15.below hB_16; have RS_16 := RS_15.below hB_16; have T1_16 := T1_15.below hB_16; have U1_16 := U1_15.below hB_16; have Om_16 := Om_15.below hB_16; have Pm_16 := Pm_15.below hB_16; have hbel_16 := hbel_15.next hB_16; have hsz_16 := hB_16.size; clear X_15 cX_15_0 cX_15_1 cX_15_2 Q_15 cQ_15_0 fQ_15_0 cQ_15_1 fQ_15_1 cQ_15_2 fQ_15_2 Z_15 cZ_15_0 cZ_15_1 ONA_15 cONA_15_0 E_15 cE_15_0 cE_15_1 cE_15_2 ONB_15 cONB_15_0 SUM_15 cSUM_15_0 fSUM_15_0 cSUM_15_1 fSUM_15_1 cSUM_15_2 fSUM_15_2 Ox_15 Px_15 Oz_15 Oe_15 Pe_15 Ot_15 RS_15 T1_15 U1_15 Om_15 Pm_15 hbel_15 hB_16; try clear hB))))
    go_wp2
    go_ret
    exact ⟨rfl, hbel_16⟩

set_option maxRecDepth 100000 in
set_option maxHeartbeats 8000000 in
theorem drep_01 {w : World} {q : Rat} {s : Bool} {a b : Option Addr} {n c m d : Nat} (HF : Hid (∀ W, Below w.heap.size w W → Calls Try.prog 59 #[.agg #[.bool s, .slice a n c, .slice b m d]] W (fun e w' => RetQ W q e w'))) (hqs : QS q 20) (A K : Nat) (hR : PerIs q.num.natAbs q.den 300 (some (A, K))) (hneg : ¬ q < 0) (hp : A < K) :
    Calls Try.prog 14 #[.agg #[.bool s, .slice a n c, .slice b m d]] w (fun e w' => e = .returned (.bool true) ∧ Below w.heap.size w w') := by
  have hdz := q.den_nz
  have hd0 : 0 < q.den := Nat.pos_of_ne_zero hdz
  obtain ⟨hAK, hK3, hFr, hE0, hPer⟩ := per_some hR
  have HPd := hid (fun (W : World) {a' b' : Option Addr} {n' c' m' d' : Nat} (h : RdQ 20 W (decide (q.num < 0)) a' n' c' b' m' d' q) => (show Calls Try.prog 66 #[.agg #[.bool (decide (q.num < 0)), .slice a' n' c', .slice b' m' d'], .int .i64 300] W (RetSSE W (peA q.num.natAbs q.den (some (A, K))) (peB q.num.natAbs q.den (some (A, K))) 0) from dper h (by omega) 300 (by omega) hR))
  have hA := peA_by (n := q.num.natAbs) (A := A) (K := K) hd0
  have hBy := peB_by (n := q.num.natAbs) hd0 hAK
  generalize peA q.num.natAbs q.den (some (A, K)) = T at *
  generalize peB q.num.natAbs q.den (some (A, K)) = U at *
  have hTs : T.size = A := by rw [← by_len, hA, seg_len]
  have hUs : U.size = K - A := by rw [← by_len, hBy, seg_len]
  have HNT := hid (fun w => lnumber (w := w) T (by omega) (by rw [hA]; exact seg_ok hd0 0 A))
  have HNU := hid (fun w => lnumber (w := w) U (by omega) (by rw [hBy]; exact seg_ok hd0 A (K - A)))
  have sT : Sz (numD (by' T)) 301 := by rw [hA]; exact seg_sz hd0 (by omega)
  have sU : Sz (numD (by' U)) 301 := by rw [hBy]; exact seg_sz hd0 (by omega)
  have hres := floor_sub q.num.natAbs hdz
  have hfl := floor_mk (q.num.natAbs : Int) hdz
  rw [← Int.natCast_ediv] at hfl
  have hP := hPer hp
  have heq := rep_per hdz hP
  rw [← hA, ← hBy, ← hUs, ← hTs] at heq
  have hturn := hid (fun (t : Nat) (h1 : 0 < t) (h2 : t < U.size) (h3 : U.size % t = 0) => turn_by hP hBy h1 h2 h3)
  have hU0 : 0 < U.size := by omega
  have hn0 : Hid (∀ c, (c = 48 ∨ c = 57) → ¬ ∀ i, i < U.size → (by' U).getD i 0 = c) := fun c hc h => by
    have h2 : ∀ i, i < K - A → dgt q.num.natAbs q.den (A + i) + 48 = c := fun i hi => by
      rw [← seg_get hi, ← hBy]; exact h i (by omega)
    rcases hc with rfl | rfl
    · exact hP.not_nought fun i hi => by have := h2 i hi; omega
    · exact hP.not_nine hd0 fun i hi => by have := h2 i hi; omega
  have hlast : Hid (0 < T.size → (by' T).getD (T.size - 1) 0 ≠ (by' U).getD (U.size - 1) 0) := fun h => by
    have h1 := hP.ahead (show 0 < A by omega)
    rw [hA, hBy, seg_get (by omega), seg_get (by omega)]
    rw [show 0 + (T.size - 1) = A - 1 by omega, show A + (U.size - 1) = A + (K - A) - 1 by omega]
    omega
  have hTU : T.size + U.size ≤ 300 := by omega
  have hers : QS (mkRat ((q.num.natAbs % q.den : Nat) : Int) q.den) 20 := QS.mk hdz (by rw [Int.natAbs_natCast]; exact hqs.1.mono (Nat.mod_le _ _) (Nat.le_refl _)) hqs.2
  have hzs : Sz (q.num.natAbs / q.den) 20 := hqs.1.mono (Nat.div_le_self _ _) (Nat.le_refl _)
  have hy := abs_pos hneg
  rw [← hy] at hfl hres
  clear hy
  have hqn : decide (sgnQ q < 0) = false := by
    rcases sgnQ_cases q with ⟨h1, h2⟩ | ⟨h1, h2⟩ | ⟨h1, h2⟩ <;> rw [h2]
    · exact absurd h1 hneg
    · rfl
    · rfl
  generalize mkRat ((q.num.natAbs % q.den : Nat) : Int) q.den = er at *
  generalize hzN : q.num.natAbs / q.den = zN at *
  clear hzN hA hBy hR hPer hFr hE0 hneg hdz hd0 hTs hUs hK3 hAK hP
  obtain ⟨pT, hpT⟩ : ∃ p, numD (by' T) = p := ⟨_, rfl⟩
  rw [hpT] at HNT sT heq
  clear hpT
  obtain ⟨pU, hpU⟩ : ∃ p, numD (by' U) = p := ⟨_, rfl⟩
  rw [hpU] at HNU sU heq
  clear hpU
  have hflh := hid hfl
  have hresh := hid hres
  have heqh := hid heq
  clear hfl hres heq hp
  obtain ⟨PT, hPT⟩ : ∃ P, 10 ^ T.size = P := ⟨_, rfl⟩
  have HOT : Hid (∀ w, Calls Try.prog 65 #[.int .i64 (T.size : Int)] w (fun e w' => ∃ a c b m d, e = .returned (.agg #[.bool false, .slice a 1 c, .slice b m d]) ∧ RdN 1 w' a 1 c 1 ∧ LtB a w'.heap.size ∧ Own w.heap.size w' b m d (lm PT) ∧ Below w.heap.size w w')) := fun w => hPT ▸ lover T.size (by omega)
  have sPT : Sz PT 40 := by rw [← hPT]; exact (ten_sz9 _).mono (Nat.le_refl _) (by omega)
  have hPTn : PT ≠ 0 := by rw [← hPT]; exact Nat.ne_of_gt (Nat.pow_pos (by decide))
  rw [hPT] at heqh
  clear hPT
  obtain ⟨PU, hPU⟩ : ∃ P, 10 ^ U.size = P := ⟨_, rfl⟩
  have HOU : Hid (∀ w, Calls Try.prog 65 #[.int .i64 (U.size : Int)] w (fun e w' => ∃ a c b m d, e = .returned (.agg #[.bool false, .slice a 1 c, .slice b m d]) ∧ RdN 1 w' a 1 c 1 ∧ LtB a w'.heap.size ∧ Own w.heap.size w' b m d (lm PU) ∧ Below w.heap.size w w')) := fun w => hPU ▸ lover U.size (by omega)
  have sPU : Sz PU 40 := by rw [← hPU]; exact (ten_sz9 _).mono (Nat.le_refl _) (by omega)
  have hPUm : 1 < PU := by rw [← hPU]; exact Nat.lt_of_lt_of_le (by decide) (Nat.pow_le_pow_right (n := 10) (by decide) hU0)
  rw [hPU] at heqh
  clear hPU
  have hUe := be_ne (s := U) (by omega)
  have hent := ent1 w #[Value.bool s, Value.slice a n c, Value.slice b m d] 29
  go_enter Try.func14, Try.ntmps14
  go_wp2_with fail
  generalize (w.alloc (.cells #[Value.bool s, Value.slice a n c, Value.slice b m d] 29)) = W0 at hent ⊢
  obtain ⟨X_0, hbel_0, hsz_0⟩ := hent
  have cX_0_0 : _ = some (Value.bool s) := X_0.cell 0
  have cX_0_1 : _ = some (Value.slice a n c) := X_0.cell 1
  have cX_0_2 : _ = some (Value.slice b m d) := X_0.cell 2
  go_wp2_with fail
  refine (lalive).mono ?_
  rintro e w1 ⟨rfl, hB⟩
  have hB_1 : Below W0.heap.size W0 w1 := (bl.next hB)
  have X_1 := X_0.next hB_1
  have cX_1_0 : _ = some (Value.bool s) := X_1.cell 0
  have cX_1_1 : _ = some (Value.slice a n c) := X_1.cell 1
  have cX_1_2 : _ = some (Value.slice b m d) := X_1.cell 2
  have hbel_1 := hbel_0.next hB_1
  have hsz_1 := hB_1.size
  clear X_0 cX_0_0 cX_0_1 cX_0_2 hbel_0 hB_1
  try clear hB
  go_wp2_with fail
  refine (HF.out _ hbel_1).mono ?_
  rintro e w2 ⟨xa, xn, xc, xb, xm, xd, rfl, hO, hO', hDx, hB⟩
  have hB_2 : Below w1.heap.size w1 w2 := (bl.next hB)
  have X_2 := X_1.next hB_2
  have cX_2_0 : _ = some (Value.bool s) := X_2.cell 0
  have cX_2_1 : _ = some (Value.slice a n c) := X_2.cell 1
  have cX_2_2 : _ = some (Value.slice b m d) := X_2.cell 2
  have hbel_2 := hbel_1.next hB_2
  have hsz_2 := hB_2.size
  clear X_1 cX_1_0 cX_1_1 cX_1_2 hbel_1 hB_2
  have Ox_2 := hO
  have ltOx := hO.ltB
  have Px_2 := hO'
  have ltPx := hO'.ltB
  clear hO hO'
  try clear hB
  have hbx := blk_new w2 #[Value.bool (decide (q.num < 0)), Value.slice xa xn xc, Value.slice xb xm xd] 29
  have hbB := (Below.refl w2.heap.size w2).alloc (Nat.le_refl _) (.cells #[Value.bool (decide (q.num < 0)), Value.slice xa xn xc, Value.slice xb xm xd] 29)
  have hltQ := hbx.lt
  have hB_3 : Below w2.heap.size w2 (w2.alloc (.cells #[Value.bool (decide (q.num < 0)), Value.slice xa xn xc, Value.slice xb xm xd] 29)) := hbB
  have X_3 := X_2.next hB_3
  have cX_3_0 : _ = some (Value.bool s) := X_3.cell 0
  have cX_3_1 : _ = some (Value.slice a n c) := X_3.cell 1
  have cX_3_2 : _ = some (Value.slice b m d) := X_3.cell 2
  have Ox_3 := Ox_2.below hB_3
  have Px_3 := Px_2.below hB_3
  have hbel_3 := hbel_2.next hB_3
  have hsz_3 := hB_3.size
  clear hB_3
  have Q_3 := hbx
  clear hbx hbB
  have cQ_3_0 : _ = some (Value.bool (decide (q.num < 0))) := Q_3.cell 0
  have fQ_3_0 := Q_3.free 0
  have cQ_3_1 : _ = some (Value.slice xa xn xc) := Q_3.cell 1
  have fQ_3_1 := Q_3.free 1
  have cQ_3_2 : _ = some (Value.slice xb xm xd) := Q_3.cell 2
  have fQ_3_2 := Q_3.free 2
  go_wp2_with fail
  clear X_2 cX_2_0 cX_2_1 cX_2_2 Ox_2 Px_2 hbel_2
  generalize (w2.alloc (.cells #[Value.bool (decide (q.num < 0)), Value.slice xa xn xc, Value.slice xb xm xd] 29)) = v3 at *
  go_wp2_with fail
  refine (HPd.out _ (Ox_3.rdQ Px_3 hqs)).mono ?_
  rintro e w4 ⟨rfl, hB⟩
  have hB_4 : Below v3.heap.size v3 w4 := (bl.next hB)
  have X_4 := X_3.next hB_4
  have cX_4_0 : _ = some (Value.bool s) := X_4.cell 0
  have cX_4_1 : _ = some (Value.slice a n c) := X_4.cell 1
  have cX_4_2 : _ = some (Value.slice b m d) := X_4.cell 2
  have Q_4 := Q_3.next hB_4
  have cQ_4_0 : _ = some (Value.bool (decide (q.num < 0))) := Q_4.cell 0
  have fQ_4_0 := Q_4.free 0
  have cQ_4_1 : _ = some (Value.slice xa xn xc) := Q_4.cell 1
  have fQ_4_1 := Q_4.free 1
  have cQ_4_2 : _ = some (Value.slice xb xm xd) := Q_4.cell 2
  have fQ_4_2 := Q_4.free 2
  have Ox_4 := Ox_3.below hB_4
  have Px_4 := Px_3.below hB_4
  have hbel_4 := hbel_3.next hB_4
  have hsz_4 := hB_4.size
  clear X_3 cX_3_0 cX_3_1 cX_3_2 Q_3 cQ_3_0 fQ_3_0 cQ_3_1 fQ_3_1 cQ_3_2 fQ_3_2 Ox_3 Px_3 hbel_3 hB_4
  try clear hB
  go_wp2_with fail
  refine (qsign (Ox_4.rdQ Px_4 hqs) (by omega)).mono ?_
  rintro e w5 ⟨rfl, hB⟩
  have hB_5 : Below w4.heap.size w4 w5 := (bl.next hB)
  have X_5 := X_4.next hB_5
  have cX_5_0 : _ = some (Value.bool s) := X_5.cell 0
  have cX_5_1 : _ = some (Value.slice a n c) := X_5.cell 1
  have cX_5_2 : _ = some (Value.slice b m d) := X_5.cell 2
  have Q_5 := Q_4.next hB_5
  have cQ_5_0 : _ = some (Value.bool (decide (q.num < 0))) := Q_5.cell 0
  have fQ_5_0 := Q_5.free 0
  have cQ_5_1 : _ = some (Value.slice xa xn xc) := Q_5.cell 1
  have fQ_5_1 := Q_5.free 1
  have cQ_5_2 : _ = some (Value.slice xb xm xd) := Q_5.cell 2
  have fQ_5_2 := Q_5.free 2
  have Ox_5 := Ox_4.below hB_5
  have Px_5 := Px_4.below hB_5
  have hbel_5 := hbel_4.next hB_5
  have hsz_5 := hB_5.size
  clear X_4 cX_4_0 cX_4_1 cX_4_2 Q_4 cQ_4_0 fQ_4_0 cQ_4_1 fQ_4_1 cQ_4_2 fQ_4_2 Ox_4 Px_4 hbel_4 hB_5
  try clear hB
  go_wp2_with fail
  refine (qfloor (Ox_5.rdQ Px_5 hqs) (by omega)).mono ?_
  rw [hflh.out]
  rintro e w6 ⟨za, zn, zc, rfl, hO, hB⟩
  have hB_6 : Below w5.heap.size w5 w6 := (bl.next hB)
  have X_6 := X_5.next hB_6
  have cX_6_0 : _ = some (Value.bool s) := X_6.cell 0
  have cX_6_1 : _ = some (Value.slice a n c) := X_6.cell 1
  have cX_6_2 : _ = some (Value.slice b m d) := X_6.cell 2
  have Q_6 := Q_5.next hB_6
  have cQ_6_0 : _ = some (Value.bool (decide (q.num < 0))) := Q_6.cell 0
  have fQ_6_0 := Q_6.free 0
  have cQ_6_1 : _ = some (Value.slice xa xn xc) := Q_6.cell 1
  have fQ_6_1 := Q_6.free 1
  have cQ_6_2 : _ = some (Value.slice xb xm xd) := Q_6.cell 2
  have fQ_6_2 := Q_6.free 2
  have Ox_6 := Ox_5.below hB_6
  have Px_6 := Px_5.below hB_6
  have hbel_6 := hbel_5.next hB_6
  have hsz_6 := hB_6.size
  clear X_5 cX_5_0 cX_5_1 cX_5_2 Q_5 cQ_5_0 fQ_5_0 cQ_5_1 fQ_5_1 cQ_5_2 fQ_5_2 Ox_5 Px_5 hbel_5 hB_6
  have Oz_6 := hO
  have ltOz := hO.ltB
  clear hO
  try clear hB
  rw [Int.natAbs_natCast] at Oz_6
  have hzd : decide ((zN : Int) < 0) = false := by simp
  rw [hzd]
  clear hzd
  have hbx := blk_new w6 #[Value.bool false, Value.slice za zn zc] 27
  have hbB := (Below.refl w6.heap.size w6).alloc (Nat.le_refl _) (.cells #[Value.bool false, Value.slice za zn zc] 27)
  have hltZ := hbx.lt
  have hB_7 : Below w6.heap.size w6 (w6.alloc (.cells #[Value.bool false, Value.slice za zn zc] 27)) := hbB
  have X_7 := X_6.next hB_7
  have cX_7_0 : _ = some (Value.bool s) := X_7.cell 0
  have cX_7_1 : _ = some (Value.slice a n c) := X_7.cell 1
  have cX_7_2 : _ = some (Value.slice b m d) := X_7.cell 2
  have Q_7 := Q_6.next hB_7
  have cQ_7_0 : _ = some (Value.bool (decide (q.num < 0))) := Q_7.cell 0
  have fQ_7_0 := Q_7.free 0
  have cQ_7_1 : _ = some (Value.slice xa xn xc) := Q_7.cell 1
  have fQ_7_1 := Q_7.free 1
  have cQ_7_2 : _ = some (Value.slice xb xm xd) := Q_7.cell 2
  have fQ_7_2 := Q_7.free 2
  have Ox_7 := Ox_6.below hB_7
  have Px_7 := Px_6.below hB_7
  have Oz_7 := Oz_6.below hB_7
  have hbel_7 := hbel_6.next hB_7
  have hsz_7 := hB_7.size
  clear hB_7
  have Z_7 := hbx
  clear hbx hbB
  have cZ_7_0 : _ = some (Value.bool false) := Z_7.cell 0
  have cZ_7_1 : _ = some (Value.slice za zn zc) := Z_7.cell 1
  have hz7 := hid (show (w6.alloc (.cells #[Value.bool false, Value.slice za zn zc] 27)).heap.size = w6.heap.size + 1 from by simp)
  go_wp2_with fail
  clear X_6 cX_6_0 cX_6_1 cX_6_2 Q_6 cQ_6_0 fQ_6_0 cQ_6_1 fQ_6_1 cQ_6_2 fQ_6_2 Ox_6 Px_6 Oz_6 hbel_6
  generalize (w6.alloc (.cells #[Value.bool false, Value.slice za zn zc] 27)) = v7 at *
  have hbx := blk_new v7 #[Value.int .u32 1] 39
  have hbB := (Below.refl v7.heap.size v7).alloc (Nat.le_refl _) (.cells #[Value.int .u32 1] 39)
  have hltONA := hbx.lt
  have hB_8 : Below v7.heap.size v7 (v7.alloc (.cells #[Value.int .u32 1] 39)) := hbB
  have X_8 := X_7.next hB_8
  have cX_8_0 : _ = some (Value.bool s) := X_8.cell 0
  have cX_8_1 : _ = some (Value.slice a n c) := X_8.cell 1
  have cX_8_2 : _ = some (Value.slice b m d) := X_8.cell 2
  have Q_8 := Q_7.next hB_8
  have cQ_8_0 : _ = some (Value.bool (decide (q.num < 0))) := Q_8.cell 0
  have fQ_8_0 := Q_8.free 0
  have cQ_8_1 : _ = some (Value.slice xa xn xc) := Q_8.cell 1
  have fQ_8_1 := Q_8.free 1
  have cQ_8_2 : _ = some (Value.slice xb xm xd) := Q_8.cell 2
  have fQ_8_2 := Q_8.free 2
  have Z_8 := Z_7.next hB_8
  have cZ_8_0 : _ = some (Value.bool false) := Z_8.cell 0
  have cZ_8_1 : _ = some (Value.slice za zn zc) := Z_8.cell 1
  have Ox_8 := Ox_7.below hB_8
  have Px_8 := Px_7.below hB_8
  have Oz_8 := Oz_7.below hB_8
  have hbel_8 := hbel_7.next hB_8
  have hsz_8 := hB_8.size
  clear hB_8
  have ONA_8 := hbx
  clear hbx hbB
  have cONA_8_0 : _ = some (Value.int .u32 1) := ONA_8.cell 0
  go_wp2_with fail
  clear X_7 cX_7_0 cX_7_1 cX_7_2 Q_7 cQ_7_0 fQ_7_0 cQ_7_1 fQ_7_1 cQ_7_2 fQ_7_2 Z_7 cZ_7_0 cZ_7_1 Ox_7 Px_7 Oz_7 hbel_7
  generalize (v7.alloc (.cells #[Value.int .u32 1] 39)) = v8 at *
  rw [← hz7.out]
  have RZ_8 : RdQ 20 v8 false za zn zc (some ⟨v7.heap.size, 0, none⟩) 1 1 (((zN : Nat) : Int) : Rat) := ⟨zN, 1, Oz_8.rdN hzs, (rdN_blk rfl (by decide) ONA_8).mono (by omega), by unfold qv; rw [und_of (by decide)]; exact Rat.mkRat_one _⟩
  go_wp2_with fail
  refine (qsub (Ox_8.rdQ Px_8 hqs) (by omega) RZ_8 (by omega)).mono ?_
  rw [hresh.out]
  rintro e w9 ⟨ea, en, ec, eb, em, ed, rfl, hO, hO', hDe, hB⟩
  have hB_9 : Below v8.heap.size v8 w9 := (bl.next hB)
  have X_9 := X_8.next hB_9
  have cX_9_0 : _ = some (Value.bool s) := X_9.cell 0
  have cX_9_1 : _ = some (Value.slice a n c) := X_9.cell 1
  have cX_9_2 : _ = some (Value.slice b m d) := X_9.cell 2
  have Q_9 := Q_8.next hB_9
  have cQ_9_0 : _ = some (Value.bool (decide (q.num < 0))) := Q_9.cell 0
  have fQ_9_0 := Q_9.free 0
  have cQ_9_1 : _ = some (Value.slice xa xn xc) := Q_9.cell 1
  have fQ_9_1 := Q_9.free 1
  have cQ_9_2 : _ = some (Value.slice xb xm xd) := Q_9.cell 2
  have fQ_9_2 := Q_9.free 2
  have Z_9 := Z_8.next hB_9
  have cZ_9_0 : _ = some (Value.bool false) := Z_9.cell 0
  have cZ_9_1 : _ = some (Value.slice za zn zc) := Z_9.cell 1
  have ONA_9 := ONA_8.next hB_9
  have cONA_9_0 : _ = some (Value.int .u32 1) := ONA_9.cell 0
  have Ox_9 := Ox_8.below hB_9
  have Px_9 := Px_8.below hB_9
  have Oz_9 := Oz_8.below hB_9
  have RZ_9 := RZ_8.below hB_9
  have hbel_9 := hbel_8.next hB_9
  have hsz_9 := hB_9.size
  clear X_8 cX_8_0 cX_8_1 cX_8_2 Q_8 cQ_8_0 fQ_8_0 cQ_8_1 fQ_8_1 cQ_8_2 fQ_8_2 Z_8 cZ_8_0 cZ_8_1 ONA_8 cONA_8_0 Ox_8 Px_8 Oz_8 RZ_8 hbel_8 hB_9
  have Oe_9 := hO
  have ltOe := hO.ltB
  have Pe_9 := hO'
  have ltPe := hO'.ltB
  clear hO hO'
  try clear hB
  clear RZ_9
  have hbx := blk_new w9 #[Value.bool (decide (er.num < 0)), Value.slice ea en ec, Value.slice eb em ed] 29
  have hbB := (Below.refl w9.heap.size w9).alloc (Nat.le_refl _) (.cells #[Value.bool (decide (er.num < 0)), Value.slice ea en ec, Value.slice eb em ed] 29)
  have hltE := hbx.lt
  have hB_10 : Below w9.heap.size w9 (w9.alloc (.cells #[Value.bool (decide (er.num < 0)), Value.slice ea en ec, Value.slice eb em ed] 29)) := hbB
  have X_10 := X_9.next hB_10
  have cX_10_0 : _ = some (Value.bool s) := X_10.cell 0
  have cX_10_1 : _ = some (Value.slice a n c) := X_10.cell 1
  have cX_10_2 : _ = some (Value.slice b m d) := X_10.cell 2
  have Q_10 := Q_9.next hB_10
  have cQ_10_0 : _ = some (Value.bool (decide (q.num < 0))) := Q_10.cell 0
  have fQ_10_0 := Q_10.free 0
  have cQ_10_1 : _ = some (Value.slice xa xn xc) := Q_10.cell 1
  have fQ_10_1 := Q_10.free 1
  have cQ_10_2 : _ = some (Value.slice xb xm xd) := Q_10.cell 2
  have fQ_10_2 := Q_10.free 2
  have Z_10 := Z_9.next hB_10
  have cZ_10_0 : _ = some (Value.bool false) := Z_10.cell 0
  have cZ_10_1 : _ = some (Value.slice za zn zc) := Z_10.cell 1
  have ONA_10 := ONA_9.next hB_10
  have cONA_10_0 : _ = some (Value.int .u32 1) := ONA_10.cell 0
  have Ox_10 := Ox_9.below hB_10
  have Px_10 := Px_9.below hB_10
  have Oz_10 := Oz_9.below hB_10
  have Oe_10 := Oe_9.below hB_10
  have Pe_10 := Pe_9.below hB_10
  have hbel_10 := hbel_9.next hB_10
  have hsz_10 := hB_10.size
  clear hB_10
  have E_10 := hbx
  clear hbx hbB
  have cE_10_0 : _ = some (Value.bool (decide (er.num < 0))) := E_10.cell 0
  have cE_10_1 : _ = some (Value.slice ea en ec) := E_10.cell 1
  have cE_10_2 : _ = some (Value.slice eb em ed) := E_10.cell 2
  go_wp2_with fail
  clear X_9 cX_9_0 cX_9_1 cX_9_2 Q_9 cQ_9_0 fQ_9_0 cQ_9_1 fQ_9_1 cQ_9_2 fQ_9_2 Z_9 cZ_9_0 cZ_9_1 ONA_9 cONA_9_0 Ox_9 Px_9 Oz_9 Oe_9 Pe_9 hbel_9
  generalize (w9.alloc (.cells #[Value.bool (decide (er.num < 0)), Value.slice ea en ec, Value.slice eb em ed] 29)) = v10 at *
  go_wp2_with fail
  refine (HNT.out _).mono ?_
  rintro e w11 ⟨ta, tn, tc, rfl, hO, hB⟩
  have hB_11 : Below v10.heap.size v10 w11 := (bl.next hB)
  have X_11 := X_10.next hB_11
  have cX_11_0 : _ = some (Value.bool s) := X_11.cell 0
  have cX_11_1 : _ = some (Value.slice a n c) := X_11.cell 1
  have cX_11_2 : _ = some (Value.slice b m d) := X_11.cell 2
  have Q_11 := Q_10.next hB_11
  have cQ_11_0 : _ = some (Value.bool (decide (q.num < 0))) := Q_11.cell 0
  have fQ_11_0 := Q_11.free 0
  have cQ_11_1 : _ = some (Value.slice xa xn xc) := Q_11.cell 1
  have fQ_11_1 := Q_11.free 1
  have cQ_11_2 : _ = some (Value.slice xb xm xd) := Q_11.cell 2
  have fQ_11_2 := Q_11.free 2
  have Z_11 := Z_10.next hB_11
  have cZ_11_0 : _ = some (Value.bool false) := Z_11.cell 0
  have cZ_11_1 : _ = some (Value.slice za zn zc) := Z_11.cell 1
  have ONA_11 := ONA_10.next hB_11
  have cONA_11_0 : _ = some (Value.int .u32 1) := ONA_11.cell 0
  have E_11 := E_10.next hB_11
  have cE_11_0 : _ = some (Value.bool (decide (er.num < 0))) := E_11.cell 0
  have cE_11_1 : _ = some (Value.slice ea en ec) := E_11.cell 1
  have cE_11_2 : _ = some (Value.slice eb em ed) := E_11.cell 2
  have Ox_11 := Ox_10.below hB_11
  have Px_11 := Px_10.below hB_11
  have Oz_11 := Oz_10.below hB_11
  have Oe_11 := Oe_10.below hB_11
  have Pe_11 := Pe_10.below hB_11
  have hbel_11 := hbel_10.next hB_11
  have hsz_11 := hB_11.size
  clear X_10 cX_10_0 cX_10_1 cX_10_2 Q_10 cQ_10_0 fQ_10_0 cQ_10_1 fQ_10_1 cQ_10_2 fQ_10_2 Z_10 cZ_10_0 cZ_10_1 ONA_10 cONA_10_0 E_10 cE_10_0 cE_10_1 cE_10_2 Ox_10 Px_10 Oz_10 Oe_10 Pe_10 hbel_10 hB_11
  have Ot_11 := hO
  have ltOt := hO.ltB
  clear hO
  try clear hB
  have hbx := blk_new w11 #[Value.int .u32 1] 39
  have hbB := (Below.refl w11.heap.size w11).alloc (Nat.le_refl _) (.cells #[Value.int .u32 1] 39)
  have hltONB := hbx.lt
  have hB_12 : Below w11.heap.size w11 (w11.alloc (.cells #[Value.int .u32 1] 39)) := hbB
  have X_12 := X_11.next hB_12
  have cX_12_0 : _ = some (Value.bool s) := X_12.cell 0
  have cX_12_1 : _ = some (Value.slice a n c) := X_12.cell 1
  have cX_12_2 : _ = some (Value.slice b m d) := X_12.cell 2
  have Q_12 := Q_11.next hB_12
  have cQ_12_0 : _ = some (Value.bool (decide (q.num < 0))) := Q_12.cell 0
  have fQ_12_0 := Q_12.free 0
  have cQ_12_1 : _ = some (Value.slice xa xn xc) := Q_12.cell 1
  have fQ_12_1 := Q_12.free 1
  have cQ_12_2 : _ = some (Value.slice xb xm xd) := Q_12.cell 2
  have fQ_12_2 := Q_12.free 2
  have Z_12 := Z_11.next hB_12
  have cZ_12_0 : _ = some (Value.bool false) := Z_12.cell 0
  have cZ_12_1 : _ = some (Value.slice za zn zc) := Z_12.cell 1
  have ONA_12 := ONA_11.next hB_12
  have cONA_12_0 : _ = some (Value.int .u32 1) := ONA_12.cell 0
  have E_12 := E_11.next hB_12
  have cE_12_0 : _ = some (Value.bool (decide (er.num < 0))) := E_12.cell 0
  have cE_12_1 : _ = some (Value.slice ea en ec) := E_12.cell 1
  have cE_12_2 : _ = some (Value.slice eb em ed) := E_12.cell 2
  have Ox_12 := Ox_11.below hB_12
  have Px_12 := Px_11.below hB_12
  have Oz_12 := Oz_11.below hB_12
  have Oe_12 := Oe_11.below hB_12
  have Pe_12 := Pe_11.below hB_12
  have Ot_12 := Ot_11.below hB_12
  have hbel_12 := hbel_11.next hB_12
  have hsz_12 := hB_12.size
  clear hB_12
  have ONB_12 := hbx
  clear hbx hbB
  have cONB_12_0 : _ = some (Value.int .u32 1) := ONB_12.cell 0
  have hz12 := hid (show (w11.alloc (.cells #[Value.int .u32 1] 39)).heap.size = w11.heap.size + 1 from by simp)
  go_wp2_with fail
  clear X_11 cX_11_0 cX_11_1 cX_11_2 Q_11 cQ_11_0 fQ_11_0 cQ_11_1 fQ_11_1 cQ_11_2 fQ_11_2 Z_11 cZ_11_0 cZ_11_1 ONA_11 cONA_11_0 E_11 cE_11_0 cE_11_1 cE_11_2 Ox_11 Px_11 Oz_11 Oe_11 Pe_11 Ot_11 hbel_11
  generalize (w11.alloc (.cells #[Value.int .u32 1] 39)) = v12 at *
  have hbx := blk_new v12 #[Value.bool false, Value.slice ta tn tc, Value.slice (some ⟨w11.heap.size, 0, none⟩) 1 1] 29
  have hbB := (Below.refl v12.heap.size v12).alloc (Nat.le_refl _) (.cells #[Value.bool false, Value.slice ta tn tc, Value.slice (some ⟨w11.heap.size, 0, none⟩) 1 1] 29)
  have hltSUM := hbx.lt
  have hB_13 : Below v12.heap.size v12 (v12.alloc (.cells #[Value.bool false, Value.slice ta tn tc, Value.slice (some ⟨w11.heap.size, 0, none⟩) 1 1] 29)) := hbB
  have X_13 := X_12.next hB_13
  have cX_13_0 : _ = some (Value.bool s) := X_13.cell 0
  have cX_13_1 : _ = some (Value.slice a n c) := X_13.cell 1
  have cX_13_2 : _ = some (Value.slice b m d) := X_13.cell 2
  have Q_13 := Q_12.next hB_13
  have cQ_13_0 : _ = some (Value.bool (decide (q.num < 0))) := Q_13.cell 0
  have fQ_13_0 := Q_13.free 0
  have cQ_13_1 : _ = some (Value.slice xa xn xc) := Q_13.cell 1
  have fQ_13_1 := Q_13.free 1
  have cQ_13_2 : _ = some (Value.slice xb xm xd) := Q_13.cell 2
  have fQ_13_2 := Q_13.free 2
  have Z_13 := Z_12.next hB_13
  have cZ_13_0 : _ = some (Value.bool false) := Z_13.cell 0
  have cZ_13_1 : _ = some (Value.slice za zn zc) := Z_13.cell 1
  have ONA_13 := ONA_12.next hB_13
  have cONA_13_0 : _ = some (Value.int .u32 1) := ONA_13.cell 0
  have E_13 := E_12.next hB_13
  have cE_13_0 : _ = some (Value.bool (decide (er.num < 0))) := E_13.cell 0
  have cE_13_1 : _ = some (Value.slice ea en ec) := E_13.cell 1
  have cE_13_2 : _ = some (Value.slice eb em ed) := E_13.cell 2
  have ONB_13 := ONB_12.next hB_13
  have cONB_13_0 : _ = some (Value.int .u32 1) := ONB_13.cell 0
  have Ox_13 := Ox_12.below hB_13
  have Px_13 := Px_12.below hB_13
  have Oz_13 := Oz_12.below hB_13
  have Oe_13 := Oe_12.below hB_13
  have Pe_13 := Pe_12.below hB_13
  have Ot_13 := Ot_12.below hB_13
  have hbel_13 := hbel_12.next hB_13
  have hsz_13 := hB_13.size
  clear hB_13
  have SUM_13 := hbx
  clear hbx hbB
  have cSUM_13_0 : _ = some (Value.bool false) := SUM_13.cell 0
  have fSUM_13_0 := SUM_13.free 0
  have cSUM_13_1 : _ = some (Value.slice ta tn tc) := SUM_13.cell 1
  have fSUM_13_1 := SUM_13.free 1
  have cSUM_13_2 : _ = some (Value.slice (some ⟨w11.heap.size, 0, none⟩) 1 1) := SUM_13.cell 2
  have fSUM_13_2 := SUM_13.free 2
  go_wp2_with fail
  clear X_12 cX_12_0 cX_12_1 cX_12_2 Q_12 cQ_12_0 fQ_12_0 cQ_12_1 fQ_12_1 cQ_12_2 fQ_12_2 Z_12 cZ_12_0 cZ_12_1 ONA_12 cONA_12_0 E_12 cE_12_0 cE_12_1 cE_12_2 ONB_12 cONB_12_0 Ox_12 Px_12 Oz_12 Oe_12 Pe_12 Ot_12 hbel_12
  generalize (v12.alloc (.cells #[Value.bool false, Value.slice ta tn tc, Value.slice (some ⟨w11.heap.size, 0, none⟩) 1 1] 29)) = v13 at *
  rw [← hz12.out]
  have hrsq : QS (mkRat (pT : Int) 1) 301 := QS.mk (by decide) (by rw [Int.natAbs_natCast]; exact sT) (sz_one (by omega))
  have RS_13 : RdQ 301 v13 false ta tn tc (some ⟨w11.heap.size, 0, none⟩) 1 1 (mkRat (pT : Int) 1) := ⟨pT, 1, Ot_13.rdN sT, (rdN_blk rfl (by decide) ONB_13).mono (by omega), rfl⟩
  have hfd := field_den
  go_wp2_with fail
  refine (HOU.out _).mono ?_
  rintro e w14 ⟨va, vc, vb, vm, vd, rfl, hR1, hR2, hO, hB⟩
  have hB_14 : Below v13.heap.size v13 w14 := (bl.next hB)
  have X_14 := X_13.next hB_14
  have cX_14_0 : _ = some (Value.bool s) := X_14.cell 0
  have cX_14_1 : _ = some (Value.slice a n c) := X_14.cell 1
  have cX_14_2 : _ = some (Value.slice b m d) := X_14.cell 2
  have Q_14 := Q_13.next hB_14
  have cQ_14_0 : _ = some (Value.bool (decide (q.num < 0))) := Q_14.cell 0
  have fQ_14_0 := Q_14.free 0
  have cQ_14_1 : _ = some (Value.slice xa xn xc) := Q_14.cell 1
  have fQ_14_1 := Q_14.free 1
  have cQ_14_2 : _ = some (Value.slice xb xm xd) := Q_14.cell 2
  have fQ_14_2 := Q_14.free 2
  have Z_14 := Z_13.next hB_14
  have cZ_14_0 : _ = some (Value.bool false) := Z_14.cell 0
  have cZ_14_1 : _ = some (Value.slice za zn zc) := Z_14.cell 1
  have ONA_14 := ONA_13.next hB_14
  have cONA_14_0 : _ = some (Value.int .u32 1) := ONA_14.cell 0
  have E_14 := E_13.next hB_14
  have cE_14_0 : _ = some (Value.bool (decide (er.num < 0))) := E_14.cell 0
  have cE_14_1 : _ = some (Value.slice ea en ec) := E_14.cell 1
  have cE_14_2 : _ = some (Value.slice eb em ed) := E_14.cell 2
  have ONB_14 := ONB_13.next hB_14
  have cONB_14_0 : _ = some (Value.int .u32 1) := ONB_14.cell 0
  have SUM_14 := SUM_13.next hB_14
  have cSUM_14_0 : _ = some (Value.bool false) := SUM_14.cell 0
  have fSUM_14_0 := SUM_14.free 0
  have cSUM_14_1 : _ = some (Value.slice ta tn tc) := SUM_14.cell 1
  have fSUM_14_1 := SUM_14.free 1
  have cSUM_14_2 : _ = some (Value.slice (some ⟨w11.heap.size, 0, none⟩) 1 1) := SUM_14.cell 2
  have fSUM_14_2 := SUM_14.free 2
  have Ox_14 := Ox_13.below hB_14
  have Px_14 := Px_13.below hB_14
  have Oz_14 := Oz_13.below hB_14
  have Oe_14 := Oe_13.below hB_14
  have Pe_14 := Pe_13.below hB_14
  have Ot_14 := Ot_13.below hB_14
  have RS_14 := RS_13.below hB_14
  have hbel_14 := hbel_13.next hB_14
  have hsz_14 := hB_14.size
  clear X_13 cX_13_0 cX_13_1 cX_13_2 Q_13 cQ_13_0 fQ_13_0 cQ_13_1 fQ_13_1 cQ_13_2 fQ_13_2 Z_13 cZ_13_0 cZ_13_1 ONA_13 cONA_13_0 E_13 cE_13_0 cE_13_1 cE_13_2 ONB_13 cONB_13_0 SUM_13 cSUM_13_0 fSUM_13_0 cSUM_13_1 fSUM_13_1 cSUM_13_2 fSUM_13_2 Ox_13 Px_13 Oz_13 Oe_13 Pe_13 Ot_13 RS_13 hbel_13 hB_14
  have N1_14 := hO
  have ltN1 := hO.ltB
  clear hO hR1 hR2
  try clear hB
  have hbx := blk_new w14 #[Value.int .u32 1] 39
  have hbB := (Below.refl w14.heap.size w14).alloc (Nat.le_refl _) (.cells #[Value.int .u32 1] 39)
  have hltONC := hbx.lt
  have hB_15 : Below w14.heap.size w14 (w14.alloc (.cells #[Value.int .u32 1] 39)) := hbB
  have X_15 := X_14.next hB_15
  have cX_15_0 : _ = some (Value.bool s) := X_15.cell 0
  have cX_15_1 : _ = some (Value.slice a n c) := X_15.cell 1
  have cX_15_2 : _ = some (Value.slice b m d) := X_15.cell 2
  have Q_15 := Q_14.next hB_15
  have cQ_15_0 : _ = some (Value.bool (decide (q.num < 0))) := Q_15.cell 0
  have fQ_15_0 := Q_15.free 0
  have cQ_15_1 : _ = some (Value.slice xa xn xc) := Q_15.cell 1
  have fQ_15_1 := Q_15.free 1
  have cQ_15_2 : _ = some (Value.slice xb xm xd) := Q_15.cell 2
  have fQ_15_2 := Q_15.free 2
  have Z_15 := Z_14.next hB_15
  have cZ_15_0 : _ = some (Value.bool false) := Z_15.cell 0
  have cZ_15_1 : _ = some (Value.slice za zn zc) := Z_15.cell 1
  have ONA_15 := ONA_14.next hB_15
  have cONA_15_0 : _ = some (Value.int .u32 1) := ONA_15.cell 0
  have E_15 := E_14.next hB_15
  have cE_15_0 : _ = some (Value.bool (decide (er.num < 0))) := E_15.cell 0
  have cE_15_1 : _ = some (Value.slice ea en ec) := E_15.cell 1
  have cE_15_2 : _ = some (Value.slice eb em ed) := E_15.cell 2
  have ONB_15 := ONB_14.next hB_15
  have cONB_15_0 : _ = some (Value.int .u32 1) := ONB_15.cell 0
  have SUM_15 := SUM_14.next hB_15
  have cSUM_15_0 : _ = some (Value.bool false) := SUM_15.cell 0
  have fSUM_15_0 := SUM_15.free 0
  have cSUM_15_1 : _ = some (Value.slice ta tn tc) := SUM_15.cell 1
  have fSUM_15_1 := SUM_15.free 1
  have cSUM_15_2 : _ = some (Value.slice (some ⟨w11.heap.size, 0, none⟩) 1 1) := SUM_15.cell 2
  have fSUM_15_2 := SUM_15.free 2
  have Ox_15 := Ox_14.below hB_15
  have Px_15 := Px_14.below hB_15
  have Oz_15 := Oz_14.below hB_15
  have Oe_15 := Oe_14.below hB_15
  have Pe_15 := Pe_14.below hB_15
  have Ot_15 := Ot_14.below hB_15
  have RS_15 := RS_14.below hB_15
  have N1_15 := N1_14.below hB_15
  have hbel_15 := hbel_14.next hB_15
  have hsz_15 := hB_15.size
  clear hB_15
  have ONC_15 := hbx
  clear hbx hbB
  have cONC_15_0 : _ = some (Value.int .u32 1) := ONC_15.cell 0
  go_wp2_with fail
  clear X_14 cX_14_0 cX_14_1 cX_14_2 Q_14 cQ_14_0 fQ_14_0 cQ_14_1 fQ_14_1 cQ_14_2 fQ_14_2 Z_14 cZ_14_0 cZ_14_1 ONA_14 cONA_14_0 E_14 cE_14_0 cE_14_1 cE_14_2 ONB_14 cONB_14_0 SUM_14 cSUM_14_0 fSUM_14_0 cSUM_14_1 fSUM_14_1 cSUM_14_2 fSUM_14_2 Ox_14 Px_14 Oz_14 Oe_14 Pe_14 Ot_14 RS_14 N1_14 hbel_14
  generalize (w14.alloc (.cells #[Value.int .u32 1] 39)) = v15 at *
  go_wp2_with fail
  refine (nsub1 (N1_15.rdN sPU) (rdN_blk rfl (by decide) ONC_15) hPUm).mono ?_
  rintro e w16 ⟨ka, kn, kc, rfl, hO, hB⟩
  have hB_16 : Below v15.heap.size v15 w16 := (bl.next hB)
  have X_16 := X_15.next hB_16
  have cX_16_0 : _ = some (Value.bool s) := X_16.cell 0
  have cX_16_1 : _ = some (Value.slice a n c) := X_16.cell 1
  have cX_16_2 : _ = some (Value.slice b m d) := X_16.cell 2
  have Q_16 := Q_15.next hB_16
  have cQ_16_0 : _ = some (Value.bool (decide (q.num < 0))) := Q_16.cell 0
  have fQ_16_0 := Q_16.free 0
  have cQ_16_1 : _ = some (Value.slice xa xn xc) := Q_16.cell 1
  have fQ_16_1 := Q_16.free 1
  have cQ_16_2 : _ = some (Value.slice xb xm xd) := Q_16.cell 2
  have fQ_16_2 := Q_16.free 2
  have Z_16 := Z_15.next hB_16
  have cZ_16_0 : _ = some (Value.bool false) := Z_16.cell 0
  have cZ_16_1 : _ = some (Value.slice za zn zc) := Z_16.cell 1
  have ONA_16 := ONA_15.next hB_16
  have cONA_16_0 : _ = some (Value.int .u32 1) := ONA_16.cell 0
  have E_16 := E_15.next hB_16
  have cE_16_0 : _ = some (Value.bool (decide (er.num < 0))) := E_16.cell 0
  have cE_16_1 : _ = some (Value.slice ea en ec) := E_16.cell 1
  have cE_16_2 : _ = some (Value.slice eb em ed) := E_16.cell 2
  have ONB_16 := ONB_15.next hB_16
  have cONB_16_0 : _ = some (Value.int .u32 1) := ONB_16.cell 0
  have SUM_16 := SUM_15.next hB_16
  have cSUM_16_0 : _ = some (Value.bool false) := SUM_16.cell 0
  have fSUM_16_0 := SUM_16.free 0
  have cSUM_16_1 : _ = some (Value.slice ta tn tc) := SUM_16.cell 1
  have fSUM_16_1 := SUM_16.free 1
  have cSUM_16_2 : _ = some (Value.slice (some ⟨w11.heap.size, 0, none⟩) 1 1) := SUM_16.cell 2
  have fSUM_16_2 := SUM_16.free 2
  have ONC_16 := ONC_15.next hB_16
  have cONC_16_0 : _ = some (Value.int .u32 1) := ONC_16.cell 0
  have Ox_16 := Ox_15.below hB_16
  have Px_16 := Px_15.below hB_16
  have Oz_16 := Oz_15.below hB_16
  have Oe_16 := Oe_15.below hB_16
  have Pe_16 := Pe_15.below hB_16
  have Ot_16 := Ot_15.below hB_16
  have RS_16 := RS_15.below hB_16
  have N1_16 := N1_15.below hB_16
  have hbel_16 := hbel_15.next hB_16
  have hsz_16 := hB_16.size
  clear X_15 cX_15_0 cX_15_1 cX_15_2 Q_15 cQ_15_0 fQ_15_0 cQ_15_1 fQ_15_1 cQ_15_2 fQ_15_2 Z_15 cZ_15_0 cZ_15_1 ONA_15 cONA_15_0 E_15 cE_15_0 cE_15_1 cE_15_2 ONB_15 cONB_15_0 SUM_15 cSUM_15_0 fSUM_15_0 cSUM_15_1 fSUM_15_1 cSUM_15_2 fSUM_15_2 ONC_15 cONC_15_0 Ox_15 Px_15 Oz_15 Oe_15 Pe_15 Ot_15 RS_15 N1_15 hbel_15 hB_16
  have Nn_16 := hO
  have ltNn := hO.ltB
  clear hO hfd
  try clear hB
  have hNs : Sz (PU - 1) 40 := sPU.mono (Nat.sub_le _ _) (Nat.le_refl _)
  have hNn : PU - 1 ≠ 0 := by omega
  have huq : QS (mkRat (pU : Int) (PU - 1)) 301 := QS.mk hNn (by rw [Int.natAbs_natCast]; exact sU) (hNs.mono (Nat.le_refl _) (by omega))
  obtain ⟨sv, hsv⟩ : ∃ v, mkRat (pT : Int) 1 + mkRat (pU : Int) (PU - 1) = v := ⟨_, rfl⟩
  have hsvq := hrsq.add huq
  rw [hsv] at heqh hsvq
  have hsvh := hid hsv
  clear hsv
  go_wp2_with fail
  go_cut [] (fun wx => ∃ (SUMa : Option Addr) (SUMn SUMc : Nat) (SUMb : Option Addr) (SUMm SUMd : Nat), Blk wx (v12.heap.size) #[Value.bool (decide ((sv).num < 0)), Value.slice SUMa SUMn SUMc, Value.slice SUMb SUMm SUMd] ∧ Blk wx (w.heap.size) #[Value.bool s, Value.slice a n c, Value.slice b m d] ∧ Blk wx (w2.heap.size) #[Value.bool (decide (q.num < 0)), Value.slice xa xn xc, Value.slice xb xm xd] ∧ Blk wx (w6.heap.size) #[Value.bool false, Value.slice za zn zc] ∧ Blk wx (v7.heap.size) #[Value.int .u32 1] ∧ Blk wx (w9.heap.size) #[Value.bool (decide (er.num < 0)), Value.slice ea en ec, Value.slice eb em ed] ∧ Blk wx (w11.heap.size) #[Value.int .u32 1] ∧ Blk wx (w14.heap.size) #[Value.int .u32 1] ∧ Own W0.heap.size wx SUMa SUMn SUMc (lm (sv).num.natAbs) ∧ Own W0.heap.size wx SUMb SUMm SUMd (lm (sv).den) ∧ Own 0 wx ea en ec (lm er.num.natAbs) ∧ Own 0 wx eb em ed (lm er.den) ∧ Below w.heap.size w wx ∧ W0.heap.size ≤ wx.heap.size)
  case first =>
    go_wp2_with fail
    go_region_with
      (first
        | (go_at_call 67; ((with_reducible refine (HNU.out _).mono ?_); (rintro e w17 ⟨ua, un, uc, rfl, hO, hB⟩; have hB_17 : Below w16.heap.size w16 w17 := (bl.next hB); have X_17 := X_16.next hB_17; have cX_17_0 : _ = some (Value.bool s) := X_17.cell 0; have cX_17_1 : _ = some (Value.slice a n c) := X_17.cell 1; have cX_17_2 : _ = some (Value.slice b m d) := X_17.cell 2; have Q_17 := Q_16.next hB_17; have cQ_17_0 : _ = some (Value.bool (decide (q.num < 0))) := Q_17.cell 0; have fQ_17_0 := Q_17.free 0; have cQ_17_1 : _ = some (Value.slice xa xn xc) := Q_17.cell 1; have fQ_17_1 := Q_17.free 1; have cQ_17_2 : _ = some (Value.slice xb xm xd) := Q_17.cell 2; have fQ_17_2 := Q_17.free 2; have Z_17 := Z_16.next hB_17; have cZ_17_0 : _ = some (Value.bool false) := Z_17.cell 0; have cZ_17_1 : _ = some (Value.slice za zn zc) := Z_17.cell 1; have ONA_17 := ONA_16.next hB_17; have cONA_17_0 : _ = some (Value.int .u32 1) := ONA_17.cell 0; have E_17 := E_16.next hB_17; have cE_17_0 : _ = some (Value.bool (decide (er.num < 0))) := E_17.cell 0; have cE_17_1 : _ = some (Value.slice ea en ec) := E_17.cell 1; have cE_17_2 : _ = some (Value.slice eb em ed) := E_17.cell 2; have ONB_17 := ONB_16.next hB_17; have cONB_17_0 : _ = some (Value.int .u32 1) := ONB_17.cell 0; have SUM_17 := SUM_16.next hB_17; have cSUM_17_0 : _ = some (Value.bool false) := SUM_17.cell 0; have fSUM_17_0 := SUM_17.free 0; have cSUM_17_1 : _ = some (Value.slice ta tn tc) := SUM_17.cell 1; have fSUM_17_1 := SUM_17.free 1; have cSUM_17_2 : _ = some (Value.slice (some ⟨w11.heap.size, 0, none⟩) 1 1) := SUM_17.cell 2; have fSUM_17_2 := SUM_17.free 2; have ONC_17 := ONC_16.next hB_17; have cONC_17_0 : _ = some (Value.int .u32 1) := ONC_17.cell 0; have Ox_17 := Ox_16.below hB_17; have Px_17 := Px_16.below hB_17; have Oz_17 := Oz_16.below hB_17; have Oe_17 := Oe_16.below hB_17; have Pe_17 := Pe_16.below hB_17; have Ot_17 := Ot_16.below hB_17; have RS_17 := RS_16.below hB_17; have N1_17 := N1_16.below hB_17; have Nn_17 := Nn_16.below hB_17; have hbel_17 := hbel_16.next hB_17; have hsz_17 := hB_17.size; clear X_16 cX_16_0 cX_16_1 cX_16_2 Q_16 cQ_16_0 fQ_16_0 cQ_16_1 fQ_16_1 cQ_16_2 fQ_16_2 Z_16 cZ_16_0 cZ_16_1 ONA_16 cONA_16_0 E_16 cE_16_0 cE_16_1 cE_16_2 ONB_16 cONB_16_0 SUM_16 cSUM_16_0 fSUM_16_0 cSUM_16_1 fSUM_16_1 cSUM_16_2 fSUM_16_2 ONC_16 cONC_16_0 Ox_16 Px_16 Oz_16 Oe_16 Pe_16 Ot_16 RS_16 N1_16 Nn_16 hbel_16 hB_17; have Ou_17 := hO; try clear hB)))
        | (go_at_call 35; ((with_reducible refine (qadd ((RS_17.below bl)) (by omega) (rdq_nat (Ou_17.below bl) (Nn_17.below bl) sU hNs hNn) (by omega)).mono ?_); (rw [hsvh.out]; rintro e w18 ⟨ja, jn, jc, jb, jm, jd, rfl, hO, hO', hDj, hB⟩; have hB_18 : Below w17.heap.size w17 w18 := (bl.next hB); have X_18 := X_17.next hB_18; have cX_18_0 : _ = some (Value.bool s) := X_18.cell 0; have cX_18_1 : _ = some (Value.slice a n c) := X_18.cell 1; have cX_18_2 : _ = some (Value.slice b m d) := X_18.cell 2; have Q_18 := Q_17.next hB_18; have cQ_18_0 : _ = some (Value.bool (decide (q.num < 0))) := Q_18.cell 0; have fQ_18_0 := Q_18.free 0; have cQ_18_1 : _ = some (Value.slice xa xn xc) := Q_18.cell 1; have fQ_18_1 := Q_18.free 1; have cQ_18_2 : _ = some (Value.slice xb xm xd) := Q_18.cell 2; have fQ_18_2 := Q_18.free 2; have Z_18 := Z_17.next hB_18; have cZ_18_0 : _ = some (Value.bool false) := Z_18.cell 0; have cZ_18_1 : _ = some (Value.slice za zn zc) := Z_18.cell 1; have ONA_18 := ONA_17.next hB_18; have cONA_18_0 : _ = some (Value.int .u32 1) := ONA_18.cell 0; have E_18 := E_17.next hB_18; have cE_18_0 : _ = some (Value.bool (decide (er.num < 0))) := E_18.cell 0; have cE_18_1 : _ = some (Value.slice ea en ec) := E_18.cell 1; have cE_18_2 : _ = some (Value.slice eb em ed) := E_18.cell 2; have ONB_18 := ONB_17.next hB_18; have cONB_18_0 : _ = some (Value.int .u32 1) := ONB_18.cell 0; have SUM_18 := SUM_17.next hB_18; have cSUM_18_0 : _ = some (Value.bool false) := SUM_18.cell 0; have fSUM_18_0 := SUM_18.free 0; have cSUM_18_1 : _ = some (Value.slice ta tn tc) := SUM_18.cell 1; have fSUM_18_1 := SUM_18.free 1; have cSUM_18_2 : _ = some (Value.slice (some ⟨w11.heap.size, 0, none⟩) 1 1) := SUM_18.cell 2; have fSUM_18_2 := SUM_18.free 2; have ONC_18 := ONC_17.next hB_18; have cONC_18_0 : _ = some (Value.int .u32 1) := ONC_18.cell 0; have Ox_18 := Ox_17.below hB_18; have Px_18 := Px_17.below hB_18; have Oz_18 := Oz_17.below hB_18; have Oe_18 := Oe_17.below hB_18; have Pe_18 := Pe_17.below hB_18; have Ot_18 := Ot_17.below hB_18; have RS_18 := RS_17.below hB_18; have N1_18 := N1_17.below hB_18; have Nn_18 := Nn_17.below hB_18; have Ou_18 := Ou_17.below hB_18; have hbel_18 := hbel_17.next hB_18; have hsz_18 := hB_18.size; clear X_17 cX_17_0 cX_17_1 cX_17_2 Q_17 cQ_17_0 fQ_17_0 cQ_17_1 fQ_17_1 cQ_17_2 fQ_17_2 Z_17 cZ_17_0 cZ_17_1 ONA_17 cONA_17_0 E_17 cE_17_0 cE_17_1 cE_17_2 ONB_17 cONB_17_0 SUM_17 cSUM_17_0 fSUM_17_0 cSUM_17_1 fSUM_17_1 cSUM_17_2 fSUM_17_2 ONC_17 cONC_17_0 Ox_17 Px_17 Oz_17 Oe_17 Pe_17 Ot_17 RS_17 N1_17 Nn_17 Ou_17 hbel_17 hB_18; try clear hB))))
    all_goals (go_wp2_with fail; go_meet; exact ⟨_, _, _, _, _, _, (show Blk _ _ #[_, _, _] from ((SUM_18.setCell (i := 0) (v := _) (by simp)).setCell (i := 1) (v := _) (by simp)).setCell (i := 2) (v := _) (by simp)), X_18.set3 (by omega) _ _ _, Q_18.set3 (by omega) _ _ _, Z_18.set3 (by omega) _ _ _, ONA_18.set3 (by omega) _ _ _, E_18.set3 (by omega) _ _ _, ONB_18.set3 (by omega) _ _ _, ONC_18.set3 (by omega) _ _ _, (hO.set3 (by omega) _ _ _).mono (by omega), (hO'.set3 (by omega) _ _ _).mono (by omega), (Oe_18.kp (kp_set3 _ (v12.heap.size) _ _ _) (fun g e => by have := ltOe g e; show ¬ (g = _); omega)).mono (Nat.zero_le _), (Pe_18.kp (kp_set3 _ (v12.heap.size) _ _ _) (fun g e => by have := ltPe g e; show ¬ (g = _); omega)).mono (Nat.zero_le _), Below.set3 hbel_18 (by omega) _ _ _, by simp [World.setCell]; omega⟩)
  case rest =>
    clear X_16 Q_16 Z_16 ONA_16 E_16 ONB_16 SUM_16 ONC_16 cX_16_0 cX_16_1 cX_16_2 cQ_16_0 fQ_16_0 cQ_16_1 fQ_16_1 cQ_16_2 fQ_16_2 cZ_16_0 cZ_16_1 cONA_16_0 cE_16_0 cE_16_1 cE_16_2 cONB_16_0 cSUM_16_0 fSUM_16_0 cSUM_16_1 fSUM_16_1 cSUM_16_2 fSUM_16_2 cONC_16_0 Ox_16 Px_16 Oz_16 Oe_16 Pe_16 Ot_16 RS_16 N1_16 Nn_16 hbel_16
    obtain ⟨SUMa, SUMn, SUMc, SUMb, SUMm, SUMd, SUM_17, X_17, Q_17, Z_17, ONA_17, E_17, ONB_17, ONC_17, hO, hO', hkOe, hkPe, hbel_17, hsz_17⟩ := hcut
    have cSUM_17_0 : _ = some (Value.bool (decide ((sv).num < 0))) := SUM_17.cell 0
    have fSUM_17_0 := SUM_17.free 0
    have cSUM_17_1 : _ = some (Value.slice SUMa SUMn SUMc) := SUM_17.cell 1
    have fSUM_17_1 := SUM_17.free 1
    have cSUM_17_2 : _ = some (Value.slice SUMb SUMm SUMd) := SUM_17.cell 2
    have fSUM_17_2 := SUM_17.free 2
    have cX_17_0 : _ = some (Value.bool s) := X_17.cell 0
    have cX_17_1 : _ = some (Value.slice a n c) := X_17.cell 1
    have cX_17_2 : _ = some (Value.slice b m d) := X_17.cell 2
    have cQ_17_0 : _ = some (Value.bool (decide (q.num < 0))) := Q_17.cell 0
    have fQ_17_0 := Q_17.free 0
    have cQ_17_1 : _ = some (Value.slice xa xn xc) := Q_17.cell 1
    have fQ_17_1 := Q_17.free 1
    have cQ_17_2 : _ = some (Value.slice xb xm xd) := Q_17.cell 2
    have fQ_17_2 := Q_17.free 2
    have cZ_17_0 : _ = some (Value.bool false) := Z_17.cell 0
    have cZ_17_1 : _ = some (Value.slice za zn zc) := Z_17.cell 1
    have cONA_17_0 : _ = some (Value.int .u32 1) := ONA_17.cell 0
    have cE_17_0 : _ = some (Value.bool (decide (er.num < 0))) := E_17.cell 0
    have cE_17_1 : _ = some (Value.slice ea en ec) := E_17.cell 1
    have cE_17_2 : _ = some (Value.slice eb em ed) := E_17.cell 2
    have cONB_17_0 : _ = some (Value.int .u32 1) := ONB_17.cell 0
    have cONC_17_0 : _ = some (Value.int .u32 1) := ONC_17.cell 0
    have OSUM_17 := hO
    have ltOSUM := hO.ltB
    have OSUM'_17 := hO'
    have ltOSUM' := hO'.ltB
    clear hO hO'
    have Oe_17 := hkOe
    have ltOe := hkOe.ltB
    clear hkOe
    have Pe_17 := hkPe
    have ltPe := hkPe.ltB
    clear hkPe
    have hUm : U.size ≤ 300 := by omega
    obtain ⟨c0, hc0⟩ : ∃ x, U[0].toNat = x := ⟨_, rfl⟩
    have hx0 := by_get U 0 hU0
    rw [hc0] at hx0
    go_wp2_with fail
    obtain ⟨W9, hW9⟩ : ∃ y : World, y = wc := ⟨_, rfl⟩
    subst hW9
    have hDq : ∀ (V : World) (n : Nat), Below W9.heap.size W9 V → Below W9.heap.size W9 (V.drewN n) := fun V n h => h.next ((Below.refl _ _).drewN' n)
    go_loopw [13, 14] (fun ov iv wr => ∃ (i : Nat) (b : Bool), i ≤ U.size ∧ iv = .int .i64 i ∧ ov = .bool b ∧ Hid (b = false → ∀ j, j < i → (by' U).getD j 0 = c0) ∧ Below W9.heap.size W9 wr) (fun _ iv _ => U.size - (intOf iv).toNat)
    case atStart => exact ⟨0, false, by omega, rfl, rfl, fun _ j hj => absurd hj (Nat.not_lt_zero _), Below.refl _ _⟩
    case round =>
      obtain ⟨i, bx, hi, rfl, rfl, hb, hBr⟩ := hrel
      by_cases hlt : i < U.size
      · have hx := by_get U i hlt
        obtain ⟨xx, hxe⟩ : ∃ x, U[i].toNat = x := ⟨_, rfl⟩
        rw [hxe] at hx
        cases bx
        · by_cases he : xx = c0
          · have hd : ((xx : Int) != (c0 : Int)) = false := by simp [he]
            have hn : Hid (false = false → ∀ j, j < i + 1 → (by' U).getD j 0 = c0) := fun _ j hj => by
              by_cases e : j = i
              · rw [e, hx, he]
              · exact hb.out rfl j (by omega)
            clear hx hb he
            go_wp2_with fail
            go_quiet (fail)
            go_wp2
            go_roundw
            case rel => exact ⟨i + 1, false, by omega, by go_num, rfl, fun _ j hj => hn.out (by simp) j hj, hDq _ _ hBr⟩
            case measure => simp [intOf]; omega
          · have hd : ((xx : Int) != (c0 : Int)) = true := by simp; omega
            clear hx hb he
            go_wp2_with fail
            go_quiet (fail)
            go_wp2
            go_roundw
            case rel => exact ⟨i + 1, true, by omega, by go_num, rfl, (fun h => absurd h (by decide)), hDq _ _ hBr⟩
            case measure => simp [intOf]; omega
        · clear hx hb
          go_wp2_with fail
          go_quiet (fail)
          go_wp2
          go_roundw
          case rel => exact ⟨i + 1, true, by omega, by go_num, rfl, (fun h => absurd h (by decide)), hDq _ _ hBr⟩
          case measure => simp [intOf]; omega
      · obtain rfl : i = U.size := by omega
        clear hlt
        go_upto_region 21 with fail
        go_cut [103] (fun s103 wx => s103 = .bool false ∧ wx = wr)
        case first =>
          cases bx
          · have hall := hb.out rfl
            have h48 : c0 ≠ 48 := fun e => hn0.out 48 (.inl rfl) fun i hi => by rw [hall i hi, e]
            have h57 : c0 ≠ 57 := fun e => hn0.out 57 (.inr rfl) fun i hi => by rw [hall i hi, e]
            have hd48 : ((c0 : Int) == 48) = false := by simp; omega
            have hd57 : ((c0 : Int) == 57) = false := by simp; omega
            clear hall hb h48 h57
            go_wp2_with fail
            go_meet
            exact ⟨rfl, rfl⟩
          · go_wp2_with fail
            go_meet
            exact ⟨rfl, rfl⟩
        case rest =>
          obtain ⟨rfl, rfl⟩ := hcut
          clear hb
          go_wp2_with fail
          go_loopw [15] (fun iv wr => ∃ t : Nat, 1 ≤ t ∧ t ≤ U.size ∧ iv = .int .i64 t ∧ Below W9.heap.size W9 wr) (fun iv _ => U.size - (intOf iv).toNat)
          case atStart => exact ⟨1, by omega, by omega, rfl, hBr⟩
          case round =>
            clear hBr
            obtain ⟨t, ht1, ht2, rfl, hBr⟩ := hrel
            by_cases hlt : t < U.size
            · obtain ⟨m4, hm4⟩ : ∃ m, U.size - t = m := ⟨_, rfl⟩
              have hw4 : IntKind.i64.wrap ((U.size : Int) - (t : Int)) = (m4 : Int) := by rw [IntKind.wrap_i64]; omega
              have hm5 : m4 ≤ U.size := by omega
              obtain ⟨rm, hrm⟩ : ∃ r, U.size % t = r := ⟨_, rfl⟩
              have hrm2 : Int.tmod (U.size : Int) (t : Int) = (rm : Int) := by rw [← hrm]; exact (Int.ofNat_tmod _ _).symm
              have hrmb : rm < t := by rw [← hrm]; exact Nat.mod_lt _ (by omega)
              have hrm3 : IntKind.i64.wrap (rm : Int) = (rm : Int) := by rw [IntKind.wrap_i64]; omega
              by_cases hz : rm = 0
              · have hs := hturn.out t (by omega) hlt (by rw [hrm, hz])
                rw [hm4] at hs
                have hd : ((rm : Int) == 0) = true := by simp; omega
                clear hrm hz hm4
                go_wp2_with fail
                go_quiet (fail)
                go_wp2
                go_roundw
                case rel => exact ⟨t + 1, by omega, by omega, by go_num, hDq _ _ hBr⟩
                case measure => simp [intOf]; omega
              · have hd : ((rm : Int) == 0) = false := by simp; omega
                clear hrm hz hm4
                go_wp2_with fail
                go_quiet (fail)
                go_wp2
                go_roundw
                case rel => exact ⟨t + 1, by omega, by omega, by go_num, hDq _ _ hBr⟩
                case measure => simp [intOf]; omega
            · obtain rfl : t = U.size := by omega
              clear hlt ht1 ht2
              obtain ⟨mu, hmu⟩ : ∃ m, U.size - 1 = m := ⟨_, rfl⟩
              have hmult : mu < U.size := by omega
              have hxu := by_get U mu hmult
              obtain ⟨cu, hcu⟩ : ∃ x, U[mu].toNat = x := ⟨_, rfl⟩
              rw [hcu] at hxu
              have hnu : IntKind.i64.wrap ((U.size : Int) - 1) = (mu : Int) := by rw [IntKind.wrap_i64]; omega
              have hnu2 : (U.size : Int) - 1 = (mu : Int) := by omega
              have hnu3 : IntKind.i64.wrap (mu : Int) = (mu : Int) := by rw [IntKind.wrap_i64]; omega
              go_upto_region 28 with fail
              go_cut [142] (fun s142 wx => s142 = .bool false ∧ Below wr.heap.size wr wx)
              case first =>
                by_cases hT0 : 0 < T.size
                · obtain ⟨mx, hmx⟩ : ∃ m, T.size - 1 = m := ⟨_, rfl⟩
                  have hmlt : mx < T.size := by omega
                  have hxl := by_get T mx hmlt
                  have hls := hlast.out hT0
                  rw [hmx] at hls
                  obtain ⟨cl, hcl⟩ : ∃ x, T[mx].toNat = x := ⟨_, rfl⟩
                  rw [hxl, hcl] at hls
                  have hmi : IntKind.i64.wrap ((T.size : Int) - 1) = (mx : Int) := by rw [IntKind.wrap_i64]; omega
                  have hmi2 : (T.size : Int) - 1 = (mx : Int) := by omega
                  have hmw : IntKind.i64.wrap (mx : Int) = (mx : Int) := by rw [IntKind.wrap_i64]; omega
                  rw [hmu, hxu] at hls
                  have hd : ((cl : Int) == (cu : Int)) = false := by simp; omega
                  clear hls hxl
                  go_quiet (fail)
                  go_wp2_with fail
                  go_meet
                  exact ⟨rfl, by first | exact (Below.refl _ _).drewN' _ | exact (Below.refl _ _).drew | exact Below.refl _ _⟩
                · have hT1 : decide (0 < T.size) = false := decide_eq_false hT0
                  have hT2 : decide ((0 : Int) < (T.size : Int)) = false := decide_eq_false (by omega)
                  clear hT0
                  go_quiet (fail)
                  go_wp2_with fail
                  go_meet
                  exact ⟨rfl, by first | exact (Below.refl _ _).drewN' _ | exact (Below.refl _ _).drew | exact Below.refl _ _⟩
              case rest =>
                obtain ⟨rfl, hBx⟩ := hcut
                have hBy := hBr.next hBx
                clear hBr hBx hmu hxu hnu hnu2 hnu3 hmult hcu
                have hB_18 : Below W9.heap.size W9 wc := hBy
                have X_18 := X_17.next hB_18
                have cX_18_0 : _ = some (Value.bool s) := X_18.cell 0
                have cX_18_1 : _ = some (Value.slice a n c) := X_18.cell 1
                have cX_18_2 : _ = some (Value.slice b m d) := X_18.cell 2
                have Q_18 := Q_17.next hB_18
                have cQ_18_0 : _ = some (Value.bool (decide (q.num < 0))) := Q_18.cell 0
                have fQ_18_0 := Q_18.free 0
                have cQ_18_1 : _ = some (Value.slice xa xn xc) := Q_18.cell 1
                have fQ_18_1 := Q_18.free 1
                have cQ_18_2 : _ = some (Value.slice xb xm xd) := Q_18.cell 2
                have fQ_18_2 := Q_18.free 2
                have Z_18 := Z_17.next hB_18
                have cZ_18_0 : _ = some (Value.bool false) := Z_18.cell 0
                have cZ_18_1 : _ = some (Value.slice za zn zc) := Z_18.cell 1
                have ONA_18 := ONA_17.next hB_18
                have cONA_18_0 : _ = some (Value.int .u32 1) := ONA_18.cell 0
                have E_18 := E_17.next hB_18
                have cE_18_0 : _ = some (Value.bool (decide (er.num < 0))) := E_18.cell 0
                have cE_18_1 : _ = some (Value.slice ea en ec) := E_18.cell 1
                have cE_18_2 : _ = some (Value.slice eb em ed) := E_18.cell 2
                have ONB_18 := ONB_17.next hB_18
                have cONB_18_0 : _ = some (Value.int .u32 1) := ONB_18.cell 0
                have SUM_18 := SUM_17.next hB_18
                have cSUM_18_0 : _ = some (Value.bool (decide ((sv).num < 0))) := SUM_18.cell 0
                have fSUM_18_0 := SUM_18.free 0
                have cSUM_18_1 : _ = some (Value.slice SUMa SUMn SUMc) := SUM_18.cell 1
                have fSUM_18_1 := SUM_18.free 1
                have cSUM_18_2 : _ = some (Value.slice SUMb SUMm SUMd) := SUM_18.cell 2
                have fSUM_18_2 := SUM_18.free 2
                have ONC_18 := ONC_17.next hB_18
                have cONC_18_0 : _ = some (Value.int .u32 1) := ONC_18.cell 0
                have OSUM_18 := OSUM_17.below hB_18
                have OSUM'_18 := OSUM'_17.below hB_18
                have Oe_18 := Oe_17.below hB_18
                have Pe_18 := Pe_17.below hB_18
                have hbel_18 := hbel_17.next hB_18
                have hsz_18 := hB_18.size
                clear X_17 cX_17_0 cX_17_1 cX_17_2 Q_17 cQ_17_0 fQ_17_0 cQ_17_1 fQ_17_1 cQ_17_2 fQ_17_2 Z_17 cZ_17_0 cZ_17_1 ONA_17 cONA_17_0 E_17 cE_17_0 cE_17_1 cE_17_2 ONB_17 cONB_17_0 SUM_17 cSUM_17_0 fSUM_17_0 cSUM_17_1 fSUM_17_1 cSUM_17_2 fSUM_17_2 ONC_17 cONC_17_0 OSUM_17 OSUM'_17 Oe_17 Pe_17 hbel_17 hB_18
                clear hBy
                have hTw : IntKind.i64.wrap ((T.size : Int) + (U.size : Int)) = (T.size : Int) + (U.size : Int) := by rw [IntKind.wrap_i64]; omega
                have hT300 : (T.size : Int) + (U.size : Int) ≤ 300 := by omega
                go_upto_region 32 with fail
                go_wp2_with fail
                go_region_held3 (fun w' => w'.cell? ⟨v12.heap.size, 0, none⟩ = some (Value.bool (decide ((sv).num < 0))) ∧ w'.cell? ⟨v12.heap.size, 1, none⟩ = some (Value.slice SUMa SUMn SUMc) ∧ w'.cell? ⟨v12.heap.size, 2, none⟩ = some (Value.slice SUMb SUMm SUMd) ∧ w'.cell? ⟨w9.heap.size, 0, none⟩ = some (Value.bool (decide (er.num < 0))) ∧ w'.cell? ⟨w9.heap.size, 1, none⟩ = some (Value.slice ea en ec) ∧ w'.cell? ⟨w9.heap.size, 2, none⟩ = some (Value.slice eb em ed))
                  (first | exact ⟨cSUM_18_0, cSUM_18_1, cSUM_18_2, cE_18_0, cE_18_1, cE_18_2⟩ | exact ⟨cSUM_19_0, cSUM_19_1, cSUM_19_2, cE_19_0, cE_19_1, cE_19_2⟩ | exact ⟨cSUM_20_0, cSUM_20_1, cSUM_20_2, cE_20_0, cE_20_1, cE_20_2⟩ | exact ⟨cSUM_21_0, cSUM_21_1, cSUM_21_2, cE_21_0, cE_21_1, cE_21_2⟩ | go_keep)
                  (first
                    | (go_at_call 65; ((with_reducible refine (HOT.out _).mono ?_); (rintro e w19 ⟨pa, pc, pb, pm, pd, rfl, hR1, hR2, hO, hB⟩; have hB_19 : Below wc.heap.size wc w19 := (bl.next hB); have X_19 := X_18.next hB_19; have cX_19_0 : _ = some (Value.bool s) := X_19.cell 0; have cX_19_1 : _ = some (Value.slice a n c) := X_19.cell 1; have cX_19_2 : _ = some (Value.slice b m d) := X_19.cell 2; have Q_19 := Q_18.next hB_19; have cQ_19_0 : _ = some (Value.bool (decide (q.num < 0))) := Q_19.cell 0; have fQ_19_0 := Q_19.free 0; have cQ_19_1 : _ = some (Value.slice xa xn xc) := Q_19.cell 1; have fQ_19_1 := Q_19.free 1; have cQ_19_2 : _ = some (Value.slice xb xm xd) := Q_19.cell 2; have fQ_19_2 := Q_19.free 2; have Z_19 := Z_18.next hB_19; have cZ_19_0 : _ = some (Value.bool false) := Z_19.cell 0; have cZ_19_1 : _ = some (Value.slice za zn zc) := Z_19.cell 1; have ONA_19 := ONA_18.next hB_19; have cONA_19_0 : _ = some (Value.int .u32 1) := ONA_19.cell 0; have E_19 := E_18.next hB_19; have cE_19_0 : _ = some (Value.bool (decide (er.num < 0))) := E_19.cell 0; have cE_19_1 : _ = some (Value.slice ea en ec) := E_19.cell 1; have cE_19_2 : _ = some (Value.slice eb em ed) := E_19.cell 2; have ONB_19 := ONB_18.next hB_19; have cONB_19_0 : _ = some (Value.int .u32 1) := ONB_19.cell 0; have SUM_19 := SUM_18.next hB_19; have cSUM_19_0 : _ = some (Value.bool (decide ((sv).num < 0))) := SUM_19.cell 0; have fSUM_19_0 := SUM_19.free 0; have cSUM_19_1 : _ = some (Value.slice SUMa SUMn SUMc) := SUM_19.cell 1; have fSUM_19_1 := SUM_19.free 1; have cSUM_19_2 : _ = some (Value.slice SUMb SUMm SUMd) := SUM_19.cell 2; have fSUM_19_2 := SUM_19.free 2; have ONC_19 := ONC_18.next hB_19; have cONC_19_0 : _ = some (Value.int .u32 1) := ONC_19.cell 0; have OSUM_19 := OSUM_18.below hB_19; have OSUM'_19 := OSUM'_18.below hB_19; have Oe_19 := Oe_18.below hB_19; have Pe_19 := Pe_18.below hB_19; have hbel_19 := hbel_18.next hB_19; have hsz_19 := hB_19.size; clear X_18 cX_18_0 cX_18_1 cX_18_2 Q_18 cQ_18_0 fQ_18_0 cQ_18_1 fQ_18_1 cQ_18_2 fQ_18_2 Z_18 cZ_18_0 cZ_18_1 ONA_18 cONA_18_0 E_18 cE_18_0 cE_18_1 cE_18_2 ONB_18 cONB_18_0 SUM_18 cSUM_18_0 fSUM_18_0 cSUM_18_1 fSUM_18_1 cSUM_18_2 fSUM_18_2 ONC_18 cONC_18_0 OSUM_18 OSUM'_18 Oe_18 Pe_18 hbel_18 hB_19; have T1_19 := hO; have U1_19 := hR1; try clear hB)))
                    | (go_at_call 36; ((with_reducible refine (qmul ((OSUM_19.below bl).rdQ (OSUM'_19.below bl) hsvq) (by omega) (rdq_ov (U1_19.below bl) (T1_19.below bl) sPT hPTn) (by omega)).mono ?_); (rw [heqh.out]; rintro e w20 ⟨ma, mn, mc, mb, mm, md, rfl, hO, hO', hDm, hB⟩; have hB_20 : Below w19.heap.size w19 w20 := (bl.next hB); have X_20 := X_19.next hB_20; have cX_20_0 : _ = some (Value.bool s) := X_20.cell 0; have cX_20_1 : _ = some (Value.slice a n c) := X_20.cell 1; have cX_20_2 : _ = some (Value.slice b m d) := X_20.cell 2; have Q_20 := Q_19.next hB_20; have cQ_20_0 : _ = some (Value.bool (decide (q.num < 0))) := Q_20.cell 0; have fQ_20_0 := Q_20.free 0; have cQ_20_1 : _ = some (Value.slice xa xn xc) := Q_20.cell 1; have fQ_20_1 := Q_20.free 1; have cQ_20_2 : _ = some (Value.slice xb xm xd) := Q_20.cell 2; have fQ_20_2 := Q_20.free 2; have Z_20 := Z_19.next hB_20; have cZ_20_0 : _ = some (Value.bool false) := Z_20.cell 0; have cZ_20_1 : _ = some (Value.slice za zn zc) := Z_20.cell 1; have ONA_20 := ONA_19.next hB_20; have cONA_20_0 : _ = some (Value.int .u32 1) := ONA_20.cell 0; have E_20 := E_19.next hB_20; have cE_20_0 : _ = some (Value.bool (decide (er.num < 0))) := E_20.cell 0; have cE_20_1 : _ = some (Value.slice ea en ec) := E_20.cell 1; have cE_20_2 : _ = some (Value.slice eb em ed) := E_20.cell 2; have ONB_20 := ONB_19.next hB_20; have cONB_20_0 : _ = some (Value.int .u32 1) := ONB_20.cell 0; have SUM_20 := SUM_19.next hB_20; have cSUM_20_0 : _ = some (Value.bool (decide ((sv).num < 0))) := SUM_20.cell 0; have fSUM_20_0 := SUM_20.free 0; have cSUM_20_1 : _ = some (Value.slice SUMa SUMn SUMc) := SUM_20.cell 1; have fSUM_20_1 := SUM_20.free 1; have cSUM_20_2 : _ = some (Value.slice SUMb SUMm SUMd) := SUM_20.cell 2; have fSUM_20_2 := SUM_20.free 2; have ONC_20 := ONC_19.next hB_20; have cONC_20_0 : _ = some (Value.int .u32 1) := ONC_20.cell 0; have OSUM_20 := OSUM_19.below hB_20; have OSUM'_20 := OSUM'_19.below hB_20; have Oe_20 := Oe_19.below hB_20; have Pe_20 := Pe_19.below hB_20; have T1_20 := T1_19.below hB_20; have U1_20 := U1_19.below hB_20; have hbel_20 := hbel_19.next hB_20; have hsz_20 := hB_20.size; clear X_19 cX_19_0 cX_19_1 cX_19_2 Q_19 cQ_19_0 fQ_19_0 cQ_19_1 fQ_19_1 cQ_19_2 fQ_19_2 Z_19 cZ_19_0 cZ_19_1 ONA_19 cONA_19_0 E_19 cE_19_0 cE_19_1 cE_19_2 ONB_19 cONB_19_0 SUM_19 cSUM_19_0 fSUM_19_0 cSUM_19_1 fSUM_19_1 cSUM_19_2 fSUM_19_2 ONC_19 cONC_19_0 OSUM_19 OSUM'_19 Oe_19 Pe_19 T1_19 U1_19 hbel_19 hB_20; have Om_20 := hO; have Pm_20 := hO'; try clear hB)))
                    | (go_at_call 62; ((with_reducible refine (lsame4 (((Om_20.below bl)).rdQ ((Pm_20.below bl)) hers) (by omega) (((Oe_20.below bl)).rdQ ((Pe_20.below bl)) hers) (by omega) rfl).mono ?_); (rintro e w21 ⟨rfl, hB⟩; have hB_21 : Below w20.heap.size w20 w21 := (bl.next hB); have X_21 := X_20.next hB_21; have cX_21_0 : _ = some (Value.bool s) := X_21.cell 0; have cX_21_1 : _ = some (Value.slice a n c) := X_21.cell 1; have cX_21_2 : _ = some (Value.slice b m d) := X_21.cell 2; have Q_21 := Q_20.next hB_21; have cQ_21_0 : _ = some (Value.bool (decide (q.num < 0))) := Q_21.cell 0; have fQ_21_0 := Q_21.free 0; have cQ_21_1 : _ = some (Value.slice xa xn xc) := Q_21.cell 1; have fQ_21_1 := Q_21.free 1; have cQ_21_2 : _ = some (Value.slice xb xm xd) := Q_21.cell 2; have fQ_21_2 := Q_21.free 2; have Z_21 := Z_20.next hB_21; have cZ_21_0 : _ = some (Value.bool false) := Z_21.cell 0; have cZ_21_1 : _ = some (Value.slice za zn zc) := Z_21.cell 1; have ONA_21 := ONA_20.next hB_21; have cONA_21_0 : _ = some (Value.int .u32 1) := ONA_21.cell 0; have E_21 := E_20.next hB_21; have cE_21_0 : _ = some (Value.bool (decide (er.num < 0))) := E_21.cell 0; have cE_21_1 : _ = some (Value.slice ea en ec) := E_21.cell 1; have cE_21_2 : _ = some (Value.slice eb em ed) := E_21.cell 2; have ONB_21 := ONB_20.next hB_21; have cONB_21_0 : _ = some (Value.int .u32 1) := ONB_21.cell 0; have SUM_21 := SUM_20.next hB_21; have cSUM_21_0 : _ = some (Value.bool (decide ((sv).num < 0))) := SUM_21.cell 0; have fSUM_21_0 := SUM_21.free 0; have cSUM_21_1 : _ = some (Value.slice SUMa SUMn SUMc) := SUM_21.cell 1; have fSUM_21_1 := SUM_21.free 1; have cSUM_21_2 : _ = some (Value.slice SUMb SUMm SUMd) := SUM_21.cell 2; have fSUM_21_2 := SUM_21.free 2; have ONC_21 := ONC_20.next hB_21; have cONC_21_0 : _ = some (Value.int .u32 1) := ONC_21.cell 0; have OSUM_21 := OSUM_20.below hB_21; have OSUM'_21 := OSUM'_20.below hB_21; have Oe_21 := Oe_20.below hB_21; have Pe_21 := Pe_20.below hB_21; have T1_21 := T1_20.below hB_21; have U1_21 := U1_20.below hB_21; have Om_21 := Om_20.below hB_21; have Pm_21 := Pm_20.below hB_21; have hbel_21 := hbel_20.next hB_21; have hsz_21 := hB_21.size; clear X_20 cX_20_0 cX_20_1 cX_20_2 Q_20 cQ_20_0 fQ_20_0 cQ_20_1 fQ_20_1 cQ_20_2 fQ_20_2 Z_20 cZ_20_0 cZ_20_1 ONA_20 cONA_20_0 E_20 cE_20_0 cE_20_1 cE_20_2 ONB_20 cONB_20_0 SUM_20 cSUM_20_0 fSUM_20_0 cSUM_20_1 fSUM_20_1 cSUM_20_2 fSUM_20_2 ONC_20 cONC_20_0 OSUM_20 OSUM'_20 Oe_20 Pe_20 T1_20 U1_20 Om_20 Pm_20 hbel_20 hB_21; try clear hB))))
                go_wp2
                go_ret
                exact ⟨rfl, hbel_21⟩

set_option maxRecDepth 100000 in
set_option maxHeartbeats 8000000 in
theorem drep_10 {w : World} {q : Rat} {s : Bool} {a b : Option Addr} {n c m d : Nat} (HF : Hid (∀ W, Below w.heap.size w W → Calls Try.prog 59 #[.agg #[.bool s, .slice a n c, .slice b m d]] W (fun e w' => RetQ W q e w'))) (hqs : QS q 20) (A K : Nat) (hR : PerIs q.num.natAbs q.den 300 (some (A, K))) (hneg : q < 0) (hp : K = A) :
    Calls Try.prog 14 #[.agg #[.bool s, .slice a n c, .slice b m d]] w (fun e w' => e = .returned (.bool true) ∧ Below w.heap.size w w') := by
  have hdz := q.den_nz
  have hd0 : 0 < q.den := Nat.pos_of_ne_zero hdz
  obtain ⟨hAK, hK3, hFr, hE0, hPer⟩ := per_some hR
  have HPd := hid (fun (W : World) {a' b' : Option Addr} {n' c' m' d' : Nat} (h : RdQ 20 W (decide (q.num < 0)) a' n' c' b' m' d' q) => (show Calls Try.prog 66 #[.agg #[.bool (decide (q.num < 0)), .slice a' n' c', .slice b' m' d'], .int .i64 300] W (RetSSE W (peA q.num.natAbs q.den (some (A, K))) (peB q.num.natAbs q.den (some (A, K))) 0) from dper h (by omega) 300 (by omega) hR))
  have hA := peA_by (n := q.num.natAbs) (A := A) (K := K) hd0
  have hBy := peB_by (n := q.num.natAbs) hd0 hAK
  generalize peA q.num.natAbs q.den (some (A, K)) = T at *
  generalize peB q.num.natAbs q.den (some (A, K)) = U at *
  have hTs : T.size = A := by rw [← by_len, hA, seg_len]
  have hUs : U.size = K - A := by rw [← by_len, hBy, seg_len]
  have HNT := hid (fun w => lnumber (w := w) T (by omega) (by rw [hA]; exact seg_ok hd0 0 A))
  have HNU := hid (fun w => lnumber (w := w) U (by omega) (by rw [hBy]; exact seg_ok hd0 A (K - A)))
  have sT : Sz (numD (by' T)) 301 := by rw [hA]; exact seg_sz hd0 (by omega)
  have sU : Sz (numD (by' U)) 301 := by rw [hBy]; exact seg_sz hd0 (by omega)
  have hres := floor_sub q.num.natAbs hdz
  have hfl := floor_mk (q.num.natAbs : Int) hdz
  rw [← Int.natCast_ediv] at hfl
  have hz := hE0 hp
  have heq := rep_end hdz hz
  rw [← hA, ← hTs] at heq
  have hU0 : U.size = 0 := by omega
  have hlast : Hid (0 < T.size → (by' T).getD (T.size - 1) 0 ≠ 48) := fun h => by
    have h1 := last_nz (show 0 < A by omega) hz (fun j hj => hFr j (by omega))
    rw [hA, seg_get (by omega), show 0 + (T.size - 1) = A - 1 by omega]
    omega
  have hTU : T.size + U.size ≤ 300 := by omega
  have hers : QS (mkRat ((q.num.natAbs % q.den : Nat) : Int) q.den) 20 := QS.mk hdz (by rw [Int.natAbs_natCast]; exact hqs.1.mono (Nat.mod_le _ _) (Nat.le_refl _)) hqs.2
  have hzs : Sz (q.num.natAbs / q.den) 20 := hqs.1.mono (Nat.div_le_self _ _) (Nat.le_refl _)
  have hy := abs_neg hneg
  rw [← hy] at hfl hres
  have hys := hqs.neg
  obtain ⟨y, hyq⟩ : ∃ y, -q = y := ⟨_, rfl⟩
  rw [hyq] at hfl hres hys
  have hyh := hid hyq
  clear hy hyq
  have hqn : decide (sgnQ q < 0) = true := by
    rcases sgnQ_cases q with ⟨h1, h2⟩ | ⟨h1, h2⟩ | ⟨h1, h2⟩ <;> rw [h2]
    · rfl
    · rw [h1] at hneg; exact absurd hneg Rat.lt_irrefl
    · exact absurd (Rat.le_of_lt h1) (Rat.not_le.2 hneg)
  generalize mkRat ((q.num.natAbs % q.den : Nat) : Int) q.den = er at *
  generalize hzN : q.num.natAbs / q.den = zN at *
  clear hzN hA hBy hR hPer hFr hE0 hneg hdz hd0 hTs hUs hK3 hAK hz
  obtain ⟨pT, hpT⟩ : ∃ p, numD (by' T) = p := ⟨_, rfl⟩
  rw [hpT] at HNT sT heq
  clear hpT
  obtain ⟨pU, hpU⟩ : ∃ p, numD (by' U) = p := ⟨_, rfl⟩
  rw [hpU] at HNU sU
  clear hpU
  have hflh := hid hfl
  have hresh := hid hres
  have heqh := hid heq
  clear hfl hres heq hp
  obtain ⟨PT, hPT⟩ : ∃ P, 10 ^ T.size = P := ⟨_, rfl⟩
  have HOT : Hid (∀ w, Calls Try.prog 65 #[.int .i64 (T.size : Int)] w (fun e w' => ∃ a c b m d, e = .returned (.agg #[.bool false, .slice a 1 c, .slice b m d]) ∧ RdN 1 w' a 1 c 1 ∧ LtB a w'.heap.size ∧ Own w.heap.size w' b m d (lm PT) ∧ Below w.heap.size w w')) := fun w => hPT ▸ lover T.size (by omega)
  have sPT : Sz PT 40 := by rw [← hPT]; exact (ten_sz9 _).mono (Nat.le_refl _) (by omega)
  have hPTn : PT ≠ 0 := by rw [← hPT]; exact Nat.ne_of_gt (Nat.pow_pos (by decide))
  rw [hPT] at heqh
  clear hPT
  obtain rfl := be_nil hU0
  have hent := ent1 w #[Value.bool s, Value.slice a n c, Value.slice b m d] 29
  go_enter Try.func14, Try.ntmps14
  go_wp2_with fail
  generalize (w.alloc (.cells #[Value.bool s, Value.slice a n c, Value.slice b m d] 29)) = W0 at hent ⊢
  obtain ⟨X_0, hbel_0, hsz_0⟩ := hent
  have cX_0_0 : _ = some (Value.bool s) := X_0.cell 0
  have cX_0_1 : _ = some (Value.slice a n c) := X_0.cell 1
  have cX_0_2 : _ = some (Value.slice b m d) := X_0.cell 2
  go_wp2_with fail
  refine (lalive).mono ?_
  rintro e w1 ⟨rfl, hB⟩
  have hB_1 : Below W0.heap.size W0 w1 := (bl.next hB)
  have X_1 := X_0.next hB_1
  have cX_1_0 : _ = some (Value.bool s) := X_1.cell 0
  have cX_1_1 : _ = some (Value.slice a n c) := X_1.cell 1
  have cX_1_2 : _ = some (Value.slice b m d) := X_1.cell 2
  have hbel_1 := hbel_0.next hB_1
  have hsz_1 := hB_1.size
  clear X_0 cX_0_0 cX_0_1 cX_0_2 hbel_0 hB_1
  try clear hB
  go_wp2_with fail
  refine (HF.out _ hbel_1).mono ?_
  rintro e w2 ⟨xa, xn, xc, xb, xm, xd, rfl, hO, hO', hDx, hB⟩
  have hB_2 : Below w1.heap.size w1 w2 := (bl.next hB)
  have X_2 := X_1.next hB_2
  have cX_2_0 : _ = some (Value.bool s) := X_2.cell 0
  have cX_2_1 : _ = some (Value.slice a n c) := X_2.cell 1
  have cX_2_2 : _ = some (Value.slice b m d) := X_2.cell 2
  have hbel_2 := hbel_1.next hB_2
  have hsz_2 := hB_2.size
  clear X_1 cX_1_0 cX_1_1 cX_1_2 hbel_1 hB_2
  have Ox_2 := hO
  have ltOx := hO.ltB
  have Px_2 := hO'
  have ltPx := hO'.ltB
  clear hO hO'
  try clear hB
  have hbx := blk_new w2 #[Value.bool (decide (q.num < 0)), Value.slice xa xn xc, Value.slice xb xm xd] 29
  have hbB := (Below.refl w2.heap.size w2).alloc (Nat.le_refl _) (.cells #[Value.bool (decide (q.num < 0)), Value.slice xa xn xc, Value.slice xb xm xd] 29)
  have hltQ := hbx.lt
  have hB_3 : Below w2.heap.size w2 (w2.alloc (.cells #[Value.bool (decide (q.num < 0)), Value.slice xa xn xc, Value.slice xb xm xd] 29)) := hbB
  have X_3 := X_2.next hB_3
  have cX_3_0 : _ = some (Value.bool s) := X_3.cell 0
  have cX_3_1 : _ = some (Value.slice a n c) := X_3.cell 1
  have cX_3_2 : _ = some (Value.slice b m d) := X_3.cell 2
  have Ox_3 := Ox_2.below hB_3
  have Px_3 := Px_2.below hB_3
  have hbel_3 := hbel_2.next hB_3
  have hsz_3 := hB_3.size
  clear hB_3
  have Q_3 := hbx
  clear hbx hbB
  have cQ_3_0 : _ = some (Value.bool (decide (q.num < 0))) := Q_3.cell 0
  have fQ_3_0 := Q_3.free 0
  have cQ_3_1 : _ = some (Value.slice xa xn xc) := Q_3.cell 1
  have fQ_3_1 := Q_3.free 1
  have cQ_3_2 : _ = some (Value.slice xb xm xd) := Q_3.cell 2
  have fQ_3_2 := Q_3.free 2
  go_wp2_with fail
  clear X_2 cX_2_0 cX_2_1 cX_2_2 Ox_2 Px_2 hbel_2
  generalize (w2.alloc (.cells #[Value.bool (decide (q.num < 0)), Value.slice xa xn xc, Value.slice xb xm xd] 29)) = v3 at *
  go_wp2_with fail
  refine (HPd.out _ (Ox_3.rdQ Px_3 hqs)).mono ?_
  rintro e w4 ⟨rfl, hB⟩
  have hB_4 : Below v3.heap.size v3 w4 := (bl.next hB)
  have X_4 := X_3.next hB_4
  have cX_4_0 : _ = some (Value.bool s) := X_4.cell 0
  have cX_4_1 : _ = some (Value.slice a n c) := X_4.cell 1
  have cX_4_2 : _ = some (Value.slice b m d) := X_4.cell 2
  have Q_4 := Q_3.next hB_4
  have cQ_4_0 : _ = some (Value.bool (decide (q.num < 0))) := Q_4.cell 0
  have fQ_4_0 := Q_4.free 0
  have cQ_4_1 : _ = some (Value.slice xa xn xc) := Q_4.cell 1
  have fQ_4_1 := Q_4.free 1
  have cQ_4_2 : _ = some (Value.slice xb xm xd) := Q_4.cell 2
  have fQ_4_2 := Q_4.free 2
  have Ox_4 := Ox_3.below hB_4
  have Px_4 := Px_3.below hB_4
  have hbel_4 := hbel_3.next hB_4
  have hsz_4 := hB_4.size
  clear X_3 cX_3_0 cX_3_1 cX_3_2 Q_3 cQ_3_0 fQ_3_0 cQ_3_1 fQ_3_1 cQ_3_2 fQ_3_2 Ox_3 Px_3 hbel_3 hB_4
  try clear hB
  go_wp2_with fail
  refine (qsign (Ox_4.rdQ Px_4 hqs) (by omega)).mono ?_
  rintro e w5 ⟨rfl, hB⟩
  have hB_5 : Below w4.heap.size w4 w5 := (bl.next hB)
  have X_5 := X_4.next hB_5
  have cX_5_0 : _ = some (Value.bool s) := X_5.cell 0
  have cX_5_1 : _ = some (Value.slice a n c) := X_5.cell 1
  have cX_5_2 : _ = some (Value.slice b m d) := X_5.cell 2
  have Q_5 := Q_4.next hB_5
  have cQ_5_0 : _ = some (Value.bool (decide (q.num < 0))) := Q_5.cell 0
  have fQ_5_0 := Q_5.free 0
  have cQ_5_1 : _ = some (Value.slice xa xn xc) := Q_5.cell 1
  have fQ_5_1 := Q_5.free 1
  have cQ_5_2 : _ = some (Value.slice xb xm xd) := Q_5.cell 2
  have fQ_5_2 := Q_5.free 2
  have Ox_5 := Ox_4.below hB_5
  have Px_5 := Px_4.below hB_5
  have hbel_5 := hbel_4.next hB_5
  have hsz_5 := hB_5.size
  clear X_4 cX_4_0 cX_4_1 cX_4_2 Q_4 cQ_4_0 fQ_4_0 cQ_4_1 fQ_4_1 cQ_4_2 fQ_4_2 Ox_4 Px_4 hbel_4 hB_5
  try clear hB
  go_wp2_with fail
  refine (qneg (Ox_5.rdQ Px_5 hqs) (by omega)).mono ?_
  rw [hyh.out]
  rintro e w6 ⟨ya, yn, yc, yb, ym, yd, rfl, hO, hO', hDy, hB⟩
  have hB_6 : Below w5.heap.size w5 w6 := (bl.next hB)
  have X_6 := X_5.next hB_6
  have cX_6_0 : _ = some (Value.bool s) := X_6.cell 0
  have cX_6_1 : _ = some (Value.slice a n c) := X_6.cell 1
  have cX_6_2 : _ = some (Value.slice b m d) := X_6.cell 2
  have Q_6 := Q_5.next hB_6
  have cQ_6_0 : _ = some (Value.bool (decide (q.num < 0))) := Q_6.cell 0
  have fQ_6_0 := Q_6.free 0
  have cQ_6_1 : _ = some (Value.slice xa xn xc) := Q_6.cell 1
  have fQ_6_1 := Q_6.free 1
  have cQ_6_2 : _ = some (Value.slice xb xm xd) := Q_6.cell 2
  have fQ_6_2 := Q_6.free 2
  have Ox_6 := Ox_5.below hB_6
  have Px_6 := Px_5.below hB_6
  have hbel_6 := hbel_5.next hB_6
  have hsz_6 := hB_6.size
  clear X_5 cX_5_0 cX_5_1 cX_5_2 Q_5 cQ_5_0 fQ_5_0 cQ_5_1 fQ_5_1 cQ_5_2 fQ_5_2 Ox_5 Px_5 hbel_5 hB_6
  have Oy_6 := hO
  have ltOy := hO.ltB
  have Py_6 := hO'
  have ltPy := hO'.ltB
  clear hO hO'
  try clear hB
  have hkp := kp_set3 w6 (w2.heap.size) (Value.bool (decide (y.num < 0))) (Value.slice ya yn yc) (Value.slice yb ym yd)
  have Q_7 := (show Blk _ _ #[Value.bool (decide (y.num < 0)), Value.slice ya yn yc, Value.slice yb ym yd] from (((Q_6).setCell (i := 0) (v := Value.bool (decide (y.num < 0))) (by simp)).setCell (i := 1) (v := Value.slice ya yn yc) (by simp)).setCell (i := 2) (v := Value.slice yb ym yd) (by simp))
  have X_7 := X_6.set3 (show w.heap.size ≠ w2.heap.size by omega) (Value.bool (decide (y.num < 0))) (Value.slice ya yn yc) (Value.slice yb ym yd)
  have Oy_7 := Oy_6.kp hkp (fun g e => by have := (Oy_6.lt' _ e).1; show ¬ (g = _); omega)
  have Py_7 := Py_6.kp hkp (fun g e => by have := (Py_6.lt' _ e).1; show ¬ (g = _); omega)
  have hbel_7 := Below.set3 hbel_6 (show w.heap.size ≤ w2.heap.size by omega) (Value.bool (decide (y.num < 0))) (Value.slice ya yn yc) (Value.slice yb ym yd)
  have hsz_7 := hkp.size
  have cX_7_0 : _ = some (Value.bool s) := X_7.cell 0
  have cX_7_1 : _ = some (Value.slice a n c) := X_7.cell 1
  have cX_7_2 : _ = some (Value.slice b m d) := X_7.cell 2
  have cQ_7_0 : _ = some (Value.bool (decide (y.num < 0))) := Q_7.cell 0
  have fQ_7_0 := Q_7.free 0
  have cQ_7_1 : _ = some (Value.slice ya yn yc) := Q_7.cell 1
  have fQ_7_1 := Q_7.free 1
  have cQ_7_2 : _ = some (Value.slice yb ym yd) := Q_7.cell 2
  have fQ_7_2 := Q_7.free 2
  go_wp2_with fail
  clear X_6 Q_6 cX_6_0 cX_6_1 cX_6_2 cQ_6_0 fQ_6_0 cQ_6_1 fQ_6_1 cQ_6_2 fQ_6_2 Ox_6 Px_6 Oy_6 Py_6 hbel_6 hkp
  generalize (((w6.setCell ⟨w2.heap.size, 0, none⟩ (Value.bool (decide (y.num < 0)))).setCell ⟨w2.heap.size, 1, none⟩ (Value.slice ya yn yc)).setCell ⟨w2.heap.size, 2, none⟩ (Value.slice yb ym yd)) = v7 at *
  go_wp2_with fail
  refine (qfloor (Oy_7.rdQ Py_7 hys) (by omega)).mono ?_
  rw [hflh.out]
  rintro e w8 ⟨za, zn, zc, rfl, hO, hB⟩
  have hB_8 : Below v7.heap.size v7 w8 := (bl.next hB)
  have X_8 := X_7.next hB_8
  have cX_8_0 : _ = some (Value.bool s) := X_8.cell 0
  have cX_8_1 : _ = some (Value.slice a n c) := X_8.cell 1
  have cX_8_2 : _ = some (Value.slice b m d) := X_8.cell 2
  have Q_8 := Q_7.next hB_8
  have cQ_8_0 : _ = some (Value.bool (decide (y.num < 0))) := Q_8.cell 0
  have fQ_8_0 := Q_8.free 0
  have cQ_8_1 : _ = some (Value.slice ya yn yc) := Q_8.cell 1
  have fQ_8_1 := Q_8.free 1
  have cQ_8_2 : _ = some (Value.slice yb ym yd) := Q_8.cell 2
  have fQ_8_2 := Q_8.free 2
  have Oy_8 := Oy_7.below hB_8
  have Py_8 := Py_7.below hB_8
  have hbel_8 := hbel_7.next hB_8
  have hsz_8 := hB_8.size
  clear X_7 cX_7_0 cX_7_1 cX_7_2 Q_7 cQ_7_0 fQ_7_0 cQ_7_1 fQ_7_1 cQ_7_2 fQ_7_2 Oy_7 Py_7 hbel_7 hB_8
  have Oz_8 := hO
  have ltOz := hO.ltB
  clear hO
  try clear hB
  rw [Int.natAbs_natCast] at Oz_8
  have hzd : decide ((zN : Int) < 0) = false := by simp
  rw [hzd]
  clear hzd
  have hbx := blk_new w8 #[Value.bool false, Value.slice za zn zc] 27
  have hbB := (Below.refl w8.heap.size w8).alloc (Nat.le_refl _) (.cells #[Value.bool false, Value.slice za zn zc] 27)
  have hltZ := hbx.lt
  have hB_9 : Below w8.heap.size w8 (w8.alloc (.cells #[Value.bool false, Value.slice za zn zc] 27)) := hbB
  have X_9 := X_8.next hB_9
  have cX_9_0 : _ = some (Value.bool s) := X_9.cell 0
  have cX_9_1 : _ = some (Value.slice a n c) := X_9.cell 1
  have cX_9_2 : _ = some (Value.slice b m d) := X_9.cell 2
  have Q_9 := Q_8.next hB_9
  have cQ_9_0 : _ = some (Value.bool (decide (y.num < 0))) := Q_9.cell 0
  have fQ_9_0 := Q_9.free 0
  have cQ_9_1 : _ = some (Value.slice ya yn yc) := Q_9.cell 1
  have fQ_9_1 := Q_9.free 1
  have cQ_9_2 : _ = some (Value.slice yb ym yd) := Q_9.cell 2
  have fQ_9_2 := Q_9.free 2
  have Oy_9 := Oy_8.below hB_9
  have Py_9 := Py_8.below hB_9
  have Oz_9 := Oz_8.below hB_9
  have hbel_9 := hbel_8.next hB_9
  have hsz_9 := hB_9.size
  clear hB_9
  have Z_9 := hbx
  clear hbx hbB
  have cZ_9_0 : _ = some (Value.bool false) := Z_9.cell 0
  have cZ_9_1 : _ = some (Value.slice za zn zc) := Z_9.cell 1
  have hz9 := hid (show (w8.alloc (.cells #[Value.bool false, Value.slice za zn zc] 27)).heap.size = w8.heap.size + 1 from by simp)
  go_wp2_with fail
  clear X_8 cX_8_0 cX_8_1 cX_8_2 Q_8 cQ_8_0 fQ_8_0 cQ_8_1 fQ_8_1 cQ_8_2 fQ_8_2 Oy_8 Py_8 Oz_8 hbel_8
  generalize (w8.alloc (.cells #[Value.bool false, Value.slice za zn zc] 27)) = v9 at *
  have hbx := blk_new v9 #[Value.int .u32 1] 39
  have hbB := (Below.refl v9.heap.size v9).alloc (Nat.le_refl _) (.cells #[Value.int .u32 1] 39)
  have hltONA := hbx.lt
  have hB_10 : Below v9.heap.size v9 (v9.alloc (.cells #[Value.int .u32 1] 39)) := hbB
  have X_10 := X_9.next hB_10
  have cX_10_0 : _ = some (Value.bool s) := X_10.cell 0
  have cX_10_1 : _ = some (Value.slice a n c) := X_10.cell 1
  have cX_10_2 : _ = some (Value.slice b m d) := X_10.cell 2
  have Q_10 := Q_9.next hB_10
  have cQ_10_0 : _ = some (Value.bool (decide (y.num < 0))) := Q_10.cell 0
  have fQ_10_0 := Q_10.free 0
  have cQ_10_1 : _ = some (Value.slice ya yn yc) := Q_10.cell 1
  have fQ_10_1 := Q_10.free 1
  have cQ_10_2 : _ = some (Value.slice yb ym yd) := Q_10.cell 2
  have fQ_10_2 := Q_10.free 2
  have Z_10 := Z_9.next hB_10
  have cZ_10_0 : _ = some (Value.bool false) := Z_10.cell 0
  have cZ_10_1 : _ = some (Value.slice za zn zc) := Z_10.cell 1
  have Oy_10 := Oy_9.below hB_10
  have Py_10 := Py_9.below hB_10
  have Oz_10 := Oz_9.below hB_10
  have hbel_10 := hbel_9.next hB_10
  have hsz_10 := hB_10.size
  clear hB_10
  have ONA_10 := hbx
  clear hbx hbB
  have cONA_10_0 : _ = some (Value.int .u32 1) := ONA_10.cell 0
  go_wp2_with fail
  clear X_9 cX_9_0 cX_9_1 cX_9_2 Q_9 cQ_9_0 fQ_9_0 cQ_9_1 fQ_9_1 cQ_9_2 fQ_9_2 Z_9 cZ_9_0 cZ_9_1 Oy_9 Py_9 Oz_9 hbel_9
  generalize (v9.alloc (.cells #[Value.int .u32 1] 39)) = v10 at *
  rw [← hz9.out]
  have RZ_10 : RdQ 20 v10 false za zn zc (some ⟨v9.heap.size, 0, none⟩) 1 1 (((zN : Nat) : Int) : Rat) := ⟨zN, 1, Oz_10.rdN hzs, (rdN_blk rfl (by decide) ONA_10).mono (by omega), by unfold qv; rw [und_of (by decide)]; exact Rat.mkRat_one _⟩
  go_wp2_with fail
  refine (qsub (Oy_10.rdQ Py_10 hys) (by omega) RZ_10 (by omega)).mono ?_
  rw [hresh.out]
  rintro e w11 ⟨ea, en, ec, eb, em, ed, rfl, hO, hO', hDe, hB⟩
  have hB_11 : Below v10.heap.size v10 w11 := (bl.next hB)
  have X_11 := X_10.next hB_11
  have cX_11_0 : _ = some (Value.bool s) := X_11.cell 0
  have cX_11_1 : _ = some (Value.slice a n c) := X_11.cell 1
  have cX_11_2 : _ = some (Value.slice b m d) := X_11.cell 2
  have Q_11 := Q_10.next hB_11
  have cQ_11_0 : _ = some (Value.bool (decide (y.num < 0))) := Q_11.cell 0
  have fQ_11_0 := Q_11.free 0
  have cQ_11_1 : _ = some (Value.slice ya yn yc) := Q_11.cell 1
  have fQ_11_1 := Q_11.free 1
  have cQ_11_2 : _ = some (Value.slice yb ym yd) := Q_11.cell 2
  have fQ_11_2 := Q_11.free 2
  have Z_11 := Z_10.next hB_11
  have cZ_11_0 : _ = some (Value.bool false) := Z_11.cell 0
  have cZ_11_1 : _ = some (Value.slice za zn zc) := Z_11.cell 1
  have ONA_11 := ONA_10.next hB_11
  have cONA_11_0 : _ = some (Value.int .u32 1) := ONA_11.cell 0
  have Oy_11 := Oy_10.below hB_11
  have Py_11 := Py_10.below hB_11
  have Oz_11 := Oz_10.below hB_11
  have RZ_11 := RZ_10.below hB_11
  have hbel_11 := hbel_10.next hB_11
  have hsz_11 := hB_11.size
  clear X_10 cX_10_0 cX_10_1 cX_10_2 Q_10 cQ_10_0 fQ_10_0 cQ_10_1 fQ_10_1 cQ_10_2 fQ_10_2 Z_10 cZ_10_0 cZ_10_1 ONA_10 cONA_10_0 Oy_10 Py_10 Oz_10 RZ_10 hbel_10 hB_11
  have Oe_11 := hO
  have ltOe := hO.ltB
  have Pe_11 := hO'
  have ltPe := hO'.ltB
  clear hO hO'
  try clear hB
  clear RZ_11
  have hbx := blk_new w11 #[Value.bool (decide (er.num < 0)), Value.slice ea en ec, Value.slice eb em ed] 29
  have hbB := (Below.refl w11.heap.size w11).alloc (Nat.le_refl _) (.cells #[Value.bool (decide (er.num < 0)), Value.slice ea en ec, Value.slice eb em ed] 29)
  have hltE := hbx.lt
  have hB_12 : Below w11.heap.size w11 (w11.alloc (.cells #[Value.bool (decide (er.num < 0)), Value.slice ea en ec, Value.slice eb em ed] 29)) := hbB
  have X_12 := X_11.next hB_12
  have cX_12_0 : _ = some (Value.bool s) := X_12.cell 0
  have cX_12_1 : _ = some (Value.slice a n c) := X_12.cell 1
  have cX_12_2 : _ = some (Value.slice b m d) := X_12.cell 2
  have Q_12 := Q_11.next hB_12
  have cQ_12_0 : _ = some (Value.bool (decide (y.num < 0))) := Q_12.cell 0
  have fQ_12_0 := Q_12.free 0
  have cQ_12_1 : _ = some (Value.slice ya yn yc) := Q_12.cell 1
  have fQ_12_1 := Q_12.free 1
  have cQ_12_2 : _ = some (Value.slice yb ym yd) := Q_12.cell 2
  have fQ_12_2 := Q_12.free 2
  have Z_12 := Z_11.next hB_12
  have cZ_12_0 : _ = some (Value.bool false) := Z_12.cell 0
  have cZ_12_1 : _ = some (Value.slice za zn zc) := Z_12.cell 1
  have ONA_12 := ONA_11.next hB_12
  have cONA_12_0 : _ = some (Value.int .u32 1) := ONA_12.cell 0
  have Oy_12 := Oy_11.below hB_12
  have Py_12 := Py_11.below hB_12
  have Oz_12 := Oz_11.below hB_12
  have Oe_12 := Oe_11.below hB_12
  have Pe_12 := Pe_11.below hB_12
  have hbel_12 := hbel_11.next hB_12
  have hsz_12 := hB_12.size
  clear hB_12
  have E_12 := hbx
  clear hbx hbB
  have cE_12_0 : _ = some (Value.bool (decide (er.num < 0))) := E_12.cell 0
  have cE_12_1 : _ = some (Value.slice ea en ec) := E_12.cell 1
  have cE_12_2 : _ = some (Value.slice eb em ed) := E_12.cell 2
  go_wp2_with fail
  clear X_11 cX_11_0 cX_11_1 cX_11_2 Q_11 cQ_11_0 fQ_11_0 cQ_11_1 fQ_11_1 cQ_11_2 fQ_11_2 Z_11 cZ_11_0 cZ_11_1 ONA_11 cONA_11_0 Oy_11 Py_11 Oz_11 Oe_11 Pe_11 hbel_11
  generalize (w11.alloc (.cells #[Value.bool (decide (er.num < 0)), Value.slice ea en ec, Value.slice eb em ed] 29)) = v12 at *
  go_wp2_with fail
  refine (HNT.out _).mono ?_
  rintro e w13 ⟨ta, tn, tc, rfl, hO, hB⟩
  have hB_13 : Below v12.heap.size v12 w13 := (bl.next hB)
  have X_13 := X_12.next hB_13
  have cX_13_0 : _ = some (Value.bool s) := X_13.cell 0
  have cX_13_1 : _ = some (Value.slice a n c) := X_13.cell 1
  have cX_13_2 : _ = some (Value.slice b m d) := X_13.cell 2
  have Q_13 := Q_12.next hB_13
  have cQ_13_0 : _ = some (Value.bool (decide (y.num < 0))) := Q_13.cell 0
  have fQ_13_0 := Q_13.free 0
  have cQ_13_1 : _ = some (Value.slice ya yn yc) := Q_13.cell 1
  have fQ_13_1 := Q_13.free 1
  have cQ_13_2 : _ = some (Value.slice yb ym yd) := Q_13.cell 2
  have fQ_13_2 := Q_13.free 2
  have Z_13 := Z_12.next hB_13
  have cZ_13_0 : _ = some (Value.bool false) := Z_13.cell 0
  have cZ_13_1 : _ = some (Value.slice za zn zc) := Z_13.cell 1
  have ONA_13 := ONA_12.next hB_13
  have cONA_13_0 : _ = some (Value.int .u32 1) := ONA_13.cell 0
  have E_13 := E_12.next hB_13
  have cE_13_0 : _ = some (Value.bool (decide (er.num < 0))) := E_13.cell 0
  have cE_13_1 : _ = some (Value.slice ea en ec) := E_13.cell 1
  have cE_13_2 : _ = some (Value.slice eb em ed) := E_13.cell 2
  have Oy_13 := Oy_12.below hB_13
  have Py_13 := Py_12.below hB_13
  have Oz_13 := Oz_12.below hB_13
  have Oe_13 := Oe_12.below hB_13
  have Pe_13 := Pe_12.below hB_13
  have hbel_13 := hbel_12.next hB_13
  have hsz_13 := hB_13.size
  clear X_12 cX_12_0 cX_12_1 cX_12_2 Q_12 cQ_12_0 fQ_12_0 cQ_12_1 fQ_12_1 cQ_12_2 fQ_12_2 Z_12 cZ_12_0 cZ_12_1 ONA_12 cONA_12_0 E_12 cE_12_0 cE_12_1 cE_12_2 Oy_12 Py_12 Oz_12 Oe_12 Pe_12 hbel_12 hB_13
  have Ot_13 := hO
  have ltOt := hO.ltB
  clear hO
  try clear hB
  have hbx := blk_new w13 #[Value.int .u32 1] 39
  have hbB := (Below.refl w13.heap.size w13).alloc (Nat.le_refl _) (.cells #[Value.int .u32 1] 39)
  have hltONB := hbx.lt
  have hB_14 : Below w13.heap.size w13 (w13.alloc (.cells #[Value.int .u32 1] 39)) := hbB
  have X_14 := X_13.next hB_14
  have cX_14_0 : _ = some (Value.bool s) := X_14.cell 0
  have cX_14_1 : _ = some (Value.slice a n c) := X_14.cell 1
  have cX_14_2 : _ = some (Value.slice b m d) := X_14.cell 2
  have Q_14 := Q_13.next hB_14
  have cQ_14_0 : _ = some (Value.bool (decide (y.num < 0))) := Q_14.cell 0
  have fQ_14_0 := Q_14.free 0
  have cQ_14_1 : _ = some (Value.slice ya yn yc) := Q_14.cell 1
  have fQ_14_1 := Q_14.free 1
  have cQ_14_2 : _ = some (Value.slice yb ym yd) := Q_14.cell 2
  have fQ_14_2 := Q_14.free 2
  have Z_14 := Z_13.next hB_14
  have cZ_14_0 : _ = some (Value.bool false) := Z_14.cell 0
  have cZ_14_1 : _ = some (Value.slice za zn zc) := Z_14.cell 1
  have ONA_14 := ONA_13.next hB_14
  have cONA_14_0 : _ = some (Value.int .u32 1) := ONA_14.cell 0
  have E_14 := E_13.next hB_14
  have cE_14_0 : _ = some (Value.bool (decide (er.num < 0))) := E_14.cell 0
  have cE_14_1 : _ = some (Value.slice ea en ec) := E_14.cell 1
  have cE_14_2 : _ = some (Value.slice eb em ed) := E_14.cell 2
  have Oy_14 := Oy_13.below hB_14
  have Py_14 := Py_13.below hB_14
  have Oz_14 := Oz_13.below hB_14
  have Oe_14 := Oe_13.below hB_14
  have Pe_14 := Pe_13.below hB_14
  have Ot_14 := Ot_13.below hB_14
  have hbel_14 := hbel_13.next hB_14
  have hsz_14 := hB_14.size
  clear hB_14
  have ONB_14 := hbx
  clear hbx hbB
  have cONB_14_0 : _ = some (Value.int .u32 1) := ONB_14.cell 0
  have hz14 := hid (show (w13.alloc (.cells #[Value.int .u32 1] 39)).heap.size = w13.heap.size + 1 from by simp)
  go_upto_region 30 with fail
  clear X_13 cX_13_0 cX_13_1 cX_13_2 Q_13 cQ_13_0 fQ_13_0 cQ_13_1 fQ_13_1 cQ_13_2 fQ_13_2 Z_13 cZ_13_0 cZ_13_1 ONA_13 cONA_13_0 E_13 cE_13_0 cE_13_1 cE_13_2 Oy_13 Py_13 Oz_13 Oe_13 Pe_13 Ot_13 hbel_13
  generalize (w13.alloc (.cells #[Value.int .u32 1] 39)) = v14 at *
  have hbx := blk_new v14 #[Value.bool false, Value.slice ta tn tc, Value.slice (some ⟨w13.heap.size, 0, none⟩) 1 1] 29
  have hbB := (Below.refl v14.heap.size v14).alloc (Nat.le_refl _) (.cells #[Value.bool false, Value.slice ta tn tc, Value.slice (some ⟨w13.heap.size, 0, none⟩) 1 1] 29)
  have hltSUM := hbx.lt
  have hB_15 : Below v14.heap.size v14 (v14.alloc (.cells #[Value.bool false, Value.slice ta tn tc, Value.slice (some ⟨w13.heap.size, 0, none⟩) 1 1] 29)) := hbB
  have X_15 := X_14.next hB_15
  have cX_15_0 : _ = some (Value.bool s) := X_15.cell 0
  have cX_15_1 : _ = some (Value.slice a n c) := X_15.cell 1
  have cX_15_2 : _ = some (Value.slice b m d) := X_15.cell 2
  have Q_15 := Q_14.next hB_15
  have cQ_15_0 : _ = some (Value.bool (decide (y.num < 0))) := Q_15.cell 0
  have fQ_15_0 := Q_15.free 0
  have cQ_15_1 : _ = some (Value.slice ya yn yc) := Q_15.cell 1
  have fQ_15_1 := Q_15.free 1
  have cQ_15_2 : _ = some (Value.slice yb ym yd) := Q_15.cell 2
  have fQ_15_2 := Q_15.free 2
  have Z_15 := Z_14.next hB_15
  have cZ_15_0 : _ = some (Value.bool false) := Z_15.cell 0
  have cZ_15_1 : _ = some (Value.slice za zn zc) := Z_15.cell 1
  have ONA_15 := ONA_14.next hB_15
  have cONA_15_0 : _ = some (Value.int .u32 1) := ONA_15.cell 0
  have E_15 := E_14.next hB_15
  have cE_15_0 : _ = some (Value.bool (decide (er.num < 0))) := E_15.cell 0
  have cE_15_1 : _ = some (Value.slice ea en ec) := E_15.cell 1
  have cE_15_2 : _ = some (Value.slice eb em ed) := E_15.cell 2
  have ONB_15 := ONB_14.next hB_15
  have cONB_15_0 : _ = some (Value.int .u32 1) := ONB_15.cell 0
  have Oy_15 := Oy_14.below hB_15
  have Py_15 := Py_14.below hB_15
  have Oz_15 := Oz_14.below hB_15
  have Oe_15 := Oe_14.below hB_15
  have Pe_15 := Pe_14.below hB_15
  have Ot_15 := Ot_14.below hB_15
  have hbel_15 := hbel_14.next hB_15
  have hsz_15 := hB_15.size
  clear hB_15
  have SUM_15 := hbx
  clear hbx hbB
  have cSUM_15_0 : _ = some (Value.bool false) := SUM_15.cell 0
  have fSUM_15_0 := SUM_15.free 0
  have cSUM_15_1 : _ = some (Value.slice ta tn tc) := SUM_15.cell 1
  have fSUM_15_1 := SUM_15.free 1
  have cSUM_15_2 : _ = some (Value.slice (some ⟨w13.heap.size, 0, none⟩) 1 1) := SUM_15.cell 2
  have fSUM_15_2 := SUM_15.free 2
  skip
  clear X_14 cX_14_0 cX_14_1 cX_14_2 Q_14 cQ_14_0 fQ_14_0 cQ_14_1 fQ_14_1 cQ_14_2 fQ_14_2 Z_14 cZ_14_0 cZ_14_1 ONA_14 cONA_14_0 E_14 cE_14_0 cE_14_1 cE_14_2 ONB_14 cONB_14_0 Oy_14 Py_14 Oz_14 Oe_14 Pe_14 Ot_14 hbel_14
  generalize (v14.alloc (.cells #[Value.bool false, Value.slice ta tn tc, Value.slice (some ⟨w13.heap.size, 0, none⟩) 1 1] 29)) = v15 at *
  rw [← hz14.out]
  have hrsq : QS (mkRat (pT : Int) 1) 301 := QS.mk (by decide) (by rw [Int.natAbs_natCast]; exact sT) (sz_one (by omega))
  have RS_15 : RdQ 301 v15 false ta tn tc (some ⟨w13.heap.size, 0, none⟩) 1 1 (mkRat (pT : Int) 1) := ⟨pT, 1, Ot_15.rdN sT, (rdN_blk rfl (by decide) ONB_15).mono (by omega), rfl⟩
  go_cut [153] (fun s153 wx => s153 = .bool false ∧ wx = v15)
  case first =>
    by_cases hT0 : 0 < T.size
    · obtain ⟨mx, hmx⟩ : ∃ m, T.size - 1 = m := ⟨_, rfl⟩
      have hmlt : mx < T.size := by omega
      have hxl := by_get T mx hmlt
      have hls := hlast.out hT0
      rw [hmx] at hls
      obtain ⟨cl, hcl⟩ : ∃ x, T[mx].toNat = x := ⟨_, rfl⟩
      rw [hxl, hcl] at hls
      have hmi : IntKind.i64.wrap ((T.size : Int) - 1) = (mx : Int) := by rw [IntKind.wrap_i64]; omega
      have hmi2 : (T.size : Int) - 1 = (mx : Int) := by omega
      have hmw : IntKind.i64.wrap (mx : Int) = (mx : Int) := by rw [IntKind.wrap_i64]; omega
      have hd : ((cl : Int) == 48) = false := by simp; omega
      clear hls hxl
      go_wp2_with fail
      go_meet
      exact ⟨rfl, rfl⟩
    · have hT1 : decide (0 < T.size) = false := decide_eq_false hT0
      have hT2 : decide ((0 : Int) < (T.size : Int)) = false := decide_eq_false (by omega)
      clear hT0
      go_wp2_with fail
      go_meet
      exact ⟨rfl, rfl⟩
  case rest =>
    obtain ⟨rfl, rfl⟩ := hcut
    have hT300 : (T.size : Int) ≤ 300 := by have h : (⟨#[]⟩ : ByteArray).size = 0 := rfl; omega
    have hTw : IntKind.i64.wrap (T.size : Int) = (T.size : Int) := by rw [IntKind.wrap_i64]; omega
    go_upto_region 32 with fail
    go_wp2_with fail
    go_region_held3 (fun w' => w'.cell? ⟨v14.heap.size, 0, none⟩ = some (Value.bool false) ∧ w'.cell? ⟨v14.heap.size, 1, none⟩ = some (Value.slice ta tn tc) ∧ w'.cell? ⟨v14.heap.size, 2, none⟩ = some (Value.slice (some ⟨w13.heap.size, 0, none⟩) 1 1) ∧ w'.cell? ⟨w11.heap.size, 0, none⟩ = some (Value.bool (decide (er.num < 0))) ∧ w'.cell? ⟨w11.heap.size, 1, none⟩ = some (Value.slice ea en ec) ∧ w'.cell? ⟨w11.heap.size, 2, none⟩ = some (Value.slice eb em ed))
      (first | exact ⟨cSUM_15_0, cSUM_15_1, cSUM_15_2, cE_15_0, cE_15_1, cE_15_2⟩ | exact ⟨cSUM_16_0, cSUM_16_1, cSUM_16_2, cE_16_0, cE_16_1, cE_16_2⟩ | exact ⟨cSUM_17_0, cSUM_17_1, cSUM_17_2, cE_17_0, cE_17_1, cE_17_2⟩ | exact ⟨cSUM_18_0, cSUM_18_1, cSUM_18_2, cE_18_0, cE_18_1, cE_18_2⟩ | go_keep)
      (first
        | (go_at_call 65; ((with_reducible refine (HOT.out _).mono ?_); (rintro e w16 ⟨pa, pc, pb, pm, pd, rfl, hR1, hR2, hO, hB⟩; have hB_16 : Below wc.heap.size wc w16 := (bl.next hB); have X_16 := X_15.next hB_16; have cX_16_0 : _ = some (Value.bool s) := X_16.cell 0; have cX_16_1 : _ = some (Value.slice a n c) := X_16.cell 1; have cX_16_2 : _ = some (Value.slice b m d) := X_16.cell 2; have Q_16 := Q_15.next hB_16; have cQ_16_0 : _ = some (Value.bool (decide (y.num < 0))) := Q_16.cell 0; have fQ_16_0 := Q_16.free 0; have cQ_16_1 : _ = some (Value.slice ya yn yc) := Q_16.cell 1; have fQ_16_1 := Q_16.free 1; have cQ_16_2 : _ = some (Value.slice yb ym yd) := Q_16.cell 2; have fQ_16_2 := Q_16.free 2; have Z_16 := Z_15.next hB_16; have cZ_16_0 : _ = some (Value.bool false) := Z_16.cell 0; have cZ_16_1 : _ = some (Value.slice za zn zc) := Z_16.cell 1; have ONA_16 := ONA_15.next hB_16; have cONA_16_0 : _ = some (Value.int .u32 1) := ONA_16.cell 0; have E_16 := E_15.next hB_16; have cE_16_0 : _ = some (Value.bool (decide (er.num < 0))) := E_16.cell 0; have cE_16_1 : _ = some (Value.slice ea en ec) := E_16.cell 1; have cE_16_2 : _ = some (Value.slice eb em ed) := E_16.cell 2; have ONB_16 := ONB_15.next hB_16; have cONB_16_0 : _ = some (Value.int .u32 1) := ONB_16.cell 0; have SUM_16 := SUM_15.next hB_16; have cSUM_16_0 : _ = some (Value.bool false) := SUM_16.cell 0; have fSUM_16_0 := SUM_16.free 0; have cSUM_16_1 : _ = some (Value.slice ta tn tc) := SUM_16.cell 1; have fSUM_16_1 := SUM_16.free 1; have cSUM_16_2 : _ = some (Value.slice (some ⟨w13.heap.size, 0, none⟩) 1 1) := SUM_16.cell 2; have fSUM_16_2 := SUM_16.free 2; have Oy_16 := Oy_15.below hB_16; have Py_16 := Py_15.below hB_16; have Oz_16 := Oz_15.below hB_16; have Oe_16 := Oe_15.below hB_16; have Pe_16 := Pe_15.below hB_16; have Ot_16 := Ot_15.below hB_16; have RS_16 := RS_15.below hB_16; have hbel_16 := hbel_15.next hB_16; have hsz_16 := hB_16.size; clear X_15 cX_15_0 cX_15_1 cX_15_2 Q_15 cQ_15_0 fQ_15_0 cQ_15_1 fQ_15_1 cQ_15_2 fQ_15_2 Z_15 cZ_15_0 cZ_15_1 ONA_15 cONA_15_0 E_15 cE_15_0 cE_15_1 cE_15_2 ONB_15 cONB_15_0 SUM_15 cSUM_15_0 fSUM_15_0 cSUM_15_1 fSUM_15_1 cSUM_15_2 fSUM_15_2 Oy_15 Py_15 Oz_15 Oe_15 Pe_15 Ot_15 RS_15 hbel_15 hB_16; have T1_16 := hO; have U1_16 := hR1; try clear hB)))
        | (go_at_call 36; ((with_reducible refine (qmul ((RS_16.below bl))  (by omega) (rdq_ov (U1_16.below bl) (T1_16.below bl) sPT hPTn) (by omega)).mono ?_); (rw [heqh.out]; rintro e w17 ⟨ma, mn, mc, mb, mm, md, rfl, hO, hO', hDm, hB⟩; have hB_17 : Below w16.heap.size w16 w17 := (bl.next hB); have X_17 := X_16.next hB_17; have cX_17_0 : _ = some (Value.bool s) := X_17.cell 0; have cX_17_1 : _ = some (Value.slice a n c) := X_17.cell 1; have cX_17_2 : _ = some (Value.slice b m d) := X_17.cell 2; have Q_17 := Q_16.next hB_17; have cQ_17_0 : _ = some (Value.bool (decide (y.num < 0))) := Q_17.cell 0; have fQ_17_0 := Q_17.free 0; have cQ_17_1 : _ = some (Value.slice ya yn yc) := Q_17.cell 1; have fQ_17_1 := Q_17.free 1; have cQ_17_2 : _ = some (Value.slice yb ym yd) := Q_17.cell 2; have fQ_17_2 := Q_17.free 2; have Z_17 := Z_16.next hB_17; have cZ_17_0 : _ = some (Value.bool false) := Z_17.cell 0; have cZ_17_1 : _ = some (Value.slice za zn zc) := Z_17.cell 1; have ONA_17 := ONA_16.next hB_17; have cONA_17_0 : _ = some (Value.int .u32 1) := ONA_17.cell 0; have E_17 := E_16.next hB_17; have cE_17_0 : _ = some (Value.bool (decide (er.num < 0))) := E_17.cell 0; have cE_17_1 : _ = some (Value.slice ea en ec) := E_17.cell 1; have cE_17_2 : _ = some (Value.slice eb em ed) := E_17.cell 2; have ONB_17 := ONB_16.next hB_17; have cONB_17_0 : _ = some (Value.int .u32 1) := ONB_17.cell 0; have SUM_17 := SUM_16.next hB_17; have cSUM_17_0 : _ = some (Value.bool false) := SUM_17.cell 0; have fSUM_17_0 := SUM_17.free 0; have cSUM_17_1 : _ = some (Value.slice ta tn tc) := SUM_17.cell 1; have fSUM_17_1 := SUM_17.free 1; have cSUM_17_2 : _ = some (Value.slice (some ⟨w13.heap.size, 0, none⟩) 1 1) := SUM_17.cell 2; have fSUM_17_2 := SUM_17.free 2; have Oy_17 := Oy_16.below hB_17; have Py_17 := Py_16.below hB_17; have Oz_17 := Oz_16.below hB_17; have Oe_17 := Oe_16.below hB_17; have Pe_17 := Pe_16.below hB_17; have Ot_17 := Ot_16.below hB_17; have RS_17 := RS_16.below hB_17; have T1_17 := T1_16.below hB_17; have U1_17 := U1_16.below hB_17; have hbel_17 := hbel_16.next hB_17; have hsz_17 := hB_17.size; clear X_16 cX_16_0 cX_16_1 cX_16_2 Q_16 cQ_16_0 fQ_16_0 cQ_16_1 fQ_16_1 cQ_16_2 fQ_16_2 Z_16 cZ_16_0 cZ_16_1 ONA_16 cONA_16_0 E_16 cE_16_0 cE_16_1 cE_16_2 ONB_16 cONB_16_0 SUM_16 cSUM_16_0 fSUM_16_0 cSUM_16_1 fSUM_16_1 cSUM_16_2 fSUM_16_2 Oy_16 Py_16 Oz_16 Oe_16 Pe_16 Ot_16 RS_16 T1_16 U1_16 hbel_16 hB_17; have Om_17 := hO; have Pm_17 := hO'; try clear hB)))
        | (go_at_call 62; ((with_reducible refine (lsame4 (((Om_17.below bl)).rdQ ((Pm_17.below bl)) hers) (by omega) (((Oe_17.below bl)).rdQ ((Pe_17.below bl)) hers) (by omega) rfl).mono ?_); (rintro e w18 ⟨rfl, hB⟩; have hB_18 : Below w17.heap.size w17 w18 := (bl.next hB); have X_18 := X_17.next hB_18; have cX_18_0 : _ = some (Value.bool s) := X_18.cell 0; have cX_18_1 : _ = some (Value.slice a n c) := X_18.cell 1; have cX_18_2 : _ = some (Value.slice b m d) := X_18.cell 2; have Q_18 := Q_17.next hB_18; have cQ_18_0 : _ = some (Value.bool (decide (y.num < 0))) := Q_18.cell 0; have fQ_18_0 := Q_18.free 0; have cQ_18_1 : _ = some (Value.slice ya yn yc) := Q_18.cell 1; have fQ_18_1 := Q_18.free 1; have cQ_18_2 : _ = some (Value.slice yb ym yd) := Q_18.cell 2; have fQ_18_2 := Q_18.free 2; have Z_18 := Z_17.next hB_18; have cZ_18_0 : _ = some (Value.bool false) := Z_18.cell 0; have cZ_18_1 : _ = some (Value.slice za zn zc) := Z_18.cell 1; have ONA_18 := ONA_17.next hB_18; have cONA_18_0 : _ = some (Value.int .u32 1) := ONA_18.cell 0; have E_18 := E_17.next hB_18; have cE_18_0 : _ = some (Value.bool (decide (er.num < 0))) := E_18.cell 0; have cE_18_1 : _ = some (Value.slice ea en ec) := E_18.cell 1; have cE_18_2 : _ = some (Value.slice eb em ed) := E_18.cell 2; have ONB_18 := ONB_17.next hB_18; have cONB_18_0 : _ = some (Value.int .u32 1) := ONB_18.cell 0; have SUM_18 := SUM_17.next hB_18; have cSUM_18_0 : _ = some (Value.bool false) := SUM_18.cell 0; have fSUM_18_0 := SUM_18.free 0; have cSUM_18_1 : _ = some (Value.slice ta tn tc) := SUM_18.cell 1; have fSUM_18_1 := SUM_18.free 1; have cSUM_18_2 : _ = some (Value.slice (some ⟨w13.heap.size, 0, none⟩) 1 1) := SUM_18.cell 2; have fSUM_18_2 := SUM_18.free 2; have Oy_18 := Oy_17.below hB_18; have Py_18 := Py_17.below hB_18; have Oz_18 := Oz_17.below hB_18; have Oe_18 := Oe_17.below hB_18; have Pe_18 := Pe_17.below hB_18; have Ot_18 := Ot_17.below hB_18; have RS_18 := RS_17.below hB_18; have T1_18 := T1_17.below hB_18; have U1_18 := U1_17.below hB_18; have Om_18 := Om_17.below hB_18; have Pm_18 := Pm_17.below hB_18; have hbel_18 := hbel_17.next hB_18; have hsz_18 := hB_18.size; clear X_17 cX_17_0 cX_17_1 cX_17_2 Q_17 cQ_17_0 fQ_17_0 cQ_17_1 fQ_17_1 cQ_17_2 fQ_17_2 Z_17 cZ_17_0 cZ_17_1 ONA_17 cONA_17_0 E_17 cE_17_0 cE_17_1 cE_17_2 ONB_17 cONB_17_0 SUM_17 cSUM_17_0 fSUM_17_0 cSUM_17_1 fSUM_17_1 cSUM_17_2 fSUM_17_2 Oy_17 Py_17 Oz_17 Oe_17 Pe_17 Ot_17 RS_17 T1_17 U1_17 Om_17 Pm_17 hbel_17 hB_18; try clear hB))))
    go_wp2
    go_ret
    exact ⟨rfl, hbel_18⟩

set_option maxRecDepth 100000 in
set_option maxHeartbeats 8000000 in
theorem drep_11 {w : World} {q : Rat} {s : Bool} {a b : Option Addr} {n c m d : Nat} (HF : Hid (∀ W, Below w.heap.size w W → Calls Try.prog 59 #[.agg #[.bool s, .slice a n c, .slice b m d]] W (fun e w' => RetQ W q e w'))) (hqs : QS q 20) (A K : Nat) (hR : PerIs q.num.natAbs q.den 300 (some (A, K))) (hneg : q < 0) (hp : A < K) :
    Calls Try.prog 14 #[.agg #[.bool s, .slice a n c, .slice b m d]] w (fun e w' => e = .returned (.bool true) ∧ Below w.heap.size w w') := by
  have hdz := q.den_nz
  have hd0 : 0 < q.den := Nat.pos_of_ne_zero hdz
  obtain ⟨hAK, hK3, hFr, hE0, hPer⟩ := per_some hR
  have HPd := hid (fun (W : World) {a' b' : Option Addr} {n' c' m' d' : Nat} (h : RdQ 20 W (decide (q.num < 0)) a' n' c' b' m' d' q) => (show Calls Try.prog 66 #[.agg #[.bool (decide (q.num < 0)), .slice a' n' c', .slice b' m' d'], .int .i64 300] W (RetSSE W (peA q.num.natAbs q.den (some (A, K))) (peB q.num.natAbs q.den (some (A, K))) 0) from dper h (by omega) 300 (by omega) hR))
  have hA := peA_by (n := q.num.natAbs) (A := A) (K := K) hd0
  have hBy := peB_by (n := q.num.natAbs) hd0 hAK
  generalize peA q.num.natAbs q.den (some (A, K)) = T at *
  generalize peB q.num.natAbs q.den (some (A, K)) = U at *
  have hTs : T.size = A := by rw [← by_len, hA, seg_len]
  have hUs : U.size = K - A := by rw [← by_len, hBy, seg_len]
  have HNT := hid (fun w => lnumber (w := w) T (by omega) (by rw [hA]; exact seg_ok hd0 0 A))
  have HNU := hid (fun w => lnumber (w := w) U (by omega) (by rw [hBy]; exact seg_ok hd0 A (K - A)))
  have sT : Sz (numD (by' T)) 301 := by rw [hA]; exact seg_sz hd0 (by omega)
  have sU : Sz (numD (by' U)) 301 := by rw [hBy]; exact seg_sz hd0 (by omega)
  have hres := floor_sub q.num.natAbs hdz
  have hfl := floor_mk (q.num.natAbs : Int) hdz
  rw [← Int.natCast_ediv] at hfl
  have hP := hPer hp
  have heq := rep_per hdz hP
  rw [← hA, ← hBy, ← hUs, ← hTs] at heq
  have hturn := hid (fun (t : Nat) (h1 : 0 < t) (h2 : t < U.size) (h3 : U.size % t = 0) => turn_by hP hBy h1 h2 h3)
  have hU0 : 0 < U.size := by omega
  have hn0 : Hid (∀ c, (c = 48 ∨ c = 57) → ¬ ∀ i, i < U.size → (by' U).getD i 0 = c) := fun c hc h => by
    have h2 : ∀ i, i < K - A → dgt q.num.natAbs q.den (A + i) + 48 = c := fun i hi => by
      rw [← seg_get hi, ← hBy]; exact h i (by omega)
    rcases hc with rfl | rfl
    · exact hP.not_nought fun i hi => by have := h2 i hi; omega
    · exact hP.not_nine hd0 fun i hi => by have := h2 i hi; omega
  have hlast : Hid (0 < T.size → (by' T).getD (T.size - 1) 0 ≠ (by' U).getD (U.size - 1) 0) := fun h => by
    have h1 := hP.ahead (show 0 < A by omega)
    rw [hA, hBy, seg_get (by omega), seg_get (by omega)]
    rw [show 0 + (T.size - 1) = A - 1 by omega, show A + (U.size - 1) = A + (K - A) - 1 by omega]
    omega
  have hTU : T.size + U.size ≤ 300 := by omega
  have hers : QS (mkRat ((q.num.natAbs % q.den : Nat) : Int) q.den) 20 := QS.mk hdz (by rw [Int.natAbs_natCast]; exact hqs.1.mono (Nat.mod_le _ _) (Nat.le_refl _)) hqs.2
  have hzs : Sz (q.num.natAbs / q.den) 20 := hqs.1.mono (Nat.div_le_self _ _) (Nat.le_refl _)
  have hy := abs_neg hneg
  rw [← hy] at hfl hres
  have hys := hqs.neg
  obtain ⟨y, hyq⟩ : ∃ y, -q = y := ⟨_, rfl⟩
  rw [hyq] at hfl hres hys
  have hyh := hid hyq
  clear hy hyq
  have hqn : decide (sgnQ q < 0) = true := by
    rcases sgnQ_cases q with ⟨h1, h2⟩ | ⟨h1, h2⟩ | ⟨h1, h2⟩ <;> rw [h2]
    · rfl
    · rw [h1] at hneg; exact absurd hneg Rat.lt_irrefl
    · exact absurd (Rat.le_of_lt h1) (Rat.not_le.2 hneg)
  generalize mkRat ((q.num.natAbs % q.den : Nat) : Int) q.den = er at *
  generalize hzN : q.num.natAbs / q.den = zN at *
  clear hzN hA hBy hR hPer hFr hE0 hneg hdz hd0 hTs hUs hK3 hAK hP
  obtain ⟨pT, hpT⟩ : ∃ p, numD (by' T) = p := ⟨_, rfl⟩
  rw [hpT] at HNT sT heq
  clear hpT
  obtain ⟨pU, hpU⟩ : ∃ p, numD (by' U) = p := ⟨_, rfl⟩
  rw [hpU] at HNU sU heq
  clear hpU
  have hflh := hid hfl
  have hresh := hid hres
  have heqh := hid heq
  clear hfl hres heq hp
  obtain ⟨PT, hPT⟩ : ∃ P, 10 ^ T.size = P := ⟨_, rfl⟩
  have HOT : Hid (∀ w, Calls Try.prog 65 #[.int .i64 (T.size : Int)] w (fun e w' => ∃ a c b m d, e = .returned (.agg #[.bool false, .slice a 1 c, .slice b m d]) ∧ RdN 1 w' a 1 c 1 ∧ LtB a w'.heap.size ∧ Own w.heap.size w' b m d (lm PT) ∧ Below w.heap.size w w')) := fun w => hPT ▸ lover T.size (by omega)
  have sPT : Sz PT 40 := by rw [← hPT]; exact (ten_sz9 _).mono (Nat.le_refl _) (by omega)
  have hPTn : PT ≠ 0 := by rw [← hPT]; exact Nat.ne_of_gt (Nat.pow_pos (by decide))
  rw [hPT] at heqh
  clear hPT
  obtain ⟨PU, hPU⟩ : ∃ P, 10 ^ U.size = P := ⟨_, rfl⟩
  have HOU : Hid (∀ w, Calls Try.prog 65 #[.int .i64 (U.size : Int)] w (fun e w' => ∃ a c b m d, e = .returned (.agg #[.bool false, .slice a 1 c, .slice b m d]) ∧ RdN 1 w' a 1 c 1 ∧ LtB a w'.heap.size ∧ Own w.heap.size w' b m d (lm PU) ∧ Below w.heap.size w w')) := fun w => hPU ▸ lover U.size (by omega)
  have sPU : Sz PU 40 := by rw [← hPU]; exact (ten_sz9 _).mono (Nat.le_refl _) (by omega)
  have hPUm : 1 < PU := by rw [← hPU]; exact Nat.lt_of_lt_of_le (by decide) (Nat.pow_le_pow_right (n := 10) (by decide) hU0)
  rw [hPU] at heqh
  clear hPU
  have hUe := be_ne (s := U) (by omega)
  have hent := ent1 w #[Value.bool s, Value.slice a n c, Value.slice b m d] 29
  go_enter Try.func14, Try.ntmps14
  go_wp2_with fail
  generalize (w.alloc (.cells #[Value.bool s, Value.slice a n c, Value.slice b m d] 29)) = W0 at hent ⊢
  obtain ⟨X_0, hbel_0, hsz_0⟩ := hent
  have cX_0_0 : _ = some (Value.bool s) := X_0.cell 0
  have cX_0_1 : _ = some (Value.slice a n c) := X_0.cell 1
  have cX_0_2 : _ = some (Value.slice b m d) := X_0.cell 2
  go_wp2_with fail
  refine (lalive).mono ?_
  rintro e w1 ⟨rfl, hB⟩
  have hB_1 : Below W0.heap.size W0 w1 := (bl.next hB)
  have X_1 := X_0.next hB_1
  have cX_1_0 : _ = some (Value.bool s) := X_1.cell 0
  have cX_1_1 : _ = some (Value.slice a n c) := X_1.cell 1
  have cX_1_2 : _ = some (Value.slice b m d) := X_1.cell 2
  have hbel_1 := hbel_0.next hB_1
  have hsz_1 := hB_1.size
  clear X_0 cX_0_0 cX_0_1 cX_0_2 hbel_0 hB_1
  try clear hB
  go_wp2_with fail
  refine (HF.out _ hbel_1).mono ?_
  rintro e w2 ⟨xa, xn, xc, xb, xm, xd, rfl, hO, hO', hDx, hB⟩
  have hB_2 : Below w1.heap.size w1 w2 := (bl.next hB)
  have X_2 := X_1.next hB_2
  have cX_2_0 : _ = some (Value.bool s) := X_2.cell 0
  have cX_2_1 : _ = some (Value.slice a n c) := X_2.cell 1
  have cX_2_2 : _ = some (Value.slice b m d) := X_2.cell 2
  have hbel_2 := hbel_1.next hB_2
  have hsz_2 := hB_2.size
  clear X_1 cX_1_0 cX_1_1 cX_1_2 hbel_1 hB_2
  have Ox_2 := hO
  have ltOx := hO.ltB
  have Px_2 := hO'
  have ltPx := hO'.ltB
  clear hO hO'
  try clear hB
  have hbx := blk_new w2 #[Value.bool (decide (q.num < 0)), Value.slice xa xn xc, Value.slice xb xm xd] 29
  have hbB := (Below.refl w2.heap.size w2).alloc (Nat.le_refl _) (.cells #[Value.bool (decide (q.num < 0)), Value.slice xa xn xc, Value.slice xb xm xd] 29)
  have hltQ := hbx.lt
  have hB_3 : Below w2.heap.size w2 (w2.alloc (.cells #[Value.bool (decide (q.num < 0)), Value.slice xa xn xc, Value.slice xb xm xd] 29)) := hbB
  have X_3 := X_2.next hB_3
  have cX_3_0 : _ = some (Value.bool s) := X_3.cell 0
  have cX_3_1 : _ = some (Value.slice a n c) := X_3.cell 1
  have cX_3_2 : _ = some (Value.slice b m d) := X_3.cell 2
  have Ox_3 := Ox_2.below hB_3
  have Px_3 := Px_2.below hB_3
  have hbel_3 := hbel_2.next hB_3
  have hsz_3 := hB_3.size
  clear hB_3
  have Q_3 := hbx
  clear hbx hbB
  have cQ_3_0 : _ = some (Value.bool (decide (q.num < 0))) := Q_3.cell 0
  have fQ_3_0 := Q_3.free 0
  have cQ_3_1 : _ = some (Value.slice xa xn xc) := Q_3.cell 1
  have fQ_3_1 := Q_3.free 1
  have cQ_3_2 : _ = some (Value.slice xb xm xd) := Q_3.cell 2
  have fQ_3_2 := Q_3.free 2
  go_wp2_with fail
  clear X_2 cX_2_0 cX_2_1 cX_2_2 Ox_2 Px_2 hbel_2
  generalize (w2.alloc (.cells #[Value.bool (decide (q.num < 0)), Value.slice xa xn xc, Value.slice xb xm xd] 29)) = v3 at *
  go_wp2_with fail
  refine (HPd.out _ (Ox_3.rdQ Px_3 hqs)).mono ?_
  rintro e w4 ⟨rfl, hB⟩
  have hB_4 : Below v3.heap.size v3 w4 := (bl.next hB)
  have X_4 := X_3.next hB_4
  have cX_4_0 : _ = some (Value.bool s) := X_4.cell 0
  have cX_4_1 : _ = some (Value.slice a n c) := X_4.cell 1
  have cX_4_2 : _ = some (Value.slice b m d) := X_4.cell 2
  have Q_4 := Q_3.next hB_4
  have cQ_4_0 : _ = some (Value.bool (decide (q.num < 0))) := Q_4.cell 0
  have fQ_4_0 := Q_4.free 0
  have cQ_4_1 : _ = some (Value.slice xa xn xc) := Q_4.cell 1
  have fQ_4_1 := Q_4.free 1
  have cQ_4_2 : _ = some (Value.slice xb xm xd) := Q_4.cell 2
  have fQ_4_2 := Q_4.free 2
  have Ox_4 := Ox_3.below hB_4
  have Px_4 := Px_3.below hB_4
  have hbel_4 := hbel_3.next hB_4
  have hsz_4 := hB_4.size
  clear X_3 cX_3_0 cX_3_1 cX_3_2 Q_3 cQ_3_0 fQ_3_0 cQ_3_1 fQ_3_1 cQ_3_2 fQ_3_2 Ox_3 Px_3 hbel_3 hB_4
  try clear hB
  go_wp2_with fail
  refine (qsign (Ox_4.rdQ Px_4 hqs) (by omega)).mono ?_
  rintro e w5 ⟨rfl, hB⟩
  have hB_5 : Below w4.heap.size w4 w5 := (bl.next hB)
  have X_5 := X_4.next hB_5
  have cX_5_0 : _ = some (Value.bool s) := X_5.cell 0
  have cX_5_1 : _ = some (Value.slice a n c) := X_5.cell 1
  have cX_5_2 : _ = some (Value.slice b m d) := X_5.cell 2
  have Q_5 := Q_4.next hB_5
  have cQ_5_0 : _ = some (Value.bool (decide (q.num < 0))) := Q_5.cell 0
  have fQ_5_0 := Q_5.free 0
  have cQ_5_1 : _ = some (Value.slice xa xn xc) := Q_5.cell 1
  have fQ_5_1 := Q_5.free 1
  have cQ_5_2 : _ = some (Value.slice xb xm xd) := Q_5.cell 2
  have fQ_5_2 := Q_5.free 2
  have Ox_5 := Ox_4.below hB_5
  have Px_5 := Px_4.below hB_5
  have hbel_5 := hbel_4.next hB_5
  have hsz_5 := hB_5.size
  clear X_4 cX_4_0 cX_4_1 cX_4_2 Q_4 cQ_4_0 fQ_4_0 cQ_4_1 fQ_4_1 cQ_4_2 fQ_4_2 Ox_4 Px_4 hbel_4 hB_5
  try clear hB
  go_wp2_with fail
  refine (qneg (Ox_5.rdQ Px_5 hqs) (by omega)).mono ?_
  rw [hyh.out]
  rintro e w6 ⟨ya, yn, yc, yb, ym, yd, rfl, hO, hO', hDy, hB⟩
  have hB_6 : Below w5.heap.size w5 w6 := (bl.next hB)
  have X_6 := X_5.next hB_6
  have cX_6_0 : _ = some (Value.bool s) := X_6.cell 0
  have cX_6_1 : _ = some (Value.slice a n c) := X_6.cell 1
  have cX_6_2 : _ = some (Value.slice b m d) := X_6.cell 2
  have Q_6 := Q_5.next hB_6
  have cQ_6_0 : _ = some (Value.bool (decide (q.num < 0))) := Q_6.cell 0
  have fQ_6_0 := Q_6.free 0
  have cQ_6_1 : _ = some (Value.slice xa xn xc) := Q_6.cell 1
  have fQ_6_1 := Q_6.free 1
  have cQ_6_2 : _ = some (Value.slice xb xm xd) := Q_6.cell 2
  have fQ_6_2 := Q_6.free 2
  have Ox_6 := Ox_5.below hB_6
  have Px_6 := Px_5.below hB_6
  have hbel_6 := hbel_5.next hB_6
  have hsz_6 := hB_6.size
  clear X_5 cX_5_0 cX_5_1 cX_5_2 Q_5 cQ_5_0 fQ_5_0 cQ_5_1 fQ_5_1 cQ_5_2 fQ_5_2 Ox_5 Px_5 hbel_5 hB_6
  have Oy_6 := hO
  have ltOy := hO.ltB
  have Py_6 := hO'
  have ltPy := hO'.ltB
  clear hO hO'
  try clear hB
  have hkp := kp_set3 w6 (w2.heap.size) (Value.bool (decide (y.num < 0))) (Value.slice ya yn yc) (Value.slice yb ym yd)
  have Q_7 := (show Blk _ _ #[Value.bool (decide (y.num < 0)), Value.slice ya yn yc, Value.slice yb ym yd] from (((Q_6).setCell (i := 0) (v := Value.bool (decide (y.num < 0))) (by simp)).setCell (i := 1) (v := Value.slice ya yn yc) (by simp)).setCell (i := 2) (v := Value.slice yb ym yd) (by simp))
  have X_7 := X_6.set3 (show w.heap.size ≠ w2.heap.size by omega) (Value.bool (decide (y.num < 0))) (Value.slice ya yn yc) (Value.slice yb ym yd)
  have Oy_7 := Oy_6.kp hkp (fun g e => by have := (Oy_6.lt' _ e).1; show ¬ (g = _); omega)
  have Py_7 := Py_6.kp hkp (fun g e => by have := (Py_6.lt' _ e).1; show ¬ (g = _); omega)
  have hbel_7 := Below.set3 hbel_6 (show w.heap.size ≤ w2.heap.size by omega) (Value.bool (decide (y.num < 0))) (Value.slice ya yn yc) (Value.slice yb ym yd)
  have hsz_7 := hkp.size
  have cX_7_0 : _ = some (Value.bool s) := X_7.cell 0
  have cX_7_1 : _ = some (Value.slice a n c) := X_7.cell 1
  have cX_7_2 : _ = some (Value.slice b m d) := X_7.cell 2
  have cQ_7_0 : _ = some (Value.bool (decide (y.num < 0))) := Q_7.cell 0
  have fQ_7_0 := Q_7.free 0
  have cQ_7_1 : _ = some (Value.slice ya yn yc) := Q_7.cell 1
  have fQ_7_1 := Q_7.free 1
  have cQ_7_2 : _ = some (Value.slice yb ym yd) := Q_7.cell 2
  have fQ_7_2 := Q_7.free 2
  go_wp2_with fail
  clear X_6 Q_6 cX_6_0 cX_6_1 cX_6_2 cQ_6_0 fQ_6_0 cQ_6_1 fQ_6_1 cQ_6_2 fQ_6_2 Ox_6 Px_6 Oy_6 Py_6 hbel_6 hkp
  generalize (((w6.setCell ⟨w2.heap.size, 0, none⟩ (Value.bool (decide (y.num < 0)))).setCell ⟨w2.heap.size, 1, none⟩ (Value.slice ya yn yc)).setCell ⟨w2.heap.size, 2, none⟩ (Value.slice yb ym yd)) = v7 at *
  go_wp2_with fail
  refine (qfloor (Oy_7.rdQ Py_7 hys) (by omega)).mono ?_
  rw [hflh.out]
  rintro e w8 ⟨za, zn, zc, rfl, hO, hB⟩
  have hB_8 : Below v7.heap.size v7 w8 := (bl.next hB)
  have X_8 := X_7.next hB_8
  have cX_8_0 : _ = some (Value.bool s) := X_8.cell 0
  have cX_8_1 : _ = some (Value.slice a n c) := X_8.cell 1
  have cX_8_2 : _ = some (Value.slice b m d) := X_8.cell 2
  have Q_8 := Q_7.next hB_8
  have cQ_8_0 : _ = some (Value.bool (decide (y.num < 0))) := Q_8.cell 0
  have fQ_8_0 := Q_8.free 0
  have cQ_8_1 : _ = some (Value.slice ya yn yc) := Q_8.cell 1
  have fQ_8_1 := Q_8.free 1
  have cQ_8_2 : _ = some (Value.slice yb ym yd) := Q_8.cell 2
  have fQ_8_2 := Q_8.free 2
  have Oy_8 := Oy_7.below hB_8
  have Py_8 := Py_7.below hB_8
  have hbel_8 := hbel_7.next hB_8
  have hsz_8 := hB_8.size
  clear X_7 cX_7_0 cX_7_1 cX_7_2 Q_7 cQ_7_0 fQ_7_0 cQ_7_1 fQ_7_1 cQ_7_2 fQ_7_2 Oy_7 Py_7 hbel_7 hB_8
  have Oz_8 := hO
  have ltOz := hO.ltB
  clear hO
  try clear hB
  rw [Int.natAbs_natCast] at Oz_8
  have hzd : decide ((zN : Int) < 0) = false := by simp
  rw [hzd]
  clear hzd
  have hbx := blk_new w8 #[Value.bool false, Value.slice za zn zc] 27
  have hbB := (Below.refl w8.heap.size w8).alloc (Nat.le_refl _) (.cells #[Value.bool false, Value.slice za zn zc] 27)
  have hltZ := hbx.lt
  have hB_9 : Below w8.heap.size w8 (w8.alloc (.cells #[Value.bool false, Value.slice za zn zc] 27)) := hbB
  have X_9 := X_8.next hB_9
  have cX_9_0 : _ = some (Value.bool s) := X_9.cell 0
  have cX_9_1 : _ = some (Value.slice a n c) := X_9.cell 1
  have cX_9_2 : _ = some (Value.slice b m d) := X_9.cell 2
  have Q_9 := Q_8.next hB_9
  have cQ_9_0 : _ = some (Value.bool (decide (y.num < 0))) := Q_9.cell 0
  have fQ_9_0 := Q_9.free 0
  have cQ_9_1 : _ = some (Value.slice ya yn yc) := Q_9.cell 1
  have fQ_9_1 := Q_9.free 1
  have cQ_9_2 : _ = some (Value.slice yb ym yd) := Q_9.cell 2
  have fQ_9_2 := Q_9.free 2
  have Oy_9 := Oy_8.below hB_9
  have Py_9 := Py_8.below hB_9
  have Oz_9 := Oz_8.below hB_9
  have hbel_9 := hbel_8.next hB_9
  have hsz_9 := hB_9.size
  clear hB_9
  have Z_9 := hbx
  clear hbx hbB
  have cZ_9_0 : _ = some (Value.bool false) := Z_9.cell 0
  have cZ_9_1 : _ = some (Value.slice za zn zc) := Z_9.cell 1
  have hz9 := hid (show (w8.alloc (.cells #[Value.bool false, Value.slice za zn zc] 27)).heap.size = w8.heap.size + 1 from by simp)
  go_wp2_with fail
  clear X_8 cX_8_0 cX_8_1 cX_8_2 Q_8 cQ_8_0 fQ_8_0 cQ_8_1 fQ_8_1 cQ_8_2 fQ_8_2 Oy_8 Py_8 Oz_8 hbel_8
  generalize (w8.alloc (.cells #[Value.bool false, Value.slice za zn zc] 27)) = v9 at *
  have hbx := blk_new v9 #[Value.int .u32 1] 39
  have hbB := (Below.refl v9.heap.size v9).alloc (Nat.le_refl _) (.cells #[Value.int .u32 1] 39)
  have hltONA := hbx.lt
  have hB_10 : Below v9.heap.size v9 (v9.alloc (.cells #[Value.int .u32 1] 39)) := hbB
  have X_10 := X_9.next hB_10
  have cX_10_0 : _ = some (Value.bool s) := X_10.cell 0
  have cX_10_1 : _ = some (Value.slice a n c) := X_10.cell 1
  have cX_10_2 : _ = some (Value.slice b m d) := X_10.cell 2
  have Q_10 := Q_9.next hB_10
  have cQ_10_0 : _ = some (Value.bool (decide (y.num < 0))) := Q_10.cell 0
  have fQ_10_0 := Q_10.free 0
  have cQ_10_1 : _ = some (Value.slice ya yn yc) := Q_10.cell 1
  have fQ_10_1 := Q_10.free 1
  have cQ_10_2 : _ = some (Value.slice yb ym yd) := Q_10.cell 2
  have fQ_10_2 := Q_10.free 2
  have Z_10 := Z_9.next hB_10
  have cZ_10_0 : _ = some (Value.bool false) := Z_10.cell 0
  have cZ_10_1 : _ = some (Value.slice za zn zc) := Z_10.cell 1
  have Oy_10 := Oy_9.below hB_10
  have Py_10 := Py_9.below hB_10
  have Oz_10 := Oz_9.below hB_10
  have hbel_10 := hbel_9.next hB_10
  have hsz_10 := hB_10.size
  clear hB_10
  have ONA_10 := hbx
  clear hbx hbB
  have cONA_10_0 : _ = some (Value.int .u32 1) := ONA_10.cell 0
  go_wp2_with fail
  clear X_9 cX_9_0 cX_9_1 cX_9_2 Q_9 cQ_9_0 fQ_9_0 cQ_9_1 fQ_9_1 cQ_9_2 fQ_9_2 Z_9 cZ_9_0 cZ_9_1 Oy_9 Py_9 Oz_9 hbel_9
  generalize (v9.alloc (.cells #[Value.int .u32 1] 39)) = v10 at *
  rw [← hz9.out]
  have RZ_10 : RdQ 20 v10 false za zn zc (some ⟨v9.heap.size, 0, none⟩) 1 1 (((zN : Nat) : Int) : Rat) := ⟨zN, 1, Oz_10.rdN hzs, (rdN_blk rfl (by decide) ONA_10).mono (by omega), by unfold qv; rw [und_of (by decide)]; exact Rat.mkRat_one _⟩
  go_wp2_with fail
  refine (qsub (Oy_10.rdQ Py_10 hys) (by omega) RZ_10 (by omega)).mono ?_
  rw [hresh.out]
  rintro e w11 ⟨ea, en, ec, eb, em, ed, rfl, hO, hO', hDe, hB⟩
  have hB_11 : Below v10.heap.size v10 w11 := (bl.next hB)
  have X_11 := X_10.next hB_11
  have cX_11_0 : _ = some (Value.bool s) := X_11.cell 0
  have cX_11_1 : _ = some (Value.slice a n c) := X_11.cell 1
  have cX_11_2 : _ = some (Value.slice b m d) := X_11.cell 2
  have Q_11 := Q_10.next hB_11
  have cQ_11_0 : _ = some (Value.bool (decide (y.num < 0))) := Q_11.cell 0
  have fQ_11_0 := Q_11.free 0
  have cQ_11_1 : _ = some (Value.slice ya yn yc) := Q_11.cell 1
  have fQ_11_1 := Q_11.free 1
  have cQ_11_2 : _ = some (Value.slice yb ym yd) := Q_11.cell 2
  have fQ_11_2 := Q_11.free 2
  have Z_11 := Z_10.next hB_11
  have cZ_11_0 : _ = some (Value.bool false) := Z_11.cell 0
  have cZ_11_1 : _ = some (Value.slice za zn zc) := Z_11.cell 1
  have ONA_11 := ONA_10.next hB_11
  have cONA_11_0 : _ = some (Value.int .u32 1) := ONA_11.cell 0
  have Oy_11 := Oy_10.below hB_11
  have Py_11 := Py_10.below hB_11
  have Oz_11 := Oz_10.below hB_11
  have RZ_11 := RZ_10.below hB_11
  have hbel_11 := hbel_10.next hB_11
  have hsz_11 := hB_11.size
  clear X_10 cX_10_0 cX_10_1 cX_10_2 Q_10 cQ_10_0 fQ_10_0 cQ_10_1 fQ_10_1 cQ_10_2 fQ_10_2 Z_10 cZ_10_0 cZ_10_1 ONA_10 cONA_10_0 Oy_10 Py_10 Oz_10 RZ_10 hbel_10 hB_11
  have Oe_11 := hO
  have ltOe := hO.ltB
  have Pe_11 := hO'
  have ltPe := hO'.ltB
  clear hO hO'
  try clear hB
  clear RZ_11
  have hbx := blk_new w11 #[Value.bool (decide (er.num < 0)), Value.slice ea en ec, Value.slice eb em ed] 29
  have hbB := (Below.refl w11.heap.size w11).alloc (Nat.le_refl _) (.cells #[Value.bool (decide (er.num < 0)), Value.slice ea en ec, Value.slice eb em ed] 29)
  have hltE := hbx.lt
  have hB_12 : Below w11.heap.size w11 (w11.alloc (.cells #[Value.bool (decide (er.num < 0)), Value.slice ea en ec, Value.slice eb em ed] 29)) := hbB
  have X_12 := X_11.next hB_12
  have cX_12_0 : _ = some (Value.bool s) := X_12.cell 0
  have cX_12_1 : _ = some (Value.slice a n c) := X_12.cell 1
  have cX_12_2 : _ = some (Value.slice b m d) := X_12.cell 2
  have Q_12 := Q_11.next hB_12
  have cQ_12_0 : _ = some (Value.bool (decide (y.num < 0))) := Q_12.cell 0
  have fQ_12_0 := Q_12.free 0
  have cQ_12_1 : _ = some (Value.slice ya yn yc) := Q_12.cell 1
  have fQ_12_1 := Q_12.free 1
  have cQ_12_2 : _ = some (Value.slice yb ym yd) := Q_12.cell 2
  have fQ_12_2 := Q_12.free 2
  have Z_12 := Z_11.next hB_12
  have cZ_12_0 : _ = some (Value.bool false) := Z_12.cell 0
  have cZ_12_1 : _ = some (Value.slice za zn zc) := Z_12.cell 1
  have ONA_12 := ONA_11.next hB_12
  have cONA_12_0 : _ = some (Value.int .u32 1) := ONA_12.cell 0
  have Oy_12 := Oy_11.below hB_12
  have Py_12 := Py_11.below hB_12
  have Oz_12 := Oz_11.below hB_12
  have Oe_12 := Oe_11.below hB_12
  have Pe_12 := Pe_11.below hB_12
  have hbel_12 := hbel_11.next hB_12
  have hsz_12 := hB_12.size
  clear hB_12
  have E_12 := hbx
  clear hbx hbB
  have cE_12_0 : _ = some (Value.bool (decide (er.num < 0))) := E_12.cell 0
  have cE_12_1 : _ = some (Value.slice ea en ec) := E_12.cell 1
  have cE_12_2 : _ = some (Value.slice eb em ed) := E_12.cell 2
  go_wp2_with fail
  clear X_11 cX_11_0 cX_11_1 cX_11_2 Q_11 cQ_11_0 fQ_11_0 cQ_11_1 fQ_11_1 cQ_11_2 fQ_11_2 Z_11 cZ_11_0 cZ_11_1 ONA_11 cONA_11_0 Oy_11 Py_11 Oz_11 Oe_11 Pe_11 hbel_11
  generalize (w11.alloc (.cells #[Value.bool (decide (er.num < 0)), Value.slice ea en ec, Value.slice eb em ed] 29)) = v12 at *
  go_wp2_with fail
  refine (HNT.out _).mono ?_
  rintro e w13 ⟨ta, tn, tc, rfl, hO, hB⟩
  have hB_13 : Below v12.heap.size v12 w13 := (bl.next hB)
  have X_13 := X_12.next hB_13
  have cX_13_0 : _ = some (Value.bool s) := X_13.cell 0
  have cX_13_1 : _ = some (Value.slice a n c) := X_13.cell 1
  have cX_13_2 : _ = some (Value.slice b m d) := X_13.cell 2
  have Q_13 := Q_12.next hB_13
  have cQ_13_0 : _ = some (Value.bool (decide (y.num < 0))) := Q_13.cell 0
  have fQ_13_0 := Q_13.free 0
  have cQ_13_1 : _ = some (Value.slice ya yn yc) := Q_13.cell 1
  have fQ_13_1 := Q_13.free 1
  have cQ_13_2 : _ = some (Value.slice yb ym yd) := Q_13.cell 2
  have fQ_13_2 := Q_13.free 2
  have Z_13 := Z_12.next hB_13
  have cZ_13_0 : _ = some (Value.bool false) := Z_13.cell 0
  have cZ_13_1 : _ = some (Value.slice za zn zc) := Z_13.cell 1
  have ONA_13 := ONA_12.next hB_13
  have cONA_13_0 : _ = some (Value.int .u32 1) := ONA_13.cell 0
  have E_13 := E_12.next hB_13
  have cE_13_0 : _ = some (Value.bool (decide (er.num < 0))) := E_13.cell 0
  have cE_13_1 : _ = some (Value.slice ea en ec) := E_13.cell 1
  have cE_13_2 : _ = some (Value.slice eb em ed) := E_13.cell 2
  have Oy_13 := Oy_12.below hB_13
  have Py_13 := Py_12.below hB_13
  have Oz_13 := Oz_12.below hB_13
  have Oe_13 := Oe_12.below hB_13
  have Pe_13 := Pe_12.below hB_13
  have hbel_13 := hbel_12.next hB_13
  have hsz_13 := hB_13.size
  clear X_12 cX_12_0 cX_12_1 cX_12_2 Q_12 cQ_12_0 fQ_12_0 cQ_12_1 fQ_12_1 cQ_12_2 fQ_12_2 Z_12 cZ_12_0 cZ_12_1 ONA_12 cONA_12_0 E_12 cE_12_0 cE_12_1 cE_12_2 Oy_12 Py_12 Oz_12 Oe_12 Pe_12 hbel_12 hB_13
  have Ot_13 := hO
  have ltOt := hO.ltB
  clear hO
  try clear hB
  have hbx := blk_new w13 #[Value.int .u32 1] 39
  have hbB := (Below.refl w13.heap.size w13).alloc (Nat.le_refl _) (.cells #[Value.int .u32 1] 39)
  have hltONB := hbx.lt
  have hB_14 : Below w13.heap.size w13 (w13.alloc (.cells #[Value.int .u32 1] 39)) := hbB
  have X_14 := X_13.next hB_14
  have cX_14_0 : _ = some (Value.bool s) := X_14.cell 0
  have cX_14_1 : _ = some (Value.slice a n c) := X_14.cell 1
  have cX_14_2 : _ = some (Value.slice b m d) := X_14.cell 2
  have Q_14 := Q_13.next hB_14
  have cQ_14_0 : _ = some (Value.bool (decide (y.num < 0))) := Q_14.cell 0
  have fQ_14_0 := Q_14.free 0
  have cQ_14_1 : _ = some (Value.slice ya yn yc) := Q_14.cell 1
  have fQ_14_1 := Q_14.free 1
  have cQ_14_2 : _ = some (Value.slice yb ym yd) := Q_14.cell 2
  have fQ_14_2 := Q_14.free 2
  have Z_14 := Z_13.next hB_14
  have cZ_14_0 : _ = some (Value.bool false) := Z_14.cell 0
  have cZ_14_1 : _ = some (Value.slice za zn zc) := Z_14.cell 1
  have ONA_14 := ONA_13.next hB_14
  have cONA_14_0 : _ = some (Value.int .u32 1) := ONA_14.cell 0
  have E_14 := E_13.next hB_14
  have cE_14_0 : _ = some (Value.bool (decide (er.num < 0))) := E_14.cell 0
  have cE_14_1 : _ = some (Value.slice ea en ec) := E_14.cell 1
  have cE_14_2 : _ = some (Value.slice eb em ed) := E_14.cell 2
  have Oy_14 := Oy_13.below hB_14
  have Py_14 := Py_13.below hB_14
  have Oz_14 := Oz_13.below hB_14
  have Oe_14 := Oe_13.below hB_14
  have Pe_14 := Pe_13.below hB_14
  have Ot_14 := Ot_13.below hB_14
  have hbel_14 := hbel_13.next hB_14
  have hsz_14 := hB_14.size
  clear hB_14
  have ONB_14 := hbx
  clear hbx hbB
  have cONB_14_0 : _ = some (Value.int .u32 1) := ONB_14.cell 0
  have hz14 := hid (show (w13.alloc (.cells #[Value.int .u32 1] 39)).heap.size = w13.heap.size + 1 from by simp)
  go_wp2_with fail
  clear X_13 cX_13_0 cX_13_1 cX_13_2 Q_13 cQ_13_0 fQ_13_0 cQ_13_1 fQ_13_1 cQ_13_2 fQ_13_2 Z_13 cZ_13_0 cZ_13_1 ONA_13 cONA_13_0 E_13 cE_13_0 cE_13_1 cE_13_2 Oy_13 Py_13 Oz_13 Oe_13 Pe_13 Ot_13 hbel_13
  generalize (w13.alloc (.cells #[Value.int .u32 1] 39)) = v14 at *
  have hbx := blk_new v14 #[Value.bool false, Value.slice ta tn tc, Value.slice (some ⟨w13.heap.size, 0, none⟩) 1 1] 29
  have hbB := (Below.refl v14.heap.size v14).alloc (Nat.le_refl _) (.cells #[Value.bool false, Value.slice ta tn tc, Value.slice (some ⟨w13.heap.size, 0, none⟩) 1 1] 29)
  have hltSUM := hbx.lt
  have hB_15 : Below v14.heap.size v14 (v14.alloc (.cells #[Value.bool false, Value.slice ta tn tc, Value.slice (some ⟨w13.heap.size, 0, none⟩) 1 1] 29)) := hbB
  have X_15 := X_14.next hB_15
  have cX_15_0 : _ = some (Value.bool s) := X_15.cell 0
  have cX_15_1 : _ = some (Value.slice a n c) := X_15.cell 1
  have cX_15_2 : _ = some (Value.slice b m d) := X_15.cell 2
  have Q_15 := Q_14.next hB_15
  have cQ_15_0 : _ = some (Value.bool (decide (y.num < 0))) := Q_15.cell 0
  have fQ_15_0 := Q_15.free 0
  have cQ_15_1 : _ = some (Value.slice ya yn yc) := Q_15.cell 1
  have fQ_15_1 := Q_15.free 1
  have cQ_15_2 : _ = some (Value.slice yb ym yd) := Q_15.cell 2
  have fQ_15_2 := Q_15.free 2
  have Z_15 := Z_14.next hB_15
  have cZ_15_0 : _ = some (Value.bool false) := Z_15.cell 0
  have cZ_15_1 : _ = some (Value.slice za zn zc) := Z_15.cell 1
  have ONA_15 := ONA_14.next hB_15
  have cONA_15_0 : _ = some (Value.int .u32 1) := ONA_15.cell 0
  have E_15 := E_14.next hB_15
  have cE_15_0 : _ = some (Value.bool (decide (er.num < 0))) := E_15.cell 0
  have cE_15_1 : _ = some (Value.slice ea en ec) := E_15.cell 1
  have cE_15_2 : _ = some (Value.slice eb em ed) := E_15.cell 2
  have ONB_15 := ONB_14.next hB_15
  have cONB_15_0 : _ = some (Value.int .u32 1) := ONB_15.cell 0
  have Oy_15 := Oy_14.below hB_15
  have Py_15 := Py_14.below hB_15
  have Oz_15 := Oz_14.below hB_15
  have Oe_15 := Oe_14.below hB_15
  have Pe_15 := Pe_14.below hB_15
  have Ot_15 := Ot_14.below hB_15
  have hbel_15 := hbel_14.next hB_15
  have hsz_15 := hB_15.size
  clear hB_15
  have SUM_15 := hbx
  clear hbx hbB
  have cSUM_15_0 : _ = some (Value.bool false) := SUM_15.cell 0
  have fSUM_15_0 := SUM_15.free 0
  have cSUM_15_1 : _ = some (Value.slice ta tn tc) := SUM_15.cell 1
  have fSUM_15_1 := SUM_15.free 1
  have cSUM_15_2 : _ = some (Value.slice (some ⟨w13.heap.size, 0, none⟩) 1 1) := SUM_15.cell 2
  have fSUM_15_2 := SUM_15.free 2
  go_wp2_with fail
  clear X_14 cX_14_0 cX_14_1 cX_14_2 Q_14 cQ_14_0 fQ_14_0 cQ_14_1 fQ_14_1 cQ_14_2 fQ_14_2 Z_14 cZ_14_0 cZ_14_1 ONA_14 cONA_14_0 E_14 cE_14_0 cE_14_1 cE_14_2 ONB_14 cONB_14_0 Oy_14 Py_14 Oz_14 Oe_14 Pe_14 Ot_14 hbel_14
  generalize (v14.alloc (.cells #[Value.bool false, Value.slice ta tn tc, Value.slice (some ⟨w13.heap.size, 0, none⟩) 1 1] 29)) = v15 at *
  rw [← hz14.out]
  have hrsq : QS (mkRat (pT : Int) 1) 301 := QS.mk (by decide) (by rw [Int.natAbs_natCast]; exact sT) (sz_one (by omega))
  have RS_15 : RdQ 301 v15 false ta tn tc (some ⟨w13.heap.size, 0, none⟩) 1 1 (mkRat (pT : Int) 1) := ⟨pT, 1, Ot_15.rdN sT, (rdN_blk rfl (by decide) ONB_15).mono (by omega), rfl⟩
  have hfd := field_den
  go_wp2_with fail
  refine (HOU.out _).mono ?_
  rintro e w16 ⟨va, vc, vb, vm, vd, rfl, hR1, hR2, hO, hB⟩
  have hB_16 : Below v15.heap.size v15 w16 := (bl.next hB)
  have X_16 := X_15.next hB_16
  have cX_16_0 : _ = some (Value.bool s) := X_16.cell 0
  have cX_16_1 : _ = some (Value.slice a n c) := X_16.cell 1
  have cX_16_2 : _ = some (Value.slice b m d) := X_16.cell 2
  have Q_16 := Q_15.next hB_16
  have cQ_16_0 : _ = some (Value.bool (decide (y.num < 0))) := Q_16.cell 0
  have fQ_16_0 := Q_16.free 0
  have cQ_16_1 : _ = some (Value.slice ya yn yc) := Q_16.cell 1
  have fQ_16_1 := Q_16.free 1
  have cQ_16_2 : _ = some (Value.slice yb ym yd) := Q_16.cell 2
  have fQ_16_2 := Q_16.free 2
  have Z_16 := Z_15.next hB_16
  have cZ_16_0 : _ = some (Value.bool false) := Z_16.cell 0
  have cZ_16_1 : _ = some (Value.slice za zn zc) := Z_16.cell 1
  have ONA_16 := ONA_15.next hB_16
  have cONA_16_0 : _ = some (Value.int .u32 1) := ONA_16.cell 0
  have E_16 := E_15.next hB_16
  have cE_16_0 : _ = some (Value.bool (decide (er.num < 0))) := E_16.cell 0
  have cE_16_1 : _ = some (Value.slice ea en ec) := E_16.cell 1
  have cE_16_2 : _ = some (Value.slice eb em ed) := E_16.cell 2
  have ONB_16 := ONB_15.next hB_16
  have cONB_16_0 : _ = some (Value.int .u32 1) := ONB_16.cell 0
  have SUM_16 := SUM_15.next hB_16
  have cSUM_16_0 : _ = some (Value.bool false) := SUM_16.cell 0
  have fSUM_16_0 := SUM_16.free 0
  have cSUM_16_1 : _ = some (Value.slice ta tn tc) := SUM_16.cell 1
  have fSUM_16_1 := SUM_16.free 1
  have cSUM_16_2 : _ = some (Value.slice (some ⟨w13.heap.size, 0, none⟩) 1 1) := SUM_16.cell 2
  have fSUM_16_2 := SUM_16.free 2
  have Oy_16 := Oy_15.below hB_16
  have Py_16 := Py_15.below hB_16
  have Oz_16 := Oz_15.below hB_16
  have Oe_16 := Oe_15.below hB_16
  have Pe_16 := Pe_15.below hB_16
  have Ot_16 := Ot_15.below hB_16
  have RS_16 := RS_15.below hB_16
  have hbel_16 := hbel_15.next hB_16
  have hsz_16 := hB_16.size
  clear X_15 cX_15_0 cX_15_1 cX_15_2 Q_15 cQ_15_0 fQ_15_0 cQ_15_1 fQ_15_1 cQ_15_2 fQ_15_2 Z_15 cZ_15_0 cZ_15_1 ONA_15 cONA_15_0 E_15 cE_15_0 cE_15_1 cE_15_2 ONB_15 cONB_15_0 SUM_15 cSUM_15_0 fSUM_15_0 cSUM_15_1 fSUM_15_1 cSUM_15_2 fSUM_15_2 Oy_15 Py_15 Oz_15 Oe_15 Pe_15 Ot_15 RS_15 hbel_15 hB_16
  have N1_16 := hO
  have ltN1 := hO.ltB
  clear hO hR1 hR2
  try clear hB
  have hbx := blk_new w16 #[Value.int .u32 1] 39
  have hbB := (Below.refl w16.heap.size w16).alloc (Nat.le_refl _) (.cells #[Value.int .u32 1] 39)
  have hltONC := hbx.lt
  have hB_17 : Below w16.heap.size w16 (w16.alloc (.cells #[Value.int .u32 1] 39)) := hbB
  have X_17 := X_16.next hB_17
  have cX_17_0 : _ = some (Value.bool s) := X_17.cell 0
  have cX_17_1 : _ = some (Value.slice a n c) := X_17.cell 1
  have cX_17_2 : _ = some (Value.slice b m d) := X_17.cell 2
  have Q_17 := Q_16.next hB_17
  have cQ_17_0 : _ = some (Value.bool (decide (y.num < 0))) := Q_17.cell 0
  have fQ_17_0 := Q_17.free 0
  have cQ_17_1 : _ = some (Value.slice ya yn yc) := Q_17.cell 1
  have fQ_17_1 := Q_17.free 1
  have cQ_17_2 : _ = some (Value.slice yb ym yd) := Q_17.cell 2
  have fQ_17_2 := Q_17.free 2
  have Z_17 := Z_16.next hB_17
  have cZ_17_0 : _ = some (Value.bool false) := Z_17.cell 0
  have cZ_17_1 : _ = some (Value.slice za zn zc) := Z_17.cell 1
  have ONA_17 := ONA_16.next hB_17
  have cONA_17_0 : _ = some (Value.int .u32 1) := ONA_17.cell 0
  have E_17 := E_16.next hB_17
  have cE_17_0 : _ = some (Value.bool (decide (er.num < 0))) := E_17.cell 0
  have cE_17_1 : _ = some (Value.slice ea en ec) := E_17.cell 1
  have cE_17_2 : _ = some (Value.slice eb em ed) := E_17.cell 2
  have ONB_17 := ONB_16.next hB_17
  have cONB_17_0 : _ = some (Value.int .u32 1) := ONB_17.cell 0
  have SUM_17 := SUM_16.next hB_17
  have cSUM_17_0 : _ = some (Value.bool false) := SUM_17.cell 0
  have fSUM_17_0 := SUM_17.free 0
  have cSUM_17_1 : _ = some (Value.slice ta tn tc) := SUM_17.cell 1
  have fSUM_17_1 := SUM_17.free 1
  have cSUM_17_2 : _ = some (Value.slice (some ⟨w13.heap.size, 0, none⟩) 1 1) := SUM_17.cell 2
  have fSUM_17_2 := SUM_17.free 2
  have Oy_17 := Oy_16.below hB_17
  have Py_17 := Py_16.below hB_17
  have Oz_17 := Oz_16.below hB_17
  have Oe_17 := Oe_16.below hB_17
  have Pe_17 := Pe_16.below hB_17
  have Ot_17 := Ot_16.below hB_17
  have RS_17 := RS_16.below hB_17
  have N1_17 := N1_16.below hB_17
  have hbel_17 := hbel_16.next hB_17
  have hsz_17 := hB_17.size
  clear hB_17
  have ONC_17 := hbx
  clear hbx hbB
  have cONC_17_0 : _ = some (Value.int .u32 1) := ONC_17.cell 0
  go_wp2_with fail
  clear X_16 cX_16_0 cX_16_1 cX_16_2 Q_16 cQ_16_0 fQ_16_0 cQ_16_1 fQ_16_1 cQ_16_2 fQ_16_2 Z_16 cZ_16_0 cZ_16_1 ONA_16 cONA_16_0 E_16 cE_16_0 cE_16_1 cE_16_2 ONB_16 cONB_16_0 SUM_16 cSUM_16_0 fSUM_16_0 cSUM_16_1 fSUM_16_1 cSUM_16_2 fSUM_16_2 Oy_16 Py_16 Oz_16 Oe_16 Pe_16 Ot_16 RS_16 N1_16 hbel_16
  generalize (w16.alloc (.cells #[Value.int .u32 1] 39)) = v17 at *
  go_wp2_with fail
  refine (nsub1 (N1_17.rdN sPU) (rdN_blk rfl (by decide) ONC_17) hPUm).mono ?_
  rintro e w18 ⟨ka, kn, kc, rfl, hO, hB⟩
  have hB_18 : Below v17.heap.size v17 w18 := (bl.next hB)
  have X_18 := X_17.next hB_18
  have cX_18_0 : _ = some (Value.bool s) := X_18.cell 0
  have cX_18_1 : _ = some (Value.slice a n c) := X_18.cell 1
  have cX_18_2 : _ = some (Value.slice b m d) := X_18.cell 2
  have Q_18 := Q_17.next hB_18
  have cQ_18_0 : _ = some (Value.bool (decide (y.num < 0))) := Q_18.cell 0
  have fQ_18_0 := Q_18.free 0
  have cQ_18_1 : _ = some (Value.slice ya yn yc) := Q_18.cell 1
  have fQ_18_1 := Q_18.free 1
  have cQ_18_2 : _ = some (Value.slice yb ym yd) := Q_18.cell 2
  have fQ_18_2 := Q_18.free 2
  have Z_18 := Z_17.next hB_18
  have cZ_18_0 : _ = some (Value.bool false) := Z_18.cell 0
  have cZ_18_1 : _ = some (Value.slice za zn zc) := Z_18.cell 1
  have ONA_18 := ONA_17.next hB_18
  have cONA_18_0 : _ = some (Value.int .u32 1) := ONA_18.cell 0
  have E_18 := E_17.next hB_18
  have cE_18_0 : _ = some (Value.bool (decide (er.num < 0))) := E_18.cell 0
  have cE_18_1 : _ = some (Value.slice ea en ec) := E_18.cell 1
  have cE_18_2 : _ = some (Value.slice eb em ed) := E_18.cell 2
  have ONB_18 := ONB_17.next hB_18
  have cONB_18_0 : _ = some (Value.int .u32 1) := ONB_18.cell 0
  have SUM_18 := SUM_17.next hB_18
  have cSUM_18_0 : _ = some (Value.bool false) := SUM_18.cell 0
  have fSUM_18_0 := SUM_18.free 0
  have cSUM_18_1 : _ = some (Value.slice ta tn tc) := SUM_18.cell 1
  have fSUM_18_1 := SUM_18.free 1
  have cSUM_18_2 : _ = some (Value.slice (some ⟨w13.heap.size, 0, none⟩) 1 1) := SUM_18.cell 2
  have fSUM_18_2 := SUM_18.free 2
  have ONC_18 := ONC_17.next hB_18
  have cONC_18_0 : _ = some (Value.int .u32 1) := ONC_18.cell 0
  have Oy_18 := Oy_17.below hB_18
  have Py_18 := Py_17.below hB_18
  have Oz_18 := Oz_17.below hB_18
  have Oe_18 := Oe_17.below hB_18
  have Pe_18 := Pe_17.below hB_18
  have Ot_18 := Ot_17.below hB_18
  have RS_18 := RS_17.below hB_18
  have N1_18 := N1_17.below hB_18
  have hbel_18 := hbel_17.next hB_18
  have hsz_18 := hB_18.size
  clear X_17 cX_17_0 cX_17_1 cX_17_2 Q_17 cQ_17_0 fQ_17_0 cQ_17_1 fQ_17_1 cQ_17_2 fQ_17_2 Z_17 cZ_17_0 cZ_17_1 ONA_17 cONA_17_0 E_17 cE_17_0 cE_17_1 cE_17_2 ONB_17 cONB_17_0 SUM_17 cSUM_17_0 fSUM_17_0 cSUM_17_1 fSUM_17_1 cSUM_17_2 fSUM_17_2 ONC_17 cONC_17_0 Oy_17 Py_17 Oz_17 Oe_17 Pe_17 Ot_17 RS_17 N1_17 hbel_17 hB_18
  have Nn_18 := hO
  have ltNn := hO.ltB
  clear hO hfd
  try clear hB
  have hNs : Sz (PU - 1) 40 := sPU.mono (Nat.sub_le _ _) (Nat.le_refl _)
  have hNn : PU - 1 ≠ 0 := by omega
  have huq : QS (mkRat (pU : Int) (PU - 1)) 301 := QS.mk hNn (by rw [Int.natAbs_natCast]; exact sU) (hNs.mono (Nat.le_refl _) (by omega))
  obtain ⟨sv, hsv⟩ : ∃ v, mkRat (pT : Int) 1 + mkRat (pU : Int) (PU - 1) = v := ⟨_, rfl⟩
  have hsvq := hrsq.add huq
  rw [hsv] at heqh hsvq
  have hsvh := hid hsv
  clear hsv
  go_wp2_with fail
  go_cut [] (fun wx => ∃ (SUMa : Option Addr) (SUMn SUMc : Nat) (SUMb : Option Addr) (SUMm SUMd : Nat), Blk wx (v14.heap.size) #[Value.bool (decide ((sv).num < 0)), Value.slice SUMa SUMn SUMc, Value.slice SUMb SUMm SUMd] ∧ Blk wx (w.heap.size) #[Value.bool s, Value.slice a n c, Value.slice b m d] ∧ Blk wx (w2.heap.size) #[Value.bool (decide (y.num < 0)), Value.slice ya yn yc, Value.slice yb ym yd] ∧ Blk wx (w8.heap.size) #[Value.bool false, Value.slice za zn zc] ∧ Blk wx (v9.heap.size) #[Value.int .u32 1] ∧ Blk wx (w11.heap.size) #[Value.bool (decide (er.num < 0)), Value.slice ea en ec, Value.slice eb em ed] ∧ Blk wx (w13.heap.size) #[Value.int .u32 1] ∧ Blk wx (w16.heap.size) #[Value.int .u32 1] ∧ Own W0.heap.size wx SUMa SUMn SUMc (lm (sv).num.natAbs) ∧ Own W0.heap.size wx SUMb SUMm SUMd (lm (sv).den) ∧ Own 0 wx ea en ec (lm er.num.natAbs) ∧ Own 0 wx eb em ed (lm er.den) ∧ Below w.heap.size w wx ∧ W0.heap.size ≤ wx.heap.size)
  case first =>
    go_wp2_with fail
    go_region_with
      (first
        | (go_at_call 67; ((with_reducible refine (HNU.out _).mono ?_); (rintro e w19 ⟨ua, un, uc, rfl, hO, hB⟩; have hB_19 : Below w18.heap.size w18 w19 := (bl.next hB); have X_19 := X_18.next hB_19; have cX_19_0 : _ = some (Value.bool s) := X_19.cell 0; have cX_19_1 : _ = some (Value.slice a n c) := X_19.cell 1; have cX_19_2 : _ = some (Value.slice b m d) := X_19.cell 2; have Q_19 := Q_18.next hB_19; have cQ_19_0 : _ = some (Value.bool (decide (y.num < 0))) := Q_19.cell 0; have fQ_19_0 := Q_19.free 0; have cQ_19_1 : _ = some (Value.slice ya yn yc) := Q_19.cell 1; have fQ_19_1 := Q_19.free 1; have cQ_19_2 : _ = some (Value.slice yb ym yd) := Q_19.cell 2; have fQ_19_2 := Q_19.free 2; have Z_19 := Z_18.next hB_19; have cZ_19_0 : _ = some (Value.bool false) := Z_19.cell 0; have cZ_19_1 : _ = some (Value.slice za zn zc) := Z_19.cell 1; have ONA_19 := ONA_18.next hB_19; have cONA_19_0 : _ = some (Value.int .u32 1) := ONA_19.cell 0; have E_19 := E_18.next hB_19; have cE_19_0 : _ = some (Value.bool (decide (er.num < 0))) := E_19.cell 0; have cE_19_1 : _ = some (Value.slice ea en ec) := E_19.cell 1; have cE_19_2 : _ = some (Value.slice eb em ed) := E_19.cell 2; have ONB_19 := ONB_18.next hB_19; have cONB_19_0 : _ = some (Value.int .u32 1) := ONB_19.cell 0; have SUM_19 := SUM_18.next hB_19; have cSUM_19_0 : _ = some (Value.bool false) := SUM_19.cell 0; have fSUM_19_0 := SUM_19.free 0; have cSUM_19_1 : _ = some (Value.slice ta tn tc) := SUM_19.cell 1; have fSUM_19_1 := SUM_19.free 1; have cSUM_19_2 : _ = some (Value.slice (some ⟨w13.heap.size, 0, none⟩) 1 1) := SUM_19.cell 2; have fSUM_19_2 := SUM_19.free 2; have ONC_19 := ONC_18.next hB_19; have cONC_19_0 : _ = some (Value.int .u32 1) := ONC_19.cell 0; have Oy_19 := Oy_18.below hB_19; have Py_19 := Py_18.below hB_19; have Oz_19 := Oz_18.below hB_19; have Oe_19 := Oe_18.below hB_19; have Pe_19 := Pe_18.below hB_19; have Ot_19 := Ot_18.below hB_19; have RS_19 := RS_18.below hB_19; have N1_19 := N1_18.below hB_19; have Nn_19 := Nn_18.below hB_19; have hbel_19 := hbel_18.next hB_19; have hsz_19 := hB_19.size; clear X_18 cX_18_0 cX_18_1 cX_18_2 Q_18 cQ_18_0 fQ_18_0 cQ_18_1 fQ_18_1 cQ_18_2 fQ_18_2 Z_18 cZ_18_0 cZ_18_1 ONA_18 cONA_18_0 E_18 cE_18_0 cE_18_1 cE_18_2 ONB_18 cONB_18_0 SUM_18 cSUM_18_0 fSUM_18_0 cSUM_18_1 fSUM_18_1 cSUM_18_2 fSUM_18_2 ONC_18 cONC_18_0 Oy_18 Py_18 Oz_18 Oe_18 Pe_18 Ot_18 RS_18 N1_18 Nn_18 hbel_18 hB_19; have Ou_19 := hO; try clear hB)))
        | (go_at_call 35; ((with_reducible refine (qadd ((RS_19.below bl)) (by omega) (rdq_nat (Ou_19.below bl) (Nn_19.below bl) sU hNs hNn) (by omega)).mono ?_); (rw [hsvh.out]; rintro e w20 ⟨ja, jn, jc, jb, jm, jd, rfl, hO, hO', hDj, hB⟩; have hB_20 : Below w19.heap.size w19 w20 := (bl.next hB); have X_20 := X_19.next hB_20; have cX_20_0 : _ = some (Value.bool s) := X_20.cell 0; have cX_20_1 : _ = some (Value.slice a n c) := X_20.cell 1; have cX_20_2 : _ = some (Value.slice b m d) := X_20.cell 2; have Q_20 := Q_19.next hB_20; have cQ_20_0 : _ = some (Value.bool (decide (y.num < 0))) := Q_20.cell 0; have fQ_20_0 := Q_20.free 0; have cQ_20_1 : _ = some (Value.slice ya yn yc) := Q_20.cell 1; have fQ_20_1 := Q_20.free 1; have cQ_20_2 : _ = some (Value.slice yb ym yd) := Q_20.cell 2; have fQ_20_2 := Q_20.free 2; have Z_20 := Z_19.next hB_20; have cZ_20_0 : _ = some (Value.bool false) := Z_20.cell 0; have cZ_20_1 : _ = some (Value.slice za zn zc) := Z_20.cell 1; have ONA_20 := ONA_19.next hB_20; have cONA_20_0 : _ = some (Value.int .u32 1) := ONA_20.cell 0; have E_20 := E_19.next hB_20; have cE_20_0 : _ = some (Value.bool (decide (er.num < 0))) := E_20.cell 0; have cE_20_1 : _ = some (Value.slice ea en ec) := E_20.cell 1; have cE_20_2 : _ = some (Value.slice eb em ed) := E_20.cell 2; have ONB_20 := ONB_19.next hB_20; have cONB_20_0 : _ = some (Value.int .u32 1) := ONB_20.cell 0; have SUM_20 := SUM_19.next hB_20; have cSUM_20_0 : _ = some (Value.bool false) := SUM_20.cell 0; have fSUM_20_0 := SUM_20.free 0; have cSUM_20_1 : _ = some (Value.slice ta tn tc) := SUM_20.cell 1; have fSUM_20_1 := SUM_20.free 1; have cSUM_20_2 : _ = some (Value.slice (some ⟨w13.heap.size, 0, none⟩) 1 1) := SUM_20.cell 2; have fSUM_20_2 := SUM_20.free 2; have ONC_20 := ONC_19.next hB_20; have cONC_20_0 : _ = some (Value.int .u32 1) := ONC_20.cell 0; have Oy_20 := Oy_19.below hB_20; have Py_20 := Py_19.below hB_20; have Oz_20 := Oz_19.below hB_20; have Oe_20 := Oe_19.below hB_20; have Pe_20 := Pe_19.below hB_20; have Ot_20 := Ot_19.below hB_20; have RS_20 := RS_19.below hB_20; have N1_20 := N1_19.below hB_20; have Nn_20 := Nn_19.below hB_20; have Ou_20 := Ou_19.below hB_20; have hbel_20 := hbel_19.next hB_20; have hsz_20 := hB_20.size; clear X_19 cX_19_0 cX_19_1 cX_19_2 Q_19 cQ_19_0 fQ_19_0 cQ_19_1 fQ_19_1 cQ_19_2 fQ_19_2 Z_19 cZ_19_0 cZ_19_1 ONA_19 cONA_19_0 E_19 cE_19_0 cE_19_1 cE_19_2 ONB_19 cONB_19_0 SUM_19 cSUM_19_0 fSUM_19_0 cSUM_19_1 fSUM_19_1 cSUM_19_2 fSUM_19_2 ONC_19 cONC_19_0 Oy_19 Py_19 Oz_19 Oe_19 Pe_19 Ot_19 RS_19 N1_19 Nn_19 Ou_19 hbel_19 hB_20; try clear hB))))
    all_goals (go_wp2_with fail; go_meet; exact ⟨_, _, _, _, _, _, (show Blk _ _ #[_, _, _] from ((SUM_20.setCell (i := 0) (v := _) (by simp)).setCell (i := 1) (v := _) (by simp)).setCell (i := 2) (v := _) (by simp)), X_20.set3 (by omega) _ _ _, Q_20.set3 (by omega) _ _ _, Z_20.set3 (by omega) _ _ _, ONA_20.set3 (by omega) _ _ _, E_20.set3 (by omega) _ _ _, ONB_20.set3 (by omega) _ _ _, ONC_20.set3 (by omega) _ _ _, (hO.set3 (by omega) _ _ _).mono (by omega), (hO'.set3 (by omega) _ _ _).mono (by omega), (Oe_20.kp (kp_set3 _ (v14.heap.size) _ _ _) (fun g e => by have := ltOe g e; show ¬ (g = _); omega)).mono (Nat.zero_le _), (Pe_20.kp (kp_set3 _ (v14.heap.size) _ _ _) (fun g e => by have := ltPe g e; show ¬ (g = _); omega)).mono (Nat.zero_le _), Below.set3 hbel_20 (by omega) _ _ _, by simp [World.setCell]; omega⟩)
  case rest =>
    clear X_18 Q_18 Z_18 ONA_18 E_18 ONB_18 SUM_18 ONC_18 cX_18_0 cX_18_1 cX_18_2 cQ_18_0 fQ_18_0 cQ_18_1 fQ_18_1 cQ_18_2 fQ_18_2 cZ_18_0 cZ_18_1 cONA_18_0 cE_18_0 cE_18_1 cE_18_2 cONB_18_0 cSUM_18_0 fSUM_18_0 cSUM_18_1 fSUM_18_1 cSUM_18_2 fSUM_18_2 cONC_18_0 Oy_18 Py_18 Oz_18 Oe_18 Pe_18 Ot_18 RS_18 N1_18 Nn_18 hbel_18
    obtain ⟨SUMa, SUMn, SUMc, SUMb, SUMm, SUMd, SUM_19, X_19, Q_19, Z_19, ONA_19, E_19, ONB_19, ONC_19, hO, hO', hkOe, hkPe, hbel_19, hsz_19⟩ := hcut
    have cSUM_19_0 : _ = some (Value.bool (decide ((sv).num < 0))) := SUM_19.cell 0
    have fSUM_19_0 := SUM_19.free 0
    have cSUM_19_1 : _ = some (Value.slice SUMa SUMn SUMc) := SUM_19.cell 1
    have fSUM_19_1 := SUM_19.free 1
    have cSUM_19_2 : _ = some (Value.slice SUMb SUMm SUMd) := SUM_19.cell 2
    have fSUM_19_2 := SUM_19.free 2
    have cX_19_0 : _ = some (Value.bool s) := X_19.cell 0
    have cX_19_1 : _ = some (Value.slice a n c) := X_19.cell 1
    have cX_19_2 : _ = some (Value.slice b m d) := X_19.cell 2
    have cQ_19_0 : _ = some (Value.bool (decide (y.num < 0))) := Q_19.cell 0
    have fQ_19_0 := Q_19.free 0
    have cQ_19_1 : _ = some (Value.slice ya yn yc) := Q_19.cell 1
    have fQ_19_1 := Q_19.free 1
    have cQ_19_2 : _ = some (Value.slice yb ym yd) := Q_19.cell 2
    have fQ_19_2 := Q_19.free 2
    have cZ_19_0 : _ = some (Value.bool false) := Z_19.cell 0
    have cZ_19_1 : _ = some (Value.slice za zn zc) := Z_19.cell 1
    have cONA_19_0 : _ = some (Value.int .u32 1) := ONA_19.cell 0
    have cE_19_0 : _ = some (Value.bool (decide (er.num < 0))) := E_19.cell 0
    have cE_19_1 : _ = some (Value.slice ea en ec) := E_19.cell 1
    have cE_19_2 : _ = some (Value.slice eb em ed) := E_19.cell 2
    have cONB_19_0 : _ = some (Value.int .u32 1) := ONB_19.cell 0
    have cONC_19_0 : _ = some (Value.int .u32 1) := ONC_19.cell 0
    have OSUM_19 := hO
    have ltOSUM := hO.ltB
    have OSUM'_19 := hO'
    have ltOSUM' := hO'.ltB
    clear hO hO'
    have Oe_19 := hkOe
    have ltOe := hkOe.ltB
    clear hkOe
    have Pe_19 := hkPe
    have ltPe := hkPe.ltB
    clear hkPe
    have hUm : U.size ≤ 300 := by omega
    obtain ⟨c0, hc0⟩ : ∃ x, U[0].toNat = x := ⟨_, rfl⟩
    have hx0 := by_get U 0 hU0
    rw [hc0] at hx0
    go_wp2_with fail
    obtain ⟨W9, hW9⟩ : ∃ y : World, y = wc := ⟨_, rfl⟩
    subst hW9
    have hDq : ∀ (V : World) (n : Nat), Below W9.heap.size W9 V → Below W9.heap.size W9 (V.drewN n) := fun V n h => h.next ((Below.refl _ _).drewN' n)
    go_loopw [13, 14] (fun ov iv wr => ∃ (i : Nat) (b : Bool), i ≤ U.size ∧ iv = .int .i64 i ∧ ov = .bool b ∧ Hid (b = false → ∀ j, j < i → (by' U).getD j 0 = c0) ∧ Below W9.heap.size W9 wr) (fun _ iv _ => U.size - (intOf iv).toNat)
    case atStart => exact ⟨0, false, by omega, rfl, rfl, fun _ j hj => absurd hj (Nat.not_lt_zero _), Below.refl _ _⟩
    case round =>
      obtain ⟨i, bx, hi, rfl, rfl, hb, hBr⟩ := hrel
      by_cases hlt : i < U.size
      · have hx := by_get U i hlt
        obtain ⟨xx, hxe⟩ : ∃ x, U[i].toNat = x := ⟨_, rfl⟩
        rw [hxe] at hx
        cases bx
        · by_cases he : xx = c0
          · have hd : ((xx : Int) != (c0 : Int)) = false := by simp [he]
            have hn : Hid (false = false → ∀ j, j < i + 1 → (by' U).getD j 0 = c0) := fun _ j hj => by
              by_cases e : j = i
              · rw [e, hx, he]
              · exact hb.out rfl j (by omega)
            clear hx hb he
            go_wp2_with fail
            go_quiet (fail)
            go_wp2
            go_roundw
            case rel => exact ⟨i + 1, false, by omega, by go_num, rfl, fun _ j hj => hn.out (by simp) j hj, hDq _ _ hBr⟩
            case measure => simp [intOf]; omega
          · have hd : ((xx : Int) != (c0 : Int)) = true := by simp; omega
            clear hx hb he
            go_wp2_with fail
            go_quiet (fail)
            go_wp2
            go_roundw
            case rel => exact ⟨i + 1, true, by omega, by go_num, rfl, (fun h => absurd h (by decide)), hDq _ _ hBr⟩
            case measure => simp [intOf]; omega
        · clear hx hb
          go_wp2_with fail
          go_quiet (fail)
          go_wp2
          go_roundw
          case rel => exact ⟨i + 1, true, by omega, by go_num, rfl, (fun h => absurd h (by decide)), hDq _ _ hBr⟩
          case measure => simp [intOf]; omega
      · obtain rfl : i = U.size := by omega
        clear hlt
        go_upto_region 21 with fail
        go_cut [103] (fun s103 wx => s103 = .bool false ∧ wx = wr)
        case first =>
          cases bx
          · have hall := hb.out rfl
            have h48 : c0 ≠ 48 := fun e => hn0.out 48 (.inl rfl) fun i hi => by rw [hall i hi, e]
            have h57 : c0 ≠ 57 := fun e => hn0.out 57 (.inr rfl) fun i hi => by rw [hall i hi, e]
            have hd48 : ((c0 : Int) == 48) = false := by simp; omega
            have hd57 : ((c0 : Int) == 57) = false := by simp; omega
            clear hall hb h48 h57
            go_wp2_with fail
            go_meet
            exact ⟨rfl, rfl⟩
          · go_wp2_with fail
            go_meet
            exact ⟨rfl, rfl⟩
        case rest =>
          obtain ⟨rfl, rfl⟩ := hcut
          clear hb
          go_wp2_with fail
          go_loopw [15] (fun iv wr => ∃ t : Nat, 1 ≤ t ∧ t ≤ U.size ∧ iv = .int .i64 t ∧ Below W9.heap.size W9 wr) (fun iv _ => U.size - (intOf iv).toNat)
          case atStart => exact ⟨1, by omega, by omega, rfl, hBr⟩
          case round =>
            clear hBr
            obtain ⟨t, ht1, ht2, rfl, hBr⟩ := hrel
            by_cases hlt : t < U.size
            · obtain ⟨m4, hm4⟩ : ∃ m, U.size - t = m := ⟨_, rfl⟩
              have hw4 : IntKind.i64.wrap ((U.size : Int) - (t : Int)) = (m4 : Int) := by rw [IntKind.wrap_i64]; omega
              have hm5 : m4 ≤ U.size := by omega
              obtain ⟨rm, hrm⟩ : ∃ r, U.size % t = r := ⟨_, rfl⟩
              have hrm2 : Int.tmod (U.size : Int) (t : Int) = (rm : Int) := by rw [← hrm]; exact (Int.ofNat_tmod _ _).symm
              have hrmb : rm < t := by rw [← hrm]; exact Nat.mod_lt _ (by omega)
              have hrm3 : IntKind.i64.wrap (rm : Int) = (rm : Int) := by rw [IntKind.wrap_i64]; omega
              by_cases hz : rm = 0
              · have hs := hturn.out t (by omega) hlt (by rw [hrm, hz])
                rw [hm4] at hs
                have hd : ((rm : Int) == 0) = true := by simp; omega
                clear hrm hz hm4
                go_wp2_with fail
                go_quiet (fail)
                go_wp2
                go_roundw
                case rel => exact ⟨t + 1, by omega, by omega, by go_num, hDq _ _ hBr⟩
                case measure => simp [intOf]; omega
              · have hd : ((rm : Int) == 0) = false := by simp; omega
                clear hrm hz hm4
                go_wp2_with fail
                go_quiet (fail)
                go_wp2
                go_roundw
                case rel => exact ⟨t + 1, by omega, by omega, by go_num, hDq _ _ hBr⟩
                case measure => simp [intOf]; omega
            · obtain rfl : t = U.size := by omega
              clear hlt ht1 ht2
              obtain ⟨mu, hmu⟩ : ∃ m, U.size - 1 = m := ⟨_, rfl⟩
              have hmult : mu < U.size := by omega
              have hxu := by_get U mu hmult
              obtain ⟨cu, hcu⟩ : ∃ x, U[mu].toNat = x := ⟨_, rfl⟩
              rw [hcu] at hxu
              have hnu : IntKind.i64.wrap ((U.size : Int) - 1) = (mu : Int) := by rw [IntKind.wrap_i64]; omega
              have hnu2 : (U.size : Int) - 1 = (mu : Int) := by omega
              have hnu3 : IntKind.i64.wrap (mu : Int) = (mu : Int) := by rw [IntKind.wrap_i64]; omega
              go_upto_region 28 with fail
              go_cut [142] (fun s142 wx => s142 = .bool false ∧ Below wr.heap.size wr wx)
              case first =>
                by_cases hT0 : 0 < T.size
                · obtain ⟨mx, hmx⟩ : ∃ m, T.size - 1 = m := ⟨_, rfl⟩
                  have hmlt : mx < T.size := by omega
                  have hxl := by_get T mx hmlt
                  have hls := hlast.out hT0
                  rw [hmx] at hls
                  obtain ⟨cl, hcl⟩ : ∃ x, T[mx].toNat = x := ⟨_, rfl⟩
                  rw [hxl, hcl] at hls
                  have hmi : IntKind.i64.wrap ((T.size : Int) - 1) = (mx : Int) := by rw [IntKind.wrap_i64]; omega
                  have hmi2 : (T.size : Int) - 1 = (mx : Int) := by omega
                  have hmw : IntKind.i64.wrap (mx : Int) = (mx : Int) := by rw [IntKind.wrap_i64]; omega
                  rw [hmu, hxu] at hls
                  have hd : ((cl : Int) == (cu : Int)) = false := by simp; omega
                  clear hls hxl
                  go_quiet (fail)
                  go_wp2_with fail
                  go_meet
                  exact ⟨rfl, by first | exact (Below.refl _ _).drewN' _ | exact (Below.refl _ _).drew | exact Below.refl _ _⟩
                · have hT1 : decide (0 < T.size) = false := decide_eq_false hT0
                  have hT2 : decide ((0 : Int) < (T.size : Int)) = false := decide_eq_false (by omega)
                  clear hT0
                  go_quiet (fail)
                  go_wp2_with fail
                  go_meet
                  exact ⟨rfl, by first | exact (Below.refl _ _).drewN' _ | exact (Below.refl _ _).drew | exact Below.refl _ _⟩
              case rest =>
                obtain ⟨rfl, hBx⟩ := hcut
                have hBy := hBr.next hBx
                clear hBr hBx hmu hxu hnu hnu2 hnu3 hmult hcu
                have hB_20 : Below W9.heap.size W9 wc := hBy
                have X_20 := X_19.next hB_20
                have cX_20_0 : _ = some (Value.bool s) := X_20.cell 0
                have cX_20_1 : _ = some (Value.slice a n c) := X_20.cell 1
                have cX_20_2 : _ = some (Value.slice b m d) := X_20.cell 2
                have Q_20 := Q_19.next hB_20
                have cQ_20_0 : _ = some (Value.bool (decide (y.num < 0))) := Q_20.cell 0
                have fQ_20_0 := Q_20.free 0
                have cQ_20_1 : _ = some (Value.slice ya yn yc) := Q_20.cell 1
                have fQ_20_1 := Q_20.free 1
                have cQ_20_2 : _ = some (Value.slice yb ym yd) := Q_20.cell 2
                have fQ_20_2 := Q_20.free 2
                have Z_20 := Z_19.next hB_20
                have cZ_20_0 : _ = some (Value.bool false) := Z_20.cell 0
                have cZ_20_1 : _ = some (Value.slice za zn zc) := Z_20.cell 1
                have ONA_20 := ONA_19.next hB_20
                have cONA_20_0 : _ = some (Value.int .u32 1) := ONA_20.cell 0
                have E_20 := E_19.next hB_20
                have cE_20_0 : _ = some (Value.bool (decide (er.num < 0))) := E_20.cell 0
                have cE_20_1 : _ = some (Value.slice ea en ec) := E_20.cell 1
                have cE_20_2 : _ = some (Value.slice eb em ed) := E_20.cell 2
                have ONB_20 := ONB_19.next hB_20
                have cONB_20_0 : _ = some (Value.int .u32 1) := ONB_20.cell 0
                have SUM_20 := SUM_19.next hB_20
                have cSUM_20_0 : _ = some (Value.bool (decide ((sv).num < 0))) := SUM_20.cell 0
                have fSUM_20_0 := SUM_20.free 0
                have cSUM_20_1 : _ = some (Value.slice SUMa SUMn SUMc) := SUM_20.cell 1
                have fSUM_20_1 := SUM_20.free 1
                have cSUM_20_2 : _ = some (Value.slice SUMb SUMm SUMd) := SUM_20.cell 2
                have fSUM_20_2 := SUM_20.free 2
                have ONC_20 := ONC_19.next hB_20
                have cONC_20_0 : _ = some (Value.int .u32 1) := ONC_20.cell 0
                have OSUM_20 := OSUM_19.below hB_20
                have OSUM'_20 := OSUM'_19.below hB_20
                have Oe_20 := Oe_19.below hB_20
                have Pe_20 := Pe_19.below hB_20
                have hbel_20 := hbel_19.next hB_20
                have hsz_20 := hB_20.size
                clear X_19 cX_19_0 cX_19_1 cX_19_2 Q_19 cQ_19_0 fQ_19_0 cQ_19_1 fQ_19_1 cQ_19_2 fQ_19_2 Z_19 cZ_19_0 cZ_19_1 ONA_19 cONA_19_0 E_19 cE_19_0 cE_19_1 cE_19_2 ONB_19 cONB_19_0 SUM_19 cSUM_19_0 fSUM_19_0 cSUM_19_1 fSUM_19_1 cSUM_19_2 fSUM_19_2 ONC_19 cONC_19_0 OSUM_19 OSUM'_19 Oe_19 Pe_19 hbel_19 hB_20
                clear hBy
                have hTw : IntKind.i64.wrap ((T.size : Int) + (U.size : Int)) = (T.size : Int) + (U.size : Int) := by rw [IntKind.wrap_i64]; omega
                have hT300 : (T.size : Int) + (U.size : Int) ≤ 300 := by omega
                go_upto_region 32 with fail
                go_wp2_with fail
                go_region_held3 (fun w' => w'.cell? ⟨v14.heap.size, 0, none⟩ = some (Value.bool (decide ((sv).num < 0))) ∧ w'.cell? ⟨v14.heap.size, 1, none⟩ = some (Value.slice SUMa SUMn SUMc) ∧ w'.cell? ⟨v14.heap.size, 2, none⟩ = some (Value.slice SUMb SUMm SUMd) ∧ w'.cell? ⟨w11.heap.size, 0, none⟩ = some (Value.bool (decide (er.num < 0))) ∧ w'.cell? ⟨w11.heap.size, 1, none⟩ = some (Value.slice ea en ec) ∧ w'.cell? ⟨w11.heap.size, 2, none⟩ = some (Value.slice eb em ed))
                  (first | exact ⟨cSUM_20_0, cSUM_20_1, cSUM_20_2, cE_20_0, cE_20_1, cE_20_2⟩ | exact ⟨cSUM_21_0, cSUM_21_1, cSUM_21_2, cE_21_0, cE_21_1, cE_21_2⟩ | exact ⟨cSUM_22_0, cSUM_22_1, cSUM_22_2, cE_22_0, cE_22_1, cE_22_2⟩ | exact ⟨cSUM_23_0, cSUM_23_1, cSUM_23_2, cE_23_0, cE_23_1, cE_23_2⟩ | go_keep)
                  (first
                    | (go_at_call 65; ((with_reducible refine (HOT.out _).mono ?_); (rintro e w21 ⟨pa, pc, pb, pm, pd, rfl, hR1, hR2, hO, hB⟩; have hB_21 : Below wc.heap.size wc w21 := (bl.next hB); have X_21 := X_20.next hB_21; have cX_21_0 : _ = some (Value.bool s) := X_21.cell 0; have cX_21_1 : _ = some (Value.slice a n c) := X_21.cell 1; have cX_21_2 : _ = some (Value.slice b m d) := X_21.cell 2; have Q_21 := Q_20.next hB_21; have cQ_21_0 : _ = some (Value.bool (decide (y.num < 0))) := Q_21.cell 0; have fQ_21_0 := Q_21.free 0; have cQ_21_1 : _ = some (Value.slice ya yn yc) := Q_21.cell 1; have fQ_21_1 := Q_21.free 1; have cQ_21_2 : _ = some (Value.slice yb ym yd) := Q_21.cell 2; have fQ_21_2 := Q_21.free 2; have Z_21 := Z_20.next hB_21; have cZ_21_0 : _ = some (Value.bool false) := Z_21.cell 0; have cZ_21_1 : _ = some (Value.slice za zn zc) := Z_21.cell 1; have ONA_21 := ONA_20.next hB_21; have cONA_21_0 : _ = some (Value.int .u32 1) := ONA_21.cell 0; have E_21 := E_20.next hB_21; have cE_21_0 : _ = some (Value.bool (decide (er.num < 0))) := E_21.cell 0; have cE_21_1 : _ = some (Value.slice ea en ec) := E_21.cell 1; have cE_21_2 : _ = some (Value.slice eb em ed) := E_21.cell 2; have ONB_21 := ONB_20.next hB_21; have cONB_21_0 : _ = some (Value.int .u32 1) := ONB_21.cell 0; have SUM_21 := SUM_20.next hB_21; have cSUM_21_0 : _ = some (Value.bool (decide ((sv).num < 0))) := SUM_21.cell 0; have fSUM_21_0 := SUM_21.free 0; have cSUM_21_1 : _ = some (Value.slice SUMa SUMn SUMc) := SUM_21.cell 1; have fSUM_21_1 := SUM_21.free 1; have cSUM_21_2 : _ = some (Value.slice SUMb SUMm SUMd) := SUM_21.cell 2; have fSUM_21_2 := SUM_21.free 2; have ONC_21 := ONC_20.next hB_21; have cONC_21_0 : _ = some (Value.int .u32 1) := ONC_21.cell 0; have OSUM_21 := OSUM_20.below hB_21; have OSUM'_21 := OSUM'_20.below hB_21; have Oe_21 := Oe_20.below hB_21; have Pe_21 := Pe_20.below hB_21; have hbel_21 := hbel_20.next hB_21; have hsz_21 := hB_21.size; clear X_20 cX_20_0 cX_20_1 cX_20_2 Q_20 cQ_20_0 fQ_20_0 cQ_20_1 fQ_20_1 cQ_20_2 fQ_20_2 Z_20 cZ_20_0 cZ_20_1 ONA_20 cONA_20_0 E_20 cE_20_0 cE_20_1 cE_20_2 ONB_20 cONB_20_0 SUM_20 cSUM_20_0 fSUM_20_0 cSUM_20_1 fSUM_20_1 cSUM_20_2 fSUM_20_2 ONC_20 cONC_20_0 OSUM_20 OSUM'_20 Oe_20 Pe_20 hbel_20 hB_21; have T1_21 := hO; have U1_21 := hR1; try clear hB)))
                    | (go_at_call 36; ((with_reducible refine (qmul ((OSUM_21.below bl).rdQ (OSUM'_21.below bl) hsvq) (by omega) (rdq_ov (U1_21.below bl) (T1_21.below bl) sPT hPTn) (by omega)).mono ?_); (rw [heqh.out]; rintro e w22 ⟨ma, mn, mc, mb, mm, md, rfl, hO, hO', hDm, hB⟩; have hB_22 : Below w21.heap.size w21 w22 := (bl.next hB); have X_22 := X_21.next hB_22; have cX_22_0 : _ = some (Value.bool s) := X_22.cell 0; have cX_22_1 : _ = some (Value.slice a n c) := X_22.cell 1; have cX_22_2 : _ = some (Value.slice b m d) := X_22.cell 2; have Q_22 := Q_21.next hB_22; have cQ_22_0 : _ = some (Value.bool (decide (y.num < 0))) := Q_22.cell 0; have fQ_22_0 := Q_22.free 0; have cQ_22_1 : _ = some (Value.slice ya yn yc) := Q_22.cell 1; have fQ_22_1 := Q_22.free 1; have cQ_22_2 : _ = some (Value.slice yb ym yd) := Q_22.cell 2; have fQ_22_2 := Q_22.free 2; have Z_22 := Z_21.next hB_22; have cZ_22_0 : _ = some (Value.bool false) := Z_22.cell 0; have cZ_22_1 : _ = some (Value.slice za zn zc) := Z_22.cell 1; have ONA_22 := ONA_21.next hB_22; have cONA_22_0 : _ = some (Value.int .u32 1) := ONA_22.cell 0; have E_22 := E_21.next hB_22; have cE_22_0 : _ = some (Value.bool (decide (er.num < 0))) := E_22.cell 0; have cE_22_1 : _ = some (Value.slice ea en ec) := E_22.cell 1; have cE_22_2 : _ = some (Value.slice eb em ed) := E_22.cell 2; have ONB_22 := ONB_21.next hB_22; have cONB_22_0 : _ = some (Value.int .u32 1) := ONB_22.cell 0; have SUM_22 := SUM_21.next hB_22; have cSUM_22_0 : _ = some (Value.bool (decide ((sv).num < 0))) := SUM_22.cell 0; have fSUM_22_0 := SUM_22.free 0; have cSUM_22_1 : _ = some (Value.slice SUMa SUMn SUMc) := SUM_22.cell 1; have fSUM_22_1 := SUM_22.free 1; have cSUM_22_2 : _ = some (Value.slice SUMb SUMm SUMd) := SUM_22.cell 2; have fSUM_22_2 := SUM_22.free 2; have ONC_22 := ONC_21.next hB_22; have cONC_22_0 : _ = some (Value.int .u32 1) := ONC_22.cell 0; have OSUM_22 := OSUM_21.below hB_22; have OSUM'_22 := OSUM'_21.below hB_22; have Oe_22 := Oe_21.below hB_22; have Pe_22 := Pe_21.below hB_22; have T1_22 := T1_21.below hB_22; have U1_22 := U1_21.below hB_22; have hbel_22 := hbel_21.next hB_22; have hsz_22 := hB_22.size; clear X_21 cX_21_0 cX_21_1 cX_21_2 Q_21 cQ_21_0 fQ_21_0 cQ_21_1 fQ_21_1 cQ_21_2 fQ_21_2 Z_21 cZ_21_0 cZ_21_1 ONA_21 cONA_21_0 E_21 cE_21_0 cE_21_1 cE_21_2 ONB_21 cONB_21_0 SUM_21 cSUM_21_0 fSUM_21_0 cSUM_21_1 fSUM_21_1 cSUM_21_2 fSUM_21_2 ONC_21 cONC_21_0 OSUM_21 OSUM'_21 Oe_21 Pe_21 T1_21 U1_21 hbel_21 hB_22; have Om_22 := hO; have Pm_22 := hO'; try clear hB)))
                    | (go_at_call 62; ((with_reducible refine (lsame4 (((Om_22.below bl)).rdQ ((Pm_22.below bl)) hers) (by omega) (((Oe_22.below bl)).rdQ ((Pe_22.below bl)) hers) (by omega) rfl).mono ?_); (rintro e w23 ⟨rfl, hB⟩; have hB_23 : Below w22.heap.size w22 w23 := (bl.next hB); have X_23 := X_22.next hB_23; have cX_23_0 : _ = some (Value.bool s) := X_23.cell 0; have cX_23_1 : _ = some (Value.slice a n c) := X_23.cell 1; have cX_23_2 : _ = some (Value.slice b m d) := X_23.cell 2; have Q_23 := Q_22.next hB_23; have cQ_23_0 : _ = some (Value.bool (decide (y.num < 0))) := Q_23.cell 0; have fQ_23_0 := Q_23.free 0; have cQ_23_1 : _ = some (Value.slice ya yn yc) := Q_23.cell 1; have fQ_23_1 := Q_23.free 1; have cQ_23_2 : _ = some (Value.slice yb ym yd) := Q_23.cell 2; have fQ_23_2 := Q_23.free 2; have Z_23 := Z_22.next hB_23; have cZ_23_0 : _ = some (Value.bool false) := Z_23.cell 0; have cZ_23_1 : _ = some (Value.slice za zn zc) := Z_23.cell 1; have ONA_23 := ONA_22.next hB_23; have cONA_23_0 : _ = some (Value.int .u32 1) := ONA_23.cell 0; have E_23 := E_22.next hB_23; have cE_23_0 : _ = some (Value.bool (decide (er.num < 0))) := E_23.cell 0; have cE_23_1 : _ = some (Value.slice ea en ec) := E_23.cell 1; have cE_23_2 : _ = some (Value.slice eb em ed) := E_23.cell 2; have ONB_23 := ONB_22.next hB_23; have cONB_23_0 : _ = some (Value.int .u32 1) := ONB_23.cell 0; have SUM_23 := SUM_22.next hB_23; have cSUM_23_0 : _ = some (Value.bool (decide ((sv).num < 0))) := SUM_23.cell 0; have fSUM_23_0 := SUM_23.free 0; have cSUM_23_1 : _ = some (Value.slice SUMa SUMn SUMc) := SUM_23.cell 1; have fSUM_23_1 := SUM_23.free 1; have cSUM_23_2 : _ = some (Value.slice SUMb SUMm SUMd) := SUM_23.cell 2; have fSUM_23_2 := SUM_23.free 2; have ONC_23 := ONC_22.next hB_23; have cONC_23_0 : _ = some (Value.int .u32 1) := ONC_23.cell 0; have OSUM_23 := OSUM_22.below hB_23; have OSUM'_23 := OSUM'_22.below hB_23; have Oe_23 := Oe_22.below hB_23; have Pe_23 := Pe_22.below hB_23; have T1_23 := T1_22.below hB_23; have U1_23 := U1_22.below hB_23; have Om_23 := Om_22.below hB_23; have Pm_23 := Pm_22.below hB_23; have hbel_23 := hbel_22.next hB_23; have hsz_23 := hB_23.size; clear X_22 cX_22_0 cX_22_1 cX_22_2 Q_22 cQ_22_0 fQ_22_0 cQ_22_1 fQ_22_1 cQ_22_2 fQ_22_2 Z_22 cZ_22_0 cZ_22_1 ONA_22 cONA_22_0 E_22 cE_22_0 cE_22_1 cE_22_2 ONB_22 cONB_22_0 SUM_22 cSUM_22_0 fSUM_22_0 cSUM_22_1 fSUM_22_1 cSUM_22_2 fSUM_22_2 ONC_22 cONC_22_0 OSUM_22 OSUM'_22 Oe_22 Pe_22 T1_22 U1_22 Om_22 Pm_22 hbel_22 hB_23; try clear hB))))
                go_wp2
                go_ret
                exact ⟨rfl, hbel_23⟩

theorem decimalRepeats_walk {w : World} {a b : Option Addr} {n c m d : Nat} {l k : List Nat} (s : Bool) (ha : Rd w a n c l) (hb : Rd w b m d k) : Calls Try.prog 14 #[.agg #[.bool s, .slice a n c, .slice b m d]] w (fun e w' => e = .returned (.bool true) ∧ Below w.heap.size w w') := by
  obtain ⟨q, hqs, HF⟩ := lfrac s ha hb
  obtain ⟨R, hR⟩ := per_exists q.num.natAbs q.den 300
  cases R with
  | none => exact drep_none HF hqs hR
  | some AK =>
    obtain ⟨A, K⟩ := AK
    have hAK := (per_some hR).1
    by_cases hneg : q < 0
    · by_cases hp : A < K
      · exact drep_11 HF hqs A K hR hneg hp
      · exact drep_10 HF hqs A K hR hneg (by omega)
    · by_cases hp : A < K
      · exact drep_01 HF hqs A K hR hneg hp
      · exact drep_00 HF hqs A K hR hneg (by omega)
end Go.Proofs.Ytnpkmlpmeeidbaa
