/- WALKS OF FRACTIONS, 20: the simplest between two. -/
import Derived.Test.YtenmjgnhneofjaaRb2
namespace Go.Proofs.Ytenmjgnhneofjaa
set_option linter.unusedVariables false
set_option linter.unusedSimpArgs false
open Go.ChangeShapes Go.WideShapes Go.ChangeAt Go.RowKit Go.NatP

theorem qbtw (J : Nat) (hJ1 : 1 ≤ J) (hJ : J ≤ 200000) : ∀ k, BtwC J k
  | 0 => ⟨fun {w a1 b1 n1 c1 m1 d1 s x a2 b2 n2 c2 m2 d2 t y} hin hk hx hy => by have := x.den_nz; omega⟩
  | k + 1 => ⟨fun {w a1 b1 n1 c1 m1 d1 s x a2 b2 n2 c2 m2 d2 t y} hin hk hx hy => by
    by_cases h1 : (x.floor : Rat) = x
    · exact qbtw1 hJ1 hJ hin hx hy h1
    · by_cases h2 : (x.floor : Rat) + 1 ≤ y
      · exact qbtw2 hJ1 hJ hin hx hy h1 h2
      · exact qbtw3 hJ1 hJ hin hx hy (qbtw J hJ1 hJ k) hk h1 h2⟩

set_option maxRecDepth 100000 in
set_option maxHeartbeats 8000000 in
theorem qsimpE {w : World} {a1 b1 : Option Addr} {n1 c1 m1 d1 : Nat} {s : Bool} {x : Rat} {a2 b2 : Option Addr} {n2 c2 m2 d2 : Nat} {t : Bool} {y : Rat} {J : Nat} (hJ1 : 1 ≤ J) (hJ : J ≤ 200000) (hx : RdQ J w s a1 n1 c1 b1 m1 d1 x) (hy : RdQ J w t a2 n2 c2 b2 m2 d2 y) (h1 : y < x) :
    Calls Try.prog 51 #[.agg #[.bool s, .slice a1 n1 c1, .slice b1 m1 d1], .agg #[.bool t, .slice a2 n2 c2, .slice b2 m2 d2]] w (RetQE w (spl x y) 3) := by
  have hqx := hx.qs hJ1
  have hqy := hy.qs hJ1
  have hc : 0 < cmpQ x y := by rw [cmpQ_swap, cmpQ_lt h1]; omega
  obtain ⟨c, hc0⟩ : ∃ c, cmpQ x y = c := ⟨_, rfl⟩
  rw [hc0] at hc
  have hch := hid hc0
  clear hc0 hqx hqy h1
  have hent := ent3 w #[Value.bool s, Value.slice a1 n1 c1, Value.slice b1 m1 d1] #[Value.bool t, Value.slice a2 n2 c2, Value.slice b2 m2 d2] #[Value.bool false, Value.slice none 0 0, Value.slice none 0 0] 32 32 32
  go_enter Try.func51, Try.ntmps51
  go_wp2_with fail
  generalize (((w.alloc (.cells #[Value.bool s, Value.slice a1 n1 c1, Value.slice b1 m1 d1] 32)).alloc (.cells #[Value.bool t, Value.slice a2 n2 c2, Value.slice b2 m2 d2] 32)).alloc (.cells #[Value.bool false, Value.slice none 0 0, Value.slice none 0 0] 32)) = W0 at hent ⊢
  obtain ⟨X_0, Y_0, R0_0, hbel_0, hsz_0⟩ := hent
  have cX_0_0 : _ = some (Value.bool s) := X_0.cell 0
  have cX_0_1 : _ = some (Value.slice a1 n1 c1) := X_0.cell 1
  have cX_0_2 : _ = some (Value.slice b1 m1 d1) := X_0.cell 2
  have cY_0_0 : _ = some (Value.bool t) := Y_0.cell 0
  have cY_0_1 : _ = some (Value.slice a2 n2 c2) := Y_0.cell 1
  have cY_0_2 : _ = some (Value.slice b2 m2 d2) := Y_0.cell 2
  have cR0_0_0 : _ = some (Value.bool false) := R0_0.cell 0
  have fR0_0_0 := R0_0.free 0
  have cR0_0_1 : _ = some (Value.slice none 0 0) := R0_0.cell 1
  have fR0_0_1 := R0_0.free 1
  have cR0_0_2 : _ = some (Value.slice none 0 0) := R0_0.cell 2
  have fR0_0_2 := R0_0.free 2
  have hx_0 := hx.below hbel_0
  clear hx
  have hy_0 := hy.below hbel_0
  clear hy
  go_wp2_with fail
  refine (qcmp hx_0 (by omega) hy_0 (by omega)).mono ?_
  rw [hch.out]
  rintro e w1 ⟨rfl, hB⟩
  have hB_1 : Below W0.heap.size W0 w1 := (by first | exact hB | exact below_drew hB | exact bel_alloc hB | exact below_drew (bel_alloc hB) | exact bel_alloc (below_drew hB) | exact bel_alloc (bel_alloc hB) | exact bel_alloc (bel_alloc (below_drew hB)))
  have X_1 := X_0.next hB_1
  have cX_1_0 : _ = some (Value.bool s) := X_1.cell 0
  have cX_1_1 : _ = some (Value.slice a1 n1 c1) := X_1.cell 1
  have cX_1_2 : _ = some (Value.slice b1 m1 d1) := X_1.cell 2
  have Y_1 := Y_0.next hB_1
  have cY_1_0 : _ = some (Value.bool t) := Y_1.cell 0
  have cY_1_1 : _ = some (Value.slice a2 n2 c2) := Y_1.cell 1
  have cY_1_2 : _ = some (Value.slice b2 m2 d2) := Y_1.cell 2
  have R0_1 := R0_0.next hB_1
  have cR0_1_0 : _ = some (Value.bool false) := R0_1.cell 0
  have fR0_1_0 := R0_1.free 0
  have cR0_1_1 : _ = some (Value.slice none 0 0) := R0_1.cell 1
  have fR0_1_1 := R0_1.free 1
  have cR0_1_2 : _ = some (Value.slice none 0 0) := R0_1.cell 2
  have fR0_1_2 := R0_1.free 2
  have hx_1 := hx_0.below hB_1
  have hy_1 := hy_0.below hB_1
  have hbel_1 := hbel_0.next hB_1
  have hsz_1 := hB_1.size
  clear X_0 cX_0_0 cX_0_1 cX_0_2 Y_0 cY_0_0 cY_0_1 cY_0_2 R0_0 cR0_0_0 fR0_0_0 cR0_0_1 fR0_0_1 cR0_0_2 fR0_0_2 hx_0 hy_0 hbel_0 hB_1
  try clear hB
  go_wp2
  refine bodyPost_ret (v := .tuple #[.agg #[.bool false, .slice none 0 0, .slice none 0 0], .int .i64 3]) (by simp [results, Try.results51, go_sem, cR0_1_0, cR0_1_1, cR0_1_2]) rfl ?_
  exact retqe_nil (by decide) hbel_1 (by omega)

set_option maxRecDepth 100000 in
set_option maxHeartbeats 8000000 in
theorem qsimpP {w : World} {a1 b1 : Option Addr} {n1 c1 m1 d1 : Nat} {s : Bool} {x : Rat} {a2 b2 : Option Addr} {n2 c2 m2 d2 : Nat} {t : Bool} {y : Rat} {J : Nat} (hJ1 : 1 ≤ J) (hJ : J ≤ 200000) (hx : RdQ J w s a1 n1 c1 b1 m1 d1 x) (hy : RdQ J w t a2 n2 c2 b2 m2 d2 y) (h1 : x ≤ y) (h2 : 0 < x) :
    Calls Try.prog 51 #[.agg #[.bool s, .slice a1 n1 c1, .slice b1 m1 d1], .agg #[.bool t, .slice a2 n2 c2, .slice b2 m2 d2]] w (RetQE w (spl x y) 0) := by
  have hqx := hx.qs hJ1
  have hqy := hy.qs hJ1
  have hc : cmpQ x y ≤ 0 := by rcases cmpQ_cases x y with ⟨_, e⟩ | ⟨_, e⟩ | ⟨h, e⟩ <;> first | omega | exact absurd h1 (Rat.not_le.2 h)
  have hs1 : 0 < sgnQ x := by rcases sgnQ_cases x with ⟨h, e⟩ | ⟨h, e⟩ | ⟨h, e⟩ <;> first | omega | exact absurd h2 (Rat.not_lt.2 (Rat.le_of_lt h)) | (rw [h] at h2; exact absurd h2 Rat.lt_irrefl) | exact absurd h h2
  have hin := hid (smpIn_of h2 h1)
  rw [spl_pos h2]
  obtain ⟨q, hq0⟩ : ∃ q, smp (x.den + y.den) x y = q := ⟨_, rfl⟩
  rw [hq0]
  have hq := hid hq0
  have HB := hid (@qbtw J hJ1 hJ (x.den + y.den))
  clear hq0 h1 h2
  obtain ⟨c, hc0⟩ : ∃ c, cmpQ x y = c := ⟨_, rfl⟩
  rw [hc0] at hc
  have hch := hid hc0
  clear hc0 hqx hqy
  obtain ⟨sx, hsx0⟩ : ∃ c, sgnQ x = c := ⟨_, rfl⟩
  rw [hsx0] at hs1
  have hsx := hid hsx0
  clear hsx0
  have hent := ent3 w #[Value.bool s, Value.slice a1 n1 c1, Value.slice b1 m1 d1] #[Value.bool t, Value.slice a2 n2 c2, Value.slice b2 m2 d2] #[Value.bool false, Value.slice none 0 0, Value.slice none 0 0] 32 32 32
  go_enter Try.func51, Try.ntmps51
  go_wp2_with fail
  generalize (((w.alloc (.cells #[Value.bool s, Value.slice a1 n1 c1, Value.slice b1 m1 d1] 32)).alloc (.cells #[Value.bool t, Value.slice a2 n2 c2, Value.slice b2 m2 d2] 32)).alloc (.cells #[Value.bool false, Value.slice none 0 0, Value.slice none 0 0] 32)) = W0 at hent ⊢
  obtain ⟨X_0, Y_0, R0_0, hbel_0, hsz_0⟩ := hent
  have cX_0_0 : _ = some (Value.bool s) := X_0.cell 0
  have cX_0_1 : _ = some (Value.slice a1 n1 c1) := X_0.cell 1
  have cX_0_2 : _ = some (Value.slice b1 m1 d1) := X_0.cell 2
  have cY_0_0 : _ = some (Value.bool t) := Y_0.cell 0
  have cY_0_1 : _ = some (Value.slice a2 n2 c2) := Y_0.cell 1
  have cY_0_2 : _ = some (Value.slice b2 m2 d2) := Y_0.cell 2
  have cR0_0_0 : _ = some (Value.bool false) := R0_0.cell 0
  have fR0_0_0 := R0_0.free 0
  have cR0_0_1 : _ = some (Value.slice none 0 0) := R0_0.cell 1
  have fR0_0_1 := R0_0.free 1
  have cR0_0_2 : _ = some (Value.slice none 0 0) := R0_0.cell 2
  have fR0_0_2 := R0_0.free 2
  have hx_0 := hx.below hbel_0
  clear hx
  have hy_0 := hy.below hbel_0
  clear hy
  go_wp2_with fail
  refine (qcmp hx_0 (by omega) hy_0 (by omega)).mono ?_
  rw [hch.out]
  rintro e w1 ⟨rfl, hB⟩
  have hB_1 : Below W0.heap.size W0 w1 := (by first | exact hB | exact below_drew hB | exact bel_alloc hB | exact below_drew (bel_alloc hB) | exact bel_alloc (below_drew hB) | exact bel_alloc (bel_alloc hB) | exact bel_alloc (bel_alloc (below_drew hB)))
  have X_1 := X_0.next hB_1
  have cX_1_0 : _ = some (Value.bool s) := X_1.cell 0
  have cX_1_1 : _ = some (Value.slice a1 n1 c1) := X_1.cell 1
  have cX_1_2 : _ = some (Value.slice b1 m1 d1) := X_1.cell 2
  have Y_1 := Y_0.next hB_1
  have cY_1_0 : _ = some (Value.bool t) := Y_1.cell 0
  have cY_1_1 : _ = some (Value.slice a2 n2 c2) := Y_1.cell 1
  have cY_1_2 : _ = some (Value.slice b2 m2 d2) := Y_1.cell 2
  have R0_1 := R0_0.next hB_1
  have cR0_1_0 : _ = some (Value.bool false) := R0_1.cell 0
  have fR0_1_0 := R0_1.free 0
  have cR0_1_1 : _ = some (Value.slice none 0 0) := R0_1.cell 1
  have fR0_1_1 := R0_1.free 1
  have cR0_1_2 : _ = some (Value.slice none 0 0) := R0_1.cell 2
  have fR0_1_2 := R0_1.free 2
  have hx_1 := hx_0.below hB_1
  have hy_1 := hy_0.below hB_1
  have hbel_1 := hbel_0.next hB_1
  have hsz_1 := hB_1.size
  clear X_0 cX_0_0 cX_0_1 cX_0_2 Y_0 cY_0_0 cY_0_1 cY_0_2 R0_0 cR0_0_0 fR0_0_0 cR0_0_1 fR0_0_1 cR0_0_2 fR0_0_2 hx_0 hy_0 hbel_0 hB_1
  try clear hB
  go_wp2_with fail
  refine (qsign hx_1 (by omega)).mono ?_
  rw [hsx.out]
  rintro e w2 ⟨rfl, hB⟩
  have hB_2 : Below w1.heap.size w1 w2 := (by first | exact hB | exact below_drew hB | exact bel_alloc hB | exact below_drew (bel_alloc hB) | exact bel_alloc (below_drew hB) | exact bel_alloc (bel_alloc hB) | exact bel_alloc (bel_alloc (below_drew hB)))
  have X_2 := X_1.next hB_2
  have cX_2_0 : _ = some (Value.bool s) := X_2.cell 0
  have cX_2_1 : _ = some (Value.slice a1 n1 c1) := X_2.cell 1
  have cX_2_2 : _ = some (Value.slice b1 m1 d1) := X_2.cell 2
  have Y_2 := Y_1.next hB_2
  have cY_2_0 : _ = some (Value.bool t) := Y_2.cell 0
  have cY_2_1 : _ = some (Value.slice a2 n2 c2) := Y_2.cell 1
  have cY_2_2 : _ = some (Value.slice b2 m2 d2) := Y_2.cell 2
  have R0_2 := R0_1.next hB_2
  have cR0_2_0 : _ = some (Value.bool false) := R0_2.cell 0
  have fR0_2_0 := R0_2.free 0
  have cR0_2_1 : _ = some (Value.slice none 0 0) := R0_2.cell 1
  have fR0_2_1 := R0_2.free 1
  have cR0_2_2 : _ = some (Value.slice none 0 0) := R0_2.cell 2
  have fR0_2_2 := R0_2.free 2
  have hx_2 := hx_1.below hB_2
  have hy_2 := hy_1.below hB_2
  have hbel_2 := hbel_1.next hB_2
  have hsz_2 := hB_2.size
  clear X_1 cX_1_0 cX_1_1 cX_1_2 Y_1 cY_1_0 cY_1_1 cY_1_2 R0_1 cR0_1_0 fR0_1_0 cR0_1_1 fR0_1_1 cR0_1_2 fR0_1_2 hx_1 hy_1 hbel_1 hB_2
  try clear hB
  go_wp2_with fail
  refine (HB.out.go hin.out (Nat.le_refl _) hx_2 hy_2).mono ?_
  rw [hq.out]
  rintro e w3 ⟨qa, qn, qc, qb, qm, qd, rfl, hO, hO', hDq, hB⟩
  have hB_3 : Below w2.heap.size w2 w3 := (by first | exact hB | exact below_drew hB | exact bel_alloc hB | exact below_drew (bel_alloc hB) | exact bel_alloc (below_drew hB) | exact bel_alloc (bel_alloc hB) | exact bel_alloc (bel_alloc (below_drew hB)))
  have X_3 := X_2.next hB_3
  have cX_3_0 : _ = some (Value.bool s) := X_3.cell 0
  have cX_3_1 : _ = some (Value.slice a1 n1 c1) := X_3.cell 1
  have cX_3_2 : _ = some (Value.slice b1 m1 d1) := X_3.cell 2
  have Y_3 := Y_2.next hB_3
  have cY_3_0 : _ = some (Value.bool t) := Y_3.cell 0
  have cY_3_1 : _ = some (Value.slice a2 n2 c2) := Y_3.cell 1
  have cY_3_2 : _ = some (Value.slice b2 m2 d2) := Y_3.cell 2
  have R0_3 := R0_2.next hB_3
  have cR0_3_0 : _ = some (Value.bool false) := R0_3.cell 0
  have fR0_3_0 := R0_3.free 0
  have cR0_3_1 : _ = some (Value.slice none 0 0) := R0_3.cell 1
  have fR0_3_1 := R0_3.free 1
  have cR0_3_2 : _ = some (Value.slice none 0 0) := R0_3.cell 2
  have fR0_3_2 := R0_3.free 2
  have hx_3 := hx_2.below hB_3
  have hy_3 := hy_2.below hB_3
  have hbel_3 := hbel_2.next hB_3
  have hsz_3 := hB_3.size
  clear X_2 cX_2_0 cX_2_1 cX_2_2 Y_2 cY_2_0 cY_2_1 cY_2_2 R0_2 cR0_2_0 fR0_2_0 cR0_2_1 fR0_2_1 cR0_2_2 fR0_2_2 hx_2 hy_2 hbel_2 hB_3
  have Oq_3 := hO
  have ltOq := hO.ltB
  have Pq_3 := hO'
  have ltPq := hO'.ltB
  clear hO hO'
  try clear hB
  go_wp2
  refine bodyPost_ret (v := .tuple #[.agg #[.bool (decide ((q : Rat).num < 0)), .slice qa qn qc, .slice qb qm qd], .int .i64 0]) (by simp [results, Try.results51, go_sem, cR0_3_0, cR0_3_1, cR0_3_2]) rfl ?_
  exact retqe_set (er := 0) Oq_3 Pq_3 hDq hbel_3 (by omega) (by omega)

set_option maxRecDepth 100000 in
set_option maxHeartbeats 8000000 in
theorem qsimpN {w : World} {a1 b1 : Option Addr} {n1 c1 m1 d1 : Nat} {s : Bool} {x : Rat} {a2 b2 : Option Addr} {n2 c2 m2 d2 : Nat} {t : Bool} {y : Rat} {J : Nat} (hJ1 : 1 ≤ J) (hJ : J ≤ 200000) (hx : RdQ J w s a1 n1 c1 b1 m1 d1 x) (hy : RdQ J w t a2 n2 c2 b2 m2 d2 y) (h1 : x ≤ y) (h2 : ¬ 0 < x) (h3 : y < 0) :
    Calls Try.prog 51 #[.agg #[.bool s, .slice a1 n1 c1, .slice b1 m1 d1], .agg #[.bool t, .slice a2 n2 c2, .slice b2 m2 d2]] w (RetQE w (spl x y) 0) := by
  have hqx := hx.qs hJ1
  have hqy := hy.qs hJ1
  have hc : cmpQ x y ≤ 0 := by rcases cmpQ_cases x y with ⟨_, e⟩ | ⟨_, e⟩ | ⟨h, e⟩ <;> first | omega | exact absurd h1 (Rat.not_le.2 h)
  have hs1 : sgnQ x ≤ 0 := by rcases sgnQ_cases x with ⟨h, e⟩ | ⟨h, e⟩ | ⟨h, e⟩ <;> first | omega | exact absurd h2 (Rat.not_lt.2 (Rat.le_of_lt h)) | (rw [h] at h2; exact absurd h2 Rat.lt_irrefl) | exact absurd h h2
  have hs2 : sgnQ y < 0 := by rcases sgnQ_cases y with ⟨h, e⟩ | ⟨h, e⟩ | ⟨h, e⟩ <;> first | omega | exact absurd h h3 | exact absurd h3 (Rat.not_lt.2 (Rat.le_of_lt h)) | (rw [h] at h3; exact absurd h3 Rat.lt_irrefl)
  have hin := hid (smpIn_of (neg_pos' h3) (Rat.neg_le_neg h1))
  have hqs := hid (smp_qs (smpIn_of (neg_pos' h3) (Rat.neg_le_neg h1)) (show (-y).den + (-x).den ≤ y.den + x.den by simp) hqy.neg)
  have hle := hid (show (-y).den + (-x).den ≤ y.den + x.den by simp)
  have q1 := hid hqy.neg
  have q2 := hid hqx.neg
  rw [spl_neg h2 h3]
  generalize hu0 : -y = u at *
  generalize hv0 : -x = v at *
  have hu := hid hu0
  have hv := hid hv0
  generalize hq0 : smp (y.den + x.den) u v = q at *
  have hq := hid hq0
  have HB := hid (@qbtw J hJ1 hJ (y.den + x.den))
  clear hq0 hu0 hv0 h1 h2 h3
  obtain ⟨r, hr0⟩ : ∃ r, -q = r := ⟨_, rfl⟩
  rw [hr0]
  have hr := hid hr0
  clear hr0
  obtain ⟨c, hc0⟩ : ∃ c, cmpQ x y = c := ⟨_, rfl⟩
  rw [hc0] at hc
  have hch := hid hc0
  clear hc0 hqx hqy
  obtain ⟨sx, hsx0⟩ : ∃ c, sgnQ x = c := ⟨_, rfl⟩
  rw [hsx0] at hs1
  have hsx := hid hsx0
  clear hsx0
  obtain ⟨sy, hsy0⟩ : ∃ c, sgnQ y = c := ⟨_, rfl⟩
  rw [hsy0] at hs2
  have hsy := hid hsy0
  clear hsy0
  have hent := ent3 w #[Value.bool s, Value.slice a1 n1 c1, Value.slice b1 m1 d1] #[Value.bool t, Value.slice a2 n2 c2, Value.slice b2 m2 d2] #[Value.bool false, Value.slice none 0 0, Value.slice none 0 0] 32 32 32
  go_enter Try.func51, Try.ntmps51
  go_wp2_with fail
  generalize (((w.alloc (.cells #[Value.bool s, Value.slice a1 n1 c1, Value.slice b1 m1 d1] 32)).alloc (.cells #[Value.bool t, Value.slice a2 n2 c2, Value.slice b2 m2 d2] 32)).alloc (.cells #[Value.bool false, Value.slice none 0 0, Value.slice none 0 0] 32)) = W0 at hent ⊢
  obtain ⟨X_0, Y_0, R0_0, hbel_0, hsz_0⟩ := hent
  have cX_0_0 : _ = some (Value.bool s) := X_0.cell 0
  have cX_0_1 : _ = some (Value.slice a1 n1 c1) := X_0.cell 1
  have cX_0_2 : _ = some (Value.slice b1 m1 d1) := X_0.cell 2
  have cY_0_0 : _ = some (Value.bool t) := Y_0.cell 0
  have cY_0_1 : _ = some (Value.slice a2 n2 c2) := Y_0.cell 1
  have cY_0_2 : _ = some (Value.slice b2 m2 d2) := Y_0.cell 2
  have cR0_0_0 : _ = some (Value.bool false) := R0_0.cell 0
  have fR0_0_0 := R0_0.free 0
  have cR0_0_1 : _ = some (Value.slice none 0 0) := R0_0.cell 1
  have fR0_0_1 := R0_0.free 1
  have cR0_0_2 : _ = some (Value.slice none 0 0) := R0_0.cell 2
  have fR0_0_2 := R0_0.free 2
  have hx_0 := hx.below hbel_0
  clear hx
  have hy_0 := hy.below hbel_0
  clear hy
  go_wp2_with fail
  refine (qcmp hx_0 (by omega) hy_0 (by omega)).mono ?_
  rw [hch.out]
  rintro e w1 ⟨rfl, hB⟩
  have hB_1 : Below W0.heap.size W0 w1 := (by first | exact hB | exact below_drew hB | exact bel_alloc hB | exact below_drew (bel_alloc hB) | exact bel_alloc (below_drew hB) | exact bel_alloc (bel_alloc hB) | exact bel_alloc (bel_alloc (below_drew hB)))
  have X_1 := X_0.next hB_1
  have cX_1_0 : _ = some (Value.bool s) := X_1.cell 0
  have cX_1_1 : _ = some (Value.slice a1 n1 c1) := X_1.cell 1
  have cX_1_2 : _ = some (Value.slice b1 m1 d1) := X_1.cell 2
  have Y_1 := Y_0.next hB_1
  have cY_1_0 : _ = some (Value.bool t) := Y_1.cell 0
  have cY_1_1 : _ = some (Value.slice a2 n2 c2) := Y_1.cell 1
  have cY_1_2 : _ = some (Value.slice b2 m2 d2) := Y_1.cell 2
  have R0_1 := R0_0.next hB_1
  have cR0_1_0 : _ = some (Value.bool false) := R0_1.cell 0
  have fR0_1_0 := R0_1.free 0
  have cR0_1_1 : _ = some (Value.slice none 0 0) := R0_1.cell 1
  have fR0_1_1 := R0_1.free 1
  have cR0_1_2 : _ = some (Value.slice none 0 0) := R0_1.cell 2
  have fR0_1_2 := R0_1.free 2
  have hx_1 := hx_0.below hB_1
  have hy_1 := hy_0.below hB_1
  have hbel_1 := hbel_0.next hB_1
  have hsz_1 := hB_1.size
  clear X_0 cX_0_0 cX_0_1 cX_0_2 Y_0 cY_0_0 cY_0_1 cY_0_2 R0_0 cR0_0_0 fR0_0_0 cR0_0_1 fR0_0_1 cR0_0_2 fR0_0_2 hx_0 hy_0 hbel_0 hB_1
  try clear hB
  go_wp2_with fail
  refine (qsign hx_1 (by omega)).mono ?_
  rw [hsx.out]
  rintro e w2 ⟨rfl, hB⟩
  have hB_2 : Below w1.heap.size w1 w2 := (by first | exact hB | exact below_drew hB | exact bel_alloc hB | exact below_drew (bel_alloc hB) | exact bel_alloc (below_drew hB) | exact bel_alloc (bel_alloc hB) | exact bel_alloc (bel_alloc (below_drew hB)))
  have X_2 := X_1.next hB_2
  have cX_2_0 : _ = some (Value.bool s) := X_2.cell 0
  have cX_2_1 : _ = some (Value.slice a1 n1 c1) := X_2.cell 1
  have cX_2_2 : _ = some (Value.slice b1 m1 d1) := X_2.cell 2
  have Y_2 := Y_1.next hB_2
  have cY_2_0 : _ = some (Value.bool t) := Y_2.cell 0
  have cY_2_1 : _ = some (Value.slice a2 n2 c2) := Y_2.cell 1
  have cY_2_2 : _ = some (Value.slice b2 m2 d2) := Y_2.cell 2
  have R0_2 := R0_1.next hB_2
  have cR0_2_0 : _ = some (Value.bool false) := R0_2.cell 0
  have fR0_2_0 := R0_2.free 0
  have cR0_2_1 : _ = some (Value.slice none 0 0) := R0_2.cell 1
  have fR0_2_1 := R0_2.free 1
  have cR0_2_2 : _ = some (Value.slice none 0 0) := R0_2.cell 2
  have fR0_2_2 := R0_2.free 2
  have hx_2 := hx_1.below hB_2
  have hy_2 := hy_1.below hB_2
  have hbel_2 := hbel_1.next hB_2
  have hsz_2 := hB_2.size
  clear X_1 cX_1_0 cX_1_1 cX_1_2 Y_1 cY_1_0 cY_1_1 cY_1_2 R0_1 cR0_1_0 fR0_1_0 cR0_1_1 fR0_1_1 cR0_1_2 fR0_1_2 hx_1 hy_1 hbel_1 hB_2
  try clear hB
  go_wp2_with fail
  refine (qsign hy_2 (by omega)).mono ?_
  rw [hsy.out]
  rintro e w3 ⟨rfl, hB⟩
  have hB_3 : Below w2.heap.size w2 w3 := (by first | exact hB | exact below_drew hB | exact bel_alloc hB | exact below_drew (bel_alloc hB) | exact bel_alloc (below_drew hB) | exact bel_alloc (bel_alloc hB) | exact bel_alloc (bel_alloc (below_drew hB)))
  have X_3 := X_2.next hB_3
  have cX_3_0 : _ = some (Value.bool s) := X_3.cell 0
  have cX_3_1 : _ = some (Value.slice a1 n1 c1) := X_3.cell 1
  have cX_3_2 : _ = some (Value.slice b1 m1 d1) := X_3.cell 2
  have Y_3 := Y_2.next hB_3
  have cY_3_0 : _ = some (Value.bool t) := Y_3.cell 0
  have cY_3_1 : _ = some (Value.slice a2 n2 c2) := Y_3.cell 1
  have cY_3_2 : _ = some (Value.slice b2 m2 d2) := Y_3.cell 2
  have R0_3 := R0_2.next hB_3
  have cR0_3_0 : _ = some (Value.bool false) := R0_3.cell 0
  have fR0_3_0 := R0_3.free 0
  have cR0_3_1 : _ = some (Value.slice none 0 0) := R0_3.cell 1
  have fR0_3_1 := R0_3.free 1
  have cR0_3_2 : _ = some (Value.slice none 0 0) := R0_3.cell 2
  have fR0_3_2 := R0_3.free 2
  have hx_3 := hx_2.below hB_3
  have hy_3 := hy_2.below hB_3
  have hbel_3 := hbel_2.next hB_3
  have hsz_3 := hB_3.size
  clear X_2 cX_2_0 cX_2_1 cX_2_2 Y_2 cY_2_0 cY_2_1 cY_2_2 R0_2 cR0_2_0 fR0_2_0 cR0_2_1 fR0_2_1 cR0_2_2 fR0_2_2 hx_2 hy_2 hbel_2 hB_3
  try clear hB
  go_wp2_with fail
  go_region_held3 (fun w' => w'.cell? ⟨w.heap.size, 0, none⟩ = some (Value.bool s) ∧ w'.cell? ⟨w.heap.size, 1, none⟩ = some (Value.slice a1 n1 c1) ∧ w'.cell? ⟨w.heap.size, 2, none⟩ = some (Value.slice b1 m1 d1) ∧ w'.cell? ⟨w.heap.size + 1, 0, none⟩ = some (Value.bool t) ∧ w'.cell? ⟨w.heap.size + 1, 1, none⟩ = some (Value.slice a2 n2 c2) ∧ w'.cell? ⟨w.heap.size + 1, 2, none⟩ = some (Value.slice b2 m2 d2))
    (first | exact ⟨cX_3_0, cX_3_1, cX_3_2, cY_3_0, cY_3_1, cY_3_2⟩ | exact ⟨cX_4_0, cX_4_1, cX_4_2, cY_4_0, cY_4_1, cY_4_2⟩ | exact ⟨cX_5_0, cX_5_1, cX_5_2, cY_5_0, cY_5_1, cY_5_2⟩ | exact ⟨cX_6_0, cX_6_1, cX_6_2, cY_6_0, cY_6_1, cY_6_2⟩ | exact ⟨cX_7_0, cX_7_1, cX_7_2, cY_7_0, cY_7_1, cY_7_2⟩ | exact ⟨(cell_set3 (by omega) _ _ _).trans (cX_7_0), (cell_set3 (by omega) _ _ _).trans (cX_7_1), (cell_set3 (by omega) _ _ _).trans (cX_7_2), (cell_set3 (by omega) _ _ _).trans (cY_7_0), (cell_set3 (by omega) _ _ _).trans (cY_7_1), (cell_set3 (by omega) _ _ _).trans (cY_7_2)⟩ | go_keep)
    (first
      | (go_at_call 38; ((with_reducible refine (qneg (hy_3.below (by first | exact Below.refl _ _ | exact (Below.refl _ _).drew | exact (Below.refl _ _).alloc (Nat.le_refl _) _ | exact ((Below.refl _ _).alloc (Nat.le_refl _) _).drew | exact (Below.refl _ _).drew.alloc (Nat.le_refl _) _ | exact ((Below.refl _ _).alloc (Nat.le_refl _) _).alloc (by simp) _ | exact (((Below.refl _ _).alloc (Nat.le_refl _) _).alloc (by simp) _).drew)) (by omega)).mono ?_); (rw [hu.out]; rintro e w4 ⟨ua, un, uc, ub, um, ud, rfl, hO, hO', hDu, hB⟩; have hB_4 : Below w3.heap.size w3 w4 := (by first | exact hB | exact below_drew hB | exact bel_alloc hB | exact below_drew (bel_alloc hB) | exact bel_alloc (below_drew hB) | exact bel_alloc (bel_alloc hB) | exact bel_alloc (bel_alloc (below_drew hB))); have X_4 := X_3.next hB_4; have cX_4_0 : _ = some (Value.bool s) := X_4.cell 0; have cX_4_1 : _ = some (Value.slice a1 n1 c1) := X_4.cell 1; have cX_4_2 : _ = some (Value.slice b1 m1 d1) := X_4.cell 2; have Y_4 := Y_3.next hB_4; have cY_4_0 : _ = some (Value.bool t) := Y_4.cell 0; have cY_4_1 : _ = some (Value.slice a2 n2 c2) := Y_4.cell 1; have cY_4_2 : _ = some (Value.slice b2 m2 d2) := Y_4.cell 2; have R0_4 := R0_3.next hB_4; have cR0_4_0 : _ = some (Value.bool false) := R0_4.cell 0; have fR0_4_0 := R0_4.free 0; have cR0_4_1 : _ = some (Value.slice none 0 0) := R0_4.cell 1; have fR0_4_1 := R0_4.free 1; have cR0_4_2 : _ = some (Value.slice none 0 0) := R0_4.cell 2; have fR0_4_2 := R0_4.free 2; have hx_4 := hx_3.below hB_4; have hy_4 := hy_3.below hB_4; have hbel_4 := hbel_3.next hB_4; have hsz_4 := hB_4.size; clear X_3 cX_3_0 cX_3_1 cX_3_2 Y_3 cY_3_0 cY_3_1 cY_3_2 R0_3 cR0_3_0 fR0_3_0 cR0_3_1 fR0_3_1 cR0_3_2 fR0_3_2 hx_3 hy_3 hbel_3 hB_4; have QU_4 := hO.rdQ hO' q1.out; clear hO hO'; try clear hB)))
      | (go_at_call 38; ((with_reducible refine (qneg (hx_4.below (by first | exact Below.refl _ _ | exact (Below.refl _ _).drew | exact (Below.refl _ _).alloc (Nat.le_refl _) _ | exact ((Below.refl _ _).alloc (Nat.le_refl _) _).drew | exact (Below.refl _ _).drew.alloc (Nat.le_refl _) _ | exact ((Below.refl _ _).alloc (Nat.le_refl _) _).alloc (by simp) _ | exact (((Below.refl _ _).alloc (Nat.le_refl _) _).alloc (by simp) _).drew)) (by omega)).mono ?_); (rw [hv.out]; rintro e w5 ⟨va, vn, vc, vb, vm, vd, rfl, hO, hO', hDv, hB⟩; have hB_5 : Below w4.heap.size w4 w5 := (by first | exact hB | exact below_drew hB | exact bel_alloc hB | exact below_drew (bel_alloc hB) | exact bel_alloc (below_drew hB) | exact bel_alloc (bel_alloc hB) | exact bel_alloc (bel_alloc (below_drew hB))); have X_5 := X_4.next hB_5; have cX_5_0 : _ = some (Value.bool s) := X_5.cell 0; have cX_5_1 : _ = some (Value.slice a1 n1 c1) := X_5.cell 1; have cX_5_2 : _ = some (Value.slice b1 m1 d1) := X_5.cell 2; have Y_5 := Y_4.next hB_5; have cY_5_0 : _ = some (Value.bool t) := Y_5.cell 0; have cY_5_1 : _ = some (Value.slice a2 n2 c2) := Y_5.cell 1; have cY_5_2 : _ = some (Value.slice b2 m2 d2) := Y_5.cell 2; have R0_5 := R0_4.next hB_5; have cR0_5_0 : _ = some (Value.bool false) := R0_5.cell 0; have fR0_5_0 := R0_5.free 0; have cR0_5_1 : _ = some (Value.slice none 0 0) := R0_5.cell 1; have fR0_5_1 := R0_5.free 1; have cR0_5_2 : _ = some (Value.slice none 0 0) := R0_5.cell 2; have fR0_5_2 := R0_5.free 2; have hx_5 := hx_4.below hB_5; have hy_5 := hy_4.below hB_5; have QU_5 := QU_4.below hB_5; have hbel_5 := hbel_4.next hB_5; have hsz_5 := hB_5.size; clear X_4 cX_4_0 cX_4_1 cX_4_2 Y_4 cY_4_0 cY_4_1 cY_4_2 R0_4 cR0_4_0 fR0_4_0 cR0_4_1 fR0_4_1 cR0_4_2 fR0_4_2 hx_4 hy_4 QU_4 hbel_4 hB_5; have QV_5 := hO.rdQ hO' q2.out; clear hO hO'; try clear hB)))
      | (go_at_call 97; ((with_reducible refine (HB.out.go hin.out hle.out (QU_5.below (by first | exact Below.refl _ _ | exact (Below.refl _ _).drew | exact (Below.refl _ _).alloc (Nat.le_refl _) _ | exact ((Below.refl _ _).alloc (Nat.le_refl _) _).drew | exact (Below.refl _ _).drew.alloc (Nat.le_refl _) _ | exact ((Below.refl _ _).alloc (Nat.le_refl _) _).alloc (by simp) _ | exact (((Below.refl _ _).alloc (Nat.le_refl _) _).alloc (by simp) _).drew)) (QV_5.below (by first | exact Below.refl _ _ | exact (Below.refl _ _).drew | exact (Below.refl _ _).alloc (Nat.le_refl _) _ | exact ((Below.refl _ _).alloc (Nat.le_refl _) _).drew | exact (Below.refl _ _).drew.alloc (Nat.le_refl _) _ | exact ((Below.refl _ _).alloc (Nat.le_refl _) _).alloc (by simp) _ | exact (((Below.refl _ _).alloc (Nat.le_refl _) _).alloc (by simp) _).drew))).mono ?_); (rw [hq.out]; rintro e w6 ⟨za, zn, zc, zb, zm, zd, rfl, hO, hO', hDz, hB⟩; have hB_6 : Below w5.heap.size w5 w6 := (by first | exact hB | exact below_drew hB | exact bel_alloc hB | exact below_drew (bel_alloc hB) | exact bel_alloc (below_drew hB) | exact bel_alloc (bel_alloc hB) | exact bel_alloc (bel_alloc (below_drew hB))); have X_6 := X_5.next hB_6; have cX_6_0 : _ = some (Value.bool s) := X_6.cell 0; have cX_6_1 : _ = some (Value.slice a1 n1 c1) := X_6.cell 1; have cX_6_2 : _ = some (Value.slice b1 m1 d1) := X_6.cell 2; have Y_6 := Y_5.next hB_6; have cY_6_0 : _ = some (Value.bool t) := Y_6.cell 0; have cY_6_1 : _ = some (Value.slice a2 n2 c2) := Y_6.cell 1; have cY_6_2 : _ = some (Value.slice b2 m2 d2) := Y_6.cell 2; have R0_6 := R0_5.next hB_6; have cR0_6_0 : _ = some (Value.bool false) := R0_6.cell 0; have fR0_6_0 := R0_6.free 0; have cR0_6_1 : _ = some (Value.slice none 0 0) := R0_6.cell 1; have fR0_6_1 := R0_6.free 1; have cR0_6_2 : _ = some (Value.slice none 0 0) := R0_6.cell 2; have fR0_6_2 := R0_6.free 2; have hx_6 := hx_5.below hB_6; have hy_6 := hy_5.below hB_6; have QU_6 := QU_5.below hB_6; have QV_6 := QV_5.below hB_6; have hbel_6 := hbel_5.next hB_6; have hsz_6 := hB_6.size; clear X_5 cX_5_0 cX_5_1 cX_5_2 Y_5 cY_5_0 cY_5_1 cY_5_2 R0_5 cR0_5_0 fR0_5_0 cR0_5_1 fR0_5_1 cR0_5_2 fR0_5_2 hx_5 hy_5 QU_5 QV_5 hbel_5 hB_6; have QZ_6 := hO.rdQ hO' hqs.out; clear hO hO'; try clear hB)))
      | (go_at_call 38; ((with_reducible refine (qneg (QZ_6.below (by first | exact Below.refl _ _ | exact (Below.refl _ _).drew | exact (Below.refl _ _).alloc (Nat.le_refl _) _ | exact ((Below.refl _ _).alloc (Nat.le_refl _) _).drew | exact (Below.refl _ _).drew.alloc (Nat.le_refl _) _ | exact ((Below.refl _ _).alloc (Nat.le_refl _) _).alloc (by simp) _ | exact (((Below.refl _ _).alloc (Nat.le_refl _) _).alloc (by simp) _).drew)) (by omega)).mono ?_); (rw [hr.out]; rintro e w7 ⟨qa, qn, qc, qb, qm, qd, rfl, hO, hO', hDq, hB⟩; have hB_7 : Below w6.heap.size w6 w7 := (by first | exact hB | exact below_drew hB | exact bel_alloc hB | exact below_drew (bel_alloc hB) | exact bel_alloc (below_drew hB) | exact bel_alloc (bel_alloc hB) | exact bel_alloc (bel_alloc (below_drew hB))); have X_7 := X_6.next hB_7; have cX_7_0 : _ = some (Value.bool s) := X_7.cell 0; have cX_7_1 : _ = some (Value.slice a1 n1 c1) := X_7.cell 1; have cX_7_2 : _ = some (Value.slice b1 m1 d1) := X_7.cell 2; have Y_7 := Y_6.next hB_7; have cY_7_0 : _ = some (Value.bool t) := Y_7.cell 0; have cY_7_1 : _ = some (Value.slice a2 n2 c2) := Y_7.cell 1; have cY_7_2 : _ = some (Value.slice b2 m2 d2) := Y_7.cell 2; have R0_7 := R0_6.next hB_7; have cR0_7_0 : _ = some (Value.bool false) := R0_7.cell 0; have fR0_7_0 := R0_7.free 0; have cR0_7_1 : _ = some (Value.slice none 0 0) := R0_7.cell 1; have fR0_7_1 := R0_7.free 1; have cR0_7_2 : _ = some (Value.slice none 0 0) := R0_7.cell 2; have fR0_7_2 := R0_7.free 2; have hx_7 := hx_6.below hB_7; have hy_7 := hy_6.below hB_7; have QU_7 := QU_6.below hB_7; have QV_7 := QV_6.below hB_7; have QZ_7 := QZ_6.below hB_7; have hbel_7 := hbel_6.next hB_7; have hsz_7 := hB_7.size; clear X_6 cX_6_0 cX_6_1 cX_6_2 Y_6 cY_6_0 cY_6_1 cY_6_2 R0_6 cR0_6_0 fR0_6_0 cR0_6_1 fR0_6_1 cR0_6_2 fR0_6_2 hx_6 hy_6 QU_6 QV_6 QZ_6 hbel_6 hB_7; have Oq_7 := hO; have ltOq := hO.ltB; have Pq_7 := hO'; have ltPq := hO'.ltB; clear hO hO'; try clear hB))))
  go_wp2
  refine bodyPost_ret (v := .tuple #[.agg #[.bool (decide ((r : Rat).num < 0)), .slice qa qn qc, .slice qb qm qd], .int .i64 0]) (by simp [results, Try.results51, go_sem, cR0_7_0, cR0_7_1, cR0_7_2]) rfl ?_
  exact retqe_set (er := 0) Oq_7 Pq_7 hDq hbel_7 (by omega) (by omega)

set_option maxRecDepth 100000 in
set_option maxHeartbeats 8000000 in
theorem qsimpZ {w : World} {a1 b1 : Option Addr} {n1 c1 m1 d1 : Nat} {s : Bool} {x : Rat} {a2 b2 : Option Addr} {n2 c2 m2 d2 : Nat} {t : Bool} {y : Rat} {J : Nat} (hJ1 : 1 ≤ J) (hJ : J ≤ 200000) (hx : RdQ J w s a1 n1 c1 b1 m1 d1 x) (hy : RdQ J w t a2 n2 c2 b2 m2 d2 y) (h1 : x ≤ y) (h2 : ¬ 0 < x) (h3 : ¬ y < 0) :
    Calls Try.prog 51 #[.agg #[.bool s, .slice a1 n1 c1, .slice b1 m1 d1], .agg #[.bool t, .slice a2 n2 c2, .slice b2 m2 d2]] w (RetQE w (spl x y) 0) := by
  have hqx := hx.qs hJ1
  have hqy := hy.qs hJ1
  have hc : cmpQ x y ≤ 0 := by rcases cmpQ_cases x y with ⟨_, e⟩ | ⟨_, e⟩ | ⟨h, e⟩ <;> first | omega | exact absurd h1 (Rat.not_le.2 h)
  have hs1 : sgnQ x ≤ 0 := by rcases sgnQ_cases x with ⟨h, e⟩ | ⟨h, e⟩ | ⟨h, e⟩ <;> first | omega | exact absurd h2 (Rat.not_lt.2 (Rat.le_of_lt h)) | (rw [h] at h2; exact absurd h2 Rat.lt_irrefl) | exact absurd h h2
  have hs2 : 0 ≤ sgnQ y := by rcases sgnQ_cases y with ⟨h, e⟩ | ⟨h, e⟩ | ⟨h, e⟩ <;> first | omega | exact absurd h h3 | exact absurd h3 (Rat.not_lt.2 (Rat.le_of_lt h)) | (rw [h] at h3; exact absurd h3 Rat.lt_irrefl)
  rw [spl_zero h2 h3]
  clear h1 h2 h3
  obtain ⟨c, hc0⟩ : ∃ c, cmpQ x y = c := ⟨_, rfl⟩
  rw [hc0] at hc
  have hch := hid hc0
  clear hc0 hqx hqy
  obtain ⟨sx, hsx0⟩ : ∃ c, sgnQ x = c := ⟨_, rfl⟩
  rw [hsx0] at hs1
  have hsx := hid hsx0
  clear hsx0
  obtain ⟨sy, hsy0⟩ : ∃ c, sgnQ y = c := ⟨_, rfl⟩
  rw [hsy0] at hs2
  have hsy := hid hsy0
  clear hsy0
  have hent := ent3 w #[Value.bool s, Value.slice a1 n1 c1, Value.slice b1 m1 d1] #[Value.bool t, Value.slice a2 n2 c2, Value.slice b2 m2 d2] #[Value.bool false, Value.slice none 0 0, Value.slice none 0 0] 32 32 32
  go_enter Try.func51, Try.ntmps51
  go_wp2_with fail
  generalize (((w.alloc (.cells #[Value.bool s, Value.slice a1 n1 c1, Value.slice b1 m1 d1] 32)).alloc (.cells #[Value.bool t, Value.slice a2 n2 c2, Value.slice b2 m2 d2] 32)).alloc (.cells #[Value.bool false, Value.slice none 0 0, Value.slice none 0 0] 32)) = W0 at hent ⊢
  obtain ⟨X_0, Y_0, R0_0, hbel_0, hsz_0⟩ := hent
  have cX_0_0 : _ = some (Value.bool s) := X_0.cell 0
  have cX_0_1 : _ = some (Value.slice a1 n1 c1) := X_0.cell 1
  have cX_0_2 : _ = some (Value.slice b1 m1 d1) := X_0.cell 2
  have cY_0_0 : _ = some (Value.bool t) := Y_0.cell 0
  have cY_0_1 : _ = some (Value.slice a2 n2 c2) := Y_0.cell 1
  have cY_0_2 : _ = some (Value.slice b2 m2 d2) := Y_0.cell 2
  have cR0_0_0 : _ = some (Value.bool false) := R0_0.cell 0
  have fR0_0_0 := R0_0.free 0
  have cR0_0_1 : _ = some (Value.slice none 0 0) := R0_0.cell 1
  have fR0_0_1 := R0_0.free 1
  have cR0_0_2 : _ = some (Value.slice none 0 0) := R0_0.cell 2
  have fR0_0_2 := R0_0.free 2
  have hx_0 := hx.below hbel_0
  clear hx
  have hy_0 := hy.below hbel_0
  clear hy
  go_wp2_with fail
  refine (qcmp hx_0 (by omega) hy_0 (by omega)).mono ?_
  rw [hch.out]
  rintro e w1 ⟨rfl, hB⟩
  have hB_1 : Below W0.heap.size W0 w1 := (by first | exact hB | exact below_drew hB | exact bel_alloc hB | exact below_drew (bel_alloc hB) | exact bel_alloc (below_drew hB) | exact bel_alloc (bel_alloc hB) | exact bel_alloc (bel_alloc (below_drew hB)))
  have X_1 := X_0.next hB_1
  have cX_1_0 : _ = some (Value.bool s) := X_1.cell 0
  have cX_1_1 : _ = some (Value.slice a1 n1 c1) := X_1.cell 1
  have cX_1_2 : _ = some (Value.slice b1 m1 d1) := X_1.cell 2
  have Y_1 := Y_0.next hB_1
  have cY_1_0 : _ = some (Value.bool t) := Y_1.cell 0
  have cY_1_1 : _ = some (Value.slice a2 n2 c2) := Y_1.cell 1
  have cY_1_2 : _ = some (Value.slice b2 m2 d2) := Y_1.cell 2
  have R0_1 := R0_0.next hB_1
  have cR0_1_0 : _ = some (Value.bool false) := R0_1.cell 0
  have fR0_1_0 := R0_1.free 0
  have cR0_1_1 : _ = some (Value.slice none 0 0) := R0_1.cell 1
  have fR0_1_1 := R0_1.free 1
  have cR0_1_2 : _ = some (Value.slice none 0 0) := R0_1.cell 2
  have fR0_1_2 := R0_1.free 2
  have hx_1 := hx_0.below hB_1
  have hy_1 := hy_0.below hB_1
  have hbel_1 := hbel_0.next hB_1
  have hsz_1 := hB_1.size
  clear X_0 cX_0_0 cX_0_1 cX_0_2 Y_0 cY_0_0 cY_0_1 cY_0_2 R0_0 cR0_0_0 fR0_0_0 cR0_0_1 fR0_0_1 cR0_0_2 fR0_0_2 hx_0 hy_0 hbel_0 hB_1
  try clear hB
  go_wp2_with fail
  refine (qsign hx_1 (by omega)).mono ?_
  rw [hsx.out]
  rintro e w2 ⟨rfl, hB⟩
  have hB_2 : Below w1.heap.size w1 w2 := (by first | exact hB | exact below_drew hB | exact bel_alloc hB | exact below_drew (bel_alloc hB) | exact bel_alloc (below_drew hB) | exact bel_alloc (bel_alloc hB) | exact bel_alloc (bel_alloc (below_drew hB)))
  have X_2 := X_1.next hB_2
  have cX_2_0 : _ = some (Value.bool s) := X_2.cell 0
  have cX_2_1 : _ = some (Value.slice a1 n1 c1) := X_2.cell 1
  have cX_2_2 : _ = some (Value.slice b1 m1 d1) := X_2.cell 2
  have Y_2 := Y_1.next hB_2
  have cY_2_0 : _ = some (Value.bool t) := Y_2.cell 0
  have cY_2_1 : _ = some (Value.slice a2 n2 c2) := Y_2.cell 1
  have cY_2_2 : _ = some (Value.slice b2 m2 d2) := Y_2.cell 2
  have R0_2 := R0_1.next hB_2
  have cR0_2_0 : _ = some (Value.bool false) := R0_2.cell 0
  have fR0_2_0 := R0_2.free 0
  have cR0_2_1 : _ = some (Value.slice none 0 0) := R0_2.cell 1
  have fR0_2_1 := R0_2.free 1
  have cR0_2_2 : _ = some (Value.slice none 0 0) := R0_2.cell 2
  have fR0_2_2 := R0_2.free 2
  have hx_2 := hx_1.below hB_2
  have hy_2 := hy_1.below hB_2
  have hbel_2 := hbel_1.next hB_2
  have hsz_2 := hB_2.size
  clear X_1 cX_1_0 cX_1_1 cX_1_2 Y_1 cY_1_0 cY_1_1 cY_1_2 R0_1 cR0_1_0 fR0_1_0 cR0_1_1 fR0_1_1 cR0_1_2 fR0_1_2 hx_1 hy_1 hbel_1 hB_2
  try clear hB
  go_wp2_with fail
  refine (qsign hy_2 (by omega)).mono ?_
  rw [hsy.out]
  rintro e w3 ⟨rfl, hB⟩
  have hB_3 : Below w2.heap.size w2 w3 := (by first | exact hB | exact below_drew hB | exact bel_alloc hB | exact below_drew (bel_alloc hB) | exact bel_alloc (below_drew hB) | exact bel_alloc (bel_alloc hB) | exact bel_alloc (bel_alloc (below_drew hB)))
  have X_3 := X_2.next hB_3
  have cX_3_0 : _ = some (Value.bool s) := X_3.cell 0
  have cX_3_1 : _ = some (Value.slice a1 n1 c1) := X_3.cell 1
  have cX_3_2 : _ = some (Value.slice b1 m1 d1) := X_3.cell 2
  have Y_3 := Y_2.next hB_3
  have cY_3_0 : _ = some (Value.bool t) := Y_3.cell 0
  have cY_3_1 : _ = some (Value.slice a2 n2 c2) := Y_3.cell 1
  have cY_3_2 : _ = some (Value.slice b2 m2 d2) := Y_3.cell 2
  have R0_3 := R0_2.next hB_3
  have cR0_3_0 : _ = some (Value.bool false) := R0_3.cell 0
  have fR0_3_0 := R0_3.free 0
  have cR0_3_1 : _ = some (Value.slice none 0 0) := R0_3.cell 1
  have fR0_3_1 := R0_3.free 1
  have cR0_3_2 : _ = some (Value.slice none 0 0) := R0_3.cell 2
  have fR0_3_2 := R0_3.free 2
  have hx_3 := hx_2.below hB_3
  have hy_3 := hy_2.below hB_3
  have hbel_3 := hbel_2.next hB_3
  have hsz_3 := hB_3.size
  clear X_2 cX_2_0 cX_2_1 cX_2_2 Y_2 cY_2_0 cY_2_1 cY_2_2 R0_2 cR0_2_0 fR0_2_0 cR0_2_1 fR0_2_1 cR0_2_2 fR0_2_2 hx_2 hy_2 hbel_2 hB_3
  try clear hB
  go_wp2_with fail
  refine (qsum (K := 1) (rdqs_nil 1 _) (by omega) (by omega)).mono ?_
  rw [show qsm [] 0 = 0 from rfl]
  rintro e w4 ⟨qa, qn, qc, qb, qm, qd, rfl, hO, hO', hDq, hB⟩
  have hB_4 : Below w3.heap.size w3 w4 := (by first | exact hB | exact below_drew hB | exact bel_alloc hB | exact below_drew (bel_alloc hB) | exact bel_alloc (below_drew hB) | exact bel_alloc (bel_alloc hB) | exact bel_alloc (bel_alloc (below_drew hB)))
  have X_4 := X_3.next hB_4
  have cX_4_0 : _ = some (Value.bool s) := X_4.cell 0
  have cX_4_1 : _ = some (Value.slice a1 n1 c1) := X_4.cell 1
  have cX_4_2 : _ = some (Value.slice b1 m1 d1) := X_4.cell 2
  have Y_4 := Y_3.next hB_4
  have cY_4_0 : _ = some (Value.bool t) := Y_4.cell 0
  have cY_4_1 : _ = some (Value.slice a2 n2 c2) := Y_4.cell 1
  have cY_4_2 : _ = some (Value.slice b2 m2 d2) := Y_4.cell 2
  have R0_4 := R0_3.next hB_4
  have cR0_4_0 : _ = some (Value.bool false) := R0_4.cell 0
  have fR0_4_0 := R0_4.free 0
  have cR0_4_1 : _ = some (Value.slice none 0 0) := R0_4.cell 1
  have fR0_4_1 := R0_4.free 1
  have cR0_4_2 : _ = some (Value.slice none 0 0) := R0_4.cell 2
  have fR0_4_2 := R0_4.free 2
  have hx_4 := hx_3.below hB_4
  have hy_4 := hy_3.below hB_4
  have hbel_4 := hbel_3.next hB_4
  have hsz_4 := hB_4.size
  clear X_3 cX_3_0 cX_3_1 cX_3_2 Y_3 cY_3_0 cY_3_1 cY_3_2 R0_3 cR0_3_0 fR0_3_0 cR0_3_1 fR0_3_1 cR0_3_2 fR0_3_2 hx_3 hy_3 hbel_3 hB_4
  have Oq_4 := hO
  have ltOq := hO.ltB
  have Pq_4 := hO'
  have ltPq := hO'.ltB
  clear hO hO'
  try clear hB
  go_wp2
  refine bodyPost_ret (v := .tuple #[.agg #[.bool (decide ((0 : Rat).num < 0)), .slice qa qn qc, .slice qb qm qd], .int .i64 0]) (by simp [results, Try.results51, go_sem, cR0_4_0, cR0_4_1, cR0_4_2]) rfl ?_
  exact retqe_set (er := 0) Oq_4 Pq_4 hDq hbel_4 (by omega) (by omega)

theorem qsimp {w : World} {a1 b1 : Option Addr} {n1 c1 m1 d1 : Nat} {s : Bool} {x : Rat} {a2 b2 : Option Addr} {n2 c2 m2 d2 : Nat} {t : Bool} {y : Rat} {J : Nat} (hJ1 : 1 ≤ J) (hJ : J ≤ 200000) (hx : RdQ J w s a1 n1 c1 b1 m1 d1 x) (hy : RdQ J w t a2 n2 c2 b2 m2 d2 y) : Calls Try.prog 51 #[.agg #[.bool s, .slice a1 n1 c1, .slice b1 m1 d1], .agg #[.bool t, .slice a2 n2 c2, .slice b2 m2 d2]] w (RetQE w (spl x y) (spE x y)) := by
  unfold spE
  by_cases h1 : y < x
  · rw [if_pos h1]; exact qsimpE hJ1 hJ hx hy h1
  · rw [if_neg h1]
    have h1 := Rat.not_lt.1 h1
    by_cases h2 : 0 < x
    · exact qsimpP hJ1 hJ hx hy h1 h2
    · by_cases h3 : y < 0
      · exact qsimpN hJ1 hJ hx hy h1 h2 h3
      · exact qsimpZ hJ1 hJ hx hy h1 h2 h3

end Go.Proofs.Ytenmjgnhneofjaa
