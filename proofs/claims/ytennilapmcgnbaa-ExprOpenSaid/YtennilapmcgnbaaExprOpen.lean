/- THE WALK OF credencelaw09.ExprOpen: one number left open and filled in. -/
import Derived.Test.YtennilapmcgnbaaV5
namespace Go.Proofs.Ytennilapmcgnbaa
set_option linter.unusedVariables false
set_option linter.unusedSimpArgs false
open Go.ChangeShapes Go.WideShapes Go.ChangeAt Go.RowKit Go.NatP

theorem ans_pz {xs : List TI} {n K : Nat} {at_ : Int} (hl : xs.length = n) (hK : 2 ≤ K) (hq : ∀ i, i < n → QS (xs.getD i TI.o).x.q K) {P : PV} (h : ansV at_ xs = some P) : ∃ m, m ≤ n ∧ PZ K P m := by
  subst hl
  obtain ⟨m, hm, hk, _⟩ := wrkV_pz hK hq (ansV_wrk.1 h)
  exact ⟨m, hk, hm⟩
theorem trw_qs {K B : Nat} {W : World} {a : Option Addr} {c : Nat} {ts : List TA} (h : TRw K B W a c ts) (hK : 1 ≤ K) : ∀ i, i < ts.length → QS ((ts.map TA.ti).getD i TI.o).x.q K := fun i hi => (h.rdTs.2.2.2 i hi).1.qs hK
theorem evE_lo {J : PV} (h : ¬ J.deep > 64) : evE (some J) = if J.bad = true then 11 else 0 := if_neg h
theorem lnE_lo {J : PV} (h : ¬ J.deep > 64) : lnE (some J) = if J.opn = true then (if J.bad = true then 11 else 0) else 3 := if_neg h
theorem Rd.lt0' {w : World} {a : Option Addr} {b o n c : Nat} {l : List Nat} (h : Rd w a n c l) (e : a = some ⟨b, o, none⟩) (hn : 0 < n) : b < w.heap.size := by subst e; exact h.lt0 hn
/-- a term with another number -/
def setT (t : TA) (x : QA) : TA := ⟨t.k, x⟩
theorem cut_again {ts : List TA} (h3 : ∀ t ∈ ts, t.x.n ≤ 3 ∧ t.x.m ≤ 3 ∧ t.x.l.length = t.x.n ∧ t.x.k.length = t.x.m) (hl : ts.length ≤ 300) : (ts.take 300).map cutT = ts := by
  rw [List.take_of_length_le hl]
  induction ts with
  | nil => rfl
  | cons t r ih =>
    obtain ⟨h1, h2, h4, h5⟩ := h3 t (List.mem_cons_self ..)
    rw [List.map_cons, cutT_cutT t h1 h2 h4 h5, ih (fun u hu => h3 u (List.mem_cons_of_mem _ hu)) (by have : (t :: r).length = r.length + 1 := rfl; omega)]
theorem trw_cut {B : Nat} {W : World} {a : Option Addr} {c : Nat} {ts : List TA} (h : TRw 3 B W a c ts) : ∀ t ∈ ts, t.x.n ≤ 3 ∧ t.x.m ≤ 3 ∧ t.x.l.length = t.x.n ∧ t.x.k.length = t.x.m := fun t ht => ⟨(h.ok t ht).na, (h.ok t ht).nb, (h.ok t ht).ra.len, (h.ok t ht).rb.len⟩
section
variable {B g c i : Nat} {W : World} {ts : List TA} {x : QA}
theorem tflat_set : ∀ (ts : List TA) (i : Nat), i < ts.length → (((ts.flatMap TA.cs).set (i * 4 + 1) (.bool x.s)).set (i * 4 + 2) (.slice x.a x.n x.c)).set (i * 4 + 3) (.slice x.b x.m x.d) = (ts.set i (setT (ts.getD i TA.o) x)).flatMap TA.cs
  | [], i, h => absurd h (Nat.not_lt_zero _)
  | t :: r, 0, _ => rfl
  | t :: r, i + 1, h => by
    have e := tflat_set r i (by simpa using h)
    rw [show (i + 1) * 4 + 1 = i * 4 + 1 + 1 + 1 + 1 + 1 by omega, show (i + 1) * 4 + 2 = i * 4 + 2 + 1 + 1 + 1 + 1 by omega, show (i + 1) * 4 + 3 = i * 4 + 3 + 1 + 1 + 1 + 1 by omega, List.flatMap_cons]
    show t.cs ++ _ = _
    rw [List.set_cons_succ, List.flatMap_cons, show (t :: r).getD (i + 1) TA.o = r.getD i TA.o from rfl, ← e]
    rfl
/-- another number in the place of one -/
theorem TRw.put {K : Nat} (h : TRw K B W (some ⟨g, 0, none⟩) c ts) (hi : i < ts.length) (hx : TOK K W (some ⟨g, 0, none⟩) x) :
    TRw K B (((W.setCell ⟨g, i * 4 + 1, none⟩ (.bool x.s)).setCell ⟨g, i * 4 + 2, none⟩ (.slice x.a x.n x.c)).setCell ⟨g, i * 4 + 3, none⟩ (.slice x.b x.m x.d)) (some ⟨g, 0, none⟩) c (ts.set i (setT (ts.getD i TA.o) x)) := by
  have hk : Kp (fun j => j = g) W (((W.setCell ⟨g, i * 4 + 1, none⟩ (.bool x.s)).setCell ⟨g, i * 4 + 2, none⟩ (.slice x.a x.n x.c)).setCell ⟨g, i * 4 + 3, none⟩ (.slice x.b x.m x.d)) :=
    (((Kp.refl (fun j => j = g) W).setCell (ad := ⟨g, i * 4 + 1, none⟩) rfl _).setCell (ad := ⟨g, i * 4 + 2, none⟩) rfl _).setCell (ad := ⟨g, i * 4 + 3, none⟩) rfl _
  have hoff : ∀ {y : QA}, TOK K W (some ⟨g, 0, none⟩) y → ∀ b o, (0 < y.n ∧ y.a = some ⟨b, o, none⟩) ∨ (0 < y.m ∧ y.b = some ⟨b, o, none⟩) → ¬ (b = g) := fun hy b o h1 e => hy.off b o h1 (by rw [e])
  refine ⟨?_, fun t ht => ?_⟩
  · have h1 := (((h.row.stored (i * 4 + 1) (.bool x.s)).1).stored (i * 4 + 2) (.slice x.a x.n x.c)).1
    have h2 := (h1.stored (i * 4 + 3) (.slice x.b x.m x.d)).1
    rw [tflat_set ts i hi] at h2
    rw [List.length_set]
    exact h2
  · rcases List.mem_or_eq_of_mem_set ht with ht | rfl
    · exact (h.ok t ht).kp hk (hoff (h.ok t ht))
    · exact hx.kp hk (hoff hx)
end
theorem set_k {ts : List TA} {i : Nat} {x : QA} (hi : i < ts.length) (j : Nat) : (((ts.set i (setT (ts.getD i TA.o) x)).map TA.ti).getD j TI.o).k = ((ts.map TA.ti).getD j TI.o).k := by
  by_cases hj : j < ts.length
  · rw [ta_get (by rw [List.length_set]; exact hj), ta_get hj]
    by_cases e : i = j
    · subst e
      have : (ts.set i (setT (ts.getD i TA.o) x)).getD i TA.o = setT (ts.getD i TA.o) x := by simp [List.getD_eq_getElem?_getD, hi]
      rw [this]; rfl
    · have : (ts.set i (setT (ts.getD i TA.o) x)).getD j TA.o = ts.getD j TA.o := by simp [List.getD_eq_getElem?_getD, List.getElem?_set_ne e]
      rw [this]
  · rw [List.getD_eq_getElem?_getD, List.getElem?_eq_none (by simp; omega), List.getD_eq_getElem?_getD, List.getElem?_eq_none (by simp; omega)]
theorem set_q {ts : List TA} {i : Nat} {x : QA} (hi : i < ts.length) (j : Nat) (hj : j ≠ i) : (((ts.set i (setT (ts.getD i TA.o) x)).map TA.ti).getD j TI.o).x.q = ((ts.map TA.ti).getD j TI.o).x.q := by
  by_cases hj2 : j < ts.length
  · rw [ta_get (by rw [List.length_set]; exact hj2), ta_get hj2]
    have : (ts.set i (setT (ts.getD i TA.o) x)).getD j TA.o = ts.getD j TA.o := by simp [List.getD_eq_getElem?_getD, List.getElem?_set_ne (Ne.symm hj)]
    rw [this]
  · rw [List.getD_eq_getElem?_getD, List.getElem?_eq_none (by simp; omega), List.getD_eq_getElem?_getD, List.getElem?_eq_none (by simp; omega)]
theorem set_x {ts : List TA} {i : Nat} {x : QA} (hi : i < ts.length) : (((ts.set i (setT (ts.getD i TA.o) x)).map TA.ti).getD i TI.o).x.q = x.q := by
  rw [ta_get (by rw [List.length_set]; exact hi)]
  have : (ts.set i (setT (ts.getD i TA.o) x)).getD i TA.o = setT (ts.getD i TA.o) x := by simp [List.getD_eq_getElem?_getD, hi]
  rw [this]; rfl
/-- left open and filled in: the value at x -/
theorem fill_val {x : Rat} {P P' : PV} (h : Fil x P P') (ho : P.opn = true) (hb : P'.bad = false) (hby : byV P.L ≠ 0) :
    P.bad = false ∧ (dvV P.L).c * x + (dvV P.L).d ≠ 0 ∧ ((dvV P.L).a * x + (dvV P.L).b) / ((dvV P.L).c * x + (dvV P.L).d) = P'.v := by
  obtain ⟨h1, h2, h3⟩ := h.fill ho hb
  refine ⟨h1, ?_⟩
  unfold dvV
  generalize byV P.L = y at *
  generalize P.L.a = a at *; generalize P.L.b = b at *; generalize P.L.c = c at *; generalize P.L.d = d at *; generalize P'.v = v at *
  dsimp only
  constructor <;> grind

set_option maxRecDepth 100000 in
set_option maxHeartbeats 8000000 in
theorem exprOpen_walk {w : World} {sa : Option Addr} {c : Nat} {ts : List TA} (hx : TRow w sa ts.length ts) (hn : ts.length ≤ c) (hc : c ≤ maxLen) (at_ : Int) (a1 : -9223372036854775808 ≤ at_) (a2 : at_ ≤ 9223372036854775807) (s : Bool) {xa xb : Option Addr} {xn xc xm xd : Nat} {xl xk : List Nat} (hX : Rd w xa xn xc xl) (hY : Rd w xb xm xd xk) :
    Calls Try.prog 3 #[.slice sa ts.length c, .int .i64 at_, .agg #[.bool s, .slice xa xn xc, .slice xb xm xd]] w (fun e w' => e = .returned (.bool true) ∧ Below w.heap.size w w') := by
  have hc' := hid hc
  have hn' := hid hn
  have hX' := hid hX
  have hY' := hid hY
  have hXb := hX.bnd
  have hYb := hY.bnd
  have hXb1 := hXb.1
  have hXb2 := hXb.2
  have hYb1 := hYb.1
  have hYb2 := hYb.2
  clear hc hn hXb hYb
  have hent := ent1 w #[Value.bool s, Value.slice xa xn xc, Value.slice xb xm xd] 28
  go_enter Try.func3, Try.ntmps3
  go_wp2_with fail
  generalize (w.alloc (.cells #[Value.bool s, Value.slice xa xn xc, Value.slice xb xm xd] 28)) = W0 at hent ⊢
  obtain ⟨X_0, hbel_0, hsz_0⟩ := hent
  have hx_0 := hx.below hbel_0
  clear hx
  have hX_0 := hX.below hbel_0
  clear hX
  have hY_0 := hY.below hbel_0
  clear hY
  refine (eawake).mono ?_
  rintro e w1 ⟨rfl, hB⟩
  have hB_1 : Below W0.heap.size W0 w1 := (bl.next hB)
  have X_1 := X_0.next hB_1
  have hx_1 := hx_0.below hB_1
  have hX_1 := hX_0.below hB_1
  have hY_1 := hY_0.below hB_1
  have hbel_1 := hbel_0.next hB_1
  have hsz_1 := hB_1.size
  clear X_0 hx_0 hX_0 hY_0 hbel_0 hB_1
  try clear hB
  go_wp2_with fail
  refine (tcut hx_1 hn'.out hc'.out).mono ?_
  rintro e w2 ⟨la, lc, rfl, hT, hB⟩
  have hB_2 : Below w1.heap.size w1 w2 := (bl.next hB)
  have X_2 := X_1.next hB_2
  have hx_2 := hx_1.below hB_2
  have hX_2 := hX_1.below hB_2
  have hY_2 := hY_1.below hB_2
  have hbel_2 := hbel_1.next hB_2
  have hsz_2 := hB_2.size
  clear X_1 hx_1 hX_1 hY_1 hbel_1 hB_2
  have L_2 := hT
  clear hT
  try clear hB
  clear hx_2
  obtain ⟨xs, hxs⟩ : ∃ z, (ts.take 300).map cutT = z := ⟨_, rfl⟩
  rw [hxs] at L_2
  obtain ⟨n, hnn⟩ : ∃ z, min ts.length 300 = z := ⟨_, rfl⟩
  have hxl : xs.length = n := by rw [← hxs, List.length_map, List.length_take]; omega
  have hn3 : n ≤ 300 := by omega
  rw [hnn]
  clear hnn hxs
  have RL := L_2.rdTs
  rw [hxl] at RL
  have RL_2 := RL
  clear RL
  have hxlh := hid hxl
  have hqs := hid (trw_qs L_2 (by decide))
  have hcutx := hid (trw_cut L_2)
  have HL := hid (fun (W : World) hT => ln_any (w := W) (sa := la) (n := n) (c := lc) (K := 3) (xs := xs.map TA.ti) (at_ := at_) hT (by omega) (by omega))
  by_cases h0 : at_ < 0
  ·
    have g0 : decide (at_ < 0) = true := by simp; omega
    have hop : ∀ P, ansV at_ (xs.map TA.ti) = some P → P.opn = false := fun P hr => by rw [ans_open hr]; exact decide_eq_false (by omega)
    obtain ⟨er, her⟩ : ∃ z, lnE (ansV at_ (xs.map TA.ti)) = z := ⟨_, rfl⟩
    have her0 : (er == (0 : Int)) = false ∧ (er != (0 : Int)) = true := by
      rw [← her]
      cases hr : ansV at_ (xs.map TA.ti) with
      | none => exact ⟨rfl, rfl⟩
      | some P =>
        have h := hop P hr
        unfold lnE; dsimp only; rw [h]
        split <;> exact ⟨rfl, rfl⟩
    obtain ⟨FF, hFF⟩ : ∃ z, lnV (ansV at_ (xs.map TA.ti)) = z := ⟨_, rfl⟩
    rw [her, hFF] at HL
    have her1 := her0.1
    have her2 := her0.2
    clear her0 her hop hFF
    go_wp2_with fail
    refine ((show Calls _ _ _ _ (RetLn _ (FF) (er)) from HL.out _ RL_2)).mono ?_
    rintro e w3 ⟨f, rfl, -, -, hB⟩
    have hB_3 : Below w2.heap.size w2 w3 := (bl.next hB)
    have X_3 := X_2.next hB_3
    have hX_3 := hX_2.below hB_3
    have hY_3 := hY_2.below hB_3
    have L_3 := L_2.below hB_3
    have RL_3 := RL_2.below hB_3
    have hbel_3 := hbel_2.next hB_3
    have hsz_3 := hB_3.size
    clear X_2 hX_2 hY_2 L_2 RL_2 hbel_2 hB_3
    try clear hB
    simp only [LX.arr]
    go_upto_region 4 with fail
    have hbx := blk_new w3 #[Value.bool f.A.s, Value.slice f.A.a f.A.n f.A.c, Value.slice f.A.b f.A.m f.A.d, Value.bool f.B.s, Value.slice f.B.a f.B.n f.B.c, Value.slice f.B.b f.B.m f.B.d, Value.bool f.C.s, Value.slice f.C.a f.C.n f.C.c, Value.slice f.C.b f.C.m f.C.d, Value.bool f.D.s, Value.slice f.D.a f.D.n f.D.c, Value.slice f.D.b f.D.m f.D.d] 32
    have hbB := (Below.refl w3.heap.size w3).alloc (Nat.le_refl _) (.cells #[Value.bool f.A.s, Value.slice f.A.a f.A.n f.A.c, Value.slice f.A.b f.A.m f.A.d, Value.bool f.B.s, Value.slice f.B.a f.B.n f.B.c, Value.slice f.B.b f.B.m f.B.d, Value.bool f.C.s, Value.slice f.C.a f.C.n f.C.c, Value.slice f.C.b f.C.m f.C.d, Value.bool f.D.s, Value.slice f.D.a f.D.n f.D.c, Value.slice f.D.b f.D.m f.D.d] 32)
    have hltF := hbx.lt
    have hB_4 : Below w3.heap.size w3 (w3.alloc (.cells #[Value.bool f.A.s, Value.slice f.A.a f.A.n f.A.c, Value.slice f.A.b f.A.m f.A.d, Value.bool f.B.s, Value.slice f.B.a f.B.n f.B.c, Value.slice f.B.b f.B.m f.B.d, Value.bool f.C.s, Value.slice f.C.a f.C.n f.C.c, Value.slice f.C.b f.C.m f.C.d, Value.bool f.D.s, Value.slice f.D.a f.D.n f.D.c, Value.slice f.D.b f.D.m f.D.d] 32)) := hbB
    have X_4 := X_3.next hB_4
    have hX_4 := hX_3.below hB_4
    have hY_4 := hY_3.below hB_4
    have L_4 := L_3.below hB_4
    have RL_4 := RL_3.below hB_4
    have hbel_4 := hbel_3.next hB_4
    have hsz_4 := hB_4.size
    clear X_3 hX_3 hY_3 L_3 RL_3 hbel_3 hB_4
    have F_4 := hbx
    clear hbx hbB
    generalize (w3.alloc (.cells #[Value.bool f.A.s, Value.slice f.A.a f.A.n f.A.c, Value.slice f.A.b f.A.m f.A.d, Value.bool f.B.s, Value.slice f.B.a f.B.n f.B.c, Value.slice f.B.b f.B.m f.B.d, Value.bool f.C.s, Value.slice f.C.a f.C.n f.C.c, Value.slice f.C.b f.C.m f.C.d, Value.bool f.D.s, Value.slice f.D.a f.D.n f.D.c, Value.slice f.D.b f.D.m f.D.d] 32)) = va4 at *
    go_wp2
    go_ret
    exact ⟨rfl, hbel_4⟩
  ·
    have g0 : decide (at_ < 0) = false := by simp; omega
    by_cases h1 : at_ ≥ (n : Int)
    ·
      have g1 : decide (at_ ≥ (n : Int)) = true := by simp; omega
      have hop : ∀ P, ansV at_ (xs.map TA.ti) = some P → P.opn = false := fun P hr => by rw [ans_open hr]; exact decide_eq_false (by simp only [List.length_map, hxlh.out]; omega)
      obtain ⟨er, her⟩ : ∃ z, lnE (ansV at_ (xs.map TA.ti)) = z := ⟨_, rfl⟩
      have her0 : (er == (0 : Int)) = false ∧ (er != (0 : Int)) = true := by
        rw [← her]
        cases hr : ansV at_ (xs.map TA.ti) with
        | none => exact ⟨rfl, rfl⟩
        | some P =>
          have h := hop P hr
          unfold lnE; dsimp only; rw [h]
          split <;> exact ⟨rfl, rfl⟩
      obtain ⟨FF, hFF⟩ : ∃ z, lnV (ansV at_ (xs.map TA.ti)) = z := ⟨_, rfl⟩
      rw [her, hFF] at HL
      have her1 := her0.1
      have her2 := her0.2
      clear her0 her hop hFF
      go_wp2_with fail
      refine ((show Calls _ _ _ _ (RetLn _ (FF) (er)) from HL.out _ RL_2)).mono ?_
      rintro e w3 ⟨f, rfl, -, -, hB⟩
      have hB_3 : Below w2.heap.size w2 w3 := (bl.next hB)
      have X_3 := X_2.next hB_3
      have hX_3 := hX_2.below hB_3
      have hY_3 := hY_2.below hB_3
      have L_3 := L_2.below hB_3
      have RL_3 := RL_2.below hB_3
      have hbel_3 := hbel_2.next hB_3
      have hsz_3 := hB_3.size
      clear X_2 hX_2 hY_2 L_2 RL_2 hbel_2 hB_3
      try clear hB
      simp only [LX.arr]
      go_upto_region 4 with fail
      have hbx := blk_new w3 #[Value.bool f.A.s, Value.slice f.A.a f.A.n f.A.c, Value.slice f.A.b f.A.m f.A.d, Value.bool f.B.s, Value.slice f.B.a f.B.n f.B.c, Value.slice f.B.b f.B.m f.B.d, Value.bool f.C.s, Value.slice f.C.a f.C.n f.C.c, Value.slice f.C.b f.C.m f.C.d, Value.bool f.D.s, Value.slice f.D.a f.D.n f.D.c, Value.slice f.D.b f.D.m f.D.d] 32
      have hbB := (Below.refl w3.heap.size w3).alloc (Nat.le_refl _) (.cells #[Value.bool f.A.s, Value.slice f.A.a f.A.n f.A.c, Value.slice f.A.b f.A.m f.A.d, Value.bool f.B.s, Value.slice f.B.a f.B.n f.B.c, Value.slice f.B.b f.B.m f.B.d, Value.bool f.C.s, Value.slice f.C.a f.C.n f.C.c, Value.slice f.C.b f.C.m f.C.d, Value.bool f.D.s, Value.slice f.D.a f.D.n f.D.c, Value.slice f.D.b f.D.m f.D.d] 32)
      have hltF := hbx.lt
      have hB_4 : Below w3.heap.size w3 (w3.alloc (.cells #[Value.bool f.A.s, Value.slice f.A.a f.A.n f.A.c, Value.slice f.A.b f.A.m f.A.d, Value.bool f.B.s, Value.slice f.B.a f.B.n f.B.c, Value.slice f.B.b f.B.m f.B.d, Value.bool f.C.s, Value.slice f.C.a f.C.n f.C.c, Value.slice f.C.b f.C.m f.C.d, Value.bool f.D.s, Value.slice f.D.a f.D.n f.D.c, Value.slice f.D.b f.D.m f.D.d] 32)) := hbB
      have X_4 := X_3.next hB_4
      have hX_4 := hX_3.below hB_4
      have hY_4 := hY_3.below hB_4
      have L_4 := L_3.below hB_4
      have RL_4 := RL_3.below hB_4
      have hbel_4 := hbel_3.next hB_4
      have hsz_4 := hB_4.size
      clear X_3 hX_3 hY_3 L_3 RL_3 hbel_3 hB_4
      have F_4 := hbx
      clear hbx hbB
      generalize (w3.alloc (.cells #[Value.bool f.A.s, Value.slice f.A.a f.A.n f.A.c, Value.slice f.A.b f.A.m f.A.d, Value.bool f.B.s, Value.slice f.B.a f.B.n f.B.c, Value.slice f.B.b f.B.m f.B.d, Value.bool f.C.s, Value.slice f.C.a f.C.n f.C.c, Value.slice f.C.b f.C.m f.C.d, Value.bool f.D.s, Value.slice f.D.a f.D.n f.D.c, Value.slice f.D.b f.D.m f.D.d] 32)) = va4 at *
      go_wp2
      go_ret
      exact ⟨rfl, hbel_4⟩
    ·
      have g1 : decide (at_ ≥ (n : Int)) = false := by simp; omega
      obtain ⟨i, rfl⟩ : ∃ i : Nat, at_ = (i : Int) := ⟨at_.toNat, by omega⟩
      have hi : i < n := by omega
      have hix : i < xs.length := by omega
      obtain ⟨tk, htk⟩ : ∃ z, (xs.getD i TA.o).k = z := ⟨_, rfl⟩
      have htki := hid (show ((xs.map TA.ti).getD i TI.o).k = tk by rw [ta_get hix]; exact htk)
      by_cases hk1 : tk = 1
      ·
        subst hk1
        skip
        by_cases hb3 : xn > 3
        ·
          have g4 : decide ((xn : Int) > 3) = true := by simp; omega
          obtain ⟨er, her⟩ : ∃ z, lnE (ansV (i : Int) (xs.map TA.ti)) = z := ⟨_, rfl⟩
          obtain ⟨FF, hFF⟩ : ∃ z, lnV (ansV (i : Int) (xs.map TA.ti)) = z := ⟨_, rfl⟩
          rw [her, hFF] at HL
          clear her hFF
          go_wp2_with fail
          refine ((show Calls _ _ _ _ (RetLn _ (FF) (er)) from HL.out _ RL_2)).mono ?_
          rintro e w3 ⟨f, rfl, -, -, hB⟩
          have hB_3 : Below w2.heap.size w2 w3 := (bl.next hB)
          have X_3 := X_2.next hB_3
          have hX_3 := hX_2.below hB_3
          have hY_3 := hY_2.below hB_3
          have L_3 := L_2.below hB_3
          have RL_3 := RL_2.below hB_3
          have hbel_3 := hbel_2.next hB_3
          have hsz_3 := hB_3.size
          clear X_2 hX_2 hY_2 L_2 RL_2 hbel_2 hB_3
          try clear hB
          simp only [LX.arr]
          go_upto_region 4 with fail
          have hbx := blk_new w3 #[Value.bool f.A.s, Value.slice f.A.a f.A.n f.A.c, Value.slice f.A.b f.A.m f.A.d, Value.bool f.B.s, Value.slice f.B.a f.B.n f.B.c, Value.slice f.B.b f.B.m f.B.d, Value.bool f.C.s, Value.slice f.C.a f.C.n f.C.c, Value.slice f.C.b f.C.m f.C.d, Value.bool f.D.s, Value.slice f.D.a f.D.n f.D.c, Value.slice f.D.b f.D.m f.D.d] 32
          have hbB := (Below.refl w3.heap.size w3).alloc (Nat.le_refl _) (.cells #[Value.bool f.A.s, Value.slice f.A.a f.A.n f.A.c, Value.slice f.A.b f.A.m f.A.d, Value.bool f.B.s, Value.slice f.B.a f.B.n f.B.c, Value.slice f.B.b f.B.m f.B.d, Value.bool f.C.s, Value.slice f.C.a f.C.n f.C.c, Value.slice f.C.b f.C.m f.C.d, Value.bool f.D.s, Value.slice f.D.a f.D.n f.D.c, Value.slice f.D.b f.D.m f.D.d] 32)
          have hltF := hbx.lt
          have hB_4 : Below w3.heap.size w3 (w3.alloc (.cells #[Value.bool f.A.s, Value.slice f.A.a f.A.n f.A.c, Value.slice f.A.b f.A.m f.A.d, Value.bool f.B.s, Value.slice f.B.a f.B.n f.B.c, Value.slice f.B.b f.B.m f.B.d, Value.bool f.C.s, Value.slice f.C.a f.C.n f.C.c, Value.slice f.C.b f.C.m f.C.d, Value.bool f.D.s, Value.slice f.D.a f.D.n f.D.c, Value.slice f.D.b f.D.m f.D.d] 32)) := hbB
          have X_4 := X_3.next hB_4
          have hX_4 := hX_3.below hB_4
          have hY_4 := hY_3.below hB_4
          have L_4 := L_3.below hB_4
          have RL_4 := RL_3.below hB_4
          have hbel_4 := hbel_3.next hB_4
          have hsz_4 := hB_4.size
          clear X_3 hX_3 hY_3 L_3 RL_3 hbel_3 hB_4
          have F_4 := hbx
          clear hbx hbB
          generalize (w3.alloc (.cells #[Value.bool f.A.s, Value.slice f.A.a f.A.n f.A.c, Value.slice f.A.b f.A.m f.A.d, Value.bool f.B.s, Value.slice f.B.a f.B.n f.B.c, Value.slice f.B.b f.B.m f.B.d, Value.bool f.C.s, Value.slice f.C.a f.C.n f.C.c, Value.slice f.C.b f.C.m f.C.d, Value.bool f.D.s, Value.slice f.D.a f.D.n f.D.c, Value.slice f.D.b f.D.m f.D.d] 32)) = va4 at *
          obtain ⟨gl, hgl, ck, -, -, -⟩ := L_4.cells hix
          subst hgl
          rw [htk] at ck
          have hnc := L_4.bnd
          have cX_4_0 : _ = some (Value.bool s) := X_4.cell 0
          have cX_4_1 : _ = some (Value.slice xa xn xc) := X_4.cell 1
          have cX_4_2 : _ = some (Value.slice xb xm xd) := X_4.cell 2
          go_wp2
          go_ret
          exact ⟨rfl, hbel_4⟩
        ·
          have g4 : decide ((xn : Int) > 3) = false := by simp; omega
          by_cases hb4 : xm > 3
          ·
            have g5 : decide ((xm : Int) > 3) = true := by simp; omega
            obtain ⟨er, her⟩ : ∃ z, lnE (ansV (i : Int) (xs.map TA.ti)) = z := ⟨_, rfl⟩
            obtain ⟨FF, hFF⟩ : ∃ z, lnV (ansV (i : Int) (xs.map TA.ti)) = z := ⟨_, rfl⟩
            rw [her, hFF] at HL
            clear her hFF
            go_wp2_with fail
            refine ((show Calls _ _ _ _ (RetLn _ (FF) (er)) from HL.out _ RL_2)).mono ?_
            rintro e w3 ⟨f, rfl, -, -, hB⟩
            have hB_3 : Below w2.heap.size w2 w3 := (bl.next hB)
            have X_3 := X_2.next hB_3
            have hX_3 := hX_2.below hB_3
            have hY_3 := hY_2.below hB_3
            have L_3 := L_2.below hB_3
            have RL_3 := RL_2.below hB_3
            have hbel_3 := hbel_2.next hB_3
            have hsz_3 := hB_3.size
            clear X_2 hX_2 hY_2 L_2 RL_2 hbel_2 hB_3
            try clear hB
            simp only [LX.arr]
            go_upto_region 4 with fail
            have hbx := blk_new w3 #[Value.bool f.A.s, Value.slice f.A.a f.A.n f.A.c, Value.slice f.A.b f.A.m f.A.d, Value.bool f.B.s, Value.slice f.B.a f.B.n f.B.c, Value.slice f.B.b f.B.m f.B.d, Value.bool f.C.s, Value.slice f.C.a f.C.n f.C.c, Value.slice f.C.b f.C.m f.C.d, Value.bool f.D.s, Value.slice f.D.a f.D.n f.D.c, Value.slice f.D.b f.D.m f.D.d] 32
            have hbB := (Below.refl w3.heap.size w3).alloc (Nat.le_refl _) (.cells #[Value.bool f.A.s, Value.slice f.A.a f.A.n f.A.c, Value.slice f.A.b f.A.m f.A.d, Value.bool f.B.s, Value.slice f.B.a f.B.n f.B.c, Value.slice f.B.b f.B.m f.B.d, Value.bool f.C.s, Value.slice f.C.a f.C.n f.C.c, Value.slice f.C.b f.C.m f.C.d, Value.bool f.D.s, Value.slice f.D.a f.D.n f.D.c, Value.slice f.D.b f.D.m f.D.d] 32)
            have hltF := hbx.lt
            have hB_4 : Below w3.heap.size w3 (w3.alloc (.cells #[Value.bool f.A.s, Value.slice f.A.a f.A.n f.A.c, Value.slice f.A.b f.A.m f.A.d, Value.bool f.B.s, Value.slice f.B.a f.B.n f.B.c, Value.slice f.B.b f.B.m f.B.d, Value.bool f.C.s, Value.slice f.C.a f.C.n f.C.c, Value.slice f.C.b f.C.m f.C.d, Value.bool f.D.s, Value.slice f.D.a f.D.n f.D.c, Value.slice f.D.b f.D.m f.D.d] 32)) := hbB
            have X_4 := X_3.next hB_4
            have hX_4 := hX_3.below hB_4
            have hY_4 := hY_3.below hB_4
            have L_4 := L_3.below hB_4
            have RL_4 := RL_3.below hB_4
            have hbel_4 := hbel_3.next hB_4
            have hsz_4 := hB_4.size
            clear X_3 hX_3 hY_3 L_3 RL_3 hbel_3 hB_4
            have F_4 := hbx
            clear hbx hbB
            generalize (w3.alloc (.cells #[Value.bool f.A.s, Value.slice f.A.a f.A.n f.A.c, Value.slice f.A.b f.A.m f.A.d, Value.bool f.B.s, Value.slice f.B.a f.B.n f.B.c, Value.slice f.B.b f.B.m f.B.d, Value.bool f.C.s, Value.slice f.C.a f.C.n f.C.c, Value.slice f.C.b f.C.m f.C.d, Value.bool f.D.s, Value.slice f.D.a f.D.n f.D.c, Value.slice f.D.b f.D.m f.D.d] 32)) = va4 at *
            obtain ⟨gl, hgl, ck, -, -, -⟩ := L_4.cells hix
            subst hgl
            rw [htk] at ck
            have hnc := L_4.bnd
            have cX_4_0 : _ = some (Value.bool s) := X_4.cell 0
            have cX_4_1 : _ = some (Value.slice xa xn xc) := X_4.cell 1
            have cX_4_2 : _ = some (Value.slice xb xm xd) := X_4.cell 2
            go_wp2
            go_ret
            exact ⟨rfl, hbel_4⟩
          ·
            have g5 : decide ((xm : Int) > 3) = false := by simp; omega
            obtain ⟨zs, hzs⟩ : ∃ z, xs.set i (setT (xs.getD i TA.o) (⟨s, xa, xn, xc, xl, xb, xm, xd, xk⟩ : QA)) = z := ⟨_, rfl⟩
            have hzl : zs.length = n := by rw [← hzs, List.length_set]; exact hxl
            obtain ⟨qx, hqx⟩ : ∃ z, QA.q (⟨s, xa, xn, xc, xl, xb, xm, xd, xk⟩ : QA) = z := ⟨_, rfl⟩
            have hfil := fil_ans (x := qx) (at_ := (i : Int)) (ts := xs.map TA.ti) (us := zs.map TA.ti) (by simp [hzl, hxl]) (fun j => by rw [← hzs]; exact set_k hix j) (fun j hj => by rw [← hzs]; exact set_q hix j (fun e => hj (by rw [e]))) (fun j hj => by obtain rfl : j = i := (by omega); exact ⟨htki.out, by rw [← hzs, ← hqx]; exact set_x hix⟩)
            have hzsh := hid hzs
            have hqxh := hid hqx
            have hzlh := hid hzl
            clear hzs hqx hzl
            have HC := hid (fun (B : Nat) (W : World) (hT : TRw 3 B W la lc xs) => (show Calls Try.prog 8 #[.slice la n lc] W (fun e w' => ∃ a c, e = .returned (.slice a n c) ∧ TRw 3 W.heap.size w' a c xs ∧ Below W.heap.size W w') from by
              have h := tcut (w := W) (sa := la) (c := lc) (ts := xs) hT.trow hT.bnd.1 hT.bnd.2
              rw [hxlh.out] at h
              refine h.mono fun e w' h4 => ?_
              obtain ⟨a, c, h1, h2, h3⟩ := h4
              rw [hxlh.out, show min n 300 = n by omega] at h1
              rw [cut_again hcutx.out (by rw [hxlh.out]; exact hn3)] at h2
              exact ⟨a, c, h1, h2, h3⟩))
            have HEv := hid (fun (W : World) (a : Option Addr) (c : Nat) hT => evl_any (w := W) (sa := a) (n := n) (c := c) (K := 3) (xs := zs.map TA.ti) hT (by omega) (by omega))
            rcases hfil with ⟨h1, h2⟩ | ⟨P, P', h1, h2, hF⟩
            ·
              rw [h1] at HL
              rw [h2] at HEv
              clear h1 h2
              go_wp2_with fail
              refine ((show Calls _ _ _ _ (RetLn _ (LV.z) (30)) from HL.out _ RL_2)).mono ?_
              rintro e w3 ⟨f, rfl, -, -, hB⟩
              have hB_3 : Below w2.heap.size w2 w3 := (bl.next hB)
              have X_3 := X_2.next hB_3
              have hX_3 := hX_2.below hB_3
              have hY_3 := hY_2.below hB_3
              have L_3 := L_2.below hB_3
              have RL_3 := RL_2.below hB_3
              have hbel_3 := hbel_2.next hB_3
              have hsz_3 := hB_3.size
              clear X_2 hX_2 hY_2 L_2 RL_2 hbel_2 hB_3
              try clear hB
              simp only [LX.arr]
              go_upto_region 4 with fail
              have hbx := blk_new w3 #[Value.bool f.A.s, Value.slice f.A.a f.A.n f.A.c, Value.slice f.A.b f.A.m f.A.d, Value.bool f.B.s, Value.slice f.B.a f.B.n f.B.c, Value.slice f.B.b f.B.m f.B.d, Value.bool f.C.s, Value.slice f.C.a f.C.n f.C.c, Value.slice f.C.b f.C.m f.C.d, Value.bool f.D.s, Value.slice f.D.a f.D.n f.D.c, Value.slice f.D.b f.D.m f.D.d] 32
              have hbB := (Below.refl w3.heap.size w3).alloc (Nat.le_refl _) (.cells #[Value.bool f.A.s, Value.slice f.A.a f.A.n f.A.c, Value.slice f.A.b f.A.m f.A.d, Value.bool f.B.s, Value.slice f.B.a f.B.n f.B.c, Value.slice f.B.b f.B.m f.B.d, Value.bool f.C.s, Value.slice f.C.a f.C.n f.C.c, Value.slice f.C.b f.C.m f.C.d, Value.bool f.D.s, Value.slice f.D.a f.D.n f.D.c, Value.slice f.D.b f.D.m f.D.d] 32)
              have hltF := hbx.lt
              have hB_4 : Below w3.heap.size w3 (w3.alloc (.cells #[Value.bool f.A.s, Value.slice f.A.a f.A.n f.A.c, Value.slice f.A.b f.A.m f.A.d, Value.bool f.B.s, Value.slice f.B.a f.B.n f.B.c, Value.slice f.B.b f.B.m f.B.d, Value.bool f.C.s, Value.slice f.C.a f.C.n f.C.c, Value.slice f.C.b f.C.m f.C.d, Value.bool f.D.s, Value.slice f.D.a f.D.n f.D.c, Value.slice f.D.b f.D.m f.D.d] 32)) := hbB
              have X_4 := X_3.next hB_4
              have hX_4 := hX_3.below hB_4
              have hY_4 := hY_3.below hB_4
              have L_4 := L_3.below hB_4
              have RL_4 := RL_3.below hB_4
              have hbel_4 := hbel_3.next hB_4
              have hsz_4 := hB_4.size
              clear X_3 hX_3 hY_3 L_3 RL_3 hbel_3 hB_4
              have F_4 := hbx
              clear hbx hbB
              generalize (w3.alloc (.cells #[Value.bool f.A.s, Value.slice f.A.a f.A.n f.A.c, Value.slice f.A.b f.A.m f.A.d, Value.bool f.B.s, Value.slice f.B.a f.B.n f.B.c, Value.slice f.B.b f.B.m f.B.d, Value.bool f.C.s, Value.slice f.C.a f.C.n f.C.c, Value.slice f.C.b f.C.m f.C.d, Value.bool f.D.s, Value.slice f.D.a f.D.n f.D.c, Value.slice f.D.b f.D.m f.D.d] 32)) = va4 at *
              obtain ⟨gl, hgl, ck, -, -, -⟩ := L_4.cells hix
              subst hgl
              rw [htk] at ck
              have hnc := L_4.bnd
              have cX_4_0 : _ = some (Value.bool s) := X_4.cell 0
              have cX_4_1 : _ = some (Value.slice xa xn xc) := X_4.cell 1
              have cX_4_2 : _ = some (Value.slice xb xm xd) := X_4.cell 2
              go_wp2_with fail
              refine (HC.out _ _ L_4).mono ?_
              rintro e w5 ⟨lf, cf, rfl, hT, hB⟩
              have hB_5 : Below va4.heap.size va4 w5 := (bl.next hB)
              have X_5 := X_4.next hB_5
              have F_5 := F_4.next hB_5
              have hX_5 := hX_4.below hB_5
              have hY_5 := hY_4.below hB_5
              have L_5 := L_4.below hB_5
              have RL_5 := RL_4.below hB_5
              have hbel_5 := hbel_4.next hB_5
              have hsz_5 := hB_5.size
              clear X_4 F_4 hX_4 hY_4 L_4 RL_4 hbel_4 hB_5
              clear cX_4_0 cX_4_1 cX_4_2
              have Z_5 := (show TRw 3 va4.heap.size _ lf cf xs from hT)
              clear hT
              try clear hB
              obtain ⟨gz, hgz, hgz1, hgz2⟩ := Z_5.addr (by omega)
              subst hgz
              obtain ⟨g2, hgg, -, z1, z2, z3⟩ := Z_5.cells hix
              cases hgg
              have zf := fun j => Z_5.row.frozenAt j
              have y1 := zf (i * 4 + 1)
              have y2 := zf (i * 4 + 2)
              have y3 := zf (i * 4 + 3)
              have hzc := Z_5.bnd
              have cX_5_0 : _ = some (Value.bool s) := X_5.cell 0
              have cX_5_1 : _ = some (Value.slice xa xn xc) := X_5.cell 1
              have cX_5_2 : _ = some (Value.slice xb xm xd) := X_5.cell 2
              go_upto_region 10 with fail
              have hkp := ((((Kp.refl (fun j => j = gz) w5).setCell (ad := ⟨gz, i * 4 + 1, none⟩) rfl (Value.bool s)).setCell (ad := ⟨gz, i * 4 + 2, none⟩) rfl (Value.slice xa xn xc)).setCell (ad := ⟨gz, i * 4 + 3, none⟩) rfl (Value.slice xb xm xd))
              have hxt : TOK 3 w5 (some ⟨gz, 0, none⟩) (⟨s, xa, xn, xc, xl, xb, xm, xd, xk⟩ : QA) := ⟨hX_5, hY_5, fun g o h0 e e2 => by have := Rd.lt0' hX'.out e h0; have := hbel_5.size; cases e2; omega, fun g o h0 e e2 => by have := Rd.lt0' hY'.out e h0; have := hbel_5.size; cases e2; omega, by show xn ≤ 3; omega, by show xm ≤ 3; omega⟩
              have Z_6 := Z_5.put hix hxt
              rw [hzsh.out] at Z_6
              have X_6 := X_5.kp hkp (show ¬ (w.heap.size = gz) by omega)
              have F_6 := F_5.kp hkp (show ¬ (w3.heap.size = gz) by omega)
              have hxt2 := (hxt.ra.kp0 hkp (fun b o h0 e (e2 : b = gz) => hxt.ga b o h0 e (by rw [e2])))
              have hX_6 : Rd _ xa xn xc xl := hxt2
              have hY_6 : Rd _ xb xm xd xk := (hxt.rb.kp0 hkp (fun b o h0 e (e2 : b = gz) => hxt.gb b o h0 e (by rw [e2])))
              clear hxt2 hxt
              have hbel_6 := hbel_5.kp hkp hbel_5.size (fun j hj (e : j = gz) => by omega)
              have hsz_6 := hkp.size
              clear z1 z2 z3 zf y1 y2 y3 hkp ck hbel_5 X_5 F_5 hX_5 hY_5 L_5 RL_5 Z_5 cX_5_0 cX_5_1 cX_5_2
              generalize (((w5.setCell ⟨gz, i * 4 + 1, none⟩ (Value.bool s)).setCell ⟨gz, i * 4 + 2, none⟩ (Value.slice xa xn xc)).setCell ⟨gz, i * 4 + 3, none⟩ (Value.slice xb xm xd)) = wp at *
              have RZ := Z_6.rdTs
              rw [hzlh.out] at RZ
              go_wp2_with fail
              refine ((show Calls _ _ _ _ (RetQE _ 0 30) from HEv.out _ _ _ RZ)).mono ?_
              rintro e w7 ⟨va, vn, vc, vb, vm, vd, rfl, hO, hO', hD, hB⟩
              have hB_7 : Below wp.heap.size wp w7 := (bl.next hB)
              have X_7 := X_6.next hB_7
              have F_7 := F_6.next hB_7
              have Z_7 := Z_6.below hB_7
              have hX_7 := hX_6.below hB_7
              have hY_7 := hY_6.below hB_7
              have hbel_7 := hbel_6.next hB_7
              have hsz_7 := hB_7.size
              clear X_6 F_6 Z_6 hX_6 hY_6 hbel_6 hB_7
              have Ov_7 := (show Own wp.heap.size _ _ _ _ (qnl 0 30) from hO)
              have Pv_7 := (show Own wp.heap.size _ _ _ _ (qdl 0 30) from hO')
              clear hO hO' hD RZ
              try clear hB
              go_upto_region 11 with fail
              have hbx := blk_new w7 #[Value.bool (qsg 0 30), Value.slice va vn vc, Value.slice vb vm vd] 28
              have hbB := (Below.refl w7.heap.size w7).alloc (Nat.le_refl _) (.cells #[Value.bool (qsg 0 30), Value.slice va vn vc, Value.slice vb vm vd] 28)
              have hltV := hbx.lt
              have hB_8 : Below w7.heap.size w7 (w7.alloc (.cells #[Value.bool (qsg 0 30), Value.slice va vn vc, Value.slice vb vm vd] 28)) := hbB
              have X_8 := X_7.next hB_8
              have F_8 := F_7.next hB_8
              have Z_8 := Z_7.below hB_8
              have hX_8 := hX_7.below hB_8
              have hY_8 := hY_7.below hB_8
              have Ov_8 := Ov_7.below hB_8
              have Pv_8 := Pv_7.below hB_8
              have hbel_8 := hbel_7.next hB_8
              have hsz_8 := hB_8.size
              clear X_7 F_7 Z_7 hX_7 hY_7 Ov_7 Pv_7 hbel_7 hB_8
              have V_8 := hbx
              clear hbx hbB
              generalize (w7.alloc (.cells #[Value.bool (qsg 0 30), Value.slice va vn vc, Value.slice vb vm vd] 28)) = va8 at *
              go_wp2
              go_ret
              exact ⟨rfl, hbel_8⟩
            ·
              rw [h1] at HL
              rw [h2] at HEv
              have hopn := hid (show P.opn = true by rw [ans_open h1]; exact decide_eq_true ⟨by omega, by simp only [List.length_map, hxl]; omega, htki.out⟩)
              have hnz := hid (ans_nz h1)
              have hpz := hid (ans_pz (n := n) (by simp [hxl]) (by decide) (fun j hj => hqs.out j (by omega)) h1)
              have hFh := hid hF
              clear h1 h2 hF
              by_cases hd : P.deep > 64
              ·
                have e1 := hid (show lnE (some P) = 31 from if_pos hd)
                have e2 := hid (show evE (some P') = 31 from if_pos (by rw [hFh.out.deep]; exact hd))
                obtain ⟨FF, hFF⟩ : ∃ z, lnV (some P) = z := ⟨_, rfl⟩
                obtain ⟨qv, hqv⟩ : ∃ z, evQ (some P') = z := ⟨_, rfl⟩
                rw [e1.out, hFF] at HL
                rw [e2.out, hqv] at HEv
                clear hd hFF hqv
                go_wp2_with fail
                refine ((show Calls _ _ _ _ (RetLn _ (FF) (31)) from HL.out _ RL_2)).mono ?_
                rintro e w3 ⟨f, rfl, -, -, hB⟩
                have hB_3 : Below w2.heap.size w2 w3 := (bl.next hB)
                have X_3 := X_2.next hB_3
                have hX_3 := hX_2.below hB_3
                have hY_3 := hY_2.below hB_3
                have L_3 := L_2.below hB_3
                have RL_3 := RL_2.below hB_3
                have hbel_3 := hbel_2.next hB_3
                have hsz_3 := hB_3.size
                clear X_2 hX_2 hY_2 L_2 RL_2 hbel_2 hB_3
                try clear hB
                simp only [LX.arr]
                go_upto_region 4 with fail
                have hbx := blk_new w3 #[Value.bool f.A.s, Value.slice f.A.a f.A.n f.A.c, Value.slice f.A.b f.A.m f.A.d, Value.bool f.B.s, Value.slice f.B.a f.B.n f.B.c, Value.slice f.B.b f.B.m f.B.d, Value.bool f.C.s, Value.slice f.C.a f.C.n f.C.c, Value.slice f.C.b f.C.m f.C.d, Value.bool f.D.s, Value.slice f.D.a f.D.n f.D.c, Value.slice f.D.b f.D.m f.D.d] 32
                have hbB := (Below.refl w3.heap.size w3).alloc (Nat.le_refl _) (.cells #[Value.bool f.A.s, Value.slice f.A.a f.A.n f.A.c, Value.slice f.A.b f.A.m f.A.d, Value.bool f.B.s, Value.slice f.B.a f.B.n f.B.c, Value.slice f.B.b f.B.m f.B.d, Value.bool f.C.s, Value.slice f.C.a f.C.n f.C.c, Value.slice f.C.b f.C.m f.C.d, Value.bool f.D.s, Value.slice f.D.a f.D.n f.D.c, Value.slice f.D.b f.D.m f.D.d] 32)
                have hltF := hbx.lt
                have hB_4 : Below w3.heap.size w3 (w3.alloc (.cells #[Value.bool f.A.s, Value.slice f.A.a f.A.n f.A.c, Value.slice f.A.b f.A.m f.A.d, Value.bool f.B.s, Value.slice f.B.a f.B.n f.B.c, Value.slice f.B.b f.B.m f.B.d, Value.bool f.C.s, Value.slice f.C.a f.C.n f.C.c, Value.slice f.C.b f.C.m f.C.d, Value.bool f.D.s, Value.slice f.D.a f.D.n f.D.c, Value.slice f.D.b f.D.m f.D.d] 32)) := hbB
                have X_4 := X_3.next hB_4
                have hX_4 := hX_3.below hB_4
                have hY_4 := hY_3.below hB_4
                have L_4 := L_3.below hB_4
                have RL_4 := RL_3.below hB_4
                have hbel_4 := hbel_3.next hB_4
                have hsz_4 := hB_4.size
                clear X_3 hX_3 hY_3 L_3 RL_3 hbel_3 hB_4
                have F_4 := hbx
                clear hbx hbB
                generalize (w3.alloc (.cells #[Value.bool f.A.s, Value.slice f.A.a f.A.n f.A.c, Value.slice f.A.b f.A.m f.A.d, Value.bool f.B.s, Value.slice f.B.a f.B.n f.B.c, Value.slice f.B.b f.B.m f.B.d, Value.bool f.C.s, Value.slice f.C.a f.C.n f.C.c, Value.slice f.C.b f.C.m f.C.d, Value.bool f.D.s, Value.slice f.D.a f.D.n f.D.c, Value.slice f.D.b f.D.m f.D.d] 32)) = va4 at *
                obtain ⟨gl, hgl, ck, -, -, -⟩ := L_4.cells hix
                subst hgl
                rw [htk] at ck
                have hnc := L_4.bnd
                have cX_4_0 : _ = some (Value.bool s) := X_4.cell 0
                have cX_4_1 : _ = some (Value.slice xa xn xc) := X_4.cell 1
                have cX_4_2 : _ = some (Value.slice xb xm xd) := X_4.cell 2
                go_wp2_with fail
                refine (HC.out _ _ L_4).mono ?_
                rintro e w5 ⟨lf, cf, rfl, hT, hB⟩
                have hB_5 : Below va4.heap.size va4 w5 := (bl.next hB)
                have X_5 := X_4.next hB_5
                have F_5 := F_4.next hB_5
                have hX_5 := hX_4.below hB_5
                have hY_5 := hY_4.below hB_5
                have L_5 := L_4.below hB_5
                have RL_5 := RL_4.below hB_5
                have hbel_5 := hbel_4.next hB_5
                have hsz_5 := hB_5.size
                clear X_4 F_4 hX_4 hY_4 L_4 RL_4 hbel_4 hB_5
                clear cX_4_0 cX_4_1 cX_4_2
                have Z_5 := (show TRw 3 va4.heap.size _ lf cf xs from hT)
                clear hT
                try clear hB
                obtain ⟨gz, hgz, hgz1, hgz2⟩ := Z_5.addr (by omega)
                subst hgz
                obtain ⟨g2, hgg, -, z1, z2, z3⟩ := Z_5.cells hix
                cases hgg
                have zf := fun j => Z_5.row.frozenAt j
                have y1 := zf (i * 4 + 1)
                have y2 := zf (i * 4 + 2)
                have y3 := zf (i * 4 + 3)
                have hzc := Z_5.bnd
                have cX_5_0 : _ = some (Value.bool s) := X_5.cell 0
                have cX_5_1 : _ = some (Value.slice xa xn xc) := X_5.cell 1
                have cX_5_2 : _ = some (Value.slice xb xm xd) := X_5.cell 2
                go_upto_region 10 with fail
                have hkp := ((((Kp.refl (fun j => j = gz) w5).setCell (ad := ⟨gz, i * 4 + 1, none⟩) rfl (Value.bool s)).setCell (ad := ⟨gz, i * 4 + 2, none⟩) rfl (Value.slice xa xn xc)).setCell (ad := ⟨gz, i * 4 + 3, none⟩) rfl (Value.slice xb xm xd))
                have hxt : TOK 3 w5 (some ⟨gz, 0, none⟩) (⟨s, xa, xn, xc, xl, xb, xm, xd, xk⟩ : QA) := ⟨hX_5, hY_5, fun g o h0 e e2 => by have := Rd.lt0' hX'.out e h0; have := hbel_5.size; cases e2; omega, fun g o h0 e e2 => by have := Rd.lt0' hY'.out e h0; have := hbel_5.size; cases e2; omega, by show xn ≤ 3; omega, by show xm ≤ 3; omega⟩
                have Z_6 := Z_5.put hix hxt
                rw [hzsh.out] at Z_6
                have X_6 := X_5.kp hkp (show ¬ (w.heap.size = gz) by omega)
                have F_6 := F_5.kp hkp (show ¬ (w3.heap.size = gz) by omega)
                have hxt2 := (hxt.ra.kp0 hkp (fun b o h0 e (e2 : b = gz) => hxt.ga b o h0 e (by rw [e2])))
                have hX_6 : Rd _ xa xn xc xl := hxt2
                have hY_6 : Rd _ xb xm xd xk := (hxt.rb.kp0 hkp (fun b o h0 e (e2 : b = gz) => hxt.gb b o h0 e (by rw [e2])))
                clear hxt2 hxt
                have hbel_6 := hbel_5.kp hkp hbel_5.size (fun j hj (e : j = gz) => by omega)
                have hsz_6 := hkp.size
                clear z1 z2 z3 zf y1 y2 y3 hkp ck hbel_5 X_5 F_5 hX_5 hY_5 L_5 RL_5 Z_5 cX_5_0 cX_5_1 cX_5_2
                generalize (((w5.setCell ⟨gz, i * 4 + 1, none⟩ (Value.bool s)).setCell ⟨gz, i * 4 + 2, none⟩ (Value.slice xa xn xc)).setCell ⟨gz, i * 4 + 3, none⟩ (Value.slice xb xm xd)) = wp at *
                have RZ := Z_6.rdTs
                rw [hzlh.out] at RZ
                go_wp2_with fail
                refine ((show Calls _ _ _ _ (RetQE _ qv 31) from HEv.out _ _ _ RZ)).mono ?_
                rintro e w7 ⟨va, vn, vc, vb, vm, vd, rfl, hO, hO', hD, hB⟩
                have hB_7 : Below wp.heap.size wp w7 := (bl.next hB)
                have X_7 := X_6.next hB_7
                have F_7 := F_6.next hB_7
                have Z_7 := Z_6.below hB_7
                have hX_7 := hX_6.below hB_7
                have hY_7 := hY_6.below hB_7
                have hbel_7 := hbel_6.next hB_7
                have hsz_7 := hB_7.size
                clear X_6 F_6 Z_6 hX_6 hY_6 hbel_6 hB_7
                have Ov_7 := (show Own wp.heap.size _ _ _ _ (qnl qv 31) from hO)
                have Pv_7 := (show Own wp.heap.size _ _ _ _ (qdl qv 31) from hO')
                clear hO hO' hD RZ
                try clear hB
                go_upto_region 11 with fail
                have hbx := blk_new w7 #[Value.bool (qsg qv 31), Value.slice va vn vc, Value.slice vb vm vd] 28
                have hbB := (Below.refl w7.heap.size w7).alloc (Nat.le_refl _) (.cells #[Value.bool (qsg qv 31), Value.slice va vn vc, Value.slice vb vm vd] 28)
                have hltV := hbx.lt
                have hB_8 : Below w7.heap.size w7 (w7.alloc (.cells #[Value.bool (qsg qv 31), Value.slice va vn vc, Value.slice vb vm vd] 28)) := hbB
                have X_8 := X_7.next hB_8
                have F_8 := F_7.next hB_8
                have Z_8 := Z_7.below hB_8
                have hX_8 := hX_7.below hB_8
                have hY_8 := hY_7.below hB_8
                have Ov_8 := Ov_7.below hB_8
                have Pv_8 := Pv_7.below hB_8
                have hbel_8 := hbel_7.next hB_8
                have hsz_8 := hB_8.size
                clear X_7 F_7 Z_7 hX_7 hY_7 Ov_7 Pv_7 hbel_7 hB_8
                have V_8 := hbx
                clear hbx hbB
                generalize (w7.alloc (.cells #[Value.bool (qsg qv 31), Value.slice va vn vc, Value.slice vb vm vd] 28)) = va8 at *
                go_wp2
                go_ret
                exact ⟨rfl, hbel_8⟩
              ·
                have e1 := hid (show lnE (some P) = if P.bad = true then 11 else 0 by rw [lnE_lo hd, hopn.out]; rfl)
                have e2 := hid (evE_lo (J := P') (by rw [hFh.out.deep]; exact hd))
                clear hd
                cases hb : P'.bad
                ·
                  have hby := byV_ne hnz.out hopn.out (hFh.out.fill hopn.out hb).1
                  have hfv := fill_val hFh.out hopn.out hb hby
                  have hpb := hfv.1
                  rw [e1.out, hpb] at HL
                  rw [e2.out, hb] at HEv
                  obtain ⟨m, hm, hz⟩ := hpz.out
                  have hls := hz.L.ls.mono (show m * 3 ≤ 900 by omega)
                  have hqy : QS (byV P.L) 900 := by unfold byV; split; exact hls.d; exact hls.c
                  skip
                  obtain ⟨fa, hfa⟩ : ∃ z, (dvV P.L).a = z := ⟨_, rfl⟩
                  obtain ⟨fb, hfb⟩ : ∃ z, (dvV P.L).b = z := ⟨_, rfl⟩
                  obtain ⟨fc, hfc⟩ : ∃ z, (dvV P.L).c = z := ⟨_, rfl⟩
                  obtain ⟨fd, hfd⟩ : ∃ z, (dvV P.L).d = z := ⟨_, rfl⟩
                  have sfa := hid (show QS fa 1900 from hfa ▸ (hls.a.div hqy (by omega)).mono (by omega))
                  have sfb := hid (show QS fb 1900 from hfb ▸ (hls.b.div hqy (by omega)).mono (by omega))
                  have sfc := hid (show QS fc 1900 from hfc ▸ (hls.c.div hqy (by omega)).mono (by omega))
                  have sfd := hid (show QS fd 1900 from hfd ▸ (hls.d.div hqy (by omega)).mono (by omega))
                  have hdv := hid (show lnV (some P) = ⟨fa, fb, fc, fd⟩ by rw [← hfa, ← hfb, ← hfc, ← hfd]; rfl)
                  rw [hfa, hfb, hfc, hfd] at hfv
                  rw [hdv.out] at HL
                  obtain ⟨qv, hqv⟩ : ∃ z, P'.v = z := ⟨_, rfl⟩
                  rw [hqv] at hfv
                  have hne := hid hfv.2.1
                  have hval := hid hfv.2.2
                  have HEv := hid (fun (W : World) (a : Option Addr) (c : Nat) hT => (show Calls _ _ _ _ (RetQE W qv 0) from by have h := HEv.out W a c hT; rw [show evQ (some P') = qv from hqv] at h; exact h))
                  clear hby hfv hpb hm hz hls hqy hfa hfb hfc hfd hqv hb
                  go_wp2_with fail
                  refine ((show Calls _ _ _ _ (RetLn _ (⟨fa, fb, fc, fd⟩) (0)) from HL.out _ RL_2)).mono ?_
                  rintro e w3 ⟨f, rfl, -, hL, hB⟩
                  have hB_3 : Below w2.heap.size w2 w3 := (bl.next hB)
                  have X_3 := X_2.next hB_3
                  have hX_3 := hX_2.below hB_3
                  have hY_3 := hY_2.below hB_3
                  have L_3 := L_2.below hB_3
                  have RL_3 := RL_2.below hB_3
                  have hbel_3 := hbel_2.next hB_3
                  have hsz_3 := hB_3.size
                  clear X_2 hX_2 hY_2 L_2 RL_2 hbel_2 hB_3
                  obtain ⟨N1, N2, N3, -, -, -, hfA, -, hfB, -, hfC, -, hfD⟩ := (hL rfl).ex
                  clear hL
                  have GA_3 := hfA
                  have GB_3 := hfB
                  have GC_3 := hfC
                  have GD_3 := hfD
                  clear hfA hfB hfC hfD
                  try clear hB
                  simp only [LX.arr]
                  go_upto_region 4 with fail
                  have hbx := blk_new w3 #[Value.bool f.A.s, Value.slice f.A.a f.A.n f.A.c, Value.slice f.A.b f.A.m f.A.d, Value.bool f.B.s, Value.slice f.B.a f.B.n f.B.c, Value.slice f.B.b f.B.m f.B.d, Value.bool f.C.s, Value.slice f.C.a f.C.n f.C.c, Value.slice f.C.b f.C.m f.C.d, Value.bool f.D.s, Value.slice f.D.a f.D.n f.D.c, Value.slice f.D.b f.D.m f.D.d] 32
                  have hbB := (Below.refl w3.heap.size w3).alloc (Nat.le_refl _) (.cells #[Value.bool f.A.s, Value.slice f.A.a f.A.n f.A.c, Value.slice f.A.b f.A.m f.A.d, Value.bool f.B.s, Value.slice f.B.a f.B.n f.B.c, Value.slice f.B.b f.B.m f.B.d, Value.bool f.C.s, Value.slice f.C.a f.C.n f.C.c, Value.slice f.C.b f.C.m f.C.d, Value.bool f.D.s, Value.slice f.D.a f.D.n f.D.c, Value.slice f.D.b f.D.m f.D.d] 32)
                  have hltF := hbx.lt
                  have hB_4 : Below w3.heap.size w3 (w3.alloc (.cells #[Value.bool f.A.s, Value.slice f.A.a f.A.n f.A.c, Value.slice f.A.b f.A.m f.A.d, Value.bool f.B.s, Value.slice f.B.a f.B.n f.B.c, Value.slice f.B.b f.B.m f.B.d, Value.bool f.C.s, Value.slice f.C.a f.C.n f.C.c, Value.slice f.C.b f.C.m f.C.d, Value.bool f.D.s, Value.slice f.D.a f.D.n f.D.c, Value.slice f.D.b f.D.m f.D.d] 32)) := hbB
                  have X_4 := X_3.next hB_4
                  have hX_4 := hX_3.below hB_4
                  have hY_4 := hY_3.below hB_4
                  have L_4 := L_3.below hB_4
                  have RL_4 := RL_3.below hB_4
                  have GA_4 := GA_3.below hB_4
                  have GB_4 := GB_3.below hB_4
                  have GC_4 := GC_3.below hB_4
                  have GD_4 := GD_3.below hB_4
                  have hbel_4 := hbel_3.next hB_4
                  have hsz_4 := hB_4.size
                  clear X_3 hX_3 hY_3 L_3 RL_3 GA_3 GB_3 GC_3 GD_3 hbel_3 hB_4
                  have F_4 := hbx
                  clear hbx hbB
                  generalize (w3.alloc (.cells #[Value.bool f.A.s, Value.slice f.A.a f.A.n f.A.c, Value.slice f.A.b f.A.m f.A.d, Value.bool f.B.s, Value.slice f.B.a f.B.n f.B.c, Value.slice f.B.b f.B.m f.B.d, Value.bool f.C.s, Value.slice f.C.a f.C.n f.C.c, Value.slice f.C.b f.C.m f.C.d, Value.bool f.D.s, Value.slice f.D.a f.D.n f.D.c, Value.slice f.D.b f.D.m f.D.d] 32)) = va4 at *
                  have ltGA := GA_4.ltx
                  have ltGB := GB_4.ltx
                  have ltGC := GC_4.ltx
                  have ltGD := GD_4.ltx
                  obtain ⟨gl, hgl, ck, -, -, -⟩ := L_4.cells hix
                  subst hgl
                  rw [htk] at ck
                  have hnc := L_4.bnd
                  have cX_4_0 : _ = some (Value.bool s) := X_4.cell 0
                  have cX_4_1 : _ = some (Value.slice xa xn xc) := X_4.cell 1
                  have cX_4_2 : _ = some (Value.slice xb xm xd) := X_4.cell 2
                  go_wp2_with fail
                  refine (HC.out _ _ L_4).mono ?_
                  rintro e w5 ⟨lf, cf, rfl, hT, hB⟩
                  have hB_5 : Below va4.heap.size va4 w5 := (bl.next hB)
                  have X_5 := X_4.next hB_5
                  have F_5 := F_4.next hB_5
                  have hX_5 := hX_4.below hB_5
                  have hY_5 := hY_4.below hB_5
                  have L_5 := L_4.below hB_5
                  have RL_5 := RL_4.below hB_5
                  have GA_5 := GA_4.below hB_5
                  have GB_5 := GB_4.below hB_5
                  have GC_5 := GC_4.below hB_5
                  have GD_5 := GD_4.below hB_5
                  have hbel_5 := hbel_4.next hB_5
                  have hsz_5 := hB_5.size
                  clear X_4 F_4 hX_4 hY_4 L_4 RL_4 GA_4 GB_4 GC_4 GD_4 hbel_4 hB_5
                  clear cX_4_0 cX_4_1 cX_4_2
                  have Z_5 := (show TRw 3 va4.heap.size _ lf cf xs from hT)
                  clear hT
                  try clear hB
                  obtain ⟨gz, hgz, hgz1, hgz2⟩ := Z_5.addr (by omega)
                  subst hgz
                  obtain ⟨g2, hgg, -, z1, z2, z3⟩ := Z_5.cells hix
                  cases hgg
                  have zf := fun j => Z_5.row.frozenAt j
                  have y1 := zf (i * 4 + 1)
                  have y2 := zf (i * 4 + 2)
                  have y3 := zf (i * 4 + 3)
                  have hzc := Z_5.bnd
                  have cX_5_0 : _ = some (Value.bool s) := X_5.cell 0
                  have cX_5_1 : _ = some (Value.slice xa xn xc) := X_5.cell 1
                  have cX_5_2 : _ = some (Value.slice xb xm xd) := X_5.cell 2
                  go_upto_region 10 with fail
                  have hkp := ((((Kp.refl (fun j => j = gz) w5).setCell (ad := ⟨gz, i * 4 + 1, none⟩) rfl (Value.bool s)).setCell (ad := ⟨gz, i * 4 + 2, none⟩) rfl (Value.slice xa xn xc)).setCell (ad := ⟨gz, i * 4 + 3, none⟩) rfl (Value.slice xb xm xd))
                  have hxt : TOK 3 w5 (some ⟨gz, 0, none⟩) (⟨s, xa, xn, xc, xl, xb, xm, xd, xk⟩ : QA) := ⟨hX_5, hY_5, fun g o h0 e e2 => by have := Rd.lt0' hX'.out e h0; have := hbel_5.size; cases e2; omega, fun g o h0 e e2 => by have := Rd.lt0' hY'.out e h0; have := hbel_5.size; cases e2; omega, by show xn ≤ 3; omega, by show xm ≤ 3; omega⟩
                  have Z_6 := Z_5.put hix hxt
                  rw [hzsh.out] at Z_6
                  have X_6 := X_5.kp hkp (show ¬ (w.heap.size = gz) by omega)
                  have F_6 := F_5.kp hkp (show ¬ (w3.heap.size = gz) by omega)
                  have hxt2 := (hxt.ra.kp0 hkp (fun b o h0 e (e2 : b = gz) => hxt.ga b o h0 e (by rw [e2])))
                  have hX_6 : Rd _ xa xn xc xl := hxt2
                  have hY_6 : Rd _ xb xm xd xk := (hxt.rb.kp0 hkp (fun b o h0 e (e2 : b = gz) => hxt.gb b o h0 e (by rw [e2])))
                  clear hxt2 hxt
                  have GA_6 := GA_5.kpl ltGA hkp (fun j (e : j = gz) => by omega)
                  have GB_6 := GB_5.kpl ltGB hkp (fun j (e : j = gz) => by omega)
                  have GC_6 := GC_5.kpl ltGC hkp (fun j (e : j = gz) => by omega)
                  have GD_6 := GD_5.kpl ltGD hkp (fun j (e : j = gz) => by omega)
                  have hbel_6 := hbel_5.kp hkp hbel_5.size (fun j hj (e : j = gz) => by omega)
                  have hsz_6 := hkp.size
                  clear z1 z2 z3 zf y1 y2 y3 hkp ck hbel_5 X_5 F_5 hX_5 hY_5 L_5 RL_5 GA_5 GB_5 GC_5 GD_5 Z_5 cX_5_0 cX_5_1 cX_5_2
                  generalize (((w5.setCell ⟨gz, i * 4 + 1, none⟩ (Value.bool s)).setCell ⟨gz, i * 4 + 2, none⟩ (Value.slice xa xn xc)).setCell ⟨gz, i * 4 + 3, none⟩ (Value.slice xb xm xd)) = wp at *
                  have RZ := Z_6.rdTs
                  rw [hzlh.out] at RZ
                  go_wp2_with fail
                  refine ((show Calls _ _ _ _ (RetQE _ qv 0) from HEv.out _ _ _ RZ)).mono ?_
                  rintro e w7 ⟨va, vn, vc, vb, vm, vd, rfl, hO, hO', hD, hB⟩
                  have hB_7 : Below wp.heap.size wp w7 := (bl.next hB)
                  have X_7 := X_6.next hB_7
                  have F_7 := F_6.next hB_7
                  have Z_7 := Z_6.below hB_7
                  have hX_7 := hX_6.below hB_7
                  have hY_7 := hY_6.below hB_7
                  have GA_7 := GA_6.below hB_7
                  have GB_7 := GB_6.below hB_7
                  have GC_7 := GC_6.below hB_7
                  have GD_7 := GD_6.below hB_7
                  have hbel_7 := hbel_6.next hB_7
                  have hsz_7 := hB_7.size
                  clear X_6 F_6 Z_6 hX_6 hY_6 GA_6 GB_6 GC_6 GD_6 hbel_6 hB_7
                  have Ov_7 := (show Own wp.heap.size _ _ _ _ (qnl qv 0) from hO)
                  have Pv_7 := (show Own wp.heap.size _ _ _ _ (qdl qv 0) from hO')
                  clear hO hO' hD RZ
                  try clear hB
                  go_upto_region 11 with fail
                  have hbx := blk_new w7 #[Value.bool (qsg qv 0), Value.slice va vn vc, Value.slice vb vm vd] 28
                  have hbB := (Below.refl w7.heap.size w7).alloc (Nat.le_refl _) (.cells #[Value.bool (qsg qv 0), Value.slice va vn vc, Value.slice vb vm vd] 28)
                  have hltV := hbx.lt
                  have hB_8 : Below w7.heap.size w7 (w7.alloc (.cells #[Value.bool (qsg qv 0), Value.slice va vn vc, Value.slice vb vm vd] 28)) := hbB
                  have X_8 := X_7.next hB_8
                  have F_8 := F_7.next hB_8
                  have Z_8 := Z_7.below hB_8
                  have hX_8 := hX_7.below hB_8
                  have hY_8 := hY_7.below hB_8
                  have GA_8 := GA_7.below hB_8
                  have GB_8 := GB_7.below hB_8
                  have GC_8 := GC_7.below hB_8
                  have GD_8 := GD_7.below hB_8
                  have Ov_8 := Ov_7.below hB_8
                  have Pv_8 := Pv_7.below hB_8
                  have hbel_8 := hbel_7.next hB_8
                  have hsz_8 := hB_8.size
                  clear X_7 F_7 Z_7 hX_7 hY_7 GA_7 GB_7 GC_7 GD_7 Ov_7 Pv_7 hbel_7 hB_8
                  have V_8 := hbx
                  clear hbx hbB
                  generalize (w7.alloc (.cells #[Value.bool (qsg qv 0), Value.slice va vn vc, Value.slice vb vm vd] 28)) = va8 at *
                  have hqxs := hid (show QS qx 3 from by rw [← hqxh.out]; exact QS.qv (by decide) (hX_8.lim.sz (by rw [hX_8.len]; omega)) (hY_8.lim.sz (by rw [hY_8.len]; omega)))
                  have HX_8 := (show RdQ 3 _ s xa xn xc xb xm xd qx from by rw [← hqxh.out]; exact ⟨_, _, hX_8.rdN (by omega), hY_8.rdN (by omega), rfl⟩)
                  clear hX_8
                  clear hY_8
                  clear Z_8
                  have sqv := hid (show QS qv 8000 from by
                    have hv := hval.out
                    rw [← hv]
                    exact ((((sfa.out.mul hqxs.out).add sfb.out).div ((sfc.out.mul hqxs.out).add sfd.out) (by omega)).mono (by omega)))
                  go_wp2_with fail
                  have s1t := hid (sfc.out.mul hqxs.out)
                  have sqt := hid ((s1t.out.add sfd.out).mono (show 1900 + 3 + 1900 + 1 ≤ 4000 by omega))
                  go_cut [14] (fun s14 wx => ∃ (g : Nat) (ta : Option Addr) (tn tc : Nat) (tb : Option Addr) (tm td : Nat), s14 = .pointer (some ⟨g, 0, none⟩) ∧ Blk wx g #[Value.bool (decide ((fc * qx + fd).num < 0)), Value.slice ta tn tc, Value.slice tb tm td] ∧ va8.heap.size ≤ g ∧ Own va8.heap.size wx ta tn tc (lm (fc * qx + fd).num.natAbs) ∧ Own va8.heap.size wx tb tm td (lm (fc * qx + fd).den) ∧ Below va8.heap.size va8 wx)
                  case first =>
                    have hbAcc_8 : Below va8.heap.size va8 va8 := Below.refl _ _
                    have hB : Below va8.heap.size va8 va8.drew := (Below.refl _ _).drew
                    have hB_9 : Below va8.heap.size va8 va8.drew := hB
                    have X_9 := X_8.next hB_9
                    have F_9 := F_8.next hB_9
                    have V_9 := V_8.next hB_9
                    have GA_9 := GA_8.below hB_9
                    have GB_9 := GB_8.below hB_9
                    have GC_9 := GC_8.below hB_9
                    have GD_9 := GD_8.below hB_9
                    have Ov_9 := Ov_8.below hB_9
                    have Pv_9 := Pv_8.below hB_9
                    have HX_9 := HX_8.below hB_9
                    have hbAcc_9 := hbAcc_8.next hB_9
                    have hbel_9 := hbel_8.next hB_9
                    have hsz_9 := hB_9.size
                    clear X_8 F_8 V_8 GA_8 GB_8 GC_8 GD_8 Ov_8 Pv_8 HX_8 hbAcc_8 hbel_8 hB_9
                    clear hB
                    refine wp_region_noPanic ?_
                    refine D_region (S := (fun w' => Blk w' (w3.heap.size) #[Value.bool f.A.s, Value.slice f.A.a f.A.n f.A.c, Value.slice f.A.b f.A.m f.A.d, Value.bool f.B.s, Value.slice f.B.a f.B.n f.B.c, Value.slice f.B.b f.B.m f.B.d, Value.bool f.C.s, Value.slice f.C.a f.C.n f.C.c, Value.slice f.C.b f.C.m f.C.d, Value.bool f.D.s, Value.slice f.D.a f.D.n f.D.c, Value.slice f.D.b f.D.m f.D.d] ∧ Blk w' (w.heap.size) #[Value.bool s, Value.slice xa xn xc, Value.slice xb xm xd])) (T := [8]) (by kernel_rfl) ⟨F_9, X_9⟩ (fun hHeld => ?_)
                    clear hHeld
                    generalize va8.drew = vd9 at *
                    refine D_pure (i := 0) (d := some 88) (v := (.pointer (some ⟨w3.heap.size, 6, none⟩))) rfl rfl (by kernel_rfl) (by kernel_rfl) (by kernel_rfl) (fun _ _ _ h => h) (by rfl) (fun _ => by go_simp) ?_
                    (try simp only [Act.put, List.setIfInBounds_toArray, List.set_cons_zero, List.set_cons_succ])
                    refine D_load (i := 1) (d := some 89) (v := (.agg #[Value.bool f.C.s, Value.slice f.C.a f.C.n f.C.c, Value.slice f.C.b f.C.m f.C.d])) [1, 2, 5] rfl rfl (by kernel_rfl) (by kernel_rfl) (by kernel_rfl) (by kernel_rfl) (by kernel_rfl) (by kernel_rfl) (fun _ _ _ h => h) (by rfl) (fun w hSw => by (obtain ⟨b0, b1⟩ := hSw); have l0 : _ = some (Value.bool f.C.s) := b0.cell (6); have l1 : _ = some (Value.slice f.C.a f.C.n f.C.c) := b0.cell (7); have l2 : _ = some (Value.slice f.C.b f.C.m f.C.d) := b0.cell (8); (clear b0 b1); go_simp) ⟨F_9, X_9⟩ ?_
                    (try simp only [Act.put, List.setIfInBounds_toArray, List.set_cons_zero, List.set_cons_succ])
                    refine D_load (i := 2) (d := some 90) (v := (.agg #[Value.bool s, Value.slice xa xn xc, Value.slice xb xm xd])) [1, 2, 5] rfl rfl (by kernel_rfl) (by kernel_rfl) (by kernel_rfl) (by kernel_rfl) (by kernel_rfl) (by kernel_rfl) (fun _ _ _ h => h) (by rfl) (fun w hSw => by (obtain ⟨b0, b1⟩ := hSw); have l0 : _ = some (Value.bool s) := b1.cell (0); have l1 : _ = some (Value.slice xa xn xc) := b1.cell (1); have l2 : _ = some (Value.slice xb xm xd) := b1.cell (2); (clear b0 b1); go_simp) ⟨F_9, X_9⟩ ?_
                    (try simp only [Act.put, List.setIfInBounds_toArray, List.set_cons_zero, List.set_cons_succ])
                    refine D_pure (i := 4) (d := some 92) (v := (.pointer (some ⟨w3.heap.size, 9, none⟩))) rfl rfl (by kernel_rfl) (by kernel_rfl) (by kernel_rfl) (fun _ _ _ h => h) (by rfl) (fun _ => by go_simp) ?_
                    (try simp only [Act.put, List.setIfInBounds_toArray, List.set_cons_zero, List.set_cons_succ])
                    refine D_load (i := 5) (d := some 93) (v := (.agg #[Value.bool f.D.s, Value.slice f.D.a f.D.n f.D.c, Value.slice f.D.b f.D.m f.D.d])) [1, 2, 5] rfl rfl (by kernel_rfl) (by kernel_rfl) (by kernel_rfl) (by kernel_rfl) (by kernel_rfl) (by kernel_rfl) (fun _ _ _ h => h) (by rfl) (fun w hSw => by (obtain ⟨b0, b1⟩ := hSw); have l0 : _ = some (Value.bool f.D.s) := b0.cell (9); have l1 : _ = some (Value.slice f.D.a f.D.n f.D.c) := b0.cell (10); have l2 : _ = some (Value.slice f.D.b f.D.m f.D.d) := b0.cell (11); (clear b0 b1); go_simp) ⟨F_9, X_9⟩ ?_
                    (try simp only [Act.put, List.setIfInBounds_toArray, List.set_cons_zero, List.set_cons_succ])
                    refine D_two (i := 3) (j := 7) (by kernel_rfl) rfl rfl (fun Kq hKq => ?_) (fun Kq hKq => ?_)
                    · go_simp
                      refine (qmul (GC_9.rdQ sfc.out) (by omega) HX_9 (by omega)).mono ?_
                      rintro e w10 ⟨na, nn, nc, nb, nm, nd, rfl, hO, hO', hD, hB⟩
                      have hB_10 : Below vd9.heap.size vd9 w10 := (bl.next hB)
                      have X_10 := X_9.next hB_10
                      have F_10 := F_9.next hB_10
                      have V_10 := V_9.next hB_10
                      have GA_10 := GA_9.below hB_10
                      have GB_10 := GB_9.below hB_10
                      have GC_10 := GC_9.below hB_10
                      have GD_10 := GD_9.below hB_10
                      have Ov_10 := Ov_9.below hB_10
                      have Pv_10 := Pv_9.below hB_10
                      have HX_10 := HX_9.below hB_10
                      have hbAcc_10 := hbAcc_9.next hB_10
                      have hbel_10 := hbel_9.next hB_10
                      have hsz_10 := hB_10.size
                      clear X_9 F_9 V_9 GA_9 GB_9 GC_9 GD_9 Ov_9 Pv_9 HX_9 hbAcc_9 hbel_9 hB_10
                      have On_10 := (show Own vd9.heap.size _ _ _ _ _ from hO)
                      have ltOn := (show Own vd9.heap.size _ _ _ _ _ from hO).ltB
                      have Pn_10 := (show Own vd9.heap.size _ _ _ _ _ from hO')
                      have ltPn := (show Own vd9.heap.size _ _ _ _ _ from hO').ltB
                      clear hO hO' hD
                      try clear hB
                      (try go_wp2_with fail)
                      refine hKq.out _ _ ⟨F_10, X_10⟩ (fun hHeld => ?_)
                      clear hHeld hKq Kq
                      (try simp only [Act.put, List.setIfInBounds_toArray, List.set_cons_zero, List.set_cons_succ])
                      refine D_two (i := 6) (j := 7) (by kernel_rfl) rfl rfl (fun Kq hKq => ?_) (fun Kq hKq => ?_)
                      · go_simp
                        refine (qadd (On_10.rdQ Pn_10 s1t.out) (by omega) (GD_10.rdQ sfd.out) (by omega)).mono ?_
                        rintro e w11 ⟨ta, tn, tc, tb, tm, td, rfl, hO, hO', hD, hB⟩
                        have hB_11 : Below w10.heap.size w10 w11 := (bl.next hB)
                        have X_11 := X_10.next hB_11
                        have F_11 := F_10.next hB_11
                        have V_11 := V_10.next hB_11
                        have GA_11 := GA_10.below hB_11
                        have GB_11 := GB_10.below hB_11
                        have GC_11 := GC_10.below hB_11
                        have GD_11 := GD_10.below hB_11
                        have Ov_11 := Ov_10.below hB_11
                        have Pv_11 := Pv_10.below hB_11
                        have HX_11 := HX_10.below hB_11
                        have hbAcc_11 := hbAcc_10.next hB_11
                        have On_11 := On_10.below hB_11
                        have Pn_11 := Pn_10.below hB_11
                        have hbel_11 := hbel_10.next hB_11
                        have hsz_11 := hB_11.size
                        clear X_10 F_10 V_10 GA_10 GB_10 GC_10 GD_10 Ov_10 Pv_10 HX_10 hbAcc_10 On_10 Pn_10 hbel_10 hB_11
                        have Ot_11 := (show Own w10.heap.size _ _ _ _ _ from hO)
                        have ltOt := (show Own w10.heap.size _ _ _ _ _ from hO).ltB
                        have Pt_11 := (show Own w10.heap.size _ _ _ _ _ from hO')
                        have ltPt := (show Own w10.heap.size _ _ _ _ _ from hO').ltB
                        clear hO hO' hD
                        try clear hB
                        (try go_wp2_with fail)
                        refine hKq.out _ _ ⟨F_11, X_11⟩ (fun hHeld => ?_)
                        clear hHeld hKq Kq
                        (try simp only [Act.put, List.setIfInBounds_toArray, List.set_cons_zero, List.set_cons_succ])
                        refine D_one (i := 7) (by kernel_rfl) rfl (fun Kq hKq => ?_)
                        go_simp
                        have hbx := blk_new w11 #[Value.bool false, Value.slice none 0 0, Value.slice none 0 0] 28
                        have hbB := (Below.refl w11.heap.size w11).alloc (Nat.le_refl _) (.cells #[Value.bool false, Value.slice none 0 0, Value.slice none 0 0] 28)
                        have hltOV := hbx.lt
                        have hB_12 : Below w11.heap.size w11 (w11.alloc (.cells #[Value.bool false, Value.slice none 0 0, Value.slice none 0 0] 28)) := hbB
                        have X_12 := X_11.next hB_12
                        have F_12 := F_11.next hB_12
                        have V_12 := V_11.next hB_12
                        have GA_12 := GA_11.below hB_12
                        have GB_12 := GB_11.below hB_12
                        have GC_12 := GC_11.below hB_12
                        have GD_12 := GD_11.below hB_12
                        have Ov_12 := Ov_11.below hB_12
                        have Pv_12 := Pv_11.below hB_12
                        have HX_12 := HX_11.below hB_12
                        have hbAcc_12 := hbAcc_11.next hB_12
                        have On_12 := On_11.below hB_12
                        have Pn_12 := Pn_11.below hB_12
                        have Ot_12 := Ot_11.below hB_12
                        have Pt_12 := Pt_11.below hB_12
                        have hbel_12 := hbel_11.next hB_12
                        have hsz_12 := hB_12.size
                        clear X_11 F_11 V_11 GA_11 GB_11 GC_11 GD_11 Ov_11 Pv_11 HX_11 hbAcc_11 On_11 Pn_11 Ot_11 Pt_11 hbel_11 hB_12
                        have OV_12 := hbx
                        clear hbx hbB
                        generalize (w11.alloc (.cells #[Value.bool false, Value.slice none 0 0, Value.slice none 0 0] 28)) = va12 at *
                        refine hKq.out _ _ ⟨F_12, X_12⟩ (fun hHeld => ?_)
                        clear hHeld hKq Kq
                        (try simp only [Act.put, List.setIfInBounds_toArray, List.set_cons_zero, List.set_cons_succ])
                        have cOV_12_0 : _ = some (Value.bool false) := OV_12.cell 0
                        have fOV_12_0 := OV_12.free 0
                        have cOV_12_1 : _ = some (Value.slice none 0 0) := OV_12.cell 1
                        have fOV_12_1 := OV_12.free 1
                        have cOV_12_2 : _ = some (Value.slice none 0 0) := OV_12.cell 2
                        have fOV_12_2 := OV_12.free 2
                        refine D_late (i := 8) (by kernel_rfl) rfl (by kernel_rfl) (fun Kq hKq => ?_)
                        go_simp
                        refine hKq.out _ _ ?_
                        clear hKq Kq
                        (try simp only [Act.put, List.setIfInBounds_toArray, List.set_cons_zero, List.set_cons_succ])
                        refine D_done (by kernel_rfl) ?_ _
                        refine NoPanic.normal ?_
                        go_wp2_with fail
                        go_meet
                        exact ⟨_, _, _, _, _, _, _, rfl, (show Blk _ _ #[_, _, _] from ((OV_12.setCell (i := 0) (v := _) (by simp)).setCell (i := 1) (v := _) (by simp)).setCell (i := 2) (v := _) (by simp)), by omega, ((Ot_12.kp (kp_set3 _ _ _ _ _) (fun g' e (e2 : g' = _) => by first | (have := (Ot_12.lt' g' e).1; omega) | (have := ltOt g' e; omega))).mono (by omega)), ((Pt_12.kp (kp_set3 _ _ _ _ _) (fun g' e (e2 : g' = _) => by first | (have := (Pt_12.lt' g' e).1; omega) | (have := ltPt g' e; omega))).mono (by omega)), Below.set3 hbAcc_12 (by omega) _ _ _⟩
                      · go_simp
                        have hbx := blk_new w10 #[Value.bool false, Value.slice none 0 0, Value.slice none 0 0] 28
                        have hbB := (Below.refl w10.heap.size w10).alloc (Nat.le_refl _) (.cells #[Value.bool false, Value.slice none 0 0, Value.slice none 0 0] 28)
                        have hltOV := hbx.lt
                        have hB_11 : Below w10.heap.size w10 (w10.alloc (.cells #[Value.bool false, Value.slice none 0 0, Value.slice none 0 0] 28)) := hbB
                        have X_11 := X_10.next hB_11
                        have F_11 := F_10.next hB_11
                        have V_11 := V_10.next hB_11
                        have GA_11 := GA_10.below hB_11
                        have GB_11 := GB_10.below hB_11
                        have GC_11 := GC_10.below hB_11
                        have GD_11 := GD_10.below hB_11
                        have Ov_11 := Ov_10.below hB_11
                        have Pv_11 := Pv_10.below hB_11
                        have HX_11 := HX_10.below hB_11
                        have hbAcc_11 := hbAcc_10.next hB_11
                        have On_11 := On_10.below hB_11
                        have Pn_11 := Pn_10.below hB_11
                        have hbel_11 := hbel_10.next hB_11
                        have hsz_11 := hB_11.size
                        clear X_10 F_10 V_10 GA_10 GB_10 GC_10 GD_10 Ov_10 Pv_10 HX_10 hbAcc_10 On_10 Pn_10 hbel_10 hB_11
                        have OV_11 := hbx
                        clear hbx hbB
                        generalize (w10.alloc (.cells #[Value.bool false, Value.slice none 0 0, Value.slice none 0 0] 28)) = va11 at *
                        refine hKq.out _ _ ⟨F_11, X_11⟩ (fun hHeld => ?_)
                        clear hHeld hKq Kq
                        (try simp only [Act.put, List.setIfInBounds_toArray, List.set_cons_zero, List.set_cons_succ])
                        refine D_one (i := 6) (by kernel_rfl) rfl (fun Kq hKq => ?_)
                        go_simp
                        refine (qadd (On_11.rdQ Pn_11 s1t.out) (by omega) (GD_11.rdQ sfd.out) (by omega)).mono ?_
                        rintro e w12 ⟨ta, tn, tc, tb, tm, td, rfl, hO, hO', hD, hB⟩
                        have hB_12 : Below va11.heap.size va11 w12 := (bl.next hB)
                        have X_12 := X_11.next hB_12
                        have F_12 := F_11.next hB_12
                        have V_12 := V_11.next hB_12
                        have OV_12 := OV_11.next hB_12
                        have GA_12 := GA_11.below hB_12
                        have GB_12 := GB_11.below hB_12
                        have GC_12 := GC_11.below hB_12
                        have GD_12 := GD_11.below hB_12
                        have Ov_12 := Ov_11.below hB_12
                        have Pv_12 := Pv_11.below hB_12
                        have HX_12 := HX_11.below hB_12
                        have hbAcc_12 := hbAcc_11.next hB_12
                        have On_12 := On_11.below hB_12
                        have Pn_12 := Pn_11.below hB_12
                        have hbel_12 := hbel_11.next hB_12
                        have hsz_12 := hB_12.size
                        clear X_11 F_11 V_11 OV_11 GA_11 GB_11 GC_11 GD_11 Ov_11 Pv_11 HX_11 hbAcc_11 On_11 Pn_11 hbel_11 hB_12
                        have Ot_12 := (show Own va11.heap.size _ _ _ _ _ from hO)
                        have ltOt := (show Own va11.heap.size _ _ _ _ _ from hO).ltB
                        have Pt_12 := (show Own va11.heap.size _ _ _ _ _ from hO')
                        have ltPt := (show Own va11.heap.size _ _ _ _ _ from hO').ltB
                        clear hO hO' hD
                        try clear hB
                        (try go_wp2_with fail)
                        refine hKq.out _ _ ⟨F_12, X_12⟩ (fun hHeld => ?_)
                        clear hHeld hKq Kq
                        (try simp only [Act.put, List.setIfInBounds_toArray, List.set_cons_zero, List.set_cons_succ])
                        have cOV_12_0 : _ = some (Value.bool false) := OV_12.cell 0
                        have fOV_12_0 := OV_12.free 0
                        have cOV_12_1 : _ = some (Value.slice none 0 0) := OV_12.cell 1
                        have fOV_12_1 := OV_12.free 1
                        have cOV_12_2 : _ = some (Value.slice none 0 0) := OV_12.cell 2
                        have fOV_12_2 := OV_12.free 2
                        refine D_late (i := 8) (by kernel_rfl) rfl (by kernel_rfl) (fun Kq hKq => ?_)
                        go_simp
                        refine hKq.out _ _ ?_
                        clear hKq Kq
                        (try simp only [Act.put, List.setIfInBounds_toArray, List.set_cons_zero, List.set_cons_succ])
                        refine D_done (by kernel_rfl) ?_ _
                        refine NoPanic.normal ?_
                        go_wp2_with fail
                        go_meet
                        exact ⟨_, _, _, _, _, _, _, rfl, (show Blk _ _ #[_, _, _] from ((OV_12.setCell (i := 0) (v := _) (by simp)).setCell (i := 1) (v := _) (by simp)).setCell (i := 2) (v := _) (by simp)), by omega, ((Ot_12.kp (kp_set3 _ _ _ _ _) (fun g' e (e2 : g' = _) => by first | (have := (Ot_12.lt' g' e).1; omega) | (have := ltOt g' e; omega))).mono (by omega)), ((Pt_12.kp (kp_set3 _ _ _ _ _) (fun g' e (e2 : g' = _) => by first | (have := (Pt_12.lt' g' e).1; omega) | (have := ltPt g' e; omega))).mono (by omega)), Below.set3 hbAcc_12 (by omega) _ _ _⟩
                    · go_simp
                      have hbx := blk_new vd9 #[Value.bool false, Value.slice none 0 0, Value.slice none 0 0] 28
                      have hbB := (Below.refl vd9.heap.size vd9).alloc (Nat.le_refl _) (.cells #[Value.bool false, Value.slice none 0 0, Value.slice none 0 0] 28)
                      have hltOV := hbx.lt
                      have hB_10 : Below vd9.heap.size vd9 (vd9.alloc (.cells #[Value.bool false, Value.slice none 0 0, Value.slice none 0 0] 28)) := hbB
                      have X_10 := X_9.next hB_10
                      have F_10 := F_9.next hB_10
                      have V_10 := V_9.next hB_10
                      have GA_10 := GA_9.below hB_10
                      have GB_10 := GB_9.below hB_10
                      have GC_10 := GC_9.below hB_10
                      have GD_10 := GD_9.below hB_10
                      have Ov_10 := Ov_9.below hB_10
                      have Pv_10 := Pv_9.below hB_10
                      have HX_10 := HX_9.below hB_10
                      have hbAcc_10 := hbAcc_9.next hB_10
                      have hbel_10 := hbel_9.next hB_10
                      have hsz_10 := hB_10.size
                      clear X_9 F_9 V_9 GA_9 GB_9 GC_9 GD_9 Ov_9 Pv_9 HX_9 hbAcc_9 hbel_9 hB_10
                      have OV_10 := hbx
                      clear hbx hbB
                      generalize (vd9.alloc (.cells #[Value.bool false, Value.slice none 0 0, Value.slice none 0 0] 28)) = va10 at *
                      refine hKq.out _ _ ⟨F_10, X_10⟩ (fun hHeld => ?_)
                      clear hHeld hKq Kq
                      (try simp only [Act.put, List.setIfInBounds_toArray, List.set_cons_zero, List.set_cons_succ])
                      refine D_one (i := 3) (by kernel_rfl) rfl (fun Kq hKq => ?_)
                      go_simp
                      refine (qmul (GC_10.rdQ sfc.out) (by omega) HX_10 (by omega)).mono ?_
                      rintro e w11 ⟨na, nn, nc, nb, nm, nd, rfl, hO, hO', hD, hB⟩
                      have hB_11 : Below va10.heap.size va10 w11 := (bl.next hB)
                      have X_11 := X_10.next hB_11
                      have F_11 := F_10.next hB_11
                      have V_11 := V_10.next hB_11
                      have OV_11 := OV_10.next hB_11
                      have GA_11 := GA_10.below hB_11
                      have GB_11 := GB_10.below hB_11
                      have GC_11 := GC_10.below hB_11
                      have GD_11 := GD_10.below hB_11
                      have Ov_11 := Ov_10.below hB_11
                      have Pv_11 := Pv_10.below hB_11
                      have HX_11 := HX_10.below hB_11
                      have hbAcc_11 := hbAcc_10.next hB_11
                      have hbel_11 := hbel_10.next hB_11
                      have hsz_11 := hB_11.size
                      clear X_10 F_10 V_10 OV_10 GA_10 GB_10 GC_10 GD_10 Ov_10 Pv_10 HX_10 hbAcc_10 hbel_10 hB_11
                      have On_11 := (show Own va10.heap.size _ _ _ _ _ from hO)
                      have ltOn := (show Own va10.heap.size _ _ _ _ _ from hO).ltB
                      have Pn_11 := (show Own va10.heap.size _ _ _ _ _ from hO')
                      have ltPn := (show Own va10.heap.size _ _ _ _ _ from hO').ltB
                      clear hO hO' hD
                      try clear hB
                      (try go_wp2_with fail)
                      refine hKq.out _ _ ⟨F_11, X_11⟩ (fun hHeld => ?_)
                      clear hHeld hKq Kq
                      (try simp only [Act.put, List.setIfInBounds_toArray, List.set_cons_zero, List.set_cons_succ])
                      refine D_one (i := 6) (by kernel_rfl) rfl (fun Kq hKq => ?_)
                      go_simp
                      refine (qadd (On_11.rdQ Pn_11 s1t.out) (by omega) (GD_11.rdQ sfd.out) (by omega)).mono ?_
                      rintro e w12 ⟨ta, tn, tc, tb, tm, td, rfl, hO, hO', hD, hB⟩
                      have hB_12 : Below w11.heap.size w11 w12 := (bl.next hB)
                      have X_12 := X_11.next hB_12
                      have F_12 := F_11.next hB_12
                      have V_12 := V_11.next hB_12
                      have OV_12 := OV_11.next hB_12
                      have GA_12 := GA_11.below hB_12
                      have GB_12 := GB_11.below hB_12
                      have GC_12 := GC_11.below hB_12
                      have GD_12 := GD_11.below hB_12
                      have Ov_12 := Ov_11.below hB_12
                      have Pv_12 := Pv_11.below hB_12
                      have HX_12 := HX_11.below hB_12
                      have hbAcc_12 := hbAcc_11.next hB_12
                      have On_12 := On_11.below hB_12
                      have Pn_12 := Pn_11.below hB_12
                      have hbel_12 := hbel_11.next hB_12
                      have hsz_12 := hB_12.size
                      clear X_11 F_11 V_11 OV_11 GA_11 GB_11 GC_11 GD_11 Ov_11 Pv_11 HX_11 hbAcc_11 On_11 Pn_11 hbel_11 hB_12
                      have Ot_12 := (show Own w11.heap.size _ _ _ _ _ from hO)
                      have ltOt := (show Own w11.heap.size _ _ _ _ _ from hO).ltB
                      have Pt_12 := (show Own w11.heap.size _ _ _ _ _ from hO')
                      have ltPt := (show Own w11.heap.size _ _ _ _ _ from hO').ltB
                      clear hO hO' hD
                      try clear hB
                      (try go_wp2_with fail)
                      refine hKq.out _ _ ⟨F_12, X_12⟩ (fun hHeld => ?_)
                      clear hHeld hKq Kq
                      (try simp only [Act.put, List.setIfInBounds_toArray, List.set_cons_zero, List.set_cons_succ])
                      have cOV_12_0 : _ = some (Value.bool false) := OV_12.cell 0
                      have fOV_12_0 := OV_12.free 0
                      have cOV_12_1 : _ = some (Value.slice none 0 0) := OV_12.cell 1
                      have fOV_12_1 := OV_12.free 1
                      have cOV_12_2 : _ = some (Value.slice none 0 0) := OV_12.cell 2
                      have fOV_12_2 := OV_12.free 2
                      refine D_late (i := 8) (by kernel_rfl) rfl (by kernel_rfl) (fun Kq hKq => ?_)
                      go_simp
                      refine hKq.out _ _ ?_
                      clear hKq Kq
                      (try simp only [Act.put, List.setIfInBounds_toArray, List.set_cons_zero, List.set_cons_succ])
                      refine D_done (by kernel_rfl) ?_ _
                      refine NoPanic.normal ?_
                      go_wp2_with fail
                      go_meet
                      exact ⟨_, _, _, _, _, _, _, rfl, (show Blk _ _ #[_, _, _] from ((OV_12.setCell (i := 0) (v := _) (by simp)).setCell (i := 1) (v := _) (by simp)).setCell (i := 2) (v := _) (by simp)), by omega, ((Ot_12.kp (kp_set3 _ _ _ _ _) (fun g' e (e2 : g' = _) => by first | (have := (Ot_12.lt' g' e).1; omega) | (have := ltOt g' e; omega))).mono (by omega)), ((Pt_12.kp (kp_set3 _ _ _ _ _) (fun g' e (e2 : g' = _) => by first | (have := (Pt_12.lt' g' e).1; omega) | (have := ltPt g' e; omega))).mono (by omega)), Below.set3 hbAcc_12 (by omega) _ _ _⟩
                  case rest =>
                    obtain ⟨gBL, ta, tn, tc, tb, tm, td, rfl, hbk, hgeBL, hO, hO', hBc⟩ := hcut
                    have hB_9 : Below va8.heap.size va8 wc := hBc
                    have X_9 := X_8.next hB_9
                    have F_9 := F_8.next hB_9
                    have V_9 := V_8.next hB_9
                    have GA_9 := GA_8.below hB_9
                    have GB_9 := GB_8.below hB_9
                    have GC_9 := GC_8.below hB_9
                    have GD_9 := GD_8.below hB_9
                    have Ov_9 := Ov_8.below hB_9
                    have Pv_9 := Pv_8.below hB_9
                    have HX_9 := HX_8.below hB_9
                    have hbel_9 := hbel_8.next hB_9
                    have hsz_9 := hB_9.size
                    clear X_8 F_8 V_8 GA_8 GB_8 GC_8 GD_8 Ov_8 Pv_8 HX_8 hbel_8 hB_9
                    clear hBc
                    obtain ⟨wc9, hwc⟩ : ∃ y : World, y = wc := ⟨_, rfl⟩
                    subst hwc
                    have BL_9 := hbk
                    have hltBL := hbk.lt
                    clear hbk
                    have Ot_9 := hO
                    have Pt_9 := hO'
                    clear hO hO'
                    go_wp2_with fail
                    have s1u := hid (sfa.out.mul hqxs.out)
                    have squ := hid ((s1u.out.add sfb.out).mono (show 1900 + 3 + 1900 + 1 ≤ 4000 by omega))
                    go_cut [15] (fun s15 wx => ∃ (g : Nat) (ua : Option Addr) (un uc : Nat) (ub : Option Addr) (um ud : Nat), s15 = .pointer (some ⟨g, 0, none⟩) ∧ Blk wx g #[Value.bool (decide ((fa * qx + fb).num < 0)), Value.slice ua un uc, Value.slice ub um ud] ∧ wc9.heap.size ≤ g ∧ Own wc9.heap.size wx ua un uc (lm (fa * qx + fb).num.natAbs) ∧ Own wc9.heap.size wx ub um ud (lm (fa * qx + fb).den) ∧ Below wc9.heap.size wc9 wx)
                    case first =>
                      have hbAcc_9 : Below wc9.heap.size wc9 wc9 := Below.refl _ _
                      have hB : Below wc9.heap.size wc9 wc9.drew := (Below.refl _ _).drew
                      have hB_10 : Below wc9.heap.size wc9 wc9.drew := hB
                      have X_10 := X_9.next hB_10
                      have F_10 := F_9.next hB_10
                      have V_10 := V_9.next hB_10
                      have BL_10 := BL_9.next hB_10
                      have GA_10 := GA_9.below hB_10
                      have GB_10 := GB_9.below hB_10
                      have GC_10 := GC_9.below hB_10
                      have GD_10 := GD_9.below hB_10
                      have Ov_10 := Ov_9.below hB_10
                      have Pv_10 := Pv_9.below hB_10
                      have HX_10 := HX_9.below hB_10
                      have Ot_10 := Ot_9.below hB_10
                      have Pt_10 := Pt_9.below hB_10
                      have hbAcc_10 := hbAcc_9.next hB_10
                      have hbel_10 := hbel_9.next hB_10
                      have hsz_10 := hB_10.size
                      clear X_9 F_9 V_9 BL_9 GA_9 GB_9 GC_9 GD_9 Ov_9 Pv_9 HX_9 Ot_9 Pt_9 hbAcc_9 hbel_9 hB_10
                      clear hB
                      refine wp_region_noPanic ?_
                      refine D_region (S := (fun w' => Blk w' (w3.heap.size) #[Value.bool f.A.s, Value.slice f.A.a f.A.n f.A.c, Value.slice f.A.b f.A.m f.A.d, Value.bool f.B.s, Value.slice f.B.a f.B.n f.B.c, Value.slice f.B.b f.B.m f.B.d, Value.bool f.C.s, Value.slice f.C.a f.C.n f.C.c, Value.slice f.C.b f.C.m f.C.d, Value.bool f.D.s, Value.slice f.D.a f.D.n f.D.c, Value.slice f.D.b f.D.m f.D.d] ∧ Blk w' (w.heap.size) #[Value.bool s, Value.slice xa xn xc, Value.slice xb xm xd])) (T := [8]) (by kernel_rfl) ⟨F_10, X_10⟩ (fun hHeld => ?_)
                      clear hHeld
                      generalize wc9.drew = vd10 at *
                      refine D_pure (i := 0) (d := some 95) (v := (.pointer (some ⟨w3.heap.size, 0, none⟩))) rfl rfl (by kernel_rfl) (by kernel_rfl) (by kernel_rfl) (fun _ _ _ h => h) (by rfl) (fun _ => by go_simp) ?_
                      (try simp only [Act.put, List.setIfInBounds_toArray, List.set_cons_zero, List.set_cons_succ])
                      refine D_load (i := 1) (d := some 96) (v := (.agg #[Value.bool f.A.s, Value.slice f.A.a f.A.n f.A.c, Value.slice f.A.b f.A.m f.A.d])) [1, 2, 5] rfl rfl (by kernel_rfl) (by kernel_rfl) (by kernel_rfl) (by kernel_rfl) (by kernel_rfl) (by kernel_rfl) (fun _ _ _ h => h) (by rfl) (fun w hSw => by (obtain ⟨b0, b1⟩ := hSw); have l0 : _ = some (Value.bool f.A.s) := b0.cell (0); have l1 : _ = some (Value.slice f.A.a f.A.n f.A.c) := b0.cell (1); have l2 : _ = some (Value.slice f.A.b f.A.m f.A.d) := b0.cell (2); (clear b0 b1); go_simp) ⟨F_10, X_10⟩ ?_
                      (try simp only [Act.put, List.setIfInBounds_toArray, List.set_cons_zero, List.set_cons_succ])
                      refine D_load (i := 2) (d := some 97) (v := (.agg #[Value.bool s, Value.slice xa xn xc, Value.slice xb xm xd])) [1, 2, 5] rfl rfl (by kernel_rfl) (by kernel_rfl) (by kernel_rfl) (by kernel_rfl) (by kernel_rfl) (by kernel_rfl) (fun _ _ _ h => h) (by rfl) (fun w hSw => by (obtain ⟨b0, b1⟩ := hSw); have l0 : _ = some (Value.bool s) := b1.cell (0); have l1 : _ = some (Value.slice xa xn xc) := b1.cell (1); have l2 : _ = some (Value.slice xb xm xd) := b1.cell (2); (clear b0 b1); go_simp) ⟨F_10, X_10⟩ ?_
                      (try simp only [Act.put, List.setIfInBounds_toArray, List.set_cons_zero, List.set_cons_succ])
                      refine D_pure (i := 4) (d := some 99) (v := (.pointer (some ⟨w3.heap.size, 3, none⟩))) rfl rfl (by kernel_rfl) (by kernel_rfl) (by kernel_rfl) (fun _ _ _ h => h) (by rfl) (fun _ => by go_simp) ?_
                      (try simp only [Act.put, List.setIfInBounds_toArray, List.set_cons_zero, List.set_cons_succ])
                      refine D_load (i := 5) (d := some 100) (v := (.agg #[Value.bool f.B.s, Value.slice f.B.a f.B.n f.B.c, Value.slice f.B.b f.B.m f.B.d])) [1, 2, 5] rfl rfl (by kernel_rfl) (by kernel_rfl) (by kernel_rfl) (by kernel_rfl) (by kernel_rfl) (by kernel_rfl) (fun _ _ _ h => h) (by rfl) (fun w hSw => by (obtain ⟨b0, b1⟩ := hSw); have l0 : _ = some (Value.bool f.B.s) := b0.cell (3); have l1 : _ = some (Value.slice f.B.a f.B.n f.B.c) := b0.cell (4); have l2 : _ = some (Value.slice f.B.b f.B.m f.B.d) := b0.cell (5); (clear b0 b1); go_simp) ⟨F_10, X_10⟩ ?_
                      (try simp only [Act.put, List.setIfInBounds_toArray, List.set_cons_zero, List.set_cons_succ])
                      refine D_two (i := 3) (j := 7) (by kernel_rfl) rfl rfl (fun Kq hKq => ?_) (fun Kq hKq => ?_)
                      · go_simp
                        refine (qmul (GA_10.rdQ sfa.out) (by omega) HX_10 (by omega)).mono ?_
                        rintro e w11 ⟨na, nn, nc, nb, nm, nd, rfl, hO, hO', hD, hB⟩
                        have hB_11 : Below vd10.heap.size vd10 w11 := (bl.next hB)
                        have X_11 := X_10.next hB_11
                        have F_11 := F_10.next hB_11
                        have V_11 := V_10.next hB_11
                        have BL_11 := BL_10.next hB_11
                        have GA_11 := GA_10.below hB_11
                        have GB_11 := GB_10.below hB_11
                        have GC_11 := GC_10.below hB_11
                        have GD_11 := GD_10.below hB_11
                        have Ov_11 := Ov_10.below hB_11
                        have Pv_11 := Pv_10.below hB_11
                        have HX_11 := HX_10.below hB_11
                        have Ot_11 := Ot_10.below hB_11
                        have Pt_11 := Pt_10.below hB_11
                        have hbAcc_11 := hbAcc_10.next hB_11
                        have hbel_11 := hbel_10.next hB_11
                        have hsz_11 := hB_11.size
                        clear X_10 F_10 V_10 BL_10 GA_10 GB_10 GC_10 GD_10 Ov_10 Pv_10 HX_10 Ot_10 Pt_10 hbAcc_10 hbel_10 hB_11
                        have On_11 := (show Own vd10.heap.size _ _ _ _ _ from hO)
                        have ltOn := (show Own vd10.heap.size _ _ _ _ _ from hO).ltB
                        have Pn_11 := (show Own vd10.heap.size _ _ _ _ _ from hO')
                        have ltPn := (show Own vd10.heap.size _ _ _ _ _ from hO').ltB
                        clear hO hO' hD
                        try clear hB
                        (try go_wp2_with fail)
                        refine hKq.out _ _ ⟨F_11, X_11⟩ (fun hHeld => ?_)
                        clear hHeld hKq Kq
                        (try simp only [Act.put, List.setIfInBounds_toArray, List.set_cons_zero, List.set_cons_succ])
                        refine D_two (i := 6) (j := 7) (by kernel_rfl) rfl rfl (fun Kq hKq => ?_) (fun Kq hKq => ?_)
                        · go_simp
                          refine (qadd (On_11.rdQ Pn_11 s1u.out) (by omega) (GB_11.rdQ sfb.out) (by omega)).mono ?_
                          rintro e w12 ⟨ua, un, uc, ub, um, ud, rfl, hO, hO', hD, hB⟩
                          have hB_12 : Below w11.heap.size w11 w12 := (bl.next hB)
                          have X_12 := X_11.next hB_12
                          have F_12 := F_11.next hB_12
                          have V_12 := V_11.next hB_12
                          have BL_12 := BL_11.next hB_12
                          have GA_12 := GA_11.below hB_12
                          have GB_12 := GB_11.below hB_12
                          have GC_12 := GC_11.below hB_12
                          have GD_12 := GD_11.below hB_12
                          have Ov_12 := Ov_11.below hB_12
                          have Pv_12 := Pv_11.below hB_12
                          have HX_12 := HX_11.below hB_12
                          have Ot_12 := Ot_11.below hB_12
                          have Pt_12 := Pt_11.below hB_12
                          have hbAcc_12 := hbAcc_11.next hB_12
                          have On_12 := On_11.below hB_12
                          have Pn_12 := Pn_11.below hB_12
                          have hbel_12 := hbel_11.next hB_12
                          have hsz_12 := hB_12.size
                          clear X_11 F_11 V_11 BL_11 GA_11 GB_11 GC_11 GD_11 Ov_11 Pv_11 HX_11 Ot_11 Pt_11 hbAcc_11 On_11 Pn_11 hbel_11 hB_12
                          have Ou_12 := (show Own w11.heap.size _ _ _ _ _ from hO)
                          have ltOu := (show Own w11.heap.size _ _ _ _ _ from hO).ltB
                          have Pu_12 := (show Own w11.heap.size _ _ _ _ _ from hO')
                          have ltPu := (show Own w11.heap.size _ _ _ _ _ from hO').ltB
                          clear hO hO' hD
                          try clear hB
                          (try go_wp2_with fail)
                          refine hKq.out _ _ ⟨F_12, X_12⟩ (fun hHeld => ?_)
                          clear hHeld hKq Kq
                          (try simp only [Act.put, List.setIfInBounds_toArray, List.set_cons_zero, List.set_cons_succ])
                          refine D_one (i := 7) (by kernel_rfl) rfl (fun Kq hKq => ?_)
                          go_simp
                          have hbx := blk_new w12 #[Value.bool false, Value.slice none 0 0, Value.slice none 0 0] 28
                          have hbB := (Below.refl w12.heap.size w12).alloc (Nat.le_refl _) (.cells #[Value.bool false, Value.slice none 0 0, Value.slice none 0 0] 28)
                          have hltOV := hbx.lt
                          have hB_13 : Below w12.heap.size w12 (w12.alloc (.cells #[Value.bool false, Value.slice none 0 0, Value.slice none 0 0] 28)) := hbB
                          have X_13 := X_12.next hB_13
                          have F_13 := F_12.next hB_13
                          have V_13 := V_12.next hB_13
                          have BL_13 := BL_12.next hB_13
                          have GA_13 := GA_12.below hB_13
                          have GB_13 := GB_12.below hB_13
                          have GC_13 := GC_12.below hB_13
                          have GD_13 := GD_12.below hB_13
                          have Ov_13 := Ov_12.below hB_13
                          have Pv_13 := Pv_12.below hB_13
                          have HX_13 := HX_12.below hB_13
                          have Ot_13 := Ot_12.below hB_13
                          have Pt_13 := Pt_12.below hB_13
                          have hbAcc_13 := hbAcc_12.next hB_13
                          have On_13 := On_12.below hB_13
                          have Pn_13 := Pn_12.below hB_13
                          have Ou_13 := Ou_12.below hB_13
                          have Pu_13 := Pu_12.below hB_13
                          have hbel_13 := hbel_12.next hB_13
                          have hsz_13 := hB_13.size
                          clear X_12 F_12 V_12 BL_12 GA_12 GB_12 GC_12 GD_12 Ov_12 Pv_12 HX_12 Ot_12 Pt_12 hbAcc_12 On_12 Pn_12 Ou_12 Pu_12 hbel_12 hB_13
                          have OV_13 := hbx
                          clear hbx hbB
                          generalize (w12.alloc (.cells #[Value.bool false, Value.slice none 0 0, Value.slice none 0 0] 28)) = va13 at *
                          refine hKq.out _ _ ⟨F_13, X_13⟩ (fun hHeld => ?_)
                          clear hHeld hKq Kq
                          (try simp only [Act.put, List.setIfInBounds_toArray, List.set_cons_zero, List.set_cons_succ])
                          have cOV_13_0 : _ = some (Value.bool false) := OV_13.cell 0
                          have fOV_13_0 := OV_13.free 0
                          have cOV_13_1 : _ = some (Value.slice none 0 0) := OV_13.cell 1
                          have fOV_13_1 := OV_13.free 1
                          have cOV_13_2 : _ = some (Value.slice none 0 0) := OV_13.cell 2
                          have fOV_13_2 := OV_13.free 2
                          refine D_late (i := 8) (by kernel_rfl) rfl (by kernel_rfl) (fun Kq hKq => ?_)
                          go_simp
                          refine hKq.out _ _ ?_
                          clear hKq Kq
                          (try simp only [Act.put, List.setIfInBounds_toArray, List.set_cons_zero, List.set_cons_succ])
                          refine D_done (by kernel_rfl) ?_ _
                          refine NoPanic.normal ?_
                          go_wp2_with fail
                          go_meet
                          exact ⟨_, _, _, _, _, _, _, rfl, (show Blk _ _ #[_, _, _] from ((OV_13.setCell (i := 0) (v := _) (by simp)).setCell (i := 1) (v := _) (by simp)).setCell (i := 2) (v := _) (by simp)), by omega, ((Ou_13.kp (kp_set3 _ _ _ _ _) (fun g' e (e2 : g' = _) => by first | (have := (Ou_13.lt' g' e).1; omega) | (have := ltOu g' e; omega))).mono (by omega)), ((Pu_13.kp (kp_set3 _ _ _ _ _) (fun g' e (e2 : g' = _) => by first | (have := (Pu_13.lt' g' e).1; omega) | (have := ltPu g' e; omega))).mono (by omega)), Below.set3 hbAcc_13 (by omega) _ _ _⟩
                        · go_simp
                          have hbx := blk_new w11 #[Value.bool false, Value.slice none 0 0, Value.slice none 0 0] 28
                          have hbB := (Below.refl w11.heap.size w11).alloc (Nat.le_refl _) (.cells #[Value.bool false, Value.slice none 0 0, Value.slice none 0 0] 28)
                          have hltOV := hbx.lt
                          have hB_12 : Below w11.heap.size w11 (w11.alloc (.cells #[Value.bool false, Value.slice none 0 0, Value.slice none 0 0] 28)) := hbB
                          have X_12 := X_11.next hB_12
                          have F_12 := F_11.next hB_12
                          have V_12 := V_11.next hB_12
                          have BL_12 := BL_11.next hB_12
                          have GA_12 := GA_11.below hB_12
                          have GB_12 := GB_11.below hB_12
                          have GC_12 := GC_11.below hB_12
                          have GD_12 := GD_11.below hB_12
                          have Ov_12 := Ov_11.below hB_12
                          have Pv_12 := Pv_11.below hB_12
                          have HX_12 := HX_11.below hB_12
                          have Ot_12 := Ot_11.below hB_12
                          have Pt_12 := Pt_11.below hB_12
                          have hbAcc_12 := hbAcc_11.next hB_12
                          have On_12 := On_11.below hB_12
                          have Pn_12 := Pn_11.below hB_12
                          have hbel_12 := hbel_11.next hB_12
                          have hsz_12 := hB_12.size
                          clear X_11 F_11 V_11 BL_11 GA_11 GB_11 GC_11 GD_11 Ov_11 Pv_11 HX_11 Ot_11 Pt_11 hbAcc_11 On_11 Pn_11 hbel_11 hB_12
                          have OV_12 := hbx
                          clear hbx hbB
                          generalize (w11.alloc (.cells #[Value.bool false, Value.slice none 0 0, Value.slice none 0 0] 28)) = va12 at *
                          refine hKq.out _ _ ⟨F_12, X_12⟩ (fun hHeld => ?_)
                          clear hHeld hKq Kq
                          (try simp only [Act.put, List.setIfInBounds_toArray, List.set_cons_zero, List.set_cons_succ])
                          refine D_one (i := 6) (by kernel_rfl) rfl (fun Kq hKq => ?_)
                          go_simp
                          refine (qadd (On_12.rdQ Pn_12 s1u.out) (by omega) (GB_12.rdQ sfb.out) (by omega)).mono ?_
                          rintro e w13 ⟨ua, un, uc, ub, um, ud, rfl, hO, hO', hD, hB⟩
                          have hB_13 : Below va12.heap.size va12 w13 := (bl.next hB)
                          have X_13 := X_12.next hB_13
                          have F_13 := F_12.next hB_13
                          have V_13 := V_12.next hB_13
                          have BL_13 := BL_12.next hB_13
                          have OV_13 := OV_12.next hB_13
                          have GA_13 := GA_12.below hB_13
                          have GB_13 := GB_12.below hB_13
                          have GC_13 := GC_12.below hB_13
                          have GD_13 := GD_12.below hB_13
                          have Ov_13 := Ov_12.below hB_13
                          have Pv_13 := Pv_12.below hB_13
                          have HX_13 := HX_12.below hB_13
                          have Ot_13 := Ot_12.below hB_13
                          have Pt_13 := Pt_12.below hB_13
                          have hbAcc_13 := hbAcc_12.next hB_13
                          have On_13 := On_12.below hB_13
                          have Pn_13 := Pn_12.below hB_13
                          have hbel_13 := hbel_12.next hB_13
                          have hsz_13 := hB_13.size
                          clear X_12 F_12 V_12 BL_12 OV_12 GA_12 GB_12 GC_12 GD_12 Ov_12 Pv_12 HX_12 Ot_12 Pt_12 hbAcc_12 On_12 Pn_12 hbel_12 hB_13
                          have Ou_13 := (show Own va12.heap.size _ _ _ _ _ from hO)
                          have ltOu := (show Own va12.heap.size _ _ _ _ _ from hO).ltB
                          have Pu_13 := (show Own va12.heap.size _ _ _ _ _ from hO')
                          have ltPu := (show Own va12.heap.size _ _ _ _ _ from hO').ltB
                          clear hO hO' hD
                          try clear hB
                          (try go_wp2_with fail)
                          refine hKq.out _ _ ⟨F_13, X_13⟩ (fun hHeld => ?_)
                          clear hHeld hKq Kq
                          (try simp only [Act.put, List.setIfInBounds_toArray, List.set_cons_zero, List.set_cons_succ])
                          have cOV_13_0 : _ = some (Value.bool false) := OV_13.cell 0
                          have fOV_13_0 := OV_13.free 0
                          have cOV_13_1 : _ = some (Value.slice none 0 0) := OV_13.cell 1
                          have fOV_13_1 := OV_13.free 1
                          have cOV_13_2 : _ = some (Value.slice none 0 0) := OV_13.cell 2
                          have fOV_13_2 := OV_13.free 2
                          refine D_late (i := 8) (by kernel_rfl) rfl (by kernel_rfl) (fun Kq hKq => ?_)
                          go_simp
                          refine hKq.out _ _ ?_
                          clear hKq Kq
                          (try simp only [Act.put, List.setIfInBounds_toArray, List.set_cons_zero, List.set_cons_succ])
                          refine D_done (by kernel_rfl) ?_ _
                          refine NoPanic.normal ?_
                          go_wp2_with fail
                          go_meet
                          exact ⟨_, _, _, _, _, _, _, rfl, (show Blk _ _ #[_, _, _] from ((OV_13.setCell (i := 0) (v := _) (by simp)).setCell (i := 1) (v := _) (by simp)).setCell (i := 2) (v := _) (by simp)), by omega, ((Ou_13.kp (kp_set3 _ _ _ _ _) (fun g' e (e2 : g' = _) => by first | (have := (Ou_13.lt' g' e).1; omega) | (have := ltOu g' e; omega))).mono (by omega)), ((Pu_13.kp (kp_set3 _ _ _ _ _) (fun g' e (e2 : g' = _) => by first | (have := (Pu_13.lt' g' e).1; omega) | (have := ltPu g' e; omega))).mono (by omega)), Below.set3 hbAcc_13 (by omega) _ _ _⟩
                      · go_simp
                        have hbx := blk_new vd10 #[Value.bool false, Value.slice none 0 0, Value.slice none 0 0] 28
                        have hbB := (Below.refl vd10.heap.size vd10).alloc (Nat.le_refl _) (.cells #[Value.bool false, Value.slice none 0 0, Value.slice none 0 0] 28)
                        have hltOV := hbx.lt
                        have hB_11 : Below vd10.heap.size vd10 (vd10.alloc (.cells #[Value.bool false, Value.slice none 0 0, Value.slice none 0 0] 28)) := hbB
                        have X_11 := X_10.next hB_11
                        have F_11 := F_10.next hB_11
                        have V_11 := V_10.next hB_11
                        have BL_11 := BL_10.next hB_11
                        have GA_11 := GA_10.below hB_11
                        have GB_11 := GB_10.below hB_11
                        have GC_11 := GC_10.below hB_11
                        have GD_11 := GD_10.below hB_11
                        have Ov_11 := Ov_10.below hB_11
                        have Pv_11 := Pv_10.below hB_11
                        have HX_11 := HX_10.below hB_11
                        have Ot_11 := Ot_10.below hB_11
                        have Pt_11 := Pt_10.below hB_11
                        have hbAcc_11 := hbAcc_10.next hB_11
                        have hbel_11 := hbel_10.next hB_11
                        have hsz_11 := hB_11.size
                        clear X_10 F_10 V_10 BL_10 GA_10 GB_10 GC_10 GD_10 Ov_10 Pv_10 HX_10 Ot_10 Pt_10 hbAcc_10 hbel_10 hB_11
                        have OV_11 := hbx
                        clear hbx hbB
                        generalize (vd10.alloc (.cells #[Value.bool false, Value.slice none 0 0, Value.slice none 0 0] 28)) = va11 at *
                        refine hKq.out _ _ ⟨F_11, X_11⟩ (fun hHeld => ?_)
                        clear hHeld hKq Kq
                        (try simp only [Act.put, List.setIfInBounds_toArray, List.set_cons_zero, List.set_cons_succ])
                        refine D_one (i := 3) (by kernel_rfl) rfl (fun Kq hKq => ?_)
                        go_simp
                        refine (qmul (GA_11.rdQ sfa.out) (by omega) HX_11 (by omega)).mono ?_
                        rintro e w12 ⟨na, nn, nc, nb, nm, nd, rfl, hO, hO', hD, hB⟩
                        have hB_12 : Below va11.heap.size va11 w12 := (bl.next hB)
                        have X_12 := X_11.next hB_12
                        have F_12 := F_11.next hB_12
                        have V_12 := V_11.next hB_12
                        have BL_12 := BL_11.next hB_12
                        have OV_12 := OV_11.next hB_12
                        have GA_12 := GA_11.below hB_12
                        have GB_12 := GB_11.below hB_12
                        have GC_12 := GC_11.below hB_12
                        have GD_12 := GD_11.below hB_12
                        have Ov_12 := Ov_11.below hB_12
                        have Pv_12 := Pv_11.below hB_12
                        have HX_12 := HX_11.below hB_12
                        have Ot_12 := Ot_11.below hB_12
                        have Pt_12 := Pt_11.below hB_12
                        have hbAcc_12 := hbAcc_11.next hB_12
                        have hbel_12 := hbel_11.next hB_12
                        have hsz_12 := hB_12.size
                        clear X_11 F_11 V_11 BL_11 OV_11 GA_11 GB_11 GC_11 GD_11 Ov_11 Pv_11 HX_11 Ot_11 Pt_11 hbAcc_11 hbel_11 hB_12
                        have On_12 := (show Own va11.heap.size _ _ _ _ _ from hO)
                        have ltOn := (show Own va11.heap.size _ _ _ _ _ from hO).ltB
                        have Pn_12 := (show Own va11.heap.size _ _ _ _ _ from hO')
                        have ltPn := (show Own va11.heap.size _ _ _ _ _ from hO').ltB
                        clear hO hO' hD
                        try clear hB
                        (try go_wp2_with fail)
                        refine hKq.out _ _ ⟨F_12, X_12⟩ (fun hHeld => ?_)
                        clear hHeld hKq Kq
                        (try simp only [Act.put, List.setIfInBounds_toArray, List.set_cons_zero, List.set_cons_succ])
                        refine D_one (i := 6) (by kernel_rfl) rfl (fun Kq hKq => ?_)
                        go_simp
                        refine (qadd (On_12.rdQ Pn_12 s1u.out) (by omega) (GB_12.rdQ sfb.out) (by omega)).mono ?_
                        rintro e w13 ⟨ua, un, uc, ub, um, ud, rfl, hO, hO', hD, hB⟩
                        have hB_13 : Below w12.heap.size w12 w13 := (bl.next hB)
                        have X_13 := X_12.next hB_13
                        have F_13 := F_12.next hB_13
                        have V_13 := V_12.next hB_13
                        have BL_13 := BL_12.next hB_13
                        have OV_13 := OV_12.next hB_13
                        have GA_13 := GA_12.below hB_13
                        have GB_13 := GB_12.below hB_13
                        have GC_13 := GC_12.below hB_13
                        have GD_13 := GD_12.below hB_13
                        have Ov_13 := Ov_12.below hB_13
                        have Pv_13 := Pv_12.below hB_13
                        have HX_13 := HX_12.below hB_13
                        have Ot_13 := Ot_12.below hB_13
                        have Pt_13 := Pt_12.below hB_13
                        have hbAcc_13 := hbAcc_12.next hB_13
                        have On_13 := On_12.below hB_13
                        have Pn_13 := Pn_12.below hB_13
                        have hbel_13 := hbel_12.next hB_13
                        have hsz_13 := hB_13.size
                        clear X_12 F_12 V_12 BL_12 OV_12 GA_12 GB_12 GC_12 GD_12 Ov_12 Pv_12 HX_12 Ot_12 Pt_12 hbAcc_12 On_12 Pn_12 hbel_12 hB_13
                        have Ou_13 := (show Own w12.heap.size _ _ _ _ _ from hO)
                        have ltOu := (show Own w12.heap.size _ _ _ _ _ from hO).ltB
                        have Pu_13 := (show Own w12.heap.size _ _ _ _ _ from hO')
                        have ltPu := (show Own w12.heap.size _ _ _ _ _ from hO').ltB
                        clear hO hO' hD
                        try clear hB
                        (try go_wp2_with fail)
                        refine hKq.out _ _ ⟨F_13, X_13⟩ (fun hHeld => ?_)
                        clear hHeld hKq Kq
                        (try simp only [Act.put, List.setIfInBounds_toArray, List.set_cons_zero, List.set_cons_succ])
                        have cOV_13_0 : _ = some (Value.bool false) := OV_13.cell 0
                        have fOV_13_0 := OV_13.free 0
                        have cOV_13_1 : _ = some (Value.slice none 0 0) := OV_13.cell 1
                        have fOV_13_1 := OV_13.free 1
                        have cOV_13_2 : _ = some (Value.slice none 0 0) := OV_13.cell 2
                        have fOV_13_2 := OV_13.free 2
                        refine D_late (i := 8) (by kernel_rfl) rfl (by kernel_rfl) (fun Kq hKq => ?_)
                        go_simp
                        refine hKq.out _ _ ?_
                        clear hKq Kq
                        (try simp only [Act.put, List.setIfInBounds_toArray, List.set_cons_zero, List.set_cons_succ])
                        refine D_done (by kernel_rfl) ?_ _
                        refine NoPanic.normal ?_
                        go_wp2_with fail
                        go_meet
                        exact ⟨_, _, _, _, _, _, _, rfl, (show Blk _ _ #[_, _, _] from ((OV_13.setCell (i := 0) (v := _) (by simp)).setCell (i := 1) (v := _) (by simp)).setCell (i := 2) (v := _) (by simp)), by omega, ((Ou_13.kp (kp_set3 _ _ _ _ _) (fun g' e (e2 : g' = _) => by first | (have := (Ou_13.lt' g' e).1; omega) | (have := ltOu g' e; omega))).mono (by omega)), ((Pu_13.kp (kp_set3 _ _ _ _ _) (fun g' e (e2 : g' = _) => by first | (have := (Pu_13.lt' g' e).1; omega) | (have := ltPu g' e; omega))).mono (by omega)), Below.set3 hbAcc_13 (by omega) _ _ _⟩
                    case rest =>
                      obtain ⟨gAB, ua, un, uc, ub, um, ud, rfl, hbk, hgeAB, hO, hO', hBc⟩ := hcut
                      have hB_10 : Below wc9.heap.size wc9 wc := hBc
                      have X_10 := X_9.next hB_10
                      have F_10 := F_9.next hB_10
                      have V_10 := V_9.next hB_10
                      have BL_10 := BL_9.next hB_10
                      have GA_10 := GA_9.below hB_10
                      have GB_10 := GB_9.below hB_10
                      have GC_10 := GC_9.below hB_10
                      have GD_10 := GD_9.below hB_10
                      have Ov_10 := Ov_9.below hB_10
                      have Pv_10 := Pv_9.below hB_10
                      have HX_10 := HX_9.below hB_10
                      have Ot_10 := Ot_9.below hB_10
                      have Pt_10 := Pt_9.below hB_10
                      have hbel_10 := hbel_9.next hB_10
                      have hsz_10 := hB_10.size
                      clear X_9 F_9 V_9 BL_9 GA_9 GB_9 GC_9 GD_9 Ov_9 Pv_9 HX_9 Ot_9 Pt_9 hbel_9 hB_10
                      clear hBc
                      obtain ⟨wc10, hwc⟩ : ∃ y : World, y = wc := ⟨_, rfl⟩
                      subst hwc
                      have AB_10 := hbk
                      have hltAB := hbk.lt
                      clear hbk
                      have Ou_10 := hO
                      have Pu_10 := hO'
                      clear hO hO'
                      clear hqxs
                      have cAB_10_0 : _ = some (Value.bool (decide ((fa * qx + fb).num < 0))) := AB_10.cell 0
                      have cAB_10_1 : _ = some (Value.slice ua un uc) := AB_10.cell 1
                      have cAB_10_2 : _ = some (Value.slice ub um ud) := AB_10.cell 2
                      have cBL_10_0 : _ = some (Value.bool (decide ((fc * qx + fd).num < 0))) := BL_10.cell 0
                      have cBL_10_1 : _ = some (Value.slice ta tn tc) := BL_10.cell 1
                      have cBL_10_2 : _ = some (Value.slice tb tm td) := BL_10.cell 2
                      go_wp2_with fail
                      refine (qdiv_nz (Ou_10.rdQ Pu_10 squ.out) (by omega) (Ot_10.rdQ Pt_10 sqt.out) (by omega) hne.out).mono ?_
                      rintro e w11 ⟨qa, qn, qc, qb, qm, qd, rfl, hO, hO', hD, hB⟩
                      have hB_11 : Below wc10.heap.size wc10 w11 := (bl.next hB)
                      have X_11 := X_10.next hB_11
                      have F_11 := F_10.next hB_11
                      have V_11 := V_10.next hB_11
                      have BL_11 := BL_10.next hB_11
                      have AB_11 := AB_10.next hB_11
                      have GA_11 := GA_10.below hB_11
                      have GB_11 := GB_10.below hB_11
                      have GC_11 := GC_10.below hB_11
                      have GD_11 := GD_10.below hB_11
                      have Ov_11 := Ov_10.below hB_11
                      have Pv_11 := Pv_10.below hB_11
                      have HX_11 := HX_10.below hB_11
                      have Ot_11 := Ot_10.below hB_11
                      have Pt_11 := Pt_10.below hB_11
                      have Ou_11 := Ou_10.below hB_11
                      have Pu_11 := Pu_10.below hB_11
                      have hbel_11 := hbel_10.next hB_11
                      have hsz_11 := hB_11.size
                      clear X_10 F_10 V_10 BL_10 AB_10 GA_10 GB_10 GC_10 GD_10 Ov_10 Pv_10 HX_10 Ot_10 Pt_10 Ou_10 Pu_10 hbel_10 hB_11
                      clear cAB_10_0 cAB_10_1 cAB_10_2 cBL_10_0 cBL_10_1 cBL_10_2
                      skip
                      have Oq_11 := (show Own 0 _ _ _ _ (lm qv.num.natAbs) from hval.out ▸ hO.mono (Nat.zero_le _))
                      have Pq_11 := (show Own 0 _ _ _ _ (lm qv.den) from hval.out ▸ hO'.mono (Nat.zero_le _))
                      clear hO hO' hD
                      try clear hB
                      go_upto_region 16 with fail
                      have hbx := blk_new w11 #[Value.bool (decide (((fa * qx + fb) / (fc * qx + fd)).num < 0)), Value.slice qa qn qc, Value.slice qb qm qd] 28
                      have hbB := (Below.refl w11.heap.size w11).alloc (Nat.le_refl _) (.cells #[Value.bool (decide (((fa * qx + fb) / (fc * qx + fd)).num < 0)), Value.slice qa qn qc, Value.slice qb qm qd] 28)
                      have hltQ := hbx.lt
                      have hB_12 : Below w11.heap.size w11 (w11.alloc (.cells #[Value.bool (decide (((fa * qx + fb) / (fc * qx + fd)).num < 0)), Value.slice qa qn qc, Value.slice qb qm qd] 28)) := hbB
                      have X_12 := X_11.next hB_12
                      have F_12 := F_11.next hB_12
                      have V_12 := V_11.next hB_12
                      have BL_12 := BL_11.next hB_12
                      have AB_12 := AB_11.next hB_12
                      have GA_12 := GA_11.below hB_12
                      have GB_12 := GB_11.below hB_12
                      have GC_12 := GC_11.below hB_12
                      have GD_12 := GD_11.below hB_12
                      have Ov_12 := Ov_11.below hB_12
                      have Pv_12 := Pv_11.below hB_12
                      have HX_12 := HX_11.below hB_12
                      have Ot_12 := Ot_11.below hB_12
                      have Pt_12 := Pt_11.below hB_12
                      have Ou_12 := Ou_11.below hB_12
                      have Pu_12 := Pu_11.below hB_12
                      have Oq_12 := Oq_11.below hB_12
                      have Pq_12 := Pq_11.below hB_12
                      have hbel_12 := hbel_11.next hB_12
                      have hsz_12 := hB_12.size
                      clear X_11 F_11 V_11 BL_11 AB_11 GA_11 GB_11 GC_11 GD_11 Ov_11 Pv_11 HX_11 Ot_11 Pt_11 Ou_11 Pu_11 Oq_11 Pq_11 hbel_11 hB_12
                      have Q_12 := hbx
                      clear hbx hbB
                      generalize (w11.alloc (.cells #[Value.bool (decide (((fa * qx + fb) / (fc * qx + fd)).num < 0)), Value.slice qa qn qc, Value.slice qb qm qd] 28)) = va12 at *
                      rw [hval.out] at Q_12
                      have cQ_12_0 : _ = some (Value.bool (decide (qv.num < 0))) := Q_12.cell 0
                      have fQ_12_0 := Q_12.free 0
                      have cQ_12_1 : _ = some (Value.slice qa qn qc) := Q_12.cell 1
                      have fQ_12_1 := Q_12.free 1
                      have cQ_12_2 : _ = some (Value.slice qb qm qd) := Q_12.cell 2
                      have fQ_12_2 := Q_12.free 2
                      have cV_12_0 : _ = some (Value.bool (qsg qv 0)) := V_12.cell 0
                      have fV_12_0 := V_12.free 0
                      have cV_12_1 : _ = some (Value.slice va vn vc) := V_12.cell 1
                      have fV_12_1 := V_12.free 1
                      have cV_12_2 : _ = some (Value.slice vb vm vd) := V_12.cell 2
                      have fV_12_2 := V_12.free 2
                      go_wp2_with fail
                      refine (cmpQ_self qv ▸ qcmp (Oq_12.rdQ Pq_12 sqv.out) (by omega) ((show Own 0 _ _ _ _ (lm qv.num.natAbs) from Ov_12.mono (Nat.zero_le _)).rdQ (show Own 0 _ _ _ _ (lm qv.den) from Pv_12.mono (Nat.zero_le _)) sqv.out) (by omega)).mono ?_
                      rintro e w13 ⟨rfl, hB⟩
                      have hB_13 : Below va12.heap.size va12 w13 := (bl.next hB)
                      have X_13 := X_12.next hB_13
                      have F_13 := F_12.next hB_13
                      have V_13 := V_12.next hB_13
                      have BL_13 := BL_12.next hB_13
                      have AB_13 := AB_12.next hB_13
                      have Q_13 := Q_12.next hB_13
                      have GA_13 := GA_12.below hB_13
                      have GB_13 := GB_12.below hB_13
                      have GC_13 := GC_12.below hB_13
                      have GD_13 := GD_12.below hB_13
                      have Ov_13 := Ov_12.below hB_13
                      have Pv_13 := Pv_12.below hB_13
                      have HX_13 := HX_12.below hB_13
                      have Ot_13 := Ot_12.below hB_13
                      have Pt_13 := Pt_12.below hB_13
                      have Ou_13 := Ou_12.below hB_13
                      have Pu_13 := Pu_12.below hB_13
                      have Oq_13 := Oq_12.below hB_13
                      have Pq_13 := Pq_12.below hB_13
                      have hbel_13 := hbel_12.next hB_13
                      have hsz_13 := hB_13.size
                      clear X_12 F_12 V_12 BL_12 AB_12 Q_12 GA_12 GB_12 GC_12 GD_12 Ov_12 Pv_12 HX_12 Ot_12 Pt_12 Ou_12 Pu_12 Oq_12 Pq_12 hbel_12 hB_13
                      clear cQ_12_0 fQ_12_0 cQ_12_1 fQ_12_1 cQ_12_2 fQ_12_2 cV_12_0 fV_12_0 cV_12_1 fV_12_1 cV_12_2 fV_12_2
                      try clear hB
                      go_wp2
                      go_ret
                      exact ⟨rfl, hbel_13⟩
                ·
                  rw [e2.out, hb] at HEv
                  obtain ⟨FF, hFF⟩ : ∃ z, lnV (some P) = z := ⟨_, rfl⟩
                  obtain ⟨qv, hqv⟩ : ∃ z, evQ (some P') = z := ⟨_, rfl⟩
                  rw [hFF] at HL
                  rw [hqv] at HEv
                  clear hFF hqv
                  cases hpb : P.bad
                  ·
                    rw [e1.out, hpb] at HL
                    clear hb hpb
                    go_wp2_with fail
                    refine ((show Calls _ _ _ _ (RetLn _ (FF) (0)) from HL.out _ RL_2)).mono ?_
                    rintro e w3 ⟨f, rfl, -, -, hB⟩
                    have hB_3 : Below w2.heap.size w2 w3 := (bl.next hB)
                    have X_3 := X_2.next hB_3
                    have hX_3 := hX_2.below hB_3
                    have hY_3 := hY_2.below hB_3
                    have L_3 := L_2.below hB_3
                    have RL_3 := RL_2.below hB_3
                    have hbel_3 := hbel_2.next hB_3
                    have hsz_3 := hB_3.size
                    clear X_2 hX_2 hY_2 L_2 RL_2 hbel_2 hB_3
                    try clear hB
                    simp only [LX.arr]
                    go_upto_region 4 with fail
                    have hbx := blk_new w3 #[Value.bool f.A.s, Value.slice f.A.a f.A.n f.A.c, Value.slice f.A.b f.A.m f.A.d, Value.bool f.B.s, Value.slice f.B.a f.B.n f.B.c, Value.slice f.B.b f.B.m f.B.d, Value.bool f.C.s, Value.slice f.C.a f.C.n f.C.c, Value.slice f.C.b f.C.m f.C.d, Value.bool f.D.s, Value.slice f.D.a f.D.n f.D.c, Value.slice f.D.b f.D.m f.D.d] 32
                    have hbB := (Below.refl w3.heap.size w3).alloc (Nat.le_refl _) (.cells #[Value.bool f.A.s, Value.slice f.A.a f.A.n f.A.c, Value.slice f.A.b f.A.m f.A.d, Value.bool f.B.s, Value.slice f.B.a f.B.n f.B.c, Value.slice f.B.b f.B.m f.B.d, Value.bool f.C.s, Value.slice f.C.a f.C.n f.C.c, Value.slice f.C.b f.C.m f.C.d, Value.bool f.D.s, Value.slice f.D.a f.D.n f.D.c, Value.slice f.D.b f.D.m f.D.d] 32)
                    have hltF := hbx.lt
                    have hB_4 : Below w3.heap.size w3 (w3.alloc (.cells #[Value.bool f.A.s, Value.slice f.A.a f.A.n f.A.c, Value.slice f.A.b f.A.m f.A.d, Value.bool f.B.s, Value.slice f.B.a f.B.n f.B.c, Value.slice f.B.b f.B.m f.B.d, Value.bool f.C.s, Value.slice f.C.a f.C.n f.C.c, Value.slice f.C.b f.C.m f.C.d, Value.bool f.D.s, Value.slice f.D.a f.D.n f.D.c, Value.slice f.D.b f.D.m f.D.d] 32)) := hbB
                    have X_4 := X_3.next hB_4
                    have hX_4 := hX_3.below hB_4
                    have hY_4 := hY_3.below hB_4
                    have L_4 := L_3.below hB_4
                    have RL_4 := RL_3.below hB_4
                    have hbel_4 := hbel_3.next hB_4
                    have hsz_4 := hB_4.size
                    clear X_3 hX_3 hY_3 L_3 RL_3 hbel_3 hB_4
                    have F_4 := hbx
                    clear hbx hbB
                    generalize (w3.alloc (.cells #[Value.bool f.A.s, Value.slice f.A.a f.A.n f.A.c, Value.slice f.A.b f.A.m f.A.d, Value.bool f.B.s, Value.slice f.B.a f.B.n f.B.c, Value.slice f.B.b f.B.m f.B.d, Value.bool f.C.s, Value.slice f.C.a f.C.n f.C.c, Value.slice f.C.b f.C.m f.C.d, Value.bool f.D.s, Value.slice f.D.a f.D.n f.D.c, Value.slice f.D.b f.D.m f.D.d] 32)) = va4 at *
                    obtain ⟨gl, hgl, ck, -, -, -⟩ := L_4.cells hix
                    subst hgl
                    rw [htk] at ck
                    have hnc := L_4.bnd
                    have cX_4_0 : _ = some (Value.bool s) := X_4.cell 0
                    have cX_4_1 : _ = some (Value.slice xa xn xc) := X_4.cell 1
                    have cX_4_2 : _ = some (Value.slice xb xm xd) := X_4.cell 2
                    go_wp2_with fail
                    refine (HC.out _ _ L_4).mono ?_
                    rintro e w5 ⟨lf, cf, rfl, hT, hB⟩
                    have hB_5 : Below va4.heap.size va4 w5 := (bl.next hB)
                    have X_5 := X_4.next hB_5
                    have F_5 := F_4.next hB_5
                    have hX_5 := hX_4.below hB_5
                    have hY_5 := hY_4.below hB_5
                    have L_5 := L_4.below hB_5
                    have RL_5 := RL_4.below hB_5
                    have hbel_5 := hbel_4.next hB_5
                    have hsz_5 := hB_5.size
                    clear X_4 F_4 hX_4 hY_4 L_4 RL_4 hbel_4 hB_5
                    clear cX_4_0 cX_4_1 cX_4_2
                    have Z_5 := (show TRw 3 va4.heap.size _ lf cf xs from hT)
                    clear hT
                    try clear hB
                    obtain ⟨gz, hgz, hgz1, hgz2⟩ := Z_5.addr (by omega)
                    subst hgz
                    obtain ⟨g2, hgg, -, z1, z2, z3⟩ := Z_5.cells hix
                    cases hgg
                    have zf := fun j => Z_5.row.frozenAt j
                    have y1 := zf (i * 4 + 1)
                    have y2 := zf (i * 4 + 2)
                    have y3 := zf (i * 4 + 3)
                    have hzc := Z_5.bnd
                    have cX_5_0 : _ = some (Value.bool s) := X_5.cell 0
                    have cX_5_1 : _ = some (Value.slice xa xn xc) := X_5.cell 1
                    have cX_5_2 : _ = some (Value.slice xb xm xd) := X_5.cell 2
                    go_upto_region 10 with fail
                    have hkp := ((((Kp.refl (fun j => j = gz) w5).setCell (ad := ⟨gz, i * 4 + 1, none⟩) rfl (Value.bool s)).setCell (ad := ⟨gz, i * 4 + 2, none⟩) rfl (Value.slice xa xn xc)).setCell (ad := ⟨gz, i * 4 + 3, none⟩) rfl (Value.slice xb xm xd))
                    have hxt : TOK 3 w5 (some ⟨gz, 0, none⟩) (⟨s, xa, xn, xc, xl, xb, xm, xd, xk⟩ : QA) := ⟨hX_5, hY_5, fun g o h0 e e2 => by have := Rd.lt0' hX'.out e h0; have := hbel_5.size; cases e2; omega, fun g o h0 e e2 => by have := Rd.lt0' hY'.out e h0; have := hbel_5.size; cases e2; omega, by show xn ≤ 3; omega, by show xm ≤ 3; omega⟩
                    have Z_6 := Z_5.put hix hxt
                    rw [hzsh.out] at Z_6
                    have X_6 := X_5.kp hkp (show ¬ (w.heap.size = gz) by omega)
                    have F_6 := F_5.kp hkp (show ¬ (w3.heap.size = gz) by omega)
                    have hxt2 := (hxt.ra.kp0 hkp (fun b o h0 e (e2 : b = gz) => hxt.ga b o h0 e (by rw [e2])))
                    have hX_6 : Rd _ xa xn xc xl := hxt2
                    have hY_6 : Rd _ xb xm xd xk := (hxt.rb.kp0 hkp (fun b o h0 e (e2 : b = gz) => hxt.gb b o h0 e (by rw [e2])))
                    clear hxt2 hxt
                    have hbel_6 := hbel_5.kp hkp hbel_5.size (fun j hj (e : j = gz) => by omega)
                    have hsz_6 := hkp.size
                    clear z1 z2 z3 zf y1 y2 y3 hkp ck hbel_5 X_5 F_5 hX_5 hY_5 L_5 RL_5 Z_5 cX_5_0 cX_5_1 cX_5_2
                    generalize (((w5.setCell ⟨gz, i * 4 + 1, none⟩ (Value.bool s)).setCell ⟨gz, i * 4 + 2, none⟩ (Value.slice xa xn xc)).setCell ⟨gz, i * 4 + 3, none⟩ (Value.slice xb xm xd)) = wp at *
                    have RZ := Z_6.rdTs
                    rw [hzlh.out] at RZ
                    go_wp2_with fail
                    refine ((show Calls _ _ _ _ (RetQE _ qv 11) from HEv.out _ _ _ RZ)).mono ?_
                    rintro e w7 ⟨va, vn, vc, vb, vm, vd, rfl, hO, hO', hD, hB⟩
                    have hB_7 : Below wp.heap.size wp w7 := (bl.next hB)
                    have X_7 := X_6.next hB_7
                    have F_7 := F_6.next hB_7
                    have Z_7 := Z_6.below hB_7
                    have hX_7 := hX_6.below hB_7
                    have hY_7 := hY_6.below hB_7
                    have hbel_7 := hbel_6.next hB_7
                    have hsz_7 := hB_7.size
                    clear X_6 F_6 Z_6 hX_6 hY_6 hbel_6 hB_7
                    have Ov_7 := (show Own wp.heap.size _ _ _ _ (qnl qv 11) from hO)
                    have Pv_7 := (show Own wp.heap.size _ _ _ _ (qdl qv 11) from hO')
                    clear hO hO' hD RZ
                    try clear hB
                    go_upto_region 11 with fail
                    have hbx := blk_new w7 #[Value.bool (qsg qv 11), Value.slice va vn vc, Value.slice vb vm vd] 28
                    have hbB := (Below.refl w7.heap.size w7).alloc (Nat.le_refl _) (.cells #[Value.bool (qsg qv 11), Value.slice va vn vc, Value.slice vb vm vd] 28)
                    have hltV := hbx.lt
                    have hB_8 : Below w7.heap.size w7 (w7.alloc (.cells #[Value.bool (qsg qv 11), Value.slice va vn vc, Value.slice vb vm vd] 28)) := hbB
                    have X_8 := X_7.next hB_8
                    have F_8 := F_7.next hB_8
                    have Z_8 := Z_7.below hB_8
                    have hX_8 := hX_7.below hB_8
                    have hY_8 := hY_7.below hB_8
                    have Ov_8 := Ov_7.below hB_8
                    have Pv_8 := Pv_7.below hB_8
                    have hbel_8 := hbel_7.next hB_8
                    have hsz_8 := hB_8.size
                    clear X_7 F_7 Z_7 hX_7 hY_7 Ov_7 Pv_7 hbel_7 hB_8
                    have V_8 := hbx
                    clear hbx hbB
                    generalize (w7.alloc (.cells #[Value.bool (qsg qv 11), Value.slice va vn vc, Value.slice vb vm vd] 28)) = va8 at *
                    go_wp2
                    go_ret
                    exact ⟨rfl, hbel_8⟩
                  ·
                    rw [e1.out, hpb] at HL
                    clear hb hpb
                    go_wp2_with fail
                    refine ((show Calls _ _ _ _ (RetLn _ (FF) (11)) from HL.out _ RL_2)).mono ?_
                    rintro e w3 ⟨f, rfl, -, -, hB⟩
                    have hB_3 : Below w2.heap.size w2 w3 := (bl.next hB)
                    have X_3 := X_2.next hB_3
                    have hX_3 := hX_2.below hB_3
                    have hY_3 := hY_2.below hB_3
                    have L_3 := L_2.below hB_3
                    have RL_3 := RL_2.below hB_3
                    have hbel_3 := hbel_2.next hB_3
                    have hsz_3 := hB_3.size
                    clear X_2 hX_2 hY_2 L_2 RL_2 hbel_2 hB_3
                    try clear hB
                    simp only [LX.arr]
                    go_upto_region 4 with fail
                    have hbx := blk_new w3 #[Value.bool f.A.s, Value.slice f.A.a f.A.n f.A.c, Value.slice f.A.b f.A.m f.A.d, Value.bool f.B.s, Value.slice f.B.a f.B.n f.B.c, Value.slice f.B.b f.B.m f.B.d, Value.bool f.C.s, Value.slice f.C.a f.C.n f.C.c, Value.slice f.C.b f.C.m f.C.d, Value.bool f.D.s, Value.slice f.D.a f.D.n f.D.c, Value.slice f.D.b f.D.m f.D.d] 32
                    have hbB := (Below.refl w3.heap.size w3).alloc (Nat.le_refl _) (.cells #[Value.bool f.A.s, Value.slice f.A.a f.A.n f.A.c, Value.slice f.A.b f.A.m f.A.d, Value.bool f.B.s, Value.slice f.B.a f.B.n f.B.c, Value.slice f.B.b f.B.m f.B.d, Value.bool f.C.s, Value.slice f.C.a f.C.n f.C.c, Value.slice f.C.b f.C.m f.C.d, Value.bool f.D.s, Value.slice f.D.a f.D.n f.D.c, Value.slice f.D.b f.D.m f.D.d] 32)
                    have hltF := hbx.lt
                    have hB_4 : Below w3.heap.size w3 (w3.alloc (.cells #[Value.bool f.A.s, Value.slice f.A.a f.A.n f.A.c, Value.slice f.A.b f.A.m f.A.d, Value.bool f.B.s, Value.slice f.B.a f.B.n f.B.c, Value.slice f.B.b f.B.m f.B.d, Value.bool f.C.s, Value.slice f.C.a f.C.n f.C.c, Value.slice f.C.b f.C.m f.C.d, Value.bool f.D.s, Value.slice f.D.a f.D.n f.D.c, Value.slice f.D.b f.D.m f.D.d] 32)) := hbB
                    have X_4 := X_3.next hB_4
                    have hX_4 := hX_3.below hB_4
                    have hY_4 := hY_3.below hB_4
                    have L_4 := L_3.below hB_4
                    have RL_4 := RL_3.below hB_4
                    have hbel_4 := hbel_3.next hB_4
                    have hsz_4 := hB_4.size
                    clear X_3 hX_3 hY_3 L_3 RL_3 hbel_3 hB_4
                    have F_4 := hbx
                    clear hbx hbB
                    generalize (w3.alloc (.cells #[Value.bool f.A.s, Value.slice f.A.a f.A.n f.A.c, Value.slice f.A.b f.A.m f.A.d, Value.bool f.B.s, Value.slice f.B.a f.B.n f.B.c, Value.slice f.B.b f.B.m f.B.d, Value.bool f.C.s, Value.slice f.C.a f.C.n f.C.c, Value.slice f.C.b f.C.m f.C.d, Value.bool f.D.s, Value.slice f.D.a f.D.n f.D.c, Value.slice f.D.b f.D.m f.D.d] 32)) = va4 at *
                    obtain ⟨gl, hgl, ck, -, -, -⟩ := L_4.cells hix
                    subst hgl
                    rw [htk] at ck
                    have hnc := L_4.bnd
                    have cX_4_0 : _ = some (Value.bool s) := X_4.cell 0
                    have cX_4_1 : _ = some (Value.slice xa xn xc) := X_4.cell 1
                    have cX_4_2 : _ = some (Value.slice xb xm xd) := X_4.cell 2
                    go_wp2_with fail
                    refine (HC.out _ _ L_4).mono ?_
                    rintro e w5 ⟨lf, cf, rfl, hT, hB⟩
                    have hB_5 : Below va4.heap.size va4 w5 := (bl.next hB)
                    have X_5 := X_4.next hB_5
                    have F_5 := F_4.next hB_5
                    have hX_5 := hX_4.below hB_5
                    have hY_5 := hY_4.below hB_5
                    have L_5 := L_4.below hB_5
                    have RL_5 := RL_4.below hB_5
                    have hbel_5 := hbel_4.next hB_5
                    have hsz_5 := hB_5.size
                    clear X_4 F_4 hX_4 hY_4 L_4 RL_4 hbel_4 hB_5
                    clear cX_4_0 cX_4_1 cX_4_2
                    have Z_5 := (show TRw 3 va4.heap.size _ lf cf xs from hT)
                    clear hT
                    try clear hB
                    obtain ⟨gz, hgz, hgz1, hgz2⟩ := Z_5.addr (by omega)
                    subst hgz
                    obtain ⟨g2, hgg, -, z1, z2, z3⟩ := Z_5.cells hix
                    cases hgg
                    have zf := fun j => Z_5.row.frozenAt j
                    have y1 := zf (i * 4 + 1)
                    have y2 := zf (i * 4 + 2)
                    have y3 := zf (i * 4 + 3)
                    have hzc := Z_5.bnd
                    have cX_5_0 : _ = some (Value.bool s) := X_5.cell 0
                    have cX_5_1 : _ = some (Value.slice xa xn xc) := X_5.cell 1
                    have cX_5_2 : _ = some (Value.slice xb xm xd) := X_5.cell 2
                    go_upto_region 10 with fail
                    have hkp := ((((Kp.refl (fun j => j = gz) w5).setCell (ad := ⟨gz, i * 4 + 1, none⟩) rfl (Value.bool s)).setCell (ad := ⟨gz, i * 4 + 2, none⟩) rfl (Value.slice xa xn xc)).setCell (ad := ⟨gz, i * 4 + 3, none⟩) rfl (Value.slice xb xm xd))
                    have hxt : TOK 3 w5 (some ⟨gz, 0, none⟩) (⟨s, xa, xn, xc, xl, xb, xm, xd, xk⟩ : QA) := ⟨hX_5, hY_5, fun g o h0 e e2 => by have := Rd.lt0' hX'.out e h0; have := hbel_5.size; cases e2; omega, fun g o h0 e e2 => by have := Rd.lt0' hY'.out e h0; have := hbel_5.size; cases e2; omega, by show xn ≤ 3; omega, by show xm ≤ 3; omega⟩
                    have Z_6 := Z_5.put hix hxt
                    rw [hzsh.out] at Z_6
                    have X_6 := X_5.kp hkp (show ¬ (w.heap.size = gz) by omega)
                    have F_6 := F_5.kp hkp (show ¬ (w3.heap.size = gz) by omega)
                    have hxt2 := (hxt.ra.kp0 hkp (fun b o h0 e (e2 : b = gz) => hxt.ga b o h0 e (by rw [e2])))
                    have hX_6 : Rd _ xa xn xc xl := hxt2
                    have hY_6 : Rd _ xb xm xd xk := (hxt.rb.kp0 hkp (fun b o h0 e (e2 : b = gz) => hxt.gb b o h0 e (by rw [e2])))
                    clear hxt2 hxt
                    have hbel_6 := hbel_5.kp hkp hbel_5.size (fun j hj (e : j = gz) => by omega)
                    have hsz_6 := hkp.size
                    clear z1 z2 z3 zf y1 y2 y3 hkp ck hbel_5 X_5 F_5 hX_5 hY_5 L_5 RL_5 Z_5 cX_5_0 cX_5_1 cX_5_2
                    generalize (((w5.setCell ⟨gz, i * 4 + 1, none⟩ (Value.bool s)).setCell ⟨gz, i * 4 + 2, none⟩ (Value.slice xa xn xc)).setCell ⟨gz, i * 4 + 3, none⟩ (Value.slice xb xm xd)) = wp at *
                    have RZ := Z_6.rdTs
                    rw [hzlh.out] at RZ
                    go_wp2_with fail
                    refine ((show Calls _ _ _ _ (RetQE _ qv 11) from HEv.out _ _ _ RZ)).mono ?_
                    rintro e w7 ⟨va, vn, vc, vb, vm, vd, rfl, hO, hO', hD, hB⟩
                    have hB_7 : Below wp.heap.size wp w7 := (bl.next hB)
                    have X_7 := X_6.next hB_7
                    have F_7 := F_6.next hB_7
                    have Z_7 := Z_6.below hB_7
                    have hX_7 := hX_6.below hB_7
                    have hY_7 := hY_6.below hB_7
                    have hbel_7 := hbel_6.next hB_7
                    have hsz_7 := hB_7.size
                    clear X_6 F_6 Z_6 hX_6 hY_6 hbel_6 hB_7
                    have Ov_7 := (show Own wp.heap.size _ _ _ _ (qnl qv 11) from hO)
                    have Pv_7 := (show Own wp.heap.size _ _ _ _ (qdl qv 11) from hO')
                    clear hO hO' hD RZ
                    try clear hB
                    go_upto_region 11 with fail
                    have hbx := blk_new w7 #[Value.bool (qsg qv 11), Value.slice va vn vc, Value.slice vb vm vd] 28
                    have hbB := (Below.refl w7.heap.size w7).alloc (Nat.le_refl _) (.cells #[Value.bool (qsg qv 11), Value.slice va vn vc, Value.slice vb vm vd] 28)
                    have hltV := hbx.lt
                    have hB_8 : Below w7.heap.size w7 (w7.alloc (.cells #[Value.bool (qsg qv 11), Value.slice va vn vc, Value.slice vb vm vd] 28)) := hbB
                    have X_8 := X_7.next hB_8
                    have F_8 := F_7.next hB_8
                    have Z_8 := Z_7.below hB_8
                    have hX_8 := hX_7.below hB_8
                    have hY_8 := hY_7.below hB_8
                    have Ov_8 := Ov_7.below hB_8
                    have Pv_8 := Pv_7.below hB_8
                    have hbel_8 := hbel_7.next hB_8
                    have hsz_8 := hB_8.size
                    clear X_7 F_7 Z_7 hX_7 hY_7 Ov_7 Pv_7 hbel_7 hB_8
                    have V_8 := hbx
                    clear hbx hbB
                    generalize (w7.alloc (.cells #[Value.bool (qsg qv 11), Value.slice va vn vc, Value.slice vb vm vd] 28)) = va8 at *
                    go_wp2
                    go_ret
                    exact ⟨rfl, hbel_8⟩
      ·
        have g2 : (tk != 1) = true := by simp [hk1]
        have g3 : (tk == 1) = false := by simp [hk1]
        have hop : ∀ P, ansV (i : Int) (xs.map TA.ti) = some P → P.opn = false := fun P hr => by rw [ans_open hr]; exact decide_eq_false (fun h => hk1 (htki.out.symm.trans (by simpa using h.2.2)))
        obtain ⟨er, her⟩ : ∃ z, lnE (ansV (i : Int) (xs.map TA.ti)) = z := ⟨_, rfl⟩
        have her0 : (er == (0 : Int)) = false ∧ (er != (0 : Int)) = true := by
          rw [← her]
          cases hr : ansV (i : Int) (xs.map TA.ti) with
          | none => exact ⟨rfl, rfl⟩
          | some P =>
            have h := hop P hr
            unfold lnE; dsimp only; rw [h]
            split <;> exact ⟨rfl, rfl⟩
        obtain ⟨FF, hFF⟩ : ∃ z, lnV (ansV (i : Int) (xs.map TA.ti)) = z := ⟨_, rfl⟩
        rw [her, hFF] at HL
        have her1 := her0.1
        have her2 := her0.2
        clear her0 her hop hFF
        go_wp2_with fail
        refine ((show Calls _ _ _ _ (RetLn _ (FF) (er)) from HL.out _ RL_2)).mono ?_
        rintro e w3 ⟨f, rfl, -, -, hB⟩
        have hB_3 : Below w2.heap.size w2 w3 := (bl.next hB)
        have X_3 := X_2.next hB_3
        have hX_3 := hX_2.below hB_3
        have hY_3 := hY_2.below hB_3
        have L_3 := L_2.below hB_3
        have RL_3 := RL_2.below hB_3
        have hbel_3 := hbel_2.next hB_3
        have hsz_3 := hB_3.size
        clear X_2 hX_2 hY_2 L_2 RL_2 hbel_2 hB_3
        try clear hB
        simp only [LX.arr]
        go_upto_region 4 with fail
        have hbx := blk_new w3 #[Value.bool f.A.s, Value.slice f.A.a f.A.n f.A.c, Value.slice f.A.b f.A.m f.A.d, Value.bool f.B.s, Value.slice f.B.a f.B.n f.B.c, Value.slice f.B.b f.B.m f.B.d, Value.bool f.C.s, Value.slice f.C.a f.C.n f.C.c, Value.slice f.C.b f.C.m f.C.d, Value.bool f.D.s, Value.slice f.D.a f.D.n f.D.c, Value.slice f.D.b f.D.m f.D.d] 32
        have hbB := (Below.refl w3.heap.size w3).alloc (Nat.le_refl _) (.cells #[Value.bool f.A.s, Value.slice f.A.a f.A.n f.A.c, Value.slice f.A.b f.A.m f.A.d, Value.bool f.B.s, Value.slice f.B.a f.B.n f.B.c, Value.slice f.B.b f.B.m f.B.d, Value.bool f.C.s, Value.slice f.C.a f.C.n f.C.c, Value.slice f.C.b f.C.m f.C.d, Value.bool f.D.s, Value.slice f.D.a f.D.n f.D.c, Value.slice f.D.b f.D.m f.D.d] 32)
        have hltF := hbx.lt
        have hB_4 : Below w3.heap.size w3 (w3.alloc (.cells #[Value.bool f.A.s, Value.slice f.A.a f.A.n f.A.c, Value.slice f.A.b f.A.m f.A.d, Value.bool f.B.s, Value.slice f.B.a f.B.n f.B.c, Value.slice f.B.b f.B.m f.B.d, Value.bool f.C.s, Value.slice f.C.a f.C.n f.C.c, Value.slice f.C.b f.C.m f.C.d, Value.bool f.D.s, Value.slice f.D.a f.D.n f.D.c, Value.slice f.D.b f.D.m f.D.d] 32)) := hbB
        have X_4 := X_3.next hB_4
        have hX_4 := hX_3.below hB_4
        have hY_4 := hY_3.below hB_4
        have L_4 := L_3.below hB_4
        have RL_4 := RL_3.below hB_4
        have hbel_4 := hbel_3.next hB_4
        have hsz_4 := hB_4.size
        clear X_3 hX_3 hY_3 L_3 RL_3 hbel_3 hB_4
        have F_4 := hbx
        clear hbx hbB
        generalize (w3.alloc (.cells #[Value.bool f.A.s, Value.slice f.A.a f.A.n f.A.c, Value.slice f.A.b f.A.m f.A.d, Value.bool f.B.s, Value.slice f.B.a f.B.n f.B.c, Value.slice f.B.b f.B.m f.B.d, Value.bool f.C.s, Value.slice f.C.a f.C.n f.C.c, Value.slice f.C.b f.C.m f.C.d, Value.bool f.D.s, Value.slice f.D.a f.D.n f.D.c, Value.slice f.D.b f.D.m f.D.d] 32)) = va4 at *
        obtain ⟨gl, hgl, ck, -, -, -⟩ := L_4.cells hix
        subst hgl
        rw [htk] at ck
        have hnc := L_4.bnd
        go_wp2
        go_ret
        exact ⟨rfl, hbel_4⟩

end Go.Proofs.Ytennilapmcgnbaa
