/- THE WALK OF credencelaw12.RingOrder: a ring of texts that tells the order of all that is done; no ring. -/
import Derived.Test.YtokkfppchfmjcaaGreatRw
import Derived.Test.YtokkfppchfmjcaaGreatKe
import Derived.Deep.CutBlock
import Derived.Deep.DeepCutAuto
namespace Go.Proofs.YtokkfppchfmjcaaGreat
set_option linter.unusedVariables false
set_option linter.unusedSimpArgs false
open Go.ChangeShapes Go.WideShapes Go.ChangeAt Go.RowKit Go.NatP


theorem infoStr : (Tryz.prog.info? 9).map (fun i => (i.zero, i.size, i.bytes)) = some (some (.string ⟨#[]⟩), 1, 16) := by kernel_rfl
section
variable {w : World} {ops : Array Oper} {rest : List Oper} {o : Oper} {A : Act} {Q : Exit → Act → World → Prop}
/-- append of one text to a row of texts -/
theorem wp_appT {K : Act → World → Prop} {B : Nat} {sa : Option Addr} {n c : Nat} {xs : List Value} {u : Value} (s x : Operand)
    (ho : o.op = .call { callee := .builtin .append, args := #[s, x], argTypes := #[22, 22] })
    (hs : A.eval s = .slice sa n c) (hO : w.ownsRow B 9 1 (.slice sa n c) n xs) (g d : Nat) (hx : A.eval x = .slice (some ⟨g, 0, none⟩) 1 d)
    (hu : u.oneCell' = true) (hy : w.cell? ⟨g, 0, none⟩ = some u) (hB : B ≤ w.heap.size) (hn : n + 1 ≤ 1073741824)
    (h : ∀ a' c' w', w'.ownsRow B 9 1 (.slice a' (n + 1) c') (n + 1) (xs ++ [u]) → Kp (fun k => sa = some ⟨k, 0, none⟩) w w' → K (A.put o.dst (.slice a' (n + 1) c')) w') :
    o.wp Tryz.prog A w K Q := by
  obtain ⟨a', c', w', hr, hown, hk, hf⟩ := row_append (w := w) 22 o.type Tryz.underlying22 infoStr rfl (by decide) hO ⟨g, 0, none⟩ 1 d (news := [u]) rfl
    (fun j v hv => by
      have hj : j = 0 := by have := (List.getElem?_eq_some_iff.1 hv).1; simpa using this
      subst hj
      cases hv
      exact hy) (fun v hv => by rw [List.mem_singleton.1 hv]; exact hu) hB hn
  unfold Oper.wp execOp
  simp only [ho, resolve, invoke, builtin, Sem.run_bind, Sem.run_pure, Result.andThen_ok, List.map_toArray, List.map_cons, List.map_nil, hs, hx, hr]
  exact h a' c' w' hown hk
theorem wpList_appT {B : Nat} {sa : Option Addr} {n c : Nat} {xs : List Value} {u : Value} (hgd : o.guard = none) (s x : Operand)
    (ho : o.op = .call { callee := .builtin .append, args := #[s, x], argTypes := #[22, 22] })
    (hs : A.eval s = .slice sa n c) (hO : w.ownsRow B 9 1 (.slice sa n c) n xs) (g d : Nat) (hx : A.eval x = .slice (some ⟨g, 0, none⟩) 1 d)
    (hu : u.oneCell' = true) (hy : w.cell? ⟨g, 0, none⟩ = some u) (hB : B ≤ w.heap.size) (hn : n + 1 ≤ 1073741824)
    (h : ∀ a' c' w', w'.ownsRow B 9 1 (.slice a' (n + 1) c') (n + 1) (xs ++ [u]) → Kp (fun k => sa = some ⟨k, 0, none⟩) w w' → wpList Tryz.prog ops Q rest (A.put o.dst (.slice a' (n + 1) c')) w') :
    wpList Tryz.prog ops Q (o :: rest) A w :=
  wpList_plain hgd fun K hK => wp_appT s x ho hs hO g d hx hu hy hB hn fun a' c' w' h1 h2 => hK _ _ (h a' c' w' h1 h2)
/-- append(nil, l...) of a row of texts -/
theorem wpList_appTs {B : Nat} {b : Option Addr} {k d : Nat} {xs : List Value} (hgd : o.guard = none) (s x : Operand)
    (ho : o.op = .call { callee := .builtin .append, args := #[s, x], argTypes := #[22, 22] })
    (hs : A.eval s = .slice none 0 0) (hx : A.eval x = .slice b k d) (hR : w.ownsRow B 9 1 (.slice b k d) k xs) (h1 : ∀ u ∈ xs, u.oneCell' = true) (hn : k ≤ 1073741824)
    (h : ∀ a' c' w', w'.ownsRow w.heap.size 9 1 (.slice a' k c') k xs → Below w.heap.size w w' → wpList Tryz.prog ops Q rest (A.put o.dst (.slice a' k c')) w') :
    wpList Tryz.prog ops Q (o :: rest) A w := by
  have hl : xs.length = k := by have := hR.1; omega
  rcases ownsRow_cases hR with ⟨rfl, rfl, rfl, rfl⟩ | ⟨g, rfl, hg1, hg2⟩
  · obtain ⟨i0, hi, hz, hz1, hz2⟩ := info_parts infoStr
    have hr : (Builtin.append_ #[22, 22] o.type #[.slice none 0 0, .slice none 0 0]).run Tryz.prog w = .ok (.slice none 0 0) w := by
      simp [Builtin.append_, run_underlying Tryz.underlying22, sizeOf, typeInfo, hi, Builtin.lenOf, Builtin.firstCells, storeCells]
    refine wpList_plain hgd fun K hK => ?_
    unfold Oper.wp execOp
    simp only [ho, resolve, invoke, builtin, Sem.run_bind, Sem.run_pure, Result.andThen_ok, List.map_toArray, List.map_cons, List.map_nil, hs, hx, hr]
    exact hK _ _ (h none 0 w (World.ownsRow_nil _ _ _ _) (Below.refl _ _))
  · obtain ⟨a', c', w', hr, hown, hk, hf⟩ := row_append (w := w) (B := w.heap.size) 22 o.type Tryz.underlying22 infoStr rfl (by decide) (World.ownsRow_nil w _ _ _) ⟨g, 0, none⟩ k d (news := xs) hl
      (fun j v hv => by
        have hj : j < k := by rw [← hl]; exact (List.getElem?_eq_some_iff.1 hv).1
        have := hR.cellAt j (by omega)
        rw [hv] at this
        rw [Addr.add_lit, Nat.zero_add]; exact this) h1 (Nat.le_refl _) (by omega)
    rw [Nat.zero_add] at hr hown
    refine wpList_plain hgd fun K hK => ?_
    unfold Oper.wp execOp
    simp only [ho, resolve, invoke, builtin, Sem.run_bind, Sem.run_pure, Result.andThen_ok, List.map_toArray, List.map_cons, List.map_nil, hs, hx, hr]
    exact hK _ _ (h a' c' w' hown ((Below.refl _ w).kp hk (Nat.le_refl _) (fun j hj e => by cases e)))
end
/-- a text's first 20 letters -/
def tc (x : ByteArray) : ByteArray := x.extract 0 (min x.size 20)
theorem tc_size (x : ByteArray) : (tc x).size ≤ 20 := by unfold tc; rw [ByteArray.size_extract]; omega
/-- a row of texts that was made can be read -/
theorem rdt_row {W : World} {B : Nat} {a : Option Addr} {n c : Nat} {l : List ByteArray} (h : W.ownsRow B 9 1 (.slice a n c) n (l.map Value.string)) : RdT W a n c l := by
  have hl : l.length = n := by have := h.1; simpa using this
  have hb := ownsRow_bnd h
  refine ⟨hl, hb.1, hb.2.1, fun i hi => ?_⟩
  rcases ownsRow_cases h with ⟨_, rfl, _⟩ | ⟨g, rfl, _, _⟩
  · omega
  · refine ⟨g, 0, l[i]'(by omega), rfl, ?_, by rw [List.getElem?_eq_getElem (by omega)]⟩
    rw [Nat.zero_add, h.cellAt i (by omega), List.getElem?_map, List.getElem?_eq_getElem (by omega)]
    rfl
theorem row_snoc {l : List ByteArray} {k : Nat} {x : ByteArray} (h : l[k]? = some x) : (l.take (k + 1)).map Value.string = (l.take k).map Value.string ++ [Value.string x] := by
  rw [List.take_add_one, h]; simp

set_option maxRecDepth 100000 in
set_option maxHeartbeats 8000000 in
theorem ringOrder_walk {w : World} {sa : Option Addr} {n c : Nat} {l : List ByteArray} (hl : RdT w sa n c l) (hxs : ∀ x ∈ l, x.size ≤ maxLen) (t : ByteArray) (htm : t.size ≤ maxLen) (m : Int) (hm1 : -9223372036854775808 ≤ m) (hm2 : m ≤ 9223372036854775807) :
    Calls Tryz.prog 3 #[.slice sa n c, .string t, .int .i64 m] w (fun e w' => e = .returned (.bool true) ∧ Below w.heap.size w w') := by
  obtain ⟨L, hL⟩ : ∃ L, (l.take 60).map tc = L := ⟨_, rfl⟩
  obtain ⟨N, hN⟩ : ∃ N, min n 60 = N := ⟨_, rfl⟩
  have hLl : L.length = N := by rw [← hL, List.length_map, List.length_take, hl.1]; omega
  have hlh := hid hl
  have hxh := hid hxs
  have hb := hl.2.1
  have hb2 := hl.2.2.1
  have hN60 : N ≤ 60 := by omega
  clear hxs hl
  unfold maxLen at htm
  go_enter Tryz.func3, Tryz.ntmps3
  have hbel_0 : Below w.heap.size w w := Below.refl _ _
  go_wp2_with fail
  refine (kawake).mono ?_
  rintro e w1 ⟨rfl, hB⟩
  have hB_1 : Below w.heap.size w w1 := hB
  have hbel_1 := hbel_0.next hB_1
  have hsz_1 := hB_1.size
  clear hbel_0 hB_1
  try clear hB
  go_upto_block 0 with fail
  go_cut [8] (fun l8 wx => ∃ (lc : Nat) (la : Option Addr), l8 = .slice la N lc ∧ wx.ownsRow w.heap.size 9 1 (.slice la N lc) N ((L.take N).map Value.string) ∧ Below w.heap.size w wx)
  case first =>
    have hs1 := hbel_1.size
    go_wp2_with fail
    go_loopw [8, 9] (fun v i wr => ∃ (k lc : Nat) (la : Option Addr), k ≤ N ∧ v = .slice la k lc ∧ i = .int .i64 k ∧ wr.ownsRow w.heap.size 9 1 (.slice la k lc) k ((L.take k).map Value.string) ∧ Below w.heap.size w wr) (fun _ i _ => 60 - (intOf i).toNat)
    case atStart => exact ⟨0, 0, none, by omega, rfl, rfl, World.ownsRow_nil _ _ _ _, hbel_1⟩
    case round =>
      obtain ⟨k, lc, la, hk, rfl, rfl, hrow, hB⟩ := hrel
      have hsz := hB.size
      by_cases hlt : k < N
      · skip
        have hkn : k < n := by omega
        have hk60 : k < 60 := by omega
        obtain ⟨g, o, y, rfl, c0, hy⟩ := hlh.out.2.2.2 k hkn
        have hgl : g < w.heap.size := World.block_lt_of_cell? _ _ c0
        have e1 := hid c0
        have c1 := (hB.cell (p := ⟨g, o + k, none⟩) hgl).trans c0
        clear c0
        have hym := hxh.out y (List.mem_of_getElem? hy)
        unfold maxLen at hym
        have hLk : L[k]? = some (tc y) := by rw [← hL, List.getElem?_map, List.getElem?_take_of_lt hk60, hy]; rfl
        have e2 := hid (row_snoc hLk)
        clear hLk hy
        have hR := hid (fun (W : World) (h : Below wr.heap.size wr W) => ownsRow_block hrow (w' := W) (fun g' e => h.block g' (by rcases ownsRow_cases hrow with ⟨h1, _⟩ | ⟨g2, h1, _, h2⟩ <;> rw [h1] at e <;> cases e; exact h2)))
        have hla := hid (fun j (hj : j < w.heap.size) (e : la = some ⟨j, 0, none⟩) => (by
          rcases ownsRow_cases hrow with ⟨h1, _⟩ | ⟨g2, h1, h2, _⟩
          · rw [h1] at e; cases e
          · rw [h1] at e; cases e; omega : False))
        clear hrow
        have hk0 : (0 : Int) ≤ (k : Int) := by omega
        have hkn' : (k : Int) < (n : Int) := by omega
        obtain ⟨q, hq⟩ : ∃ q, min y.size 20 = q := ⟨_, rfl⟩
        have hmin : (if (20 : Int) < (y.size : Int) then (20 : Int) else (y.size : Int)) = (q : Int) := by split <;> omega
        have hmin2 : min (y.size : Int) 20 = (q : Int) := by omega
        have e3 := hid (show y.extract 0 q = tc y by unfold tc; rw [hq])
        have d20 : (0 : Int) ≤ (q : Int) := by omega
        have d21 : (q : Int) ≤ (y.size : Int) := by omega
        have d22 : q ≤ y.size := by omega
        clear hq
        go_wp2_with fail
        go_region_held3 (fun w' => w'.cell? ⟨g, o + k, none⟩ = some (.string y))
          (first | exact c1 | exact d1 | go_keep)
          ((rw [if_pos (by rfl)]; refine wp_appT (u := .string (y.extract 0 q)) _ _ rfl rfl (hR.out _ ((Below.refl _ wr).alloc (Nat.le_refl _) _).drew) _ _ rfl rfl (by go_simp) (by show w.heap.size ≤ (wr.alloc _).heap.size; simp; omega) (by omega) ?_; intro a2 ca w2 hO2 hK2; have hB2 : Below w.heap.size w w2 := ((hB.alloc hsz _).drew).kp hK2 (by show w.heap.size ≤ (wr.alloc _).heap.size; simp; omega) hla.out; have d1 := (hB2.cell (p := ⟨g, o + k, none⟩) hgl).trans e1.out))
        rw [e3.out, ← e2.out] at hO2
        go_wp2
        go_roundw
        case rel => exact ⟨k + 1, ca, a2, by omega, rfl, by go_num, hO2, hB2⟩
        case measure => simp [intOf]; omega
      · obtain rfl : k = N := by omega
        by_cases hkn : k < n
        · obtain rfl : k = 60 := by omega
          go_wp2_with fail
          go_meet
          exact ⟨lc, la, rfl, hrow, hB⟩
        · go_wp2_with fail
          go_meet
          exact ⟨lc, la, rfl, hrow, hB⟩
  case rest =>
    obtain ⟨lc, la, rfl, hrow, hB2⟩ := hcut
    rw [List.take_of_length_le (by omega)] at hrow
    have hcs := hB2.size
    have hL20 := hid (show ∀ y ∈ L, y.size ≤ 20 by rw [← hL]; intro y hy; obtain ⟨z, _, rfl⟩ := List.mem_map.1 hy; exact tc_size z)
    clear hL
    clear hbel_1 hsz_1
    obtain ⟨u, hu⟩ : ∃ u : World, u = wc := ⟨_, rfl⟩
    subst hu
    go_upto_if 51 with fail
    go_cut [1] (fun l1 wx => ∃ t2 : ByteArray, l1 = .string t2 ∧ t2.size ≤ 20 ∧ wx = u)
    case first =>
      by_cases ht : t.size ≤ 20
      · have g20 : decide ((20 : Int) < (t.size : Int)) = false := decide_eq_false (by omega)
        have hq := hid ht
        go_wp2_with fail
        go_meet
        exact ⟨t, rfl, hq.out, rfl⟩
      · have g20 : decide ((20 : Int) < (t.size : Int)) = true := decide_eq_true (by omega)
        have d21 : (20 : Int) ≤ (t.size : Int) := by omega
        have hq := hid (show (t.extract 0 20).size ≤ 20 by rw [ByteArray.size_extract]; omega)
        go_wp2_with fail
        go_meet
        exact ⟨t.extract 0 20, rfl, hq.out, rfl⟩
    case rest =>
      obtain ⟨t2, rfl, ht2, hwx⟩ := hcut
      subst hwx
      clear htm
      obtain ⟨u, hu⟩ : ∃ u : World, u = wc := ⟨_, rfl⟩
      subst hu
      have hbel_5 := hB2
      have hw5 : w.heap.size ≤ u.heap.size := hB2.size
      clear hB2
      have RL_5 := rdt_row hrow
      go_wp2_with (at_builtin; go_loud (refine wpList_appTs rfl _ _ rfl rfl rfl hrow (by intro v hv; obtain ⟨z, _, rfl⟩ := List.mem_map.1 hv; rfl) (by omega) ?_; intro ma mc w6 hrm hB))
      have hB_6 : Below u.heap.size u w6 := hB
      have RL_6 := RL_5.below hB_6
      have hbel_6 := hbel_5.next hB_6
      have hsz_6 := hB_6.size
      clear RL_5 hbel_5 hB_6
      clear hB hrow
      have RM_6 := rdt_row hrm
      clear hrm
      go_wp2_with fail
      refine (ksum_w RM_6 (by omega) hL20.out).mono ?_
      rintro e w7 ⟨rfl, hB⟩
      have hB_7 : Below w6.heap.size w6 w7 := hB
      have RL_7 := RL_6.below hB_7
      have RM_7 := RM_6.below hB_7
      have hbel_7 := hbel_6.next hB_7
      have hsz_7 := hB_7.size
      clear RL_6 RM_6 hbel_6 hB_7
      try clear hB
      go_wp2_with fail
      refine (kprod_w RM_7 (by omega) hL20.out).mono ?_
      rintro e w8 ⟨rfl, hB⟩
      have hB_8 : Below w7.heap.size w7 w8 := hB
      have RL_8 := RL_7.below hB_8
      have RM_8 := RM_7.below hB_8
      have hbel_8 := hbel_7.next hB_8
      have hsz_8 := hB_8.size
      clear RL_7 RM_7 hbel_7 hB_8
      try clear hB
      obtain ⟨er, pw, bb, hP0, hC0⟩ : ∃ (er : Int) (pw : ByteArray) (bb : Bool), (∀ W : World, Calls Tryz.prog 10 #[.iface 26 (.agg #[]), .string t2, .int .i64 m] W fun e w' => e = .returned (.tuple #[.string pw, .int .i64 er]) ∧ Below W.heap.size W w') ∧ ((∃ j : Nat, m = j ∧ j ≤ 1024 ∧ er = 0 ∧ bb = true ∧ pw = wds ⟨#[42]⟩ ⟨#[49]⟩ (List.replicate j t2)) ∨ ((m < 0 ∨ 1024 < m) ∧ er = 3 ∧ bb = false ∧ pw = ⟨#[]⟩)) := by
        by_cases hr : m < 0 ∨ 1024 < m
        · exact ⟨3, ⟨#[]⟩, false, fun W => kpower_w_range hr, .inr ⟨hr, rfl, rfl, rfl⟩⟩
        · obtain ⟨j, rfl⟩ : ∃ j : Nat, m = j := ⟨m.toNat, by omega⟩
          exact ⟨0, _, true, fun W => kpower_w ht2 (by omega), .inl ⟨j, rfl, by omega, rfl, rfl, rfl⟩⟩
      have hP := hid hP0
      have hC := hid hC0
      clear hP0 hC0
      have ht2h := hid ht2
      go_wp2_with fail
      refine (hP.out _).mono ?_
      rintro e w9 ⟨rfl, hB⟩
      have hB_9 : Below w8.heap.size w8 w9 := hB
      have RL_9 := RL_8.below hB_9
      have RM_9 := RM_8.below hB_9
      have hbel_9 := hbel_8.next hB_9
      have hsz_9 := hB_9.size
      clear RL_8 RM_8 hbel_8 hB_9
      try clear hB
      clear hP
      generalize hSW : wds ⟨#[43]⟩ ⟨#[48]⟩ L = SW at *
      generalize hPW : wds ⟨#[42]⟩ ⟨#[49]⟩ L = PW at *
      have hSWh := hid hSW
      have hPWh := hid hPW
      clear hSW hPW
      obtain ⟨vC, hvC⟩ : ∃ y : World, y = w9 := ⟨_, rfl⟩
      subst hvC
      go_upto_region 16 with fail
      go_cut [78] (fun l78 wx => l78 = .bool bb ∧ wx = vC)
      case first =>
        rcases hC.out with ⟨M, rfl, hM, her, rfl, hpw⟩ | ⟨hr, her, rfl, hpw⟩
        · have d0 : (0 : Int) ≤ (M : Int) := by omega
          have d1 : (M : Int) ≤ 1024 := by omega
          clear her hpw
          go_wp2_with fail
          go_meet
          exact ⟨rfl, rfl⟩
        · clear her hpw
          rcases hr with hr | hr
          · have d1 : ¬ (0 : Int) ≤ m := by omega
            go_wp2_with fail
            go_meet
            exact ⟨rfl, rfl⟩
          · have d0 : (0 : Int) ≤ m := by omega
            have d1 : ¬ m ≤ 1024 := by omega
            go_wp2_with fail
            go_meet
            exact ⟨rfl, rfl⟩
      case rest =>
        obtain ⟨rfl, hwx⟩ := hcut
        subst hwx
        obtain ⟨vC, hvC⟩ : ∃ y : World, y = wc := ⟨_, rfl⟩
        subst hvC
        go_upto_if 78 with fail
        go_cut [15, 16] (fun l15 l16 wx => l15 = .int .i64 er ∧ l16 = .string pw ∧ Below vC.heap.size vC wx)
        case first =>
          rcases hC.out with ⟨M, rfl, hM, her, rfl, hpw⟩ | ⟨hr, her, rfl, hpw⟩
          · skip
            have hpwh := hid hpw
            have herh := hid her
            clear hpw her
            have hwv : w.heap.size ≤ vC.heap.size := hbel_9.size
            go_wp2_with fail
            go_loopw [17, 18] (fun v i wr => ∃ (k lc : Nat) (la : Option Addr), k ≤ M ∧ v = .slice la k lc ∧ i = .int .i64 k ∧ wr.ownsRow vC.heap.size 9 1 (.slice la k lc) k ((List.replicate k t2).map Value.string) ∧ Below vC.heap.size vC wr) (fun _ i _ => M - (intOf i).toNat)
            case atStart => exact ⟨0, 0, none, by omega, rfl, rfl, World.ownsRow_nil _ _ _ _, Below.refl _ _⟩
            case round =>
              obtain ⟨k, lc, la, hk, rfl, rfl, hrow, hB⟩ := hrel
              have hsz := hB.size
              by_cases hlt : k < M
              · skip
                have hR := hid (fun (W : World) (h : Below wr.heap.size wr W) => ownsRow_block hrow (w' := W) (fun g' e => h.block g' (by rcases ownsRow_cases hrow with ⟨h1, _⟩ | ⟨g2, h1, _, h2⟩ <;> rw [h1] at e <;> cases e; exact h2)))
                have hla := hid (fun j (hj : j < vC.heap.size) (e : la = some ⟨j, 0, none⟩) => (by
                  rcases ownsRow_cases hrow with ⟨h1, _⟩ | ⟨g2, h1, h2, _⟩
                  · rw [h1] at e; cases e
                  · rw [h1] at e; cases e; omega : False))
                clear hrow
                have e2 := hid (show (List.replicate (k + 1) t2).map Value.string = (List.replicate k t2).map Value.string ++ [Value.string t2] by rw [List.replicate_succ', List.map_append]; rfl)
                go_wp2_with (at_builtin; go_loud (refine wpList_appT (u := .string t2) rfl _ _ rfl rfl (hR.out _ ((Below.refl _ wr).alloc (Nat.le_refl _) _)) _ 1 rfl rfl (by go_simp) (by simp; omega) (by omega) ?_; intro a2 ca w2 hO2 hK2))
                have hB2 : Below vC.heap.size vC w2 := (hB.alloc hsz _).kp hK2 (by simp; omega) hla.out
                rw [← e2.out] at hO2
                go_roundw
                case rel => exact ⟨k + 1, ca, a2, by omega, rfl, by go_num, hO2, hB2⟩
                case measure => simp [intOf]; omega
              · obtain rfl : M = k := by omega
                have RA := rdt_row hrow
                have hxa := hid (show ∀ y ∈ List.replicate M t2, y.size ≤ 20 from fun y hy => by rw [List.eq_of_mem_replicate hy]; exact ht2h.out)
                clear hrow
                go_wp2_with fail
                refine (rwords RA (by omega) (by decide) (by decide) hxa.out).mono ?_
                rintro e w2 ⟨rfl, hB2⟩
                rw [← hpwh.out]
                go_wp2_with fail
                go_meet
                exact ⟨by rw [herh.out], rfl, hB.next hB2⟩
          · skip
            have hpwh := hid hpw
            have herh := hid her
            clear hpw her hr
            go_wp2_with fail
            go_meet
            exact ⟨by rw [herh.out], by rw [hpwh.out], Below.refl _ _⟩
        case rest =>
          obtain ⟨rfl, rfl, hBc⟩ := hcut
          have hB_10 : Below vC.heap.size vC wc := hBc
          have RL_10 := RL_9.below hB_10
          have RM_10 := RM_9.below hB_10
          have hbel_10 := hbel_9.next hB_10
          have hsz_10 := hB_10.size
          clear RL_9 RM_9 hbel_9 hB_10
          clear hBc
          obtain ⟨vD, hvD⟩ : ∃ y : World, y = wc := ⟨_, rfl⟩
          subst hvD
          go_wp2_with fail
          go_loopw [7, 19] (fun v i wr => ∃ k : Nat, k ≤ N ∧ v = .bool true ∧ i = .int .i64 k ∧ Below vD.heap.size vD wr) (fun _ i _ => N - (intOf i).toNat)
          case atStart => exact ⟨0, by omega, rfl, rfl, Below.refl _ _⟩
          case round =>
            obtain ⟨k, hk, rfl, rfl, hB⟩ := hrel
            by_cases hlt : k < N
            · skip
              obtain ⟨g, o, y, rfl, c0, hy⟩ := (RL_10.below hB).2.2.2 k hlt
              obtain ⟨g', o', y', rfl, c1, hy'⟩ := (RM_10.below hB).2.2.2 k hlt
              rw [hy] at hy'
              obtain rfl : y = y' := Option.some.inj hy'
              have hk0 : (0 : Int) ≤ (k : Int) := by omega
              have hkn' : (k : Int) < (N : Int) := by omega
              clear hy hy'
              go_wp2_with fail
              go_quiet (fail)
              go_wp2
              go_roundw
              case rel => exact ⟨k + 1, by omega, rfl, by go_num, by first | exact hB.drewN' _ | exact hB.drew | exact hB⟩
              case measure => simp [intOf]; omega
            · obtain rfl : N = k := by omega
              have hB_11 : Below vD.heap.size vD wr := hB
              have RL_11 := RL_10.below hB_11
              have RM_11 := RM_10.below hB_11
              have hbel_11 := hbel_10.next hB_11
              have hsz_11 := hB_11.size
              clear RL_10 RM_10 hbel_10 hB_11
              clear hB
              obtain ⟨vE, hvE⟩ : ∃ y : World, y = wr := ⟨_, rfl⟩
              subst hvE
              go_wp2_with fail
              refine (kpower_w_nil).mono ?_
              rintro e w12 ⟨rfl, hB⟩
              have hB_12 : Below vE.heap.size vE w12 := hB
              have RL_12 := RL_11.below hB_12
              have RM_12 := RM_11.below hB_12
              have hbel_12 := hbel_11.next hB_12
              have hsz_12 := hB_12.size
              clear RL_11 RM_11 hbel_11 hB_12
              try clear hB
              go_wp2_with fail
              refine (ksum_w_nil).mono ?_
              rintro e w13 ⟨rfl, hB⟩
              have hB_13 : Below w12.heap.size w12 w13 := hB
              have RL_13 := RL_12.below hB_13
              have RM_13 := RM_12.below hB_13
              have hbel_13 := hbel_12.next hB_13
              have hsz_13 := hB_13.size
              clear RL_12 RM_12 hbel_12 hB_13
              try clear hB
              go_wp2_with fail
              refine (kprod_w_nil).mono ?_
              rintro e w14 ⟨rfl, hB⟩
              have hB_14 : Below w13.heap.size w13 w14 := hB
              have RL_14 := RL_13.below hB_14
              have RM_14 := RM_13.below hB_14
              have hbel_14 := hbel_13.next hB_14
              have hsz_14 := hB_14.size
              clear RL_13 RM_13 hbel_13 hB_14
              try clear hB
              go_wp2_with fail
              refine (rwords RL_14 (by omega) (by decide) (by decide) hL20.out).mono ?_
              rw [hSWh.out]
              rintro e w15 ⟨rfl, hB⟩
              have hB_15 : Below w14.heap.size w14 w15 := hB
              have RL_15 := RL_14.below hB_15
              have RM_15 := RM_14.below hB_15
              have hbel_15 := hbel_14.next hB_15
              have hsz_15 := hB_15.size
              clear RL_14 RM_14 hbel_14 hB_15
              try clear hB
              go_wp2_with fail
              refine (rwords RL_15 (by omega) (by decide) (by decide) hL20.out).mono ?_
              rw [hPWh.out]
              rintro e w16 ⟨rfl, hB⟩
              have hB_16 : Below w15.heap.size w15 w16 := hB
              have RL_16 := RL_15.below hB_16
              have RM_16 := RM_15.below hB_16
              have hbel_16 := hbel_15.next hB_16
              have hsz_16 := hB_16.size
              clear RL_15 RM_15 hbel_15 hB_16
              try clear hB
              go_wp2
              go_ret
              exact ⟨rfl, hbel_16⟩

end Go.Proofs.YtokkfppchfmjcaaGreat
