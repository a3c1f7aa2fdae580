/- WALKS OF DECIMALS, 8: the statements' own helpers: cut, kept, bound. -/
import Derived.Test.YtbodlkfhmapngaaDh
import Derived.Test.YtbodlkfhmapngaaQn
namespace Go.Proofs.Ytbodlkfhmapngaa
set_option linter.unusedVariables false
set_option linter.unusedSimpArgs false
open Go.ChangeShapes Go.WideShapes Go.ChangeAt Go.RowKit Go.NatP

/-- a list of limbs with marked room behind -/
def Lent7 (w : World) (a : Option Addr) (n c : Nat) (l : List Nat) : Prop := Rd w a (n + 5) c (l ++ List.replicate 5 77) ∧ Rd w a n c l
theorem Lent7.below {w w' : World} {a : Option Addr} {n c : Nat} {l : List Nat} (h : Lent7 w a n c l) (hB : Below w.heap.size w w') : Lent7 w' a n c l := ⟨h.1.below hB, h.2.below hB⟩
theorem Own.lent7 {B : Nat} {w : World} {a : Option Addr} {n c : Nat} {l : List Nat} (h : Own B w a (n + 5) c (l ++ List.replicate 5 77)) (hl : l.length = n) : Lent7 w a n c l := by
  refine ⟨h.rd, ?_⟩
  have := h.rd.pre (k := n) (by omega)
  rwa [List.take_left' hl] at this
theorem Lent7.set3 {w : World} {a : Option Addr} {n c : Nat} {l : List Nat} (h : Lent7 w a n c l) {g : Nat} (hg : ∀ b o, a = some ⟨b, o, none⟩ → b ≠ g) (v0 v1 v2 : Value) : Lent7 (((w.setCell ⟨g, 0, none⟩ v0).setCell ⟨g, 1, none⟩ v1).setCell ⟨g, 2, none⟩ v2) a n c l := by
  have hk := (((Kp.refl (fun j => j = g) w).setCell (ad := ⟨g, 0, none⟩) rfl v0).setCell (ad := ⟨g, 1, none⟩) rfl v1).setCell (ad := ⟨g, 2, none⟩) rfl v2
  exact ⟨h.1.kp hk hg, h.2.kp hk hg⟩
theorem repl77 (l : List Nat) (k : Nat) : l ++ List.replicate k 77 ++ [77] = l ++ List.replicate (k + 1) 77 := by
  rw [List.append_assoc, List.replicate_succ']
theorem r77_lo (l : List Nat) (r : List Nat) (k : Nat) (h : k < l.length) : (l ++ r).getD k 0 = l.getD k 0 := by
  simp [List.getD_eq_getElem?_getD, List.getElem?_append_left h]
theorem r77_hi (l : List Nat) (k : Nat) (h : l.length ≤ k) (h2 : k < l.length + 5) : (l ++ List.replicate 5 77).getD k 0 = 77 := by
  rw [List.getD_eq_getElem?_getD, List.getElem?_append_right h, List.getElem?_replicate, if_pos (by omega)]
  rfl
theorem own_ne' {B : Nat} {w : World} {a : Option Addr} {n c : Nat} {l : List Nat} (hO : Own B w a n c l) : ∀ k, k < B → ¬ (a = some ⟨k, 0, none⟩) := own_lt hO
set_option maxRecDepth 100000 in
set_option maxHeartbeats 2000000 in
theorem lroom {w : World} {a : Option Addr} {n c m : Nat} {l : List Nat} (hR : Rd w a n c l) (hm : m = min n 40) :
    Calls Try.prog 92 #[.slice a n c] w (fun e w' => ∃ a' c', e = .returned (.slice a' m c') ∧ Own w.heap.size w' a' (m + 5) c' (l.take m ++ List.replicate 5 77) ∧ Below w.heap.size w w') := by
  have hb := hR.bnd
  have hP := hR.pre (k := m) (by omega)
  have hml : m ≤ n := by omega
  have hm4 : m ≤ 40 := by omega
  have hcase : ¬ 40 < n ∧ n = m ∨ 40 < n ∧ m = 40 := by omega
  generalize l.take m = L at *
  clear hR hm
  rcases hcase with ⟨hc, hc2⟩ | ⟨hc, hc2⟩
  · subst hc2
    go_enter Try.func92, Try.ntmps92
    go_wp2_with (at_builtin; refine wpList_appR rfl _ _ rfl rfl (own_nil w.heap.size w) rfl hP (Nat.le_refl _) (by omega) ?_; intro a1 c1 w1 hO1 hK1 _)
    rw [Nat.zero_add, List.nil_append] at hO1
    have hB1 : Below w.heap.size w w1 := (Below.refl _ _).kp hK1 (Nat.le_refl _) (by simp)
    have hn0 : (0 + n) = n := Nat.zero_add n
    go_loopw [4, 5] (fun v i wr => ∃ (k m c1 : Nat) (a1 : Option Addr), k ≤ 5 ∧ i = .int .i64 k ∧ v = .slice a1 m c1 ∧ Hid (m = n + k) ∧ Own w.heap.size wr a1 m c1 (L ++ List.replicate k 77) ∧ Below w.heap.size w wr) (fun _ i _ => 5 - (intOf i).toNat)
    case atStart => exact ⟨0, n, c1, a1, by omega, rfl, by first | rfl | simp, rfl, by simpa using hO1, hB1⟩
    case round =>
      clear hn0 hO1 hK1 hB1
      obtain ⟨k, m, c1, a1, hk, rfl, rfl, hm, hO, hB⟩ := hrel
      have hsz := hB.size
      have hcb := hO.bnd
      have hm1 : m ≤ n + k := by have := hm.out; omega
      have hm2 : n + k ≤ m := by have := hm.out; omega
      by_cases hlt : k < 5
      · go_wp2_with (at_builtin; refine wpList_app1 (y := 77) rfl _ _ rfl rfl (hO.alloc _) _ 1 rfl (by omega) (by go_simp) (by simp; omega) (by omega) ?_; intro a2 c2 w2 hO2 hK2 _)
        go_roundw
        case rel => exact ⟨k + 1, m + 1, c2, a2, by omega, by go_num, rfl, by show m + 1 = n + (k + 1); omega, by rw [← repl77]; exact hO2, (hB.alloc hsz _).kp hK2 (by simp; omega) (own_ne' hO)⟩
        case measure => simp [intOf]; omega
      · obtain rfl : k = 5 := by omega
        rcases hO.cases with ⟨_, h, _⟩ | ⟨g, rfl, _⟩
        · omega
        · go_wp2
          go_ret
          exact ⟨_, c1, rfl, by first | (rw [← hm.out]; exact hO) | (have e45 := hm.out; rw [e45] at hO; exact hO), hB⟩
  · subst hc2
    go_enter Try.func92, Try.ntmps92
    go_wp2_with (at_builtin; refine wpList_appR rfl _ _ rfl rfl (own_nil w.heap.size w) rfl hP (Nat.le_refl _) (by omega) ?_; intro a1 c1 w1 hO1 hK1 _)
    rw [Nat.zero_add, List.nil_append] at hO1
    have hB1 : Below w.heap.size w w1 := (Below.refl _ _).kp hK1 (Nat.le_refl _) (by simp)
    have hn0 : (0 + 40) = 40 := Nat.zero_add 40
    go_loopw [4, 5] (fun v i wr => ∃ (k m c1 : Nat) (a1 : Option Addr), k ≤ 5 ∧ i = .int .i64 k ∧ v = .slice a1 m c1 ∧ Hid (m = 40 + k) ∧ Own w.heap.size wr a1 m c1 (L ++ List.replicate k 77) ∧ Below w.heap.size w wr) (fun _ i _ => 5 - (intOf i).toNat)
    case atStart => exact ⟨0, 40, c1, a1, by omega, rfl, by first | rfl | simp, rfl, by simpa using hO1, hB1⟩
    case round =>
      clear hn0 hO1 hK1 hB1
      obtain ⟨k, m, c1, a1, hk, rfl, rfl, hm, hO, hB⟩ := hrel
      have hsz := hB.size
      have hcb := hO.bnd
      have hm1 : m ≤ 40 + k := by have := hm.out; omega
      have hm2 : 40 + k ≤ m := by have := hm.out; omega
      by_cases hlt : k < 5
      · go_wp2_with (at_builtin; refine wpList_app1 (y := 77) rfl _ _ rfl rfl (hO.alloc _) _ 1 rfl (by omega) (by go_simp) (by simp; omega) (by omega) ?_; intro a2 c2 w2 hO2 hK2 _)
        go_roundw
        case rel => exact ⟨k + 1, m + 1, c2, a2, by omega, by go_num, rfl, by show m + 1 = 40 + (k + 1); omega, by rw [← repl77]; exact hO2, (hB.alloc hsz _).kp hK2 (by simp; omega) (own_ne' hO)⟩
        case measure => simp [intOf]; omega
      · obtain rfl : k = 5 := by omega
        rcases hO.cases with ⟨_, h, _⟩ | ⟨g, rfl, _⟩
        · omega
        · go_wp2
          go_ret
          exact ⟨_, c1, rfl, by first | (rw [← hm.out]; exact hO) | (have e45 := hm.out; rw [e45] at hO; exact hO), hB⟩

set_option maxRecDepth 100000 in
set_option maxHeartbeats 2000000 in
theorem lstill {w : World} {a b : Option Addr} {n c d e : Nat} {l L : List Nat} (hm : Rd w a (n + 5) c (L ++ List.replicate 5 77)) (hl : Rd w b e d l) (hL : L = l.take n) (hne : n ≤ e) :
    Calls Try.prog 103 #[.slice a n c, .slice b e d] w (fun e w' => e = .returned (.bool true) ∧ Below w.heap.size w w') := by
  have hb1 := hm.bnd
  have hb2 := hl.bnd
  obtain ⟨ba, oa, rfl⟩ := hm.head (by omega)
  have hlen := hl.len
  have hLl : L.length = n := by rw [hL, List.length_take]; omega
  have hLo : Hid (∀ k, k < n → w.cell? ⟨ba, oa + k, none⟩ = some (.int .u32 (l.getD k 0 : Nat))) := fun k hk => by
    rw [hm.cell (by omega), r77_lo _ _ _ (by omega), hL]
    simp [List.getD_eq_getElem?_getD, List.getElem?_take, hk]
  have hHi : Hid (∀ k, n ≤ k → k < n + 5 → w.cell? ⟨ba, oa + k, none⟩ = some (.int .u32 77)) := fun k hk hk2 => by
    rw [hm.cell (by omega), r77_hi _ _ (by omega) (by omega)]; rfl
  clear hm hlen hLl hL
  go_enter Try.func103, Try.ntmps103
  go_wp2
  go_loopw [6] (fun i wr => ∃ k q : Nat, k ≤ n + 5 ∧ i = .int .i64 k ∧ wr = w.drewN q) (fun i _ => n + 5 - (intOf i).toNat)
  case atStart => exact ⟨0, 0, by omega, rfl, rfl⟩
  case round =>
    obtain ⟨k, q, hk, rfl, rfl⟩ := hrel
    by_cases hlt : k < n
    · obtain ⟨bb, ob, rfl, hcb⟩ := hl.get (show k < e by omega)
      have hca := hLo.out k hlt
      generalize ((l.getD k 0 : Nat) : Int) = x at *
      have hxx : (x != x) = false := by simp
      have hd : decide (n ≤ k) = false := by simp; omega
      go_wp2
      go_quiet (fail)
      go_wp2
      go_roundw
      case rel => exact ⟨k + 1, _, by omega, by go_num, by first | rfl | rw [World.drewN_drewN]⟩
      case measure => simp [intOf]; omega
    · by_cases hlt5 : k < n + 5
      · have hca := hHi.out k (by omega) hlt5
        have hd : decide (k < n) = false := by simp; omega
        have hd1 : decide (n ≤ k) = true := by simp; omega
        have hlt5' : (k : Int) < (n : Int) + 5 := by omega
        go_wp2
        go_quiet (fail)
        go_wp2
        go_roundw
        case rel => exact ⟨k + 1, _, by omega, by go_num, by first | rfl | rw [World.drewN_drewN]⟩
        case measure => simp [intOf]; omega
      · go_wp2
        go_ret
        exact ⟨rfl, (Below.refl _ _).drewN' _⟩
def RetCut4 (w : World) (s : Bool) (n : Nat) (l : List Nat) (m : Nat) (k : List Nat) (e : Ending) (w' : World) : Prop :=
  ∃ a c b d, e = .returned (.agg #[.bool s, .slice a n c, .slice b m d]) ∧ Lent7 w' a n c l ∧ Lent7 w' b m d k ∧ Below w.heap.size w w'

set_option maxRecDepth 100000 in
set_option maxHeartbeats 4000000 in
theorem lcut {w : World} {a b : Option Addr} {n c m d n1 m1 : Nat} {l k : List Nat} {s : Bool} (ha : Rd w a n c l) (hb : Rd w b m d k) (hn : n1 = min n 40) (hm : m1 = min m 40) :
    Calls Try.prog 24 #[.agg #[.bool s, .slice a n c, .slice b m d]] w (RetCut4 w s n1 (l.take n1) m1 (k.take m1)) := by
  have hla := hid (show (l.take n1).length = n1 by rw [List.length_take, ha.len]; omega)
  have hlb := hid (show (k.take m1).length = m1 by rw [List.length_take, hb.len]; omega)
  have hnh := hid hn
  have hmh := hid hm
  clear hn hm
  have hent := ent2 w #[Value.bool s, Value.slice a n c, Value.slice b m d] #[Value.bool false, Value.slice none 0 0, Value.slice none 0 0] 29 29
  go_enter Try.func24, Try.ntmps24
  go_wp2_with fail
  generalize ((w.alloc (.cells #[Value.bool s, Value.slice a n c, Value.slice b m d] 29)).alloc (.cells #[Value.bool false, Value.slice none 0 0, Value.slice none 0 0] 29)) = W0 at hent ⊢
  obtain ⟨X_0, R0_0, hbel_0, hsz_0⟩ := hent
  have cX_0_0 : _ = some (Value.bool s) := X_0.cell 0
  have cX_0_1 : _ = some (Value.slice a n c) := X_0.cell 1
  have cX_0_2 : _ = some (Value.slice b m d) := X_0.cell 2
  have cR0_0_0 : _ = some (Value.bool false) := R0_0.cell 0
  have fR0_0_0 := R0_0.free 0
  have cR0_0_1 : _ = some (Value.slice none 0 0) := R0_0.cell 1
  have fR0_0_1 := R0_0.free 1
  have cR0_0_2 : _ = some (Value.slice none 0 0) := R0_0.cell 2
  have fR0_0_2 := R0_0.free 2
  have ha_0 := ha.below hbel_0
  clear ha
  have hb_0 := hb.below hbel_0
  clear hb
  go_wp2_with fail
  go_region_held3 (fun w' => w'.cell? ⟨w.heap.size, 0, none⟩ = some (Value.bool s) ∧ w'.cell? ⟨w.heap.size, 1, none⟩ = some (Value.slice a n c) ∧ w'.cell? ⟨w.heap.size, 2, none⟩ = some (Value.slice b m d))
    (first | exact ⟨cX_0_0, cX_0_1, cX_0_2⟩ | exact ⟨cX_1_0, cX_1_1, cX_1_2⟩ | exact ⟨cX_2_0, cX_2_1, cX_2_2⟩ | exact ⟨(cell_set3 (by omega) _ _ _).trans (cX_2_0), (cell_set3 (by omega) _ _ _).trans (cX_2_1), (cell_set3 (by omega) _ _ _).trans (cX_2_2)⟩ | go_keep)
    (first
      | (go_at_call 92; ((with_reducible refine (lroom (ha_0.below bl) hnh.out).mono ?_); (rintro e w1 ⟨la, lc, rfl, hO, hB⟩; have hB_1 : Below W0.heap.size W0 w1 := (bl.next hB); have X_1 := X_0.next hB_1; have cX_1_0 : _ = some (Value.bool s) := X_1.cell 0; have cX_1_1 : _ = some (Value.slice a n c) := X_1.cell 1; have cX_1_2 : _ = some (Value.slice b m d) := X_1.cell 2; have R0_1 := R0_0.next hB_1; have cR0_1_0 : _ = some (Value.bool false) := R0_1.cell 0; have fR0_1_0 := R0_1.free 0; have cR0_1_1 : _ = some (Value.slice none 0 0) := R0_1.cell 1; have fR0_1_1 := R0_1.free 1; have cR0_1_2 : _ = some (Value.slice none 0 0) := R0_1.cell 2; have fR0_1_2 := R0_1.free 2; have ha_1 := ha_0.below hB_1; have hb_1 := hb_0.below hB_1; have hbel_1 := hbel_0.next hB_1; have hsz_1 := hB_1.size; clear X_0 cX_0_0 cX_0_1 cX_0_2 R0_0 cR0_0_0 fR0_0_0 cR0_0_1 fR0_0_1 cR0_0_2 fR0_0_2 ha_0 hb_0 hbel_0 hB_1; have O_1 := hO; have ltO := hO.ltB; clear hO; try clear hB)))
      | (go_at_call 92; ((with_reducible refine (lroom (hb_1.below bl) hmh.out).mono ?_); (rintro e w2 ⟨ma, mc, rfl, hO, hB⟩; have hB_2 : Below w1.heap.size w1 w2 := (bl.next hB); have X_2 := X_1.next hB_2; have cX_2_0 : _ = some (Value.bool s) := X_2.cell 0; have cX_2_1 : _ = some (Value.slice a n c) := X_2.cell 1; have cX_2_2 : _ = some (Value.slice b m d) := X_2.cell 2; have R0_2 := R0_1.next hB_2; have cR0_2_0 : _ = some (Value.bool false) := R0_2.cell 0; have fR0_2_0 := R0_2.free 0; have cR0_2_1 : _ = some (Value.slice none 0 0) := R0_2.cell 1; have fR0_2_1 := R0_2.free 1; have cR0_2_2 : _ = some (Value.slice none 0 0) := R0_2.cell 2; have fR0_2_2 := R0_2.free 2; have ha_2 := ha_1.below hB_2; have hb_2 := hb_1.below hB_2; have O_2 := O_1.below hB_2; have hbel_2 := hbel_1.next hB_2; have hsz_2 := hB_2.size; clear X_1 cX_1_0 cX_1_1 cX_1_2 R0_1 cR0_1_0 fR0_1_0 cR0_1_1 fR0_1_1 cR0_1_2 fR0_1_2 ha_1 hb_1 O_1 hbel_1 hB_2; have P_2 := hO; have ltP := hO.ltB; clear hO; try clear hB))))
  go_wp2
  refine bodyPost_ret (v := .agg #[.bool s, .slice la n1 lc, .slice ma m1 mc]) (by simp [results, Try.results24, go_sem, cR0_2_0, cR0_2_1, cR0_2_2]) rfl ?_
  exact ⟨la, lc, ma, mc, rfl, (O_2.lent7 hla.out).set3 (fun b o e => by have : W0.heap.size ≤ b := O_2.blk_ge e; omega) _ _ _, (P_2.lent7 hlb.out).set3 (fun b o e => by have : w1.heap.size ≤ b := P_2.blk_ge e; omega) _ _ _, Below.set3 hbel_2 (by omega) _ _ _⟩

set_option maxRecDepth 100000 in
set_option maxHeartbeats 4000000 in
theorem lkept {w : World} {a b a' b' : Option Addr} {n c m d n1 c1 m1 d1 : Nat} {l k : List Nat} {s : Bool} (h1 : Lent7 w a n c (l.take n)) (h2 : Lent7 w b m d (k.take m)) (h3 : Rd w a' n1 c1 l) (h4 : Rd w b' m1 d1 k) (hn : n ≤ n1) (hm : m ≤ m1) :
    Calls Try.prog 28 #[.agg #[.bool s, .slice a n c, .slice b m d], .agg #[.bool s, .slice a' n1 c1, .slice b' m1 d1]] w (fun e w' => e = .returned (.bool true) ∧ Below w.heap.size w w') := by
  have hent := ent2 w #[Value.bool s, Value.slice a n c, Value.slice b m d] #[Value.bool s, Value.slice a' n1 c1, Value.slice b' m1 d1] 29 29
  go_enter Try.func28, Try.ntmps28
  go_wp2_with fail
  generalize ((w.alloc (.cells #[Value.bool s, Value.slice a n c, Value.slice b m d] 29)).alloc (.cells #[Value.bool s, Value.slice a' n1 c1, Value.slice b' m1 d1] 29)) = W0 at hent ⊢
  obtain ⟨X_0, Y_0, hbel_0, hsz_0⟩ := hent
  have cX_0_0 : _ = some (Value.bool s) := X_0.cell 0
  have cX_0_1 : _ = some (Value.slice a n c) := X_0.cell 1
  have cX_0_2 : _ = some (Value.slice b m d) := X_0.cell 2
  have cY_0_0 : _ = some (Value.bool s) := Y_0.cell 0
  have cY_0_1 : _ = some (Value.slice a' n1 c1) := Y_0.cell 1
  have cY_0_2 : _ = some (Value.slice b' m1 d1) := Y_0.cell 2
  have h1_0 := h1.below hbel_0
  clear h1
  have h2_0 := h2.below hbel_0
  clear h2
  have h3_0 := h3.below hbel_0
  clear h3
  have h4_0 := h4.below hbel_0
  clear h4
  go_wp2_with fail
  refine (lstill h1_0.1 h3_0 rfl hn).mono ?_
  rintro e w1 ⟨rfl, hB⟩
  have hB_1 : Below W0.heap.size W0 w1 := (bl.next hB)
  have X_1 := X_0.next hB_1
  have cX_1_0 : _ = some (Value.bool s) := X_1.cell 0
  have cX_1_1 : _ = some (Value.slice a n c) := X_1.cell 1
  have cX_1_2 : _ = some (Value.slice b m d) := X_1.cell 2
  have Y_1 := Y_0.next hB_1
  have cY_1_0 : _ = some (Value.bool s) := Y_1.cell 0
  have cY_1_1 : _ = some (Value.slice a' n1 c1) := Y_1.cell 1
  have cY_1_2 : _ = some (Value.slice b' m1 d1) := Y_1.cell 2
  have h1_1 := h1_0.below hB_1
  have h2_1 := h2_0.below hB_1
  have h3_1 := h3_0.below hB_1
  have h4_1 := h4_0.below hB_1
  have hbel_1 := hbel_0.next hB_1
  have hsz_1 := hB_1.size
  clear X_0 cX_0_0 cX_0_1 cX_0_2 Y_0 cY_0_0 cY_0_1 cY_0_2 h1_0 h2_0 h3_0 h4_0 hbel_0 hB_1
  try clear hB
  go_wp2_with fail
  refine (lstill h2_1.1 h4_1 rfl hm).mono ?_
  rintro e w2 ⟨rfl, hB⟩
  have hB_2 : Below w1.heap.size w1 w2 := (bl.next hB)
  have X_2 := X_1.next hB_2
  have cX_2_0 : _ = some (Value.bool s) := X_2.cell 0
  have cX_2_1 : _ = some (Value.slice a n c) := X_2.cell 1
  have cX_2_2 : _ = some (Value.slice b m d) := X_2.cell 2
  have Y_2 := Y_1.next hB_2
  have cY_2_0 : _ = some (Value.bool s) := Y_2.cell 0
  have cY_2_1 : _ = some (Value.slice a' n1 c1) := Y_2.cell 1
  have cY_2_2 : _ = some (Value.slice b' m1 d1) := Y_2.cell 2
  have h1_2 := h1_1.below hB_2
  have h2_2 := h2_1.below hB_2
  have h3_2 := h3_1.below hB_2
  have h4_2 := h4_1.below hB_2
  have hbel_2 := hbel_1.next hB_2
  have hsz_2 := hB_2.size
  clear X_1 cX_1_0 cX_1_1 cX_1_2 Y_1 cY_1_0 cY_1_1 cY_1_2 h1_1 h2_1 h3_1 h4_1 hbel_1 hB_2
  try clear hB
  go_wp2
  go_ret
  exact ⟨rfl, hbel_2⟩

def bdN (k n : Int) : Int := if k.tmod (n + 1) < 0 then k.tmod (n + 1) + n + 1 else k.tmod (n + 1)
theorem tmod_bd (k : Int) {n : Int} (h : 0 ≤ n) : -(n + 1) < k.tmod (n + 1) ∧ k.tmod (n + 1) < n + 1 := by
  constructor
  · have := Int.lt_tmod_of_pos k (show 0 < n + 1 by omega); omega
  · exact Int.tmod_lt_of_pos k (by omega)
theorem bdN_bd (k : Int) {n : Int} (h : 0 ≤ n) : 0 ≤ bdN k n ∧ bdN k n ≤ n := by
  have := tmod_bd k h
  unfold bdN
  split <;> omega
set_option maxRecDepth 100000 in
set_option maxHeartbeats 2000000 in
theorem lbound {w : World} (k n : Int) (h1 : -9223372036854775808 ≤ k) (h2 : k ≤ 9223372036854775807) (h0 : 0 ≤ n) (hn : n ≤ 1000000) :
    Calls Try.prog 25 #[.int .i64 k, .int .i64 n] w (fun e w' => e = .returned (.int .i64 (bdN k n)) ∧ Below w.heap.size w w') := by
  have hb := tmod_bd k h0
  have hB : bdN k n = if k.tmod (n + 1) < 0 then k.tmod (n + 1) + n + 1 else k.tmod (n + 1) := rfl
  obtain ⟨B, hB0⟩ : ∃ B, bdN k n = B := ⟨_, rfl⟩
  rw [hB0] at hB ⊢
  obtain ⟨r, hr⟩ : ∃ r, k.tmod (n + 1) = r := ⟨_, rfl⟩
  rw [hr] at hb hB
  obtain ⟨hb1, hb2⟩ := hb
  have hne : (n + 1 == (0 : Int)) = false := by simp; omega
  have hne2 : ¬ n + 1 = 0 := by omega
  clear hB0
  by_cases hneg : r < 0
  · rw [if_pos hneg] at hB
    have hBh := hid hB
    clear hB
    go_enter Try.func25, Try.ntmps25
    go_wp2
    go_ret
    exact ⟨by rw [hBh.out]; rfl, Below.refl _ _⟩
  · rw [if_neg hneg] at hB
    have hBh := hid hB
    clear hB
    go_enter Try.func25, Try.ntmps25
    go_wp2
    go_ret
    exact ⟨by rw [hBh.out]; rfl, Below.refl _ _⟩

end Go.Proofs.Ytbodlkfhmapngaa
