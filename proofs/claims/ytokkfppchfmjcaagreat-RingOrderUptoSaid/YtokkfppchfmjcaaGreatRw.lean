/- WALKS OF A RING OF TEXTS, 1: its sums and products of two, its nought and one (for RingOrder). -/
import Derived.Test.YtokkfppchfmjcaaGreatMb
import Derived.Deep.RegionHeld3
import Derived.Test.YtokkfppchfmjcaaGreatPg
namespace Go.Proofs.YtokkfppchfmjcaaGreat
set_option linter.unusedVariables false
set_option linter.unusedSimpArgs false
open Go.ChangeShapes Go.WideShapes Go.ChangeAt Go.RowKit Go.NatP

set_option maxRecDepth 100000 in
theorem wadd {w : World} {a b : ByteArray} (h : a.size + b.size ≤ 1000000) : Calls Tryz.prog 191 #[.agg #[], .string a, .string b] w fun e w' => e = .returned (.string (wf ⟨#[43]⟩ a b)) ∧ Below w.heap.size w w' := by
  go_enter Tryz.func191, Tryz.ntmps191
  go_wp2
  go_ret
  exact ⟨rfl, (Below.refl _ _).alloc (Nat.le_refl _) _⟩

set_option maxRecDepth 100000 in
theorem wmul {w : World} {a b : ByteArray} (h : a.size + b.size ≤ 1000000) : Calls Tryz.prog 192 #[.agg #[], .string a, .string b] w fun e w' => e = .returned (.string (wf ⟨#[42]⟩ a b)) ∧ Below w.heap.size w w' := by
  go_enter Tryz.func192, Tryz.ntmps192
  go_wp2
  go_ret
  exact ⟨rfl, (Below.refl _ _).alloc (Nat.le_refl _) _⟩

set_option maxRecDepth 100000 in
theorem wzero {w : World} : Calls Tryz.prog 194 #[.agg #[]] w fun e w' => e = .returned (.string ⟨#[48]⟩) ∧ Below w.heap.size w w' := by
  go_enter Tryz.func194, Tryz.ntmps194
  go_wp2
  go_ret
  exact ⟨rfl, (Below.refl _ _).alloc (Nat.le_refl _) _⟩

set_option maxRecDepth 100000 in
theorem wone {w : World} : Calls Tryz.prog 193 #[.agg #[]] w fun e w' => e = .returned (.string ⟨#[49]⟩) ∧ Below w.heap.size w w' := by
  go_enter Tryz.func193, Tryz.ntmps193
  go_wp2
  go_ret
  exact ⟨rfl, (Below.refl _ _).alloc (Nat.le_refl _) _⟩

theorem below_drewT {W w' : World} (h : Below W.drew.heap.size W.drew w') : Below W.heap.size W w' := ⟨h.os, h.tape, h.output, h.size, h.block⟩

/-- a list of texts that can be read -/
def RdT (W : World) (a : Option Addr) (n c : Nat) (l : List ByteArray) : Prop :=
  l.length = n ∧ n ≤ c ∧ c ≤ 9223372036854775807 ∧ ∀ i, i < n → ∃ b o x, a = some ⟨b, o, none⟩ ∧ W.cell? ⟨b, o + i, none⟩ = some (.string x) ∧ l[i]? = some x
theorem RdT.below {W W' : World} {a : Option Addr} {n c : Nat} {l : List ByteArray} (h : RdT W a n c l) (hB : Below W.heap.size W W') : RdT W' a n c l :=
  ⟨h.1, h.2.1, h.2.2.1, fun i hi => by
    obtain ⟨b, o, x, e, hc, hl⟩ := h.2.2.2 i hi
    exact ⟨b, o, x, e, (hB.cell (p := ⟨b, o + i, none⟩) (World.block_lt_of_cell? _ _ hc)).trans hc, hl⟩⟩
set_option maxRecDepth 100000 in
set_option maxHeartbeats 2000000 in
theorem rwords {w : World} {s g : ByteArray} {a : Option Addr} {n c : Nat} {l : List ByteArray} (hl : RdT w a n c l) (hn : n ≤ 2000) (hg : g.size = 1) (hs : s.size ≤ 10) (hx : ∀ x ∈ l, x.size ≤ 20) :
    Calls Tryz.prog 11 #[.string s, .string g, .slice a n c] w fun e w' => e = .returned (.string (wds g s l)) ∧ Below w.heap.size w w' := by
  have hlh := hid hl
  have hxh := hid hx
  have hgh := hid hg
  have hb := hl.2.1
  have hb2 := hl.2.2.1
  clear hl hx hg
  go_enter Tryz.func11, Tryz.ntmps11
  go_wp2_with fail
  go_loopw [7, 8] (fun v i wr => ∃ k : Nat, k ≤ n ∧ i = .int .i64 k ∧ v = .string (wds g s (l.take k)) ∧ wr = w) (fun _ i _ => n - (intOf i).toNat)
  case atStart => exact ⟨0, by omega, rfl, rfl, rfl⟩
  case round =>
    obtain ⟨k, hk, rfl, rfl, hw⟩ := hrel
    subst hw
    have hz : (wds g s (l.take k)).size ≤ 60000 := by
      have h1 := wds_size hgh.out (l.take k) (K := 20) (fun y hy => hxh.out y (List.mem_of_mem_take hy)) s
      have h2 : (l.take k).length ≤ n := by rw [List.length_take]; omega
      have h3 := Nat.mul_le_mul_right (20 + 3) h2
      omega
    by_cases hlt : k < n
    · obtain ⟨b, o, x, rfl, hc, hxl⟩ := hlh.out.2.2.2 k hlt
      have hy : wds g s (l.take (k + 1)) = wf g (wds g s (l.take k)) x := wds_take hxl
      generalize hS : wds g s (l.take k) = S at *
      have hyh := hid hy
      have hxs : x.size ≤ 20 := hxh.out x (List.mem_of_getElem? hxl)
      have hgs : g.size ≤ 1 := by have := hgh.out; omega
      clear hS hy hxl
      go_wp2
      go_roundw
      case rel => exact ⟨k + 1, by omega, by go_num, by rw [hyh.out]; rfl, by first | rfl | trivial⟩
      case measure => simp [intOf]; omega
    · obtain rfl : k = n := by omega
      have hS : wds g s (l.take k) = wds g s l := by rw [List.take_of_length_le (by have := hlh.out.1; omega)]
      rw [hS] at hz ⊢
      clear hS
      go_wp2
      go_ret
      exact ⟨rfl, Below.refl _ _⟩

set_option maxRecDepth 100000 in
set_option maxHeartbeats 4000000 in
theorem kfold_wadd {w : World} {s : ByteArray} {a : Option Addr} {n c : Nat} {l : List ByteArray} (hl : RdT w a n c l) (hn : n ≤ 2000) (hs : s.size ≤ 10) (hx : ∀ x ∈ l, x.size ≤ 20) :
    Calls Tryz.prog 40 #[.string s, .slice a n c, .func (.method "Add") #[.iface 26 (.agg #[])] #[]] w fun e w' => e = .returned (.string (wds ⟨#[43]⟩ s l)) ∧ Below w.heap.size w w' := by
  have hm : ∀ w : World, (method 321 26 (.agg #[]) "Add").run Tryz.prog w = .ok (191, .agg #[]) w := fun _ => by kernel_rfl
  have hlh := hid hl
  have hxh := hid hx
  have hb := hl.2.1
  have hb2 := hl.2.2.1
  clear hl hx
  go_enter Tryz.func40, Tryz.ntmps40
  go_wp2_with fail
  go_loopw [0, 8, 11] (fun v x8 i wr => ∃ k : Nat, k ≤ n ∧ i = .int .i64 k ∧ v = .string (wds ⟨#[43]⟩ s (l.take k)) ∧ Below w.heap.size w wr) (fun _ _ i _ => n - (intOf i).toNat)
  case atStart => exact ⟨0, by omega, rfl, rfl, Below.refl _ _⟩
  case round =>
    obtain ⟨k, hk, rfl, rfl, hB⟩ := hrel
    have hz : (wds ⟨#[43]⟩ s (l.take k)).size ≤ 60000 := by
      have h1 := wds_size (sg := ⟨#[43]⟩) rfl (l.take k) (K := 20) (fun y hy => hxh.out y (List.mem_of_mem_take hy)) s
      have h2 : (l.take k).length ≤ n := by rw [List.length_take]; omega
      have h3 := Nat.mul_le_mul_right (20 + 3) h2
      omega
    by_cases hlt : k < n
    · obtain ⟨b, o, x, rfl, hc, hxl⟩ := (hlh.out.below hB).2.2.2 k hlt
      have hy : wds ⟨#[43]⟩ s (l.take (k + 1)) = wf ⟨#[43]⟩ (wds ⟨#[43]⟩ s (l.take k)) x := wds_take hxl
      generalize hS : wds ⟨#[43]⟩ s (l.take k) = S at *
      have hyh := hid hy
      have hxs : x.size ≤ 20 := hxh.out x (List.mem_of_getElem? hxl)
      have HC := hid (fun w => wadd (w := w) (a := S) (b := x) (by omega))
      clear hS hy hxl
      go_wp2_with fail
      refine (HC.out _).mono ?_
      rintro e w2 ⟨rfl, hB2⟩
      have hB3 := hB.next hB2
      go_wp2
      go_roundw
      case rel => exact ⟨k + 1, by omega, by go_num, by rw [hyh.out], hB3⟩
      case measure => simp [intOf]; omega
    · obtain rfl : k = n := by omega
      have hS : wds ⟨#[43]⟩ s (l.take k) = wds ⟨#[43]⟩ s l := by rw [List.take_of_length_le (by have := hlh.out.1; omega)]
      rw [hS] at hz ⊢
      clear hS
      go_wp2
      go_ret
      exact ⟨rfl, hB⟩

set_option maxRecDepth 100000 in
set_option maxHeartbeats 4000000 in
theorem kfold_wmul {w : World} {s : ByteArray} {a : Option Addr} {n c : Nat} {l : List ByteArray} (hl : RdT w a n c l) (hn : n ≤ 2000) (hs : s.size ≤ 10) (hx : ∀ x ∈ l, x.size ≤ 20) :
    Calls Tryz.prog 40 #[.string s, .slice a n c, .func (.method "Mul") #[.iface 26 (.agg #[])] #[]] w fun e w' => e = .returned (.string (wds ⟨#[42]⟩ s l)) ∧ Below w.heap.size w w' := by
  have hm : ∀ w : World, (method 321 26 (.agg #[]) "Mul").run Tryz.prog w = .ok (192, .agg #[]) w := fun _ => by kernel_rfl
  have hlh := hid hl
  have hxh := hid hx
  have hb := hl.2.1
  have hb2 := hl.2.2.1
  clear hl hx
  go_enter Tryz.func40, Tryz.ntmps40
  go_wp2_with fail
  go_loopw [0, 8, 11] (fun v x8 i wr => ∃ k : Nat, k ≤ n ∧ i = .int .i64 k ∧ v = .string (wds ⟨#[42]⟩ s (l.take k)) ∧ Below w.heap.size w wr) (fun _ _ i _ => n - (intOf i).toNat)
  case atStart => exact ⟨0, by omega, rfl, rfl, Below.refl _ _⟩
  case round =>
    obtain ⟨k, hk, rfl, rfl, hB⟩ := hrel
    have hz : (wds ⟨#[42]⟩ s (l.take k)).size ≤ 60000 := by
      have h1 := wds_size (sg := ⟨#[42]⟩) rfl (l.take k) (K := 20) (fun y hy => hxh.out y (List.mem_of_mem_take hy)) s
      have h2 : (l.take k).length ≤ n := by rw [List.length_take]; omega
      have h3 := Nat.mul_le_mul_right (20 + 3) h2
      omega
    by_cases hlt : k < n
    · obtain ⟨b, o, x, rfl, hc, hxl⟩ := (hlh.out.below hB).2.2.2 k hlt
      have hy : wds ⟨#[42]⟩ s (l.take (k + 1)) = wf ⟨#[42]⟩ (wds ⟨#[42]⟩ s (l.take k)) x := wds_take hxl
      generalize hS : wds ⟨#[42]⟩ s (l.take k) = S at *
      have hyh := hid hy
      have hxs : x.size ≤ 20 := hxh.out x (List.mem_of_getElem? hxl)
      have HC := hid (fun w => wmul (w := w) (a := S) (b := x) (by omega))
      clear hS hy hxl
      go_wp2_with fail
      refine (HC.out _).mono ?_
      rintro e w2 ⟨rfl, hB2⟩
      have hB3 := hB.next hB2
      go_wp2
      go_roundw
      case rel => exact ⟨k + 1, by omega, by go_num, by rw [hyh.out], hB3⟩
      case measure => simp [intOf]; omega
    · obtain rfl : k = n := by omega
      have hS : wds ⟨#[42]⟩ s (l.take k) = wds ⟨#[42]⟩ s l := by rw [List.take_of_length_le (by have := hlh.out.1; omega)]
      rw [hS] at hz ⊢
      clear hS
      go_wp2
      go_ret
      exact ⟨rfl, hB⟩

set_option maxRecDepth 100000 in
set_option maxHeartbeats 4000000 in
theorem ksum_w {w : World} {a : Option Addr} {n c : Nat} {l : List ByteArray} (hl : RdT w a n c l) (hn : n ≤ 2000) (hx : ∀ x ∈ l, x.size ≤ 20) :
    Calls Tryz.prog 8 #[.iface 26 (.agg #[]), .slice a n c] w fun e w' => e = .returned (.string (wds ⟨#[43]⟩ ⟨#[48]⟩ l)) ∧ Below w.heap.size w w' := by
  have hm : ∀ w : World, (method 321 26 (.agg #[]) "Zero").run Tryz.prog w = .ok (194, .agg #[]) w := fun _ => by kernel_rfl
  have HF := hid (fun W (h : Below w.heap.size w W) => kfold_wadd (s := ⟨#[48]⟩) (hl.below h) hn (by decide) hx)
  clear hl hn hx
  have hb0 : Below w.heap.size w w := Below.refl _ _
  go_enter Tryz.func8, Tryz.ntmps8
  go_wp2_with fail
  go_region_held3 (fun _ => True)
    (first | exact trivial | go_keep)
    (first
      | (go_at_call 194; ((with_reducible refine wzero.mono ?_); (rintro e w1 ⟨rfl, hB1⟩; have hb1 : Below w.heap.size w w1 := (by first | exact hB1 | exact below_drewT hB1))))
      | (go_at_call 40; ((with_reducible refine (HF.out _ (by first | exact hb1 | exact hb1.drew)).mono ?_); (rintro e w2 ⟨rfl, hB2⟩; have hb2 : Below w.heap.size w w2 := (by first | exact hb1.next hB2 | exact hb1.next (below_drewT hB2))))))
  all_goals (go_wp2; go_ret; exact ⟨rfl, hb2⟩)
set_option maxRecDepth 100000 in
theorem ksum_w_nil {w : World} {a : Option Addr} {n c : Nat} : Calls Tryz.prog 8 #[Value.nilIface, .slice a n c] w fun e w' => e = .returned (.string ⟨#[]⟩) ∧ Below w.heap.size w w' := by
  go_enter Tryz.func8, Tryz.ntmps8
  go_wp2
  go_ret
  exact ⟨rfl, (Below.refl _ _).alloc (Nat.le_refl _) _⟩

set_option maxRecDepth 100000 in
set_option maxHeartbeats 4000000 in
theorem kprod_w {w : World} {a : Option Addr} {n c : Nat} {l : List ByteArray} (hl : RdT w a n c l) (hn : n ≤ 2000) (hx : ∀ x ∈ l, x.size ≤ 20) :
    Calls Tryz.prog 9 #[.iface 26 (.agg #[]), .slice a n c] w fun e w' => e = .returned (.string (wds ⟨#[42]⟩ ⟨#[49]⟩ l)) ∧ Below w.heap.size w w' := by
  have hm : ∀ w : World, (method 321 26 (.agg #[]) "One").run Tryz.prog w = .ok (193, .agg #[]) w := fun _ => by kernel_rfl
  have HF := hid (fun W (h : Below w.heap.size w W) => kfold_wmul (s := ⟨#[49]⟩) (hl.below h) hn (by decide) hx)
  clear hl hn hx
  have hb0 : Below w.heap.size w w := Below.refl _ _
  go_enter Tryz.func9, Tryz.ntmps9
  go_wp2_with fail
  go_region_held3 (fun _ => True)
    (first | exact trivial | go_keep)
    (first
      | (go_at_call 193; ((with_reducible refine wone.mono ?_); (rintro e w1 ⟨rfl, hB1⟩; have hb1 : Below w.heap.size w w1 := (by first | exact hB1 | exact below_drewT hB1))))
      | (go_at_call 40; ((with_reducible refine (HF.out _ (by first | exact hb1 | exact hb1.drew)).mono ?_); (rintro e w2 ⟨rfl, hB2⟩; have hb2 : Below w.heap.size w w2 := (by first | exact hb1.next hB2 | exact hb1.next (below_drewT hB2))))))
  all_goals (go_wp2; go_ret; exact ⟨rfl, hb2⟩)
set_option maxRecDepth 100000 in
theorem kprod_w_nil {w : World} {a : Option Addr} {n c : Nat} : Calls Tryz.prog 9 #[Value.nilIface, .slice a n c] w fun e w' => e = .returned (.string ⟨#[]⟩) ∧ Below w.heap.size w w' := by
  go_enter Tryz.func9, Tryz.ntmps9
  go_wp2
  go_ret
  exact ⟨rfl, (Below.refl _ _).alloc (Nat.le_refl _) _⟩

set_option maxRecDepth 100000 in
set_option maxHeartbeats 4000000 in
theorem kpower_w {w : World} {a : ByteArray} {n : Nat} (ha : a.size ≤ 20) (hn : n ≤ 1024) :
    Calls Tryz.prog 10 #[.iface 26 (.agg #[]), .string a, .int .i64 (n : Int)] w fun e w' => e = .returned (.tuple #[.string (wds ⟨#[42]⟩ ⟨#[49]⟩ (List.replicate n a)), .int .i64 0]) ∧ Below w.heap.size w w' := by
  have hm : ∀ w : World, (method 321 26 (.agg #[]) "Mul").run Tryz.prog w = .ok (192, .agg #[]) w := fun _ => by kernel_rfl
  have hm1 : ∀ w : World, (method 321 26 (.agg #[]) "One").run Tryz.prog w = .ok (193, .agg #[]) w := fun _ => by kernel_rfl
  have hn0 : (0 : Int) ≤ (n : Int) := by omega
  have hn1 : (n : Int) ≤ 1024 := by omega
  go_enter Tryz.func10, Tryz.ntmps10
  go_wp2_with fail
  refine wone.mono ?_
  rintro e w1 ⟨rfl, hB1⟩
  go_wp2_with fail
  go_loopw [8, 28] (fun v i wr => ∃ k : Nat, k ≤ n ∧ i = .int .i64 k ∧ v = .string (wds ⟨#[42]⟩ ⟨#[49]⟩ (List.replicate k a)) ∧ Below w.heap.size w wr) (fun _ i _ => n - (intOf i).toNat)
  case atStart => exact ⟨0, by omega, rfl, rfl, hB1⟩
  case round =>
    clear hB1
    obtain ⟨k, hk, rfl, rfl, hB⟩ := hrel
    have hz : (wds ⟨#[42]⟩ ⟨#[49]⟩ (List.replicate k a)).size ≤ 60000 := by
      have h1 := wds_size (sg := ⟨#[42]⟩) rfl (List.replicate k a) (K := 20) (fun y hy => by rw [List.eq_of_mem_replicate hy]; exact ha) ⟨#[49]⟩
      rw [List.length_replicate] at h1
      have h3 := Nat.mul_le_mul_right (20 + 3) (show k ≤ 1024 by omega)
      have h4 : (⟨#[49]⟩ : ByteArray).size = 1 := rfl
      omega
    by_cases hlt : k < n
    · have hy := wds_rep_succ ⟨#[42]⟩ ⟨#[49]⟩ a k
      generalize hS : wds ⟨#[42]⟩ ⟨#[49]⟩ (List.replicate k a) = S at *
      have hyh := hid hy
      have HC := hid (fun w => wmul (w := w) (a := S) (b := a) (by omega))
      clear hS hy
      go_wp2_with fail
      refine (HC.out _).mono ?_
      rintro e w2 ⟨rfl, hB2⟩
      have hB3 := hB.next hB2
      go_wp2
      go_roundw
      case rel => exact ⟨k + 1, by omega, by go_num, by rw [hyh.out], hB3⟩
      case measure => simp [intOf]; omega
    · obtain rfl : k = n := by omega
      go_wp2
      go_ret2
      exact ⟨rfl, hB⟩
set_option maxRecDepth 100000 in
theorem kpower_w_nil {w : World} {a : ByteArray} {n : Int} : Calls Tryz.prog 10 #[Value.nilIface, .string a, .int .i64 n] w fun e w' => e = .returned (.tuple #[.string ⟨#[]⟩, .int .i64 2]) ∧ Below w.heap.size w w' := by
  go_enter Tryz.func10, Tryz.ntmps10
  go_wp2
  go_ret2
  exact ⟨rfl, (Below.refl _ _).alloc (Nat.le_refl _) _⟩
set_option maxRecDepth 100000 in
theorem kpower_w_range {w : World} {a : ByteArray} {n : Int} (h : n < 0 ∨ 1024 < n) : Calls Tryz.prog 10 #[.iface 26 (.agg #[]), .string a, .int .i64 n] w fun e w' => e = .returned (.tuple #[.string ⟨#[]⟩, .int .i64 3]) ∧ Below w.heap.size w w' := by
  rcases h with h | h
  · have d1 : decide (n < 0) = true := decide_eq_true h
    go_enter Tryz.func10, Tryz.ntmps10
    go_wp2
    go_ret2
    exact ⟨rfl, (Below.refl _ _).alloc (Nat.le_refl _) _⟩
  · have d1 : decide (n < 0) = false := decide_eq_false (by omega)
    have d2 : decide (1024 < n) = true := decide_eq_true h
    go_enter Tryz.func10, Tryz.ntmps10
    go_wp2
    go_ret2
    exact ⟨rfl, (Below.refl _ _).alloc (Nat.le_refl _) _⟩

end Go.Proofs.YtokkfppchfmjcaaGreat
