/- WALKS, 3: what the statements make and look at: cut, roomy, kept; Of and Uint. -/
import Derived.Test.YtknpacegaclcgaaWb
namespace Go.Proofs.Ytknpacegaclcgaa
set_option linter.unusedVariables false
open Go.ChangeShapes Go.WideShapes Go.ChangeAt Go.RowKit Go.NatP

/-- The slice itself, cut at k. -/
def RetCut (w : World) (a : Option Addr) (c : Nat) (l : List Nat) (k : Nat) (e : Ending) (w' : World) : Prop :=
  ∃ n, e = .returned (.slice a n c) ∧ w = w' ∧ n ≤ k ∧ Rd w a n c (l.take k)

set_option maxHeartbeats 400000 in
theorem cut_any {w : World} {a : Option Addr} {n c : Nat} {l : List Nat} (hR : Rd w a n c l) (k : Int) (h0 : 0 ≤ k) (h1 : k ≤ 1000000000) :
    Calls Try.prog 21 #[.slice a n c, .int .i64 k] w (RetCut w a c l k.toNat) := by
  obtain ⟨k, rfl⟩ := Int.eq_ofNat_of_zero_le h0
  have hb := hR.bnd
  by_cases h : k < n
  · obtain ⟨b, o, rfl⟩ := hR.head (by omega)
    have hP := hR.pre (k := k) (by omega)
    go_enter Try.func21, Try.ntmps21
    go_wp2
    go_ret
    exact ⟨k, rfl, rfl, by omega, by simpa using hP⟩
  · go_enter Try.func21, Try.ntmps21
    go_wp2
    go_ret
    exact ⟨n, rfl, rfl, by omega, by
      have := hR.len
      rw [Int.toNat_natCast, List.take_of_length_le (by omega)]
      exact hR⟩

/-- A copy with five marked limbs of room behind. -/
def RetRoom (w : World) (n : Nat) (l : List Nat) (e : Ending) (w' : World) : Prop :=
  ∃ a c, e = .returned (.slice a n c) ∧ Own w.heap.size w' a (n + 5) c (l ++ List.replicate 5 77) ∧ Below w.heap.size w w'

theorem repl_snoc (l : List Nat) (k : Nat) : l ++ List.replicate k 77 ++ [77] = l ++ List.replicate (k + 1) 77 := by
  rw [List.append_assoc, ← List.replicate_succ']

theorem own_ne {B : Nat} {w wB : World} {a : Option Addr} {n c : Nat} {l : List Nat} (hO : Own B w a n c l) (hb : B ≤ wB.heap.size) : ∀ k, k < B → ¬ (a = some ⟨k, 0, none⟩) := by
  intro j hj e
  have := hO.cases
  rcases this with ⟨h, _⟩ | ⟨g, h, h2⟩
  · rw [h] at e; cases e
  · rw [h] at e; cases e; omega

set_option maxHeartbeats 1000000 in
theorem roomy_any {w : World} {a : Option Addr} {n c : Nat} {l : List Nat} (hR : Rd w a n c l) (hn : n ≤ 268435456) :
    Calls Try.prog 22 #[.slice a n c] w (RetRoom w n l) := by
  have hb := hR.bnd
  go_enter Try.func22, Try.ntmps22
  go_wp2_with (at_builtin; refine wpList_appR rfl _ _ rfl rfl (own_nil w.heap.size w) rfl hR (Nat.le_refl _) (by omega) ?_; intro a1 c1 w1 hO1 hK1 _)
  rw [Nat.zero_add, List.nil_append] at hO1
  have hB1 : Below w.heap.size w w1 := (Below.refl _ _).kp hK1 (Nat.le_refl _) (by simp)
  have hn0 : (0 + n) = n := Nat.zero_add n
  go_loopw [3, 4] (fun v i wr => ∃ (k m c1 : Nat) (a1 : Option Addr), k ≤ 5 ∧ i = .int .i64 k ∧ v = .slice a1 m c1 ∧ Hid (m = n + k) ∧ Own w.heap.size wr a1 m c1 (l ++ List.replicate k 77) ∧ Below w.heap.size w wr) (fun _ i _ => 5 - (intOf i).toNat)
  case atStart => exact ⟨0, n, c1, a1, by omega, rfl, by simp, rfl, by simpa using hO1, hB1⟩
  case round =>
    clear hn0 hO1 hK1 hB1
    obtain ⟨k, m, c1, a1, hk, rfl, rfl, hm, hO, hB⟩ := hrel
    have hsz := hB.size
    have hcb := hO.bnd
    have hm1 : m ≤ n + k := by have := hm.out; omega
    have hm2 : n + k ≤ m := by have := hm.out; omega
    by_cases hlt : k < 5
    · go_wp2_with (at_builtin; refine wpList_app1 (y := 77) rfl _ _ rfl rfl (hO.alloc _) _ 1 rfl (by omega) (by go_simp) (by simp; omega) (by omega) ?_; intro a2 c2 w2 hO2 hK2 _)
      go_roundw
      case rel => exact ⟨k + 1, m + 1, c2, a2, by omega, by go_num, rfl, by show m + 1 = n + (k + 1); omega, by rw [← repl_snoc]; exact hO2, (hB.alloc hsz _).kp hK2 (by simp; omega) (own_ne hO hsz)⟩
      case measure => simp [intOf]; omega
    · obtain rfl : k = 5 := by omega
      rcases hO.cases with ⟨_, h, _⟩ | ⟨g, rfl, _⟩
      · omega
      · go_wp2
        go_ret
        exact ⟨_, c1, rfl, by rw [← hm.out]; exact hO, hB⟩

theorem room_lo (l : List Nat) (r : List Nat) (k : Nat) (h : k < l.length) : (l ++ r).getD k 0 = l.getD k 0 := by
  simp [List.getD_eq_getElem?_getD, List.getElem?_append_left h]
theorem room_hi (l : List Nat) (k : Nat) (h : l.length ≤ k) (h2 : k < l.length + 5) : (l ++ List.replicate 5 77).getD k 0 = 77 := by
  rw [List.getD_eq_getElem?_getD, List.getElem?_append_right h, List.getElem?_replicate, if_pos (by omega)]
  rfl

set_option maxRecDepth 100000 in
set_option maxHeartbeats 1000000 in
theorem kept_any {w : World} {a b : Option Addr} {n c d : Nat} {l : List Nat} (hm : Rd w a (n + 5) c (l ++ List.replicate 5 77)) (hl : Rd w b n d l) :
    Calls Try.prog 25 #[.slice a n c, .slice b n d] w (RetB w true) := by
  have hb1 := hm.bnd
  have hb2 := hl.bnd
  obtain ⟨ba, oa, rfl⟩ := hm.head (by omega)
  have hlen := hl.len
  have hLo : Hid (∀ k, k < n → w.cell? ⟨ba, oa + k, none⟩ = some (.int .u32 (l.getD k 0 : Nat))) := fun k hk => by
    rw [hm.cell (by omega), room_lo _ _ _ (by omega)]
  have hHi : Hid (∀ k, n ≤ k → k < n + 5 → w.cell? ⟨ba, oa + k, none⟩ = some (.int .u32 77)) := fun k hk hk2 => by
    rw [hm.cell (by omega), room_hi _ _ (by omega) (by omega)]; rfl
  clear hm hlen
  go_enter Try.func25, Try.ntmps25
  go_wp2
  go_loopw [6] (fun i wr => ∃ k q : Nat, k ≤ n + 5 ∧ i = .int .i64 k ∧ wr = w.drewN q) (fun i _ => n + 5 - (intOf i).toNat)
  case atStart => exact ⟨0, 0, by omega, rfl, rfl⟩
  case round =>
    obtain ⟨k, q, hk, rfl, rfl⟩ := hrel
    by_cases hlt : k < n
    · obtain ⟨bb, ob, rfl, hcb⟩ := hl.get hlt
      have hca := hLo.out k hlt
      generalize ((l.getD k 0 : Nat) : Int) = x at *
      have hxx : (x != x) = false := by simp
      have hd : decide (n ≤ k) = false := by simp; omega
      go_wp2
      go_quiet (fail)
      go_wp2
      go_roundw
      case rel => exact ⟨k + 1, _, by omega, by go_num, by first | rfl | rw [World.drewN_drewN]⟩
      case measure => simp [intOf]; omega
    · by_cases hlt5 : k < n + 5
      · have hca := hHi.out k (by omega) hlt5
        have hd : decide (k < n) = false := by simp; omega
        have hd1 : decide (n ≤ k) = true := by simp; omega
        have hlt5' : (k : Int) < (n : Int) + 5 := by omega
        go_wp2
        go_quiet (fail)
        go_wp2
        go_roundw
        case rel => exact ⟨k + 1, _, by omega, by go_num, by first | rfl | rw [World.drewN_drewN]⟩
        case measure => simp [intOf]; omega
      · have hnn : ((n : Int) == (n : Int)) = true := by simp
        go_wp2
        go_ret
        exact ⟨rfl, _, rfl⟩

end Go.Proofs.Ytknpacegaclcgaa
