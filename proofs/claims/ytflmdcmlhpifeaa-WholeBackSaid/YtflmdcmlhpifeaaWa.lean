/- WALKS, 1: trim, own, Clone, Norm of the program; Norm of the reference. -/
import Derived.Test.YtflmdcmlhpifeaaMb
import Derived.Outline
namespace Go.Proofs.Ytflmdcmlhpifeaa
set_option linter.unusedVariables false
open Go.ChangeShapes Go.WideShapes Go.ChangeAt Go.RowKit Go.NatP

theorem Rd.pre {w : World} {a : Option Addr} {n c k : Nat} {l : List Nat} (h : Rd w a n c l) (hk : k ≤ n) : Rd w a k c (l.take k) := by
  refine ⟨by rw [List.length_take, h.1]; omega, h.2.1.take k, by have := h.bnd; omega, h.2.2.2.1, fun i hi => ?_⟩
  obtain ⟨b, o, e, hc⟩ := h.get (i := i) (by omega)
  exact ⟨b, o, e, by rw [getD_take _ _ _ hi]; exact hc⟩
theorem Rd.trim {w : World} {a : Option Addr} {n c k : Nat} {l : List Nat} (h : Rd w a n c l) (hk : (lm (val l)).length = k) : Rd w a k c (lm (val l)) ∧ k ≤ n := by
  have e := take_tlen_all h.lim
  have h1 := tlen_eq h.lim
  have h2 := tlen_le l l.length
  have hkn : k ≤ n := by rw [← h.len]; omega
  have := h.pre hkn
  rw [← hk, ← h1, e, h1, hk] at this
  exact ⟨this, hkn⟩
theorem Own.trim {B : Nat} {w : World} {a : Option Addr} {n c k : Nat} {l : List Nat} (h : Own B w a n c l) (hk : (lm (val l)).length = k) : Own B w a k c (lm (val l)) ∧ k ≤ n := by
  have e := take_tlen_all h.lim
  have h1 := tlen_eq h.lim
  have h2 := tlen_le l l.length
  have hkn : k ≤ n := by rw [← h.len]; omega
  have := h.take hkn
  rw [← hk, ← h1, e, h1, hk] at this
  exact ⟨this, hkn⟩

def lenV : Value → Nat | .slice _ n _ => n | _ => 0

theorem tlen_step {l : List Nat} {k n : Nat} (hk : 0 < k) (h : l.getD (k - 1) 0 = 0) (ht : tlen l k = n) : tlen l (k - 1) = n := by
  obtain ⟨j, rfl⟩ : ∃ j, k = j + 1 := ⟨k - 1, by omega⟩
  rw [tlen_zero (by simpa using h)] at ht
  simpa using ht
theorem tlen_end {l : List Nat} {k n : Nat} (hk : 0 < k) (h : l.getD (k - 1) 0 ≠ 0) (ht : tlen l k = n) : k = n := by
  obtain ⟨j, rfl⟩ : ∃ j, k = j + 1 := ⟨k - 1, by omega⟩
  rw [tlen_stop (by simpa using h)] at ht
  exact ht

set_option maxHeartbeats 400000 in
theorem trim_any {w : World} {a : Option Addr} {n c k : Nat} {l : List Nat} (hR : Rd w a n c l) (hk : (lm (val l)).length = k) :
    Calls Try.prog 69 #[.slice a n c] w fun e w' => e = .returned (.slice a k c) ∧ w = w' := by
  have hb := hR.bnd
  have hT : Hid (tlen l n = k) := by rw [← hR.len, tlen_eq hR.lim]; exact hk
  clear hk
  go_enter Try.func69, Try.ntmps69
  go_wp2
  go_loop [0] (fun t => ∃ j : Nat, j ≤ n ∧ t = .slice a j c ∧ Hid (tlen l j = k)) (fun t => lenV t)
  case atStart => exact ⟨n, Nat.le_refl _, rfl, hT⟩
  case round =>
    clear hT
    obtain ⟨j, hj, rfl, hT⟩ := hrel
    by_cases h0 : j = 0
    · subst h0
      obtain rfl : 0 = k := by have := hT.out; simpa [tlen] using this
      go_wp2
      go_ret
      exact ⟨rfl, rfl⟩
    · have hj0 : 0 < j := by omega
      obtain ⟨b, o, rfl, hc⟩ := hR.get (i := j - 1) (by omega)
      by_cases hz : l.getD (j-1) 0 = 0
      · have hT' : Hid (tlen l (j - 1) = k) := tlen_step hj0 hz hT.out
        rw [hz] at hc
        clear hz hT
        go_wp2
        exact ⟨⟨j - 1, by omega, by go_num, hT'⟩, by simp [lenV]; omega⟩
      · obtain rfl := tlen_end hj0 hz hT.out
        have hz' : ((l.getD (j-1) 0 : Nat) : Int) ≠ 0 := by omega
        generalize ((l.getD (j-1) 0 : Nat) : Int) = x at *
        have hx : (x == 0) = false := beq_eq_false_iff_ne.2 hz'
        clear hz hz'
        go_wp2
        go_ret
        exact ⟨rfl, rfl⟩

theorem own_zero (B : Nat) (w : World) (hB : B ≤ w.heap.size) : Own B (w.alloc (.cells #[] 30)) (some ⟨w.heap.size, 0, none⟩) 0 0 [] :=
  ⟨rfl, lim_nil, World.ownsRow_made w #[] 0 hB (by simp [maxLen]) (by simp)⟩

set_option maxHeartbeats 400000 in
theorem clone_any {w : World} {a : Option Addr} {n c : Nat} {l : List Nat} (hR : Rd w a n c l) (hn : n ≤ 268435456) :
    Calls Try.prog 82 #[.slice a n c] w (Ret1 w l) := by
  have hb := hR.bnd
  have hnil := fun (w : World) (a : Option Addr) => Lib.run_eql_slice_nil (P := Try.prog) w 23 30 a n c 0 0 Try.underlying23
  by_cases h0 : n = 0
  · subst h0
    have hl : l = [] := List.eq_nil_of_length_eq_zero hR.len
    subst hl
    cases a with
    | none =>
      go_enter Try.func82, Try.ntmps82
      go_wp2
      go_ret
      exact ⟨none, 0, 0, rfl, own_nil _ _, Below.refl _ _⟩
    | some ad =>
      go_enter Try.func82, Try.ntmps82
      go_wp2_with (at_builtin; refine wpList_app rfl _ _ rfl rfl (own_zero w.heap.size w (Nat.le_refl _)) _ 0 c rfl (m := []) rfl lim_nil (fun i hi => absurd hi (by omega)) (by simp) (by omega) ?_; intro a' c' w' hO hK _)
      go_ret
      exact ⟨a', 0, c', rfl, by simpa using hO, (Below.refl _ _).alloc (Nat.le_refl _) _ |>.kp hK (by simp) (by intro k hk e; simp at e)⟩
  · obtain ⟨b, o, rfl⟩ := hR.head (by omega)
    have hR' : ∀ o1, Rd (w.alloc o1) (some ⟨b, o, none⟩) n c l := fun o1 => hR.alloc o1
    have hcell : Hid (∀ i, i < n → (w.alloc (.cells #[] 30)).cell? ((⟨b, o, none⟩ : Addr).add i) = some (.int .u32 (l.getD i 0 : Nat))) := fun i hi => by rw [Addr.add_lit]; exact (hR' _).cell hi
    clear hR'
    go_enter Try.func82, Try.ntmps82
    go_wp2_with (at_builtin; refine wpList_app rfl _ _ rfl rfl (own_zero w.heap.size w (Nat.le_refl _)) _ n c rfl hR.len hR.lim hcell.out (by simp) (by omega) ?_; intro a' c' w' hO hK _)
    go_ret
    rw [Nat.zero_add] at hO
    exact ⟨a', n, c', rfl, by simpa using hO, (Below.refl _ _).alloc (Nat.le_refl _) _ |>.kp hK (by simp) (by intro k hk e; simp at e)⟩

set_option maxHeartbeats 400000 in
theorem own_any {w : World} {a : Option Addr} {n c : Nat} {l : List Nat} (hR : Rd w a n c l) (hn : n ≤ 268435456) :
    Calls Try.prog 67 #[.slice a n c] w (Ret1 w (lm (val l))) := by
  obtain ⟨k, hk⟩ : ∃ k, (lm (val l)).length = k := ⟨_, rfl⟩
  obtain ⟨hRk, hkn⟩ := hR.trim hk
  have hk' : Hid ((lm (val l)).length = k) := hk
  by_cases h0 : k = 0
  · subst h0
    have hv : lm (val l) = [] := List.eq_nil_of_length_eq_zero hk
    have hv' : Hid (lm (val l) = []) := hv
    clear hv hk
    go_enter Try.func67, Try.ntmps67
    go_wp2_with (go_at_call 69; refine (trim_any hR hk'.out).mono ?_; rintro e w' ⟨rfl, rfl⟩)
    go_ret
    exact ⟨none, 0, 0, rfl, by rw [hv'.out]; exact own_nil _ _, Below.refl _ _⟩
  · have hk0 : ((k : Int) == 0) = false := beq_eq_false_iff_ne.2 (by omega)
    clear hk h0
    go_enter Try.func67, Try.ntmps67
    go_wp2_with (first
      | (go_at_call 69; refine (trim_any hR hk'.out).mono ?_; rintro e w' ⟨rfl, rfl⟩)
      | (go_at_call 82; refine (clone_any hRk (by omega)).mono ?_; rintro e w' ⟨a', n', c', rfl, hO, hB⟩))
    go_ret
    exact ⟨a', n', c', rfl, hO, hB⟩

set_option maxHeartbeats 400000 in
theorem norm_any {w : World} {a : Option Addr} {n c : Nat} {l : List Nat} (hR : Rd w a n c l) (hn : n ≤ 268435456) :
    Calls Try.prog 68 #[.slice a n c] w (Ret1 w (lm (val l))) := by
  go_enter Try.func68, Try.ntmps68
  go_wp2_with (go_at_call 67; refine (own_any hR hn).mono ?_; rintro e w' ⟨a', n', c', rfl, hO, hB⟩)
  go_ret
  exact ⟨a', n', c', rfl, hO, hB⟩

set_option maxHeartbeats 400000 in
/-- the reference's Norm -/
theorem rnorm_any {w : World} {a : Option Addr} {n c : Nat} {l : List Nat} (hR : Rd w a n c l) (hn : n ≤ 268435456) :
    Calls Try.prog 65 #[.slice a n c] w (Ret1 w (lm (val l))) := by
  have hb := hR.bnd
  obtain ⟨k, hk⟩ : ∃ k, (lm (val l)).length = k := ⟨_, rfl⟩
  obtain ⟨hRk, hkn⟩ := hR.trim hk
  have hT : Hid (tlen l n = k) := by rw [← hR.len, tlen_eq hR.lim]; exact hk
  clear hk
  go_enter Try.func65, Try.ntmps65
  go_wp2
  go_loop [3] (fun t => ∃ j : Nat, j ≤ n ∧ t = .int .i64 j ∧ Hid (tlen l j = k)) (fun t => (intOf t).toNat)
  case atStart => exact ⟨n, Nat.le_refl _, rfl, hT⟩
  case round =>
    clear hT
    obtain ⟨j, hj, rfl, hT⟩ := hrel
    by_cases h0 : j = 0
    · subst h0
      obtain rfl : 0 = k := by have := hT.out; simpa [tlen] using this
      have hl0 : Hid (lm (val l) = []) := List.eq_nil_of_length_eq_zero hRk.len
      cases a with
      | none =>
        go_wp2_with (at_builtin; refine Go.wpList_append_own_none rfl _ _ 23 rfl w.heap.size 30 _ Try.underlying23 (info_parts infoU32).choose_spec.1 _ 0 [] rfl (own_nil _ _).2.2 rfl ?_)
        go_ret
        exact ⟨none, 0, 0, rfl, by rw [hl0.out]; exact own_nil _ _, Below.refl _ _⟩
      | some ad =>
        go_wp2_with (at_builtin; refine wpList_app rfl _ _ rfl rfl (own_nil w.heap.size w) _ 0 c rfl (m := []) rfl lim_nil (fun i hi => absurd hi (by omega)) (by simp) (by omega) ?_; intro a' c' w' hO hK _)
        go_ret
        exact ⟨a', 0, c', rfl, by rw [hl0.out]; simpa using hO, (Below.refl _ _).kp hK (by simp) (by intro k hk e; simp at e)⟩
    · have hj0 : 0 < j := by omega
      obtain ⟨b, o, rfl, hc⟩ := hR.get (i := j - 1) (by omega)
      by_cases hz : l.getD (j-1) 0 = 0
      · have hT' : Hid (tlen l (j - 1) = k) := tlen_step hj0 hz hT.out
        rw [hz] at hc
        clear hz hT
        go_wp2
        exact ⟨⟨j - 1, by omega, by go_num, hT'⟩, by simp [intOf]; omega⟩
      · obtain rfl := tlen_end hj0 hz hT.out
        have hz' : ((l.getD (j-1) 0 : Nat) : Int) ≠ 0 := by omega
        have hcell : Hid (∀ i, i < j → w.cell? ((⟨b, o, none⟩ : Addr).add i) = some (.int .u32 ((lm (val l)).getD i 0 : Nat))) := fun i hi => by rw [Addr.add_lit]; exact hRk.cell hi
        generalize ((l.getD (j-1) 0 : Nat) : Int) = x at *
        have hx : (x == 0) = false := beq_eq_false_iff_ne.2 hz'
        clear hz hz'
        go_wp2_with (at_builtin; refine wpList_app rfl _ _ rfl rfl (own_nil w.heap.size w) _ j c rfl hRk.len hRk.lim hcell.out (by simp) (by omega) ?_; intro a' c' w' hO hK _)
        go_ret
        rw [Nat.zero_add] at hO
        exact ⟨a', j, c', rfl, by simpa using hO, (Below.refl _ _).kp hK (by simp) (by intro k hk e; simp at e)⟩

end Go.Proofs.Ytflmdcmlhpifeaa
