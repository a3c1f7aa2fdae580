/- WALKS OF WHOLE NUMBERS, 1: a sign and a size made a number. -/
import Derived.Test.YtennilapmcgnbaaMz
namespace Go.Proofs.Ytennilapmcgnbaa
set_option linter.unusedVariables false
open Go.ChangeShapes Go.WideShapes Go.ChangeAt Go.RowKit Go.NatP

set_option maxRecDepth 100000 in
set_option maxHeartbeats 1000000 in
theorem zof_any_true {w : World} {a : Option Addr} {n c : Nat} {l : List Nat} (hR : Rd w a n c l) (hn : n ≤ 16777216) :
    Calls Try.prog 44 #[.bool true, .slice a n c] w (RetZ w (zv true (val l))) := by
  go_enter Try.func44, Try.ntmps44
  go_wp2_with fail
  refine (norm_any (hR.alloc _) (by omega)).mono ?_
  rintro e w1 ⟨ra, rn, rc, rfl, hO, hB⟩
  obtain ⟨hc, hf⟩ := bcell hB
  have hz : w.heap.size < w1.heap.size := by have := hB.size; simp at this; omega
  have hlen := hid hO.len
  have hlt := hid hO.lt'
  have hOs := fun (v1 v2 : Value) => (hO.set_other (i := 0) (g := w.heap.size) v1 (fun g e => by have := hlt.out g e; simp at this; omega)).set_other (i := 1) (g := w.heap.size) v2 (fun g e => by have := hlt.out g e; simp at this; omega)
  have HOs := hid hOs
  have HB := hid (fun (v1 v2 : Value) => ((((Below.refl w.heap.size w).alloc (Nat.le_refl _) (.cells #[.bool false, .slice none 0 0] 26)).then hB (by simp)).setCell (p := ⟨w.heap.size, 0, none⟩) (Nat.le_refl _) v1).setCell (p := ⟨w.heap.size, 1, none⟩) (Nat.le_refl _) v2)
  have hv := hid (zv_neg_len true (val l))
  rw [hlen.out] at hv
  clear hOs hO hB
  go_wp2
  refine bodyPost_ret (v := .agg #[.bool (decide (zv true (val l) < 0)), .slice ra rn rc]) (by rw [← hv.out]; simp [results, Try.results44, go_sem, hc]) rfl ?_
  exact ⟨ra, rn, rc, rfl, by rw [zv_abs]; exact (HOs.out _ _).mono (by simp), HB.out _ _⟩

set_option maxRecDepth 100000 in
set_option maxHeartbeats 1000000 in
theorem zof_any_false {w : World} {a : Option Addr} {n c : Nat} {l : List Nat} (hR : Rd w a n c l) (hn : n ≤ 16777216) :
    Calls Try.prog 44 #[.bool false, .slice a n c] w (RetZ w (zv false (val l))) := by
  go_enter Try.func44, Try.ntmps44
  go_wp2_with fail
  refine (norm_any (hR.alloc _) (by omega)).mono ?_
  rintro e w1 ⟨ra, rn, rc, rfl, hO, hB⟩
  obtain ⟨hc, hf⟩ := bcell hB
  have hz : w.heap.size < w1.heap.size := by have := hB.size; simp at this; omega
  have hlen := hid hO.len
  have hlt := hid hO.lt'
  have hOs := fun (v1 v2 : Value) => (hO.set_other (i := 0) (g := w.heap.size) v1 (fun g e => by have := hlt.out g e; simp at this; omega)).set_other (i := 1) (g := w.heap.size) v2 (fun g e => by have := hlt.out g e; simp at this; omega)
  have HOs := hid hOs
  have HB := hid (fun (v1 v2 : Value) => ((((Below.refl w.heap.size w).alloc (Nat.le_refl _) (.cells #[.bool false, .slice none 0 0] 26)).then hB (by simp)).setCell (p := ⟨w.heap.size, 0, none⟩) (Nat.le_refl _) v1).setCell (p := ⟨w.heap.size, 1, none⟩) (Nat.le_refl _) v2)
  have hv := hid (zv_neg_len false (val l))
  rw [hlen.out] at hv
  clear hOs hO hB
  go_wp2
  refine bodyPost_ret (v := .agg #[.bool (decide (zv false (val l) < 0)), .slice ra rn rc]) (by rw [← hv.out]; simp [results, Try.results44, go_sem, hc]) rfl ?_
  exact ⟨ra, rn, rc, rfl, by rw [zv_abs]; exact (HOs.out _ _).mono (by simp), HB.out _ _⟩

theorem zof_any {w : World} {a : Option Addr} {n c : Nat} {l : List Nat} (s : Bool) (hR : Rd w a n c l) (hn : n ≤ 16777216) :
    Calls Try.prog 44 #[.bool s, .slice a n c] w (RetZ w (zv s (val l))) := by
  cases s
  · exact zof_any_false hR hn
  · exact zof_any_true hR hn

end Go.Proofs.Ytennilapmcgnbaa
