/- WALKS, 26: division asked again of numbers written over; two answers at once. -/
import Derived.Test.YtknpacegaclcgaaWy
namespace Go.Proofs.Ytknpacegaclcgaa
set_option linter.unusedVariables false
open Go.ChangeShapes Go.WideShapes Go.ChangeAt Go.RowKit Go.NatP

def RetAnew (w : World) (a b : Option Addr) (e : Ending) (w' : World) : Prop :=
  e = .returned (.bool true) ∧ Kp (fun g => a = some ⟨g, 0, none⟩ ∨ b = some ⟨g, 0, none⟩) w w'

set_option maxHeartbeats 1000000 in
theorem anew_any {B : Nat} {w : World} {a b : Option Addr} {n c m d : Nat} {l k : List Nat} (hOa : Own B w a n c l) (hOb : Own B w b m d k) (hne : Diff a b) (hn : n ≤ 4194304) (hm : m ≤ 4194304) :
    Calls Try.prog 50 #[.slice a n c, .slice b m d] w (RetAnew w a b) := by
  have hla := hid hOa.len
  have hlb := hid hOb.len
  have hlta := hid hOa.lt'
  have hltb := hid hOb.lt'
  go_enter Try.func50, Try.ntmps50
  go_wp2_with fail
  refine (over_any hOa (by omega)).mono ?_
  rintro e w1 ⟨xa, xn, xc, rfl, hOx, hOa1, hK1⟩
  have hs1 := hK1.size
  have hOb1 := hOb.kp hK1 (fun g e e2 => hne g e2 e)
  clear hOa hOb
  go_wp2_with fail
  refine (over_any hOb1 (by omega)).mono ?_
  rintro e w2 ⟨ya, yn, yc, rfl, hOy, hOb2, hK2⟩
  have hs2 := hK2.size
  have hRa := (hOa1.kp hK2 (fun g e e2 => hne g e e2)).rd
  have hRb := hOb2.rd
  have hRx := (hOx.kp hK2 (fun g e e2 => by have h1 := hOx.lt' g e; have h2 := hltb.out g e2; omega)).rd
  have hRy := hOy.rd
  have hKK : Kp (fun g => a = some ⟨g, 0, none⟩ ∨ b = some ⟨g, 0, none⟩) w w2 := (hK1.mono (fun _ _ h => .inl h)).kp hK2 (fun _ _ h => .inl (.inr h))
  have hxn : xn ≤ 4194304 := by have h1 := hOx.len; have h2 := ovl_length l; have h3 := hla.out; omega
  have hyn : yn ≤ 4194304 := by have h1 := hOy.len; have h2 := ovl_length k; have h3 := hlb.out; omega
  clear hOx hOa1 hOb1 hOy hOb2 hK1 hK2
  generalize ovl l = X at *
  generalize ovl k = Y at *
  go_wp2_with fail
  refine (divmod_any hRa hRb (by omega)).mono ?_
  rintro e w3 ⟨qa, qn, qc, ra, rn, rc, rfl, hOq, hOr, hDf, hB3⟩
  have hRq := hOq.rd
  have hRr := hOr.rd
  have hRa3 := hRa.below hB3
  have hRb3 := hRb.below hB3
  have hRx3 := hRx.below hB3
  have hRy3 := hRy.below hB3
  have hK3 := hKK.below hB3
  clear hOq hOr hDf hB3 hRa hRb hRx hRy hKK
  go_wp2_with fail
  refine (rdm_any hRx3 hRy3 (by omega) (by omega)).mono ?_
  rintro e w4 ⟨sa, sn, sc, ta, tn, tc, rfl, hOs, hOt, hDf, hB4⟩
  have hRs := hOs.rd
  have hRt := hOt.rd
  have hRa4 := hRa3.below hB4
  have hRb4 := hRb3.below hB4
  have hRx4 := hRx3.below hB4
  have hRy4 := hRy3.below hB4
  have hRq4 := hRq.below hB4
  have hRr4 := hRr.below hB4
  have hK4 := hK3.below hB4
  clear hOs hOt hDf hB4 hRa3 hRb3 hRx3 hRy3 hRq hRr hK3
  go_wp2_with fail
  refine (same_true hRq4 hRs).mono ?_
  rintro e w5 ⟨rfl, hD5'⟩
  have hD5 : Dr w4 w5 := hD5'
  go_wp2_with fail
  refine (same_true (hD5.rd hRr4) (hD5.rd hRt)).mono ?_
  rintro e w6 ⟨rfl, hD6'⟩
  have hD6 : Dr w5 w6 := hD6'
  have hRa6 := hD6.rd (hD5.rd hRa4)
  have hRb6 := hD6.rd (hD5.rd hRb4)
  have hRx6 := hD6.rd (hD5.rd hRx4)
  have hRy6 := hD6.rd (hD5.rd hRy4)
  have hK6 := (hK4.below (hD5.below _)).below (hD6.below _)
  clear hD5 hD6 hD5' hD6' hK4 hRa4 hRb4 hRx4 hRy4 hRq4 hRr4 hRs hRt
  go_wp2_with fail
  refine (gcd_any (K := 4194304) hRa6 hRb6 (by omega) (by omega) (Nat.le_refl _)).mono ?_
  rintro e w7 ⟨ga, gn, gc, rfl, hOg, hB7⟩
  have hK7 := hK6.below hB7
  go_wp2_with fail
  refine (rgcd_any (K := 4194304) (hRx6.below hB7) (hRy6.below hB7) (by omega) (by omega) (Nat.le_refl _)).mono ?_
  rintro e w8 ⟨fa, fn, fc, rfl, hOf, hB8⟩
  have hK8 := hK7.below hB8
  go_wp2_with fail
  refine (same_true (hOg.rd.below hB8) hOf.rd).mono ?_
  rintro e w9 ⟨rfl, hD9'⟩
  have hD9 : Dr w8 w9 := hD9'
  go_wp2
  go_ret
  exact ⟨rfl, hK8.below (hD9.below _)⟩

/-- two answers, told at once -/
theorem Ev.tell2 {w0 w w' : World} {rs xs : List It} {a b : Option Addr} {n c m d : Nat} {l k : List Nat} (h : Ev w0 w rs xs) (hO : Own w.heap.size w' a n c l) (hO2 : Own w.heap.size w' b m d k) (hne : Diff a b) (hB : Below w.heap.size w w') (hn : n ≤ 268435456) (hm : m ≤ 268435456) :
    Ev w0 w' rs (⟨b, m, d, k⟩ :: ⟨a, n, c, l⟩ :: xs) := by
  have h1 := h.tell hO hB hn
  have h2 := h.tell hO2 hB hm
  refine ⟨h1.rd, ⟨fun x hx => ?_, List.pairwise_cons.2 ⟨fun y hy => ?_, h1.told.2⟩⟩, h1.bel, fun r hr h0 x hx => ?_, fun x hx => ?_⟩
  · rcases List.mem_cons.1 hx with rfl | hx
    · exact h2.told.1 _ List.mem_cons_self
    · exact h1.told.1 _ hx
  · rcases List.mem_cons.1 hy with rfl | hy
    · intro g e e2; exact hne g e2 e
    · exact (List.pairwise_cons.1 h2.told.2).1 y hy
  · rcases List.mem_cons.1 hx with rfl | hx
    · exact h2.sep r hr h0 _ List.mem_cons_self
    · exact h1.sep r hr h0 _ hx
  · rcases List.mem_cons.1 hx with rfl | hx
    · exact hm
    · exact h1.sm _ hx
/-- two answers, noted at once -/
theorem Ev.note2 {w0 w w' : World} {rs xs : List It} {a b : Option Addr} {n c m d : Nat} {l k : List Nat} (h : Ev w0 w rs xs) (hO : Own w.heap.size w' a n c l) (hO2 : Own w.heap.size w' b m d k) (hB : Below w.heap.size w w') :
    Ev w0 w' (⟨b, m, d, k⟩ :: ⟨a, n, c, l⟩ :: rs) xs := by
  have h1 := h.note hO hB
  have h2 := h.note hO2 hB
  refine ⟨fun r hr => ?_, h1.told, h1.bel, fun r hr => ?_, h1.sm⟩
  · rcases List.mem_cons.1 hr with rfl | hr
    · exact h2.rd _ List.mem_cons_self
    · exact h1.rd r hr
  · rcases List.mem_cons.1 hr with rfl | hr
    · exact h2.sep _ List.mem_cons_self
    · exact h1.sep r hr

/-- apart, where the row of answers was laid some steps ago. -/
theorem Ev.apart_call2 {w0 w : World} {rs xs : List It} (h : Ev w0 w rs xs) (s : List Nat) (ys : List It) {K gb : Nat} {vs us : Array Value} (hK : s.length = K) (hK2 : ys.length = K) (hK3 : K ≤ 1000) (hs : s.Nodup) (hlt : ∀ i ∈ s, i < xs.length)
    (hvs : vs = (s.map fun i => (xs.getD i It.d).v).toArray) (hus : us = (ys.map It.v).toArray) (hys : ∀ y ∈ ys, y ∈ rs) (hL : ys.map It.l = s.map fun i => (xs.getD i It.d).l)
    (hc : w.heap[gb]? = some (.cells vs 24 (0, 0))) (hgb : ∀ x ∈ xs, ∀ g, x.a = some ⟨g, 0, none⟩ → g < gb) :
    Calls Try.prog 20 #[.slice (some ⟨gb, 0, none⟩) K K, .slice (some ⟨w.heap.size, 0, none⟩) K K]
      (w.alloc (.cells us 24)) fun e w' => e = .returned (.bool true) ∧ Ev w0 w' rs [] := by
  subst hvs hus
  have h1 : Below w.heap.size w (w.alloc (.cells (ys.map It.v).toArray 24)) := (Below.refl _ _).alloc (Nat.le_refl _) _
  have hglt : gb < w.heap.size := (Array.getElem?_eq_some_iff.1 hc).1
  refine (apart_told s ys hK hK2 hK3 (h.told.below h1) hs hlt (by have := h.bel.size; simp; omega) h.sm ((h1.block gb hglt).trans hc) (fun x hx e => by have := hgb x hx gb e; omega) (heap_alloc_new w _)
    (fun y hy => (h.rd y (hys y hy)).below h1) fun i hi => ?_).mono fun e w' ⟨h3, h4⟩ => ⟨h3, h.apart ?_ ?_⟩
  · have e := congrArg (fun l => l[i]?) hL
    simp only [List.getElem?_map] at e
    have h1 : i < ys.length := by omega
    have h2 : i < s.length := by omega
    rw [List.getElem?_eq_getElem h1, List.getElem?_eq_getElem h2] at e
    simp only [Option.map_some, Option.some.injEq] at e
    rw [List.getD_eq_getElem?_getD, List.getElem?_eq_getElem h1, List.getD_eq_getElem?_getD (l := s), List.getElem?_eq_getElem h2]
    exact e
  · exact (h.bel.next h1).kp h4 (by have := h.bel.size; simp; omega) fun k hk ⟨x, hx, e⟩ => by have := (h.told.lt hx e).1; omega
  · exact (kp_of_below h1).kp h4 fun k _ e => .inl e

end Go.Proofs.Ytknpacegaclcgaa
