/- WALKS OF RINGS, 7: slopes that are told, slopes that are lent. -/
import Derived.Test.YtgddnmmllchndaaGreatKf
import Derived.Test.YtgddnmmllchndaaGreatQy
import Derived.Test.YtgddnmmllchndaaGreatKd
namespace Go.Proofs.YtgddnmmllchndaaGreat
set_option linter.unusedVariables false
set_option linter.unusedSimpArgs false
open Go.ChangeShapes Go.WideShapes Go.ChangeAt Go.RowKit Go.NatP

theorem Told2.cons4 {B : Nat} {w w' : World} {xs : List It} {a b a' b' : Option Addr} {n c m d n' c' m' d' : Nat} {l k l' k' : List Nat} (h : Told2 B w xs) (hs : B ≤ w.heap.size) (h1 : Own w.heap.size w' a n c l) (h2 : Own w.heap.size w' b m d k) (h3 : Own w.heap.size w' a' n' c' l') (h4 : Own w.heap.size w' b' m' d' k') (hD : Diff4 a b a' b') (hB : Below w.heap.size w w') (e1 : l.length ≤ 1000) (e2 : k.length ≤ 1000) (e3 : l'.length ≤ 1000) (e4 : k'.length ≤ 1000) :
    Told2 B w' (⟨b', m', d', k'⟩ :: ⟨a', n', c', l'⟩ :: ⟨b, m, d, k⟩ :: ⟨a, n, c, l⟩ :: xs) := by
  obtain ⟨p12, q12⟩ := h.cons2 hs h1 h2 hD.d12 hB e1 e2
  have old : ∀ {q : Option Addr} {n c : Nat} {l : List Nat}, Own w.heap.size w' q n c l → ∀ y ∈ xs, ∀ g, q = some ⟨g, 0, none⟩ → y.a ≠ some ⟨g, 0, none⟩ := fun hq y hy g e e2 => by
    have := (h.1.lt hy e2).2
    rw [e] at hq
    have := hq.lt
    omega
  refine ⟨⟨fun x hx => ?_, List.pairwise_cons.2 ⟨fun y hy g e e2 => ?_, List.pairwise_cons.2 ⟨fun y hy g e e2 => ?_, p12.2⟩⟩⟩, fun x hx => ?_⟩
  · rcases List.mem_cons.1 hx with rfl | hx
    · exact h4.mono hs
    · rcases List.mem_cons.1 hx with rfl | hx
      · exact h3.mono hs
      · exact p12.1 x hx
  · rcases List.mem_cons.1 hy with rfl | hy
    · exact hD.d34 g e2 e
    · rcases List.mem_cons.1 hy with rfl | hy
      · exact hD.d24 g e2 e
      · rcases List.mem_cons.1 hy with rfl | hy
        · exact hD.d14 g e2 e
        · exact old h4 y hy g e e2
  · rcases List.mem_cons.1 hy with rfl | hy
    · exact hD.d23 g e2 e
    · rcases List.mem_cons.1 hy with rfl | hy
      · exact hD.d13 g e2 e
      · exact old h3 y hy g e e2
  · rcases List.mem_cons.1 hx with rfl | hx
    · have := h4.len; show m' ≤ _; omega
    · rcases List.mem_cons.1 hx with rfl | hx
      · have := h3.len; show n' ≤ _; omega
      · exact q12 x hx
/-- slot v holds a new block of two fractions that were lent -/
def BoxL (w0 : World) (s t : Bool) (n m n' m' : Nat) (l k l' k' : List Nat) (v : Value) (wx : World) : Prop :=
  ∃ g pa pc pb pd qa qc qb qd, v = .pointer (some ⟨g, 0, none⟩) ∧ Blk wx g #[.bool s, .slice pa n pc, .slice pb m pd, .bool t, .slice qa n' qc, .slice qb m' qd] ∧ w0.heap.size ≤ g ∧ Lent wx pa n pc l ∧ Lent wx pb m pd k ∧ Lent wx qa n' qc l' ∧ Lent wx qb m' qd k' ∧ Below w0.heap.size w0 wx
theorem boxL_new {w0 w5 : World} {s t : Bool} {n m n' m' : Nat} {l k l' k' : List Nat} {pa pb qa qb : Option Addr} {pc pd qc qd : Nat} {T : TypeId} (h1 : Lent w5 pa n pc l) (h2 : Lent w5 pb m pd k) (h3 : Lent w5 qa n' qc l') (h4 : Lent w5 qb m' qd k') (hB : Below w0.heap.size w0 w5) :
    BoxL w0 s t n m n' m' l k l' k' (.pointer (some ⟨w5.heap.size, 0, none⟩)) (w5.alloc (.cells #[.bool s, .slice pa n pc, .slice pb m pd, .bool t, .slice qa n' qc, .slice qb m' qd] T)) :=
  have hA := (Below.refl w5.heap.size w5).alloc (Nat.le_refl _) (.cells #[.bool s, .slice pa n pc, .slice pb m pd, .bool t, .slice qa n' qc, .slice qb m' qd] T)
  ⟨_, _, _, _, _, _, _, _, _, rfl, blk_new _ _ _, hB.size, h1.below hA, h2.below hA, h3.below hA, h4.below hA, hB.alloc hB.size _⟩
theorem boxL_set {w0 w5 : World} {s t : Bool} {n m n' m' g : Nat} {l k l' k' : List Nat} {pa pb qa qb : Option Addr} {pc pd qc qd : Nat} (A : Blk w5 g #[.bool false, .slice none 0 0, .slice none 0 0, .bool false, .slice none 0 0, .slice none 0 0]) (h1 : Lent w5 pa n pc l) (h2 : Lent w5 pb m pd k) (h3 : Lent w5 qa n' qc l') (h4 : Lent w5 qb m' qd k') (hg : w0.heap.size ≤ g) (hB : Below w0.heap.size w0 w5)
    (n1 : ∀ b o, pa = some ⟨b, o, none⟩ → b ≠ g) (n2 : ∀ b o, pb = some ⟨b, o, none⟩ → b ≠ g) (n3 : ∀ b o, qa = some ⟨b, o, none⟩ → b ≠ g) (n4 : ∀ b o, qb = some ⟨b, o, none⟩ → b ≠ g) :
    BoxL w0 s t n m n' m' l k l' k' (.pointer (some ⟨g, 0, none⟩)) ((((((w5.setCell ⟨g, 0, none⟩ (.bool s)).setCell ⟨g, 1, none⟩ (.slice pa n pc)).setCell ⟨g, 2, none⟩ (.slice pb m pd)).setCell ⟨g, 3, none⟩ (.bool t)).setCell ⟨g, 4, none⟩ (.slice qa n' qc)).setCell ⟨g, 5, none⟩ (.slice qb m' qd)) := by
  have hk := (((((((Kp.refl (fun j => j = g) w5).setCell (ad := ⟨g, 0, none⟩) rfl (.bool s)).setCell (ad := ⟨g, 1, none⟩) rfl (.slice pa n pc)).setCell (ad := ⟨g, 2, none⟩) rfl (.slice pb m pd)).setCell (ad := ⟨g, 3, none⟩) rfl (.bool t)).setCell (ad := ⟨g, 4, none⟩) rfl (.slice qa n' qc)).setCell (ad := ⟨g, 5, none⟩) rfl (.slice qb m' qd))
  exact ⟨g, _, _, _, _, _, _, _, _, rfl, (show Blk _ _ #[_, _, _, _, _, _] from (((((A.setCell (i := 0) (v := .bool s) (by simp)).setCell (i := 1) (v := .slice pa n pc) (by simp)).setCell (i := 2) (v := .slice pb m pd) (by simp)).setCell (i := 3) (v := .bool t) (by simp)).setCell (i := 4) (v := .slice qa n' qc) (by simp)).setCell (i := 5) (v := .slice qb m' qd) (by simp)), hg, h1.kp hk n1, h2.kp hk n2, h3.kp hk n3, h4.kp hk n4, Below.set6 hB hg _ _ _ _ _ _⟩

end Go.Proofs.YtgddnmmllchndaaGreat
