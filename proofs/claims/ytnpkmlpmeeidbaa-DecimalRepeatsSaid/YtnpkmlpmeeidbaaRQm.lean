/- WALKS OF FRACTIONS, 13: the statements' helpers. -/
import Derived.Test.YtnpkmlpmeeidbaaRQ2
import Derived.Test.YtnpkmlpmeeidbaaRQ2
import Derived.Test.YtnpkmlpmeeidbaaRQ2
import Derived.Test.YtnpkmlpmeeidbaaRQ3
import Derived.Test.YtnpkmlpmeeidbaaRQ4
namespace Go.Proofs.Ytnpkmlpmeeidbaa
set_option linter.unusedVariables false
set_option linter.unusedSimpArgs false
open Go.ChangeShapes Go.WideShapes Go.ChangeAt Go.RowKit Go.NatP

/-- a list of limbs with marked room behind -/
def Lent (w : World) (a : Option Addr) (n c : Nat) (l : List Nat) : Prop := Rd w a (n + 5) c (l ++ List.replicate 5 7000) ∧ Rd w a n c l
theorem Lent.below {w w' : World} {a : Option Addr} {n c : Nat} {l : List Nat} (h : Lent w a n c l) (hB : Below w.heap.size w w') : Lent w' a n c l := ⟨h.1.below hB, h.2.below hB⟩
theorem Lent.set2 {w : World} {a : Option Addr} {n c : Nat} {l : List Nat} (h : Lent w a n c l) {g : Nat} (hg : ∀ b o, a = some ⟨b, o, none⟩ → b ≠ g) (v0 v1 : Value) : Lent ((w.setCell ⟨g, 0, none⟩ v0).setCell ⟨g, 1, none⟩ v1) a n c l := by
  have hk := ((Kp.refl (fun j => j = g) w).setCell (ad := ⟨g, 0, none⟩) rfl v0).setCell (ad := ⟨g, 1, none⟩) rfl v1
  exact ⟨h.1.kp hk hg, h.2.kp hk hg⟩
theorem Lent.set3 {w : World} {a : Option Addr} {n c : Nat} {l : List Nat} (h : Lent w a n c l) {g : Nat} (hg : ∀ b o, a = some ⟨b, o, none⟩ → b ≠ g) (v0 v1 v2 : Value) : Lent (((w.setCell ⟨g, 0, none⟩ v0).setCell ⟨g, 1, none⟩ v1).setCell ⟨g, 2, none⟩ v2) a n c l := by
  have hk := (((Kp.refl (fun j => j = g) w).setCell (ad := ⟨g, 0, none⟩) rfl v0).setCell (ad := ⟨g, 1, none⟩) rfl v1).setCell (ad := ⟨g, 2, none⟩) rfl v2
  exact ⟨h.1.kp hk hg, h.2.kp hk hg⟩
theorem kp_set2 (w : World) (g : Nat) (v0 v1 : Value) : Kp (fun j => j = g) w ((w.setCell ⟨g, 0, none⟩ v0).setCell ⟨g, 1, none⟩ v1) := ((Kp.refl (fun j => j = g) w).setCell (ad := ⟨g, 0, none⟩) rfl v0).setCell (ad := ⟨g, 1, none⟩) rfl v1
theorem kp_set3 (w : World) (g : Nat) (v0 v1 v2 : Value) : Kp (fun j => j = g) w (((w.setCell ⟨g, 0, none⟩ v0).setCell ⟨g, 1, none⟩ v1).setCell ⟨g, 2, none⟩ v2) := (kp_set2 w g v0 v1).setCell (ad := ⟨g, 2, none⟩) rfl v2
theorem Blk.set2 {w : World} {g g' : Nat} {cs : Array Value} (h : Blk w g' cs) (hne : g' ≠ g) (v0 v1 : Value) : Blk ((w.setCell ⟨g, 0, none⟩ v0).setCell ⟨g, 1, none⟩ v1) g' cs := (h.set_other hne).set_other hne
theorem Lent.kp {w w' : World} {a : Option Addr} {n c : Nat} {l : List Nat} {p : Nat → Prop} (h : Lent w a n c l) (hk : Kp p w w') (hp : ∀ b o, a = some ⟨b, o, none⟩ → ¬ p b) : Lent w' a n c l := ⟨h.1.kp hk hp, h.2.kp hk hp⟩

/-! ### fractions that were answered, in a row -/
section
variable {W : World} {g : Nat} {s t : Bool} {a b a' b' : Option Addr} {n c m d n' c' m' d' : Nat} {l k l' k' : List Nat} {B1 B2 B3 B4 : Nat}
end

end Go.Proofs.Ytnpkmlpmeeidbaa
