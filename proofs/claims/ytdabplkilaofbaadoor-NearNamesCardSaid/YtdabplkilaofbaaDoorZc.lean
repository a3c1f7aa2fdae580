/- WALKS OF WHOLE NUMBERS, 3: sums, differences, products. -/
import Derived.Test.YtdabplkilaofbaaDoorZb
namespace Go.Proofs.YtdabplkilaofbaaDoor
set_option linter.unusedVariables false
set_option linter.unusedSimpArgs false
open Go.ChangeShapes Go.WideShapes Go.ChangeAt Go.RowKit Go.NatP

theorem len_le {l : List Nat} {n v : Nat} (h : (lm v).length = n) {k : Nat} (hs : Sz v k) : n ≤ k := by have := hs.len; omega
theorem Rd.szv {w : World} {a : Option Addr} {n c : Nat} {l : List Nat} (h : Rd w a n c l) : Sz (val l) n := h.lim.sz (by rw [h.len]; exact Nat.le_refl _)
theorem szAdd {m n j k : Nat} (h : Sz m j) (h' : Sz n k) : Sz (m + n) (j + k + 1) := (h.mono (Nat.le_refl _) (by omega)).add (h'.mono (Nat.le_refl _) (by omega))

end Go.Proofs.YtdabplkilaofbaaDoor
