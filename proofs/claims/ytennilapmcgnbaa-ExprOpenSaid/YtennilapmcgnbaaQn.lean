/- WALKS OF FRACTIONS, 14: two answers alike; an answer in lowest terms. -/
import Derived.Test.YtennilapmcgnbaaQm
namespace Go.Proofs.Ytennilapmcgnbaa
set_option linter.unusedVariables false
set_option linter.unusedSimpArgs false
open Go.ChangeShapes Go.WideShapes Go.ChangeAt Go.RowKit Go.NatP

theorem Own.set_lt3 {B N : Nat} {w : World} {a : Option Addr} {n c : Nat} {l : List Nat} (h : Own B w a n c l) (hl : LtB a N) {g : Nat} (hg : N ≤ g) (v0 v1 v2 : Value) : Own B (((w.setCell ⟨g, 0, none⟩ v0).setCell ⟨g, 1, none⟩ v1).setCell ⟨g, 2, none⟩ v2) a n c l :=
  ((h.set_other v0 (fun g' e => by have := hl g' e; omega)).set_other v1 (fun g' e => by have := hl g' e; omega)).set_other v2 (fun g' e => by have := hl g' e; omega)
theorem rdq_of {K : Nat} {W : World} {a b : Option Addr} {n c m d : Nat} {l k : List Nat} (s : Bool) (h : Rd W a n c l) (hn : n ≤ K) (h' : Rd W b m d k) (hm : m ≤ K) : RdQ K W s a n c b m d (qv s (val l) (val k)) :=
  ⟨_, _, h.rdN hn, h'.rdN hm, rfl⟩

end Go.Proofs.Ytennilapmcgnbaa
