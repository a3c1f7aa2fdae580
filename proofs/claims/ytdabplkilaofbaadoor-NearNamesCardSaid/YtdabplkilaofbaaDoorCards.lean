/-
  DERIVED. GIVEN WITH THE SEED: THE CARDS: each row of YtdabplkilaofbaaDoorRows.lean that lists a variable, with what it lists TIED to the program's text (the seventh form; the later family's looks); each row that meets fmt, with fmt's text TOLD by the authors' own Lean function (tested against real Go, not proved from fmt's source: count such statements apart). THE CARD IS WHAT COUNTS. Prove the row's statement (the work); the ties are given (YtdabplkilaofbaaDoorTie.lean); close each card by the builder's one call (the guide's Derived/Test/ToyasCard.lean, 'card_holds'). Laid BY PROGRAM, IN A SANDBOX (cutbox-door.mjs). By AI agents, Wed Nov 11 2026. No macro, syntax, notation, axiom, sorry.
-/
import Derived.Test.YtdabplkilaofbaaDoorRows
import GoSem.ClaimSeven
namespace Go.Proofs.YtdabplkilaofbaaDoor
namespace Rows

/-- THE TIED CARD OF 'credencelaw05.NearNames'. -/
def nearNamesCard : Claim7 := { stood := { row := nearNamesRow, standIns := [], harness := (true, "28c76bd2039bc55cf14af34ac1102b3c55bcc599b432dbe7896254512b083304"), looks := false }, kinds := [], alts := [], laidByText := true, laidKinds := [.wider], laidTests := true, laidLooks := .later }
def NearNamesCardSaid : Prop := Claim7.holds Tryd.pinned (.plain (OpenSpec.ofChange nearNamesSpec)) nearNamesCard

/-- THE SECOND FORM's CARD OF 'credencelaw05.NearNames'. -/
def nearNamesUptoCard : Claim7 := { stood := { row := nearNamesUptoRow, standIns := [], harness := (true, "28c76bd2039bc55cf14af34ac1102b3c55bcc599b432dbe7896254512b083304"), looks := false }, kinds := [], alts := [], laidByText := true, laidKinds := [.wider], laidTests := true, laidLooks := .later }
def NearNamesUptoCardSaid : Prop := Claim7.holds Tryd.pinned (.plain (OpenSpec.upto nearNamesSpec)) nearNamesUptoCard
end Rows
end Go.Proofs.YtdabplkilaofbaaDoor
