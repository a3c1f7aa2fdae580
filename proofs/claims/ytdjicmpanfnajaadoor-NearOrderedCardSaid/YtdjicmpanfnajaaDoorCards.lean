/-
  DERIVED. GIVEN WITH THE SEED: THE CARDS: each row of YtdjicmpanfnajaaDoorRows.lean that lists a variable, with what it lists TIED to the program's text (the seventh form; the later family's looks); each row that meets fmt, with fmt's text TOLD by the authors' own Lean function (tested against real Go, not proved from fmt's source: count such statements apart). THE CARD IS WHAT COUNTS. Prove the row's statement (the work); the ties are given (YtdjicmpanfnajaaDoorTie.lean); close each card by the builder's one call (the guide's Derived/Test/ToyasCard.lean, 'card_holds'). Laid BY PROGRAM, IN A SANDBOX (cutbox-door.mjs). By AI agents, Wed Nov 11 2026. No macro, syntax, notation, axiom, sorry.
-/
import Derived.Test.YtdjicmpanfnajaaDoorRows
import GoSem.ClaimSeven
namespace Go.Proofs.YtdjicmpanfnajaaDoor
namespace Rows

/-- THE TIED CARD OF 'credencelaw05.NearOrdered'. -/
def nearOrderedCard : Claim7 := { stood := { row := nearOrderedRow, standIns := [], harness := (true, "8fcc614557762c86473bcdc96f59a91db19e88f5796081eb134ea99410f7a108"), looks := false }, kinds := [], alts := [], laidByText := true, laidKinds := [.wider, .wider], laidTests := true, laidLooks := .later }
def NearOrderedCardSaid : Prop := Claim7.holds Tryd.pinned (.plain (OpenSpec.ofChange nearOrderedSpec)) nearOrderedCard

/-- THE SECOND FORM's CARD OF 'credencelaw05.NearOrdered'. -/
def nearOrderedUptoCard : Claim7 := { stood := { row := nearOrderedUptoRow, standIns := [], harness := (true, "8fcc614557762c86473bcdc96f59a91db19e88f5796081eb134ea99410f7a108"), looks := false }, kinds := [], alts := [], laidByText := true, laidKinds := [.wider, .wider], laidTests := true, laidLooks := .later }
def NearOrderedUptoCardSaid : Prop := Claim7.holds Tryd.pinned (.plain (OpenSpec.upto nearOrderedSpec)) nearOrderedUptoCard
end Rows
end Go.Proofs.YtdjicmpanfnajaaDoor
