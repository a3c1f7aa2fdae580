/-
  DERIVED. GIVEN WITH THE SEED: THE CARDS: each row of YtoeldbdcbfgmoaaDoorRows.lean that lists a variable, with what it lists TIED to the program's text (the seventh form; the later family's looks); each row that meets fmt, with fmt's text TOLD by the authors' own Lean function (tested against real Go, not proved from fmt's source: count such statements apart). THE CARD IS WHAT COUNTS. Prove the row's statement (the work); the ties are given (YtoeldbdcbfgmoaaDoorTie.lean); close each card by the builder's one call (the guide's Derived/Test/ToyasCard.lean, 'card_holds'). Laid BY PROGRAM, IN A SANDBOX (cutbox-door.mjs). By AI agents, Wed Nov 11 2026. No macro, syntax, notation, axiom, sorry.
-/
import Derived.Test.YtoeldbdcbfgmoaaDoorRows
import GoSem.ClaimSeven
namespace Go.Proofs.YtoeldbdcbfgmoaaDoor
namespace Rows

/-- THE TIED CARD OF 'credencetop.TopNear'. -/
def topNearCard : Claim7 := { stood := { row := topNearRow, standIns := [], harness := (true, "3bcfeb895b082bdfc7d9f77749340b760f45e49b63ccf2071514db8a62ea6b63"), looks := false }, kinds := [], alts := [], laidByText := true, laidKinds := [.wider], laidTests := true, laidLooks := .later }
def TopNearCardSaid : Prop := Claim7.holds Tryd.pinned (.plain (OpenSpec.ofChange topNearSpec)) topNearCard

/-- THE TIED CARD OF 'credencelaw05.NearBack'. -/
def nearBackCard : Claim7 := { stood := { row := nearBackRow, standIns := [], harness := (true, "3bcfeb895b082bdfc7d9f77749340b760f45e49b63ccf2071514db8a62ea6b63"), looks := false }, kinds := [], alts := [], laidByText := true, laidKinds := [.wider, .wider], laidTests := true, laidLooks := .later }
def NearBackCardSaid : Prop := Claim7.holds Tryd.pinned (.plain (OpenSpec.ofChange nearBackSpec)) nearBackCard

/-- THE TIED CARD OF 'credencelaw05.NearAround'. -/
def nearAroundCard : Claim7 := { stood := { row := nearAroundRow, standIns := [], harness := (true, "3bcfeb895b082bdfc7d9f77749340b760f45e49b63ccf2071514db8a62ea6b63"), looks := false }, kinds := [], alts := [], laidByText := true, laidKinds := [.wider, .wider], laidTests := true, laidLooks := .later }
def NearAroundCardSaid : Prop := Claim7.holds Tryd.pinned (.plain (OpenSpec.ofChange nearAroundSpec)) nearAroundCard

/-- THE SECOND FORM's CARD OF 'credencetop.TopNear'. -/
def topNearUptoCard : Claim7 := { stood := { row := topNearUptoRow, standIns := [], harness := (true, "3bcfeb895b082bdfc7d9f77749340b760f45e49b63ccf2071514db8a62ea6b63"), looks := false }, kinds := [], alts := [], laidByText := true, laidKinds := [.wider], laidTests := true, laidLooks := .later }
def TopNearUptoCardSaid : Prop := Claim7.holds Tryd.pinned (.plain (OpenSpec.upto topNearSpec)) topNearUptoCard

/-- THE SECOND FORM's CARD OF 'credencelaw05.NearBack'. -/
def nearBackUptoCard : Claim7 := { stood := { row := nearBackUptoRow, standIns := [], harness := (true, "3bcfeb895b082bdfc7d9f77749340b760f45e49b63ccf2071514db8a62ea6b63"), looks := false }, kinds := [], alts := [], laidByText := true, laidKinds := [.wider, .wider], laidTests := true, laidLooks := .later }
def NearBackUptoCardSaid : Prop := Claim7.holds Tryd.pinned (.plain (OpenSpec.upto nearBackSpec)) nearBackUptoCard

/-- THE SECOND FORM's CARD OF 'credencelaw05.NearAround'. -/
def nearAroundUptoCard : Claim7 := { stood := { row := nearAroundUptoRow, standIns := [], harness := (true, "3bcfeb895b082bdfc7d9f77749340b760f45e49b63ccf2071514db8a62ea6b63"), looks := false }, kinds := [], alts := [], laidByText := true, laidKinds := [.wider, .wider], laidTests := true, laidLooks := .later }
def NearAroundUptoCardSaid : Prop := Claim7.holds Tryd.pinned (.plain (OpenSpec.upto nearAroundSpec)) nearAroundUptoCard
end Rows
end Go.Proofs.YtoeldbdcbfgmoaaDoor
