/-
  NARROWER THAN 'FOR EVERY INPUT', by the rows' own cells (each row's printed sentence says how): NearOrdered: laid.
  DERIVED. THE GIVEN ROWS OF THIS SEAT. 1 by the template 'for every input the law returns true; each argument reads behind the call as it read before'; 0 by the template 'total and deterministic' (their statements: YtdjicmpanfnajaaDoorTotals.lean).
  GIVEN WITH THE SEED: the statements are not yours to turn. If you find one false, say at which input.
  Laid BY PROGRAM, IN A SANDBOX (cutbox-rows.mjs): the forced cells as the released guide's own fill.sh prints them over the translation 1e405e9c0492225d… (all of the seat's roots in one cut). By AI agents, Wed Nov 11 2026. No macro, syntax, notation, axiom, sorry.
-/
import Derived.Test.YtdjicmpanfnajaaDoorChecked
import GoSem.Claim
import GoSem.ClaimJoined
import GoSem.ClaimMapViews
import Derived.JoinedTies
import Derived.KernelRfl
namespace Go.Proofs.YtdjicmpanfnajaaDoor
/- THE CELL 'sum', in the pinned program and in every row, IS THE sha256 OF THE DUMP (.gsa) THAT YtdjicmpanfnajaaDoorProg.lean LOADS. Nothing in Lean hashes anything: it is a label: what it is worth is what the hold of that sum in a sandbox is worth. -/
noncomputable def Tryd.pinned : Pinned := { name := "ytdjicmpanfnajaadoor", sum := "1e405e9c0492225d8fe84936b21bbb423be3b46ad00febf60e8698bdab307df2", checked := Tryd.checked }
namespace Rows
def none {H : Type} : Left H := { results := [], args := [] }

/- WHAT THE LISTED PACKAGE-LEVEL VARIABLES READ AS WHEN THE CALL BEGINS. Each datum BY PROGRAM (the guide's laid-datum.mjs) off the statement by which the dump's own 'gosem.cut.vars' lays the variable. In a bare row this is a premise. The card (YtdjicmpanfnajaaDoorCards.lean) ties it to the program's text. -/
def laid_credence_near_long {H : Type} : DataW H := .agg [.lit (.int .i64 53), .lit (.int .i64 (-1074)), .lit (.int .i64 971)]
def laid_credence_near_short {H : Type} : DataW H := .agg [.lit (.int .i64 24), .lit (.int .i64 (-149)), .lit (.int .i64 104)]

/-- 'credencelaw05.NearOrdered': WHATEVER THE INPUT: true; the input reads as it did. -/
def nearOrderedSpec : ChangeSpec := { name := "nearOrdered", fn := fun _ => fun
  | [d1, d2, d3] => { results := [.lit (.bool true)], args := [d1, d2, d3] }
  | _ => none }
def nearOrderedRow : OpenClaim := { program := "ytdjicmpanfnajaadoor", sum := "1e405e9c0492225d8fe84936b21bbb423be3b46ad00febf60e8698bdab307df2", func := "credence/credencelaw05.NearOrdered", spec := "nearOrdered", inPlace := ["math.Float64bits", "math.Float64frombits"], named := ["credence/near.long", "credence/near.short"], apart := false, laid := [("credence/near.long", laid_credence_near_long), ("credence/near.short", laid_credence_near_short)] }
def NearOrderedSaid : Prop := nearOrderedRow.holds Tryd.pinned (OpenSpec.ofChange nearOrderedSpec)

/-- ITS FALSE NEIGHBOUR: 'it returns false'. Refute it at one input. -/
def nearOrderedWrong : ChangeSpec := { name := "nearOrdered", fn := fun _ => fun
  | [d1, d2, d3] => { results := [.lit (.bool false)], args := [d1, d2, d3] }
  | _ => none }
def NearOrderedWrongFalsely : Prop := nearOrderedRow.holds Tryd.pinned (OpenSpec.ofChange nearOrderedWrong)

/- THE SECOND FORM. 'bulk': how many values and letters a reading holds, each counted each time it is reached (what is shared counts as often as it is met; a slice's spare places count too). A statement '..UptoSaid' is the law's where the arguments, and the package variables that the reading takes, are together of bulk at most 1048576: NARROWER than '..Said'. Prove '..Said' where nothing that the law and all that it calls make is longer than what came in: it says more and counts as full. Else prove '..UptoSaid'. A law counts once. -/
mutual
def uptoBulk {H : Type} : DataW H → Nat
  | .lit (.string bytes) => bytes.length + 1
  | .lit _ => 1
  | .nil => 1
  | .ptr d => uptoBulk d + 1
  | .slice elems spare => uptoBulkAll elems + uptoBulkAll spare + 1
  | .agg parts => uptoBulkAll parts + 1
  | .iface _ d => uptoBulk d + 1
  | .map entries => uptoBulkEntries entries + 1
  | .held _ => 1
def uptoBulkAll {H : Type} : List (DataW H) → Nat
  | [] => 0
  | d :: r => uptoBulk d + uptoBulkAll r
def uptoBulkEntries {H : Type} : List (Lit × DataW H) → Nat
  | [] => 0
  | x :: r => uptoBulkEntry x + uptoBulkEntries r
def uptoBulkEntry {H : Type} : Lit × DataW H → Nat
  | (.string bytes, d) => bytes.length + uptoBulk d + 1
  | (_, d) => uptoBulk d + 1
 end
def uptoSmall : (H : Type) → List (DataW H) → Bool := fun _ ds => decide (uptoBulkAll ds ≤ 1048576)
def OpenSpec.upto (s : _root_.Go.ChangeSpec) : _root_.Go.OpenSpec := { _root_.Go.OpenSpec.ofChange s with cond := some uptoSmall }

/-- 'credencelaw05.NearOrdered', WHERE WHAT IT READS IS OF BULK AT MOST 1048576: true; the input reads as it did. -/
def nearOrderedUptoRow : OpenClaim := { program := "ytdjicmpanfnajaadoor", sum := "1e405e9c0492225d8fe84936b21bbb423be3b46ad00febf60e8698bdab307df2", func := "credence/credencelaw05.NearOrdered", spec := "nearOrdered", inPlace := ["math.Float64bits", "math.Float64frombits"], named := ["credence/near.long", "credence/near.short"], apart := false, laid := [("credence/near.long", laid_credence_near_long), ("credence/near.short", laid_credence_near_short)], narrowed := true }
def NearOrderedUptoSaid : Prop := nearOrderedUptoRow.holds Tryd.pinned (OpenSpec.upto nearOrderedSpec)

end Rows
end Go.Proofs.YtdjicmpanfnajaaDoor
