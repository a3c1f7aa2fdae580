/-
  NARROWER THAN 'FOR EVERY INPUT', by the rows' own cells (each row's printed sentence says how): TopNear: laid · NearBack: laid · NearAround: laid.
  DERIVED. THE GIVEN ROWS OF THIS SEAT. 3 by the template 'for every input the law returns true; each argument reads behind the call as it read before'; 0 by the template 'total and deterministic' (their statements: YtoeldbdcbfgmoaaDoorTotals.lean).
  GIVEN WITH THE SEED: the statements are not yours to turn. If you find one false, say at which input.
  Laid BY PROGRAM, IN A SANDBOX (cutbox-rows.mjs): the forced cells as the released guide's own fill.sh prints them over the translation 1f82108ddc4bb15e… (all of the seat's roots in one cut). By AI agents, Wed Nov 11 2026. No macro, syntax, notation, axiom, sorry.
-/
import Derived.Test.YtoeldbdcbfgmoaaDoorChecked
import GoSem.Claim
import GoSem.ClaimJoined
import GoSem.ClaimMapViews
import Derived.JoinedTies
import Derived.KernelRfl
namespace Go.Proofs.YtoeldbdcbfgmoaaDoor
/- THE CELL 'sum', in the pinned program and in every row, IS THE sha256 OF THE DUMP (.gsa) THAT YtoeldbdcbfgmoaaDoorProg.lean LOADS. Nothing in Lean hashes anything: it is a label: what it is worth is what the hold of that sum in a sandbox is worth. -/
noncomputable def Tryd.pinned : Pinned := { name := "ytoeldbdcbfgmoaadoor", sum := "1f82108ddc4bb15e98c838f9e597d04578e894959548968b13e90ad410359d35", checked := Tryd.checked }
namespace Rows
def none {H : Type} : Left H := { results := [], args := [] }

/- WHAT THE LISTED PACKAGE-LEVEL VARIABLES READ AS WHEN THE CALL BEGINS. Each datum BY PROGRAM (the guide's laid-datum.mjs) off the statement by which the dump's own 'gosem.cut.vars' lays the variable. In a bare row this is a premise. The card (YtoeldbdcbfgmoaaDoorCards.lean) ties it to the program's text. -/
def laid_credence_near_long {H : Type} : DataW H := .agg [.lit (.int .i64 53), .lit (.int .i64 (-1074)), .lit (.int .i64 971)]
def laid_credence_near_short {H : Type} : DataW H := .agg [.lit (.int .i64 24), .lit (.int .i64 (-149)), .lit (.int .i64 104)]

/-- 'credencetop.TopNear': WHATEVER THE INPUT: true; the input reads as it did. -/
def topNearSpec : ChangeSpec := { name := "topNear", fn := fun _ => fun
  | [d1, d2] => { results := [.lit (.bool true)], args := [d1, d2] }
  | _ => none }
def topNearRow : OpenClaim := { program := "ytoeldbdcbfgmoaadoor", sum := "1f82108ddc4bb15e98c838f9e597d04578e894959548968b13e90ad410359d35", func := "credence/credencetop.TopNear", spec := "topNear", inPlace := ["math.Float64bits", "math.Float64frombits"], named := ["credence/near.long"], apart := false, laid := [("credence/near.long", laid_credence_near_long)] }
def TopNearSaid : Prop := topNearRow.holds Tryd.pinned (OpenSpec.ofChange topNearSpec)

/-- ITS FALSE NEIGHBOUR: 'it returns false'. Refute it at one input. -/
def topNearWrong : ChangeSpec := { name := "topNear", fn := fun _ => fun
  | [d1, d2] => { results := [.lit (.bool false)], args := [d1, d2] }
  | _ => none }
def TopNearWrongFalsely : Prop := topNearRow.holds Tryd.pinned (OpenSpec.ofChange topNearWrong)

/-- 'credencelaw05.NearBack': WHATEVER THE INPUT: true; the input reads as it did. -/
def nearBackSpec : ChangeSpec := { name := "nearBack", fn := fun _ => fun
  | [d1, d2] => { results := [.lit (.bool true)], args := [d1, d2] }
  | _ => none }
def nearBackRow : OpenClaim := { program := "ytoeldbdcbfgmoaadoor", sum := "1f82108ddc4bb15e98c838f9e597d04578e894959548968b13e90ad410359d35", func := "credence/credencelaw05.NearBack", spec := "nearBack", inPlace := ["math.Float64bits", "math.Float64frombits"], named := ["credence/near.long", "credence/near.short"], apart := false, laid := [("credence/near.long", laid_credence_near_long), ("credence/near.short", laid_credence_near_short)] }
def NearBackSaid : Prop := nearBackRow.holds Tryd.pinned (OpenSpec.ofChange nearBackSpec)

/-- ITS FALSE NEIGHBOUR: 'it returns false'. Refute it at one input. -/
def nearBackWrong : ChangeSpec := { name := "nearBack", fn := fun _ => fun
  | [d1, d2] => { results := [.lit (.bool false)], args := [d1, d2] }
  | _ => none }
def NearBackWrongFalsely : Prop := nearBackRow.holds Tryd.pinned (OpenSpec.ofChange nearBackWrong)

/-- 'credencelaw05.NearAround': WHATEVER THE INPUT: true; the input reads as it did. -/
def nearAroundSpec : ChangeSpec := { name := "nearAround", fn := fun _ => fun
  | [d] => { results := [.lit (.bool true)], args := [d] }
  | _ => none }
def nearAroundRow : OpenClaim := { program := "ytoeldbdcbfgmoaadoor", sum := "1f82108ddc4bb15e98c838f9e597d04578e894959548968b13e90ad410359d35", func := "credence/credencelaw05.NearAround", spec := "nearAround", inPlace := ["math.Float64bits", "math.Float64frombits"], named := ["credence/near.long", "credence/near.short"], apart := false, laid := [("credence/near.long", laid_credence_near_long), ("credence/near.short", laid_credence_near_short)] }
def NearAroundSaid : Prop := nearAroundRow.holds Tryd.pinned (OpenSpec.ofChange nearAroundSpec)

/-- ITS FALSE NEIGHBOUR: 'it returns false'. Refute it at one input. -/
def nearAroundWrong : ChangeSpec := { name := "nearAround", fn := fun _ => fun
  | [d] => { results := [.lit (.bool false)], args := [d] }
  | _ => none }
def NearAroundWrongFalsely : Prop := nearAroundRow.holds Tryd.pinned (OpenSpec.ofChange nearAroundWrong)

/- THE SECOND FORM. 'bulk': how many values and letters a reading holds, each counted each time it is reached (what is shared counts as often as it is met; a slice's spare places count too). A statement '..UptoSaid' is the law's where the arguments, and the package variables that the reading takes, are together of bulk at most 1048576: NARROWER than '..Said'. Prove '..Said' where nothing that the law and all that it calls make is longer than what came in: it says more and counts as full. Else prove '..UptoSaid'. A law counts once. -/
mutual
def uptoBulk {H : Type} : DataW H → Nat
  | .lit (.string bytes) => bytes.length + 1
  | .lit _ => 1
  | .nil => 1
  | .ptr d => uptoBulk d + 1
  | .slice elems spare => uptoBulkAll elems + uptoBulkAll spare + 1
  | .agg parts => uptoBulkAll parts + 1
  | .iface _ d => uptoBulk d + 1
  | .map entries => uptoBulkEntries entries + 1
  | .held _ => 1
def uptoBulkAll {H : Type} : List (DataW H) → Nat
  | [] => 0
  | d :: r => uptoBulk d + uptoBulkAll r
def uptoBulkEntries {H : Type} : List (Lit × DataW H) → Nat
  | [] => 0
  | x :: r => uptoBulkEntry x + uptoBulkEntries r
def uptoBulkEntry {H : Type} : Lit × DataW H → Nat
  | (.string bytes, d) => bytes.length + uptoBulk d + 1
  | (_, d) => uptoBulk d + 1
 end
def uptoSmall : (H : Type) → List (DataW H) → Bool := fun _ ds => decide (uptoBulkAll ds ≤ 1048576)
def OpenSpec.upto (s : _root_.Go.ChangeSpec) : _root_.Go.OpenSpec := { _root_.Go.OpenSpec.ofChange s with cond := some uptoSmall }

/-- 'credencetop.TopNear', WHERE WHAT IT READS IS OF BULK AT MOST 1048576: true; the input reads as it did. -/
def topNearUptoRow : OpenClaim := { program := "ytoeldbdcbfgmoaadoor", sum := "1f82108ddc4bb15e98c838f9e597d04578e894959548968b13e90ad410359d35", func := "credence/credencetop.TopNear", spec := "topNear", inPlace := ["math.Float64bits", "math.Float64frombits"], named := ["credence/near.long"], apart := false, laid := [("credence/near.long", laid_credence_near_long)], narrowed := true }
def TopNearUptoSaid : Prop := topNearUptoRow.holds Tryd.pinned (OpenSpec.upto topNearSpec)

/-- 'credencelaw05.NearBack', WHERE WHAT IT READS IS OF BULK AT MOST 1048576: true; the input reads as it did. -/
def nearBackUptoRow : OpenClaim := { program := "ytoeldbdcbfgmoaadoor", sum := "1f82108ddc4bb15e98c838f9e597d04578e894959548968b13e90ad410359d35", func := "credence/credencelaw05.NearBack", spec := "nearBack", inPlace := ["math.Float64bits", "math.Float64frombits"], named := ["credence/near.long", "credence/near.short"], apart := false, laid := [("credence/near.long", laid_credence_near_long), ("credence/near.short", laid_credence_near_short)], narrowed := true }
def NearBackUptoSaid : Prop := nearBackUptoRow.holds Tryd.pinned (OpenSpec.upto nearBackSpec)

/-- 'credencelaw05.NearAround', WHERE WHAT IT READS IS OF BULK AT MOST 1048576: true; the input reads as it did. -/
def nearAroundUptoRow : OpenClaim := { program := "ytoeldbdcbfgmoaadoor", sum := "1f82108ddc4bb15e98c838f9e597d04578e894959548968b13e90ad410359d35", func := "credence/credencelaw05.NearAround", spec := "nearAround", inPlace := ["math.Float64bits", "math.Float64frombits"], named := ["credence/near.long", "credence/near.short"], apart := false, laid := [("credence/near.long", laid_credence_near_long), ("credence/near.short", laid_credence_near_short)], narrowed := true }
def NearAroundUptoSaid : Prop := nearAroundUptoRow.holds Tryd.pinned (OpenSpec.upto nearAroundSpec)

end Rows
end Go.Proofs.YtoeldbdcbfgmoaaDoor
