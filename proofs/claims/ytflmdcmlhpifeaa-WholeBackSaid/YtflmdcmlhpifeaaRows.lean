/-
  No cell of these rows narrows 'for every input' (looked for: loops, veiled, ifaces, maps, wideKeys, modest, calm, conditions, laid).
  DERIVED. THE GIVEN ROWS OF THIS SEAT. 10 by the template 'for every input the law returns true; each argument reads behind the call as it read before'; 0 by the template 'total and deterministic' (their statements: YtflmdcmlhpifeaaTotals.lean).
  GIVEN WITH THE SEED: the statements are not yours to turn. If you find one false, say at which input.
  Laid BY PROGRAM, IN A SANDBOX (cutbox-rows.mjs): the forced cells as the released guide's own fill.sh prints them over the translation d50e573a24b8de36… (all of the seat's roots in one cut). By AI agents, Wed Nov 11 2026. No macro, syntax, notation, axiom, sorry.
-/
import Derived.Test.YtflmdcmlhpifeaaChecked
import GoSem.Claim
import GoSem.ClaimJoined
import GoSem.ClaimMapViews
import Derived.JoinedTies
import Derived.KernelRfl
namespace Go.Proofs.Ytflmdcmlhpifeaa
/- THE CELL 'sum', in the pinned program and in every row, IS THE sha256 OF THE DUMP (.gsa) THAT YtflmdcmlhpifeaaProg.lean LOADS. Nothing in Lean hashes anything: it is a label: what it is worth is what the hold of that sum in a sandbox is worth. -/
noncomputable def Try.pinned : Pinned := { name := "ytflmdcmlhpifeaa", sum := "d50e573a24b8de361c234222aef12d5784bd4dedddab7117467f694694630039", checked := Try.checked }
namespace Rows
def none {H : Type} : Left H := { results := [], args := [] }

/-- 'credencelaw02.WholeParse': WHATEVER THE INPUT: true; the input reads as it did. -/
def wholeParseSpec : ChangeSpec := { name := "wholeParse", fn := fun _ => fun
  | [d] => { results := [.lit (.bool true)], args := [d] }
  | _ => none }
def wholeParseRow : OpenClaim := { program := "ytflmdcmlhpifeaa", sum := "d50e573a24b8de361c234222aef12d5784bd4dedddab7117467f694694630039", func := "credence/credencelaw02.WholeParse", spec := "wholeParse", apart := false }
def WholeParseSaid : Prop := wholeParseRow.holds Try.pinned (OpenSpec.ofChange wholeParseSpec)

/-- ITS FALSE NEIGHBOUR: 'it returns false'. Refute it at one input. -/
def wholeParseWrong : ChangeSpec := { name := "wholeParse", fn := fun _ => fun
  | [d] => { results := [.lit (.bool false)], args := [d] }
  | _ => none }
def WholeParseWrongFalsely : Prop := wholeParseRow.holds Try.pinned (OpenSpec.ofChange wholeParseWrong)

/-- 'credencelaw02.WholeTells': WHATEVER THE INPUT: true; the input reads as it did. -/
def wholeTellsSpec : ChangeSpec := { name := "wholeTells", fn := fun _ => fun
  | [d1, d2, d3] => { results := [.lit (.bool true)], args := [d1, d2, d3] }
  | _ => none }
def wholeTellsRow : OpenClaim := { program := "ytflmdcmlhpifeaa", sum := "d50e573a24b8de361c234222aef12d5784bd4dedddab7117467f694694630039", func := "credence/credencelaw02.WholeTells", spec := "wholeTells", apart := false }
def WholeTellsSaid : Prop := wholeTellsRow.holds Try.pinned (OpenSpec.ofChange wholeTellsSpec)

/-- ITS FALSE NEIGHBOUR: 'it returns false'. Refute it at one input. -/
def wholeTellsWrong : ChangeSpec := { name := "wholeTells", fn := fun _ => fun
  | [d1, d2, d3] => { results := [.lit (.bool false)], args := [d1, d2, d3] }
  | _ => none }
def WholeTellsWrongFalsely : Prop := wholeTellsRow.holds Try.pinned (OpenSpec.ofChange wholeTellsWrong)

/-- 'credencelaw02.WholeNames': WHATEVER THE INPUT: true; the input reads as it did. -/
def wholeNamesSpec : ChangeSpec := { name := "wholeNames", fn := fun _ => fun
  | [] => { results := [.lit (.bool true)], args := [] }
  | _ => none }
def wholeNamesRow : OpenClaim := { program := "ytflmdcmlhpifeaa", sum := "d50e573a24b8de361c234222aef12d5784bd4dedddab7117467f694694630039", func := "credence/credencelaw02.WholeNames", spec := "wholeNames", apart := false }
def WholeNamesSaid : Prop := wholeNamesRow.holds Try.pinned (OpenSpec.ofChange wholeNamesSpec)

/-- ITS FALSE NEIGHBOUR: 'it returns false'. Refute it at one input. -/
def wholeNamesWrong : ChangeSpec := { name := "wholeNames", fn := fun _ => fun
  | [] => { results := [.lit (.bool false)], args := [] }
  | _ => none }
def WholeNamesWrongFalsely : Prop := wholeNamesRow.holds Try.pinned (OpenSpec.ofChange wholeNamesWrong)

/-- 'credencelaw02.WholeMakes': WHATEVER THE INPUT: true; the input reads as it did. -/
def wholeMakesSpec : ChangeSpec := { name := "wholeMakes", fn := fun _ => fun
  | [d1, d2] => { results := [.lit (.bool true)], args := [d1, d2] }
  | _ => none }
def wholeMakesRow : OpenClaim := { program := "ytflmdcmlhpifeaa", sum := "d50e573a24b8de361c234222aef12d5784bd4dedddab7117467f694694630039", func := "credence/credencelaw02.WholeMakes", spec := "wholeMakes", apart := false }
def WholeMakesSaid : Prop := wholeMakesRow.holds Try.pinned (OpenSpec.ofChange wholeMakesSpec)

/-- ITS FALSE NEIGHBOUR: 'it returns false'. Refute it at one input. -/
def wholeMakesWrong : ChangeSpec := { name := "wholeMakes", fn := fun _ => fun
  | [d1, d2] => { results := [.lit (.bool false)], args := [d1, d2] }
  | _ => none }
def WholeMakesWrongFalsely : Prop := wholeMakesRow.holds Try.pinned (OpenSpec.ofChange wholeMakesWrong)

/-- 'credencelaw02.WholeRing': WHATEVER THE INPUT: true; the input reads as it did. -/
def wholeRingSpec : ChangeSpec := { name := "wholeRing", fn := fun _ => fun
  | [d1, d2, d3] => { results := [.lit (.bool true)], args := [d1, d2, d3] }
  | _ => none }
def wholeRingRow : OpenClaim := { program := "ytflmdcmlhpifeaa", sum := "d50e573a24b8de361c234222aef12d5784bd4dedddab7117467f694694630039", func := "credence/credencelaw02.WholeRing", spec := "wholeRing", apart := false }
def WholeRingSaid : Prop := wholeRingRow.holds Try.pinned (OpenSpec.ofChange wholeRingSpec)

/-- ITS FALSE NEIGHBOUR: 'it returns false'. Refute it at one input. -/
def wholeRingWrong : ChangeSpec := { name := "wholeRing", fn := fun _ => fun
  | [d1, d2, d3] => { results := [.lit (.bool false)], args := [d1, d2, d3] }
  | _ => none }
def WholeRingWrongFalsely : Prop := wholeRingRow.holds Try.pinned (OpenSpec.ofChange wholeRingWrong)

/-- 'credencelaw02.WholeOrder': WHATEVER THE INPUT: true; the input reads as it did. -/
def wholeOrderSpec : ChangeSpec := { name := "wholeOrder", fn := fun _ => fun
  | [d1, d2, d3] => { results := [.lit (.bool true)], args := [d1, d2, d3] }
  | _ => none }
def wholeOrderRow : OpenClaim := { program := "ytflmdcmlhpifeaa", sum := "d50e573a24b8de361c234222aef12d5784bd4dedddab7117467f694694630039", func := "credence/credencelaw02.WholeOrder", spec := "wholeOrder", apart := false }
def WholeOrderSaid : Prop := wholeOrderRow.holds Try.pinned (OpenSpec.ofChange wholeOrderSpec)

/-- ITS FALSE NEIGHBOUR: 'it returns false'. Refute it at one input. -/
def wholeOrderWrong : ChangeSpec := { name := "wholeOrder", fn := fun _ => fun
  | [d1, d2, d3] => { results := [.lit (.bool false)], args := [d1, d2, d3] }
  | _ => none }
def WholeOrderWrongFalsely : Prop := wholeOrderRow.holds Try.pinned (OpenSpec.ofChange wholeOrderWrong)

/-- 'credencelaw02.WholeDivides': WHATEVER THE INPUT: true; the input reads as it did. -/
def wholeDividesSpec : ChangeSpec := { name := "wholeDivides", fn := fun _ => fun
  | [d1, d2] => { results := [.lit (.bool true)], args := [d1, d2] }
  | _ => none }
def wholeDividesRow : OpenClaim := { program := "ytflmdcmlhpifeaa", sum := "d50e573a24b8de361c234222aef12d5784bd4dedddab7117467f694694630039", func := "credence/credencelaw02.WholeDivides", spec := "wholeDivides", apart := false }
def WholeDividesSaid : Prop := wholeDividesRow.holds Try.pinned (OpenSpec.ofChange wholeDividesSpec)

/-- ITS FALSE NEIGHBOUR: 'it returns false'. Refute it at one input. -/
def wholeDividesWrong : ChangeSpec := { name := "wholeDivides", fn := fun _ => fun
  | [d1, d2] => { results := [.lit (.bool false)], args := [d1, d2] }
  | _ => none }
def WholeDividesWrongFalsely : Prop := wholeDividesRow.holds Try.pinned (OpenSpec.ofChange wholeDividesWrong)

/-- 'credencelaw02.WholeBezout': WHATEVER THE INPUT: true; the input reads as it did. -/
def wholeBezoutSpec : ChangeSpec := { name := "wholeBezout", fn := fun _ => fun
  | [d1, d2] => { results := [.lit (.bool true)], args := [d1, d2] }
  | _ => none }
def wholeBezoutRow : OpenClaim := { program := "ytflmdcmlhpifeaa", sum := "d50e573a24b8de361c234222aef12d5784bd4dedddab7117467f694694630039", func := "credence/credencelaw02.WholeBezout", spec := "wholeBezout", apart := false }
def WholeBezoutSaid : Prop := wholeBezoutRow.holds Try.pinned (OpenSpec.ofChange wholeBezoutSpec)

/-- ITS FALSE NEIGHBOUR: 'it returns false'. Refute it at one input. -/
def wholeBezoutWrong : ChangeSpec := { name := "wholeBezout", fn := fun _ => fun
  | [d1, d2] => { results := [.lit (.bool false)], args := [d1, d2] }
  | _ => none }
def WholeBezoutWrongFalsely : Prop := wholeBezoutRow.holds Try.pinned (OpenSpec.ofChange wholeBezoutWrong)

/-- 'credencelaw02.WholeBack': WHATEVER THE INPUT: true; the input reads as it did. -/
def wholeBackSpec : ChangeSpec := { name := "wholeBack", fn := fun _ => fun
  | [d1, d2] => { results := [.lit (.bool true)], args := [d1, d2] }
  | _ => none }
def wholeBackRow : OpenClaim := { program := "ytflmdcmlhpifeaa", sum := "d50e573a24b8de361c234222aef12d5784bd4dedddab7117467f694694630039", func := "credence/credencelaw02.WholeBack", spec := "wholeBack", apart := false }
def WholeBackSaid : Prop := wholeBackRow.holds Try.pinned (OpenSpec.ofChange wholeBackSpec)

/-- ITS FALSE NEIGHBOUR: 'it returns false'. Refute it at one input. -/
def wholeBackWrong : ChangeSpec := { name := "wholeBack", fn := fun _ => fun
  | [d1, d2] => { results := [.lit (.bool false)], args := [d1, d2] }
  | _ => none }
def WholeBackWrongFalsely : Prop := wholeBackRow.holds Try.pinned (OpenSpec.ofChange wholeBackWrong)

/-- 'credencelaw02.WholeInts': WHATEVER THE INPUT: true; the input reads as it did. -/
def wholeIntsSpec : ChangeSpec := { name := "wholeInts", fn := fun _ => fun
  | [d1, d2] => { results := [.lit (.bool true)], args := [d1, d2] }
  | _ => none }
def wholeIntsRow : OpenClaim := { program := "ytflmdcmlhpifeaa", sum := "d50e573a24b8de361c234222aef12d5784bd4dedddab7117467f694694630039", func := "credence/credencelaw02.WholeInts", spec := "wholeInts", apart := false }
def WholeIntsSaid : Prop := wholeIntsRow.holds Try.pinned (OpenSpec.ofChange wholeIntsSpec)

/-- ITS FALSE NEIGHBOUR: 'it returns false'. Refute it at one input. -/
def wholeIntsWrong : ChangeSpec := { name := "wholeInts", fn := fun _ => fun
  | [d1, d2] => { results := [.lit (.bool false)], args := [d1, d2] }
  | _ => none }
def WholeIntsWrongFalsely : Prop := wholeIntsRow.holds Try.pinned (OpenSpec.ofChange wholeIntsWrong)

/- THE SECOND FORM. 'bulk': how many values and letters a reading holds, each counted each time it is reached (what is shared counts as often as it is met; a slice's spare places count too). A statement '..UptoSaid' is the law's where the arguments, and the package variables that the reading takes, are together of bulk at most 1048576: NARROWER than '..Said'. Prove '..Said' where nothing that the law and all that it calls make is longer than what came in: it says more and counts as full. Else prove '..UptoSaid'. A law counts once. -/
mutual
def uptoBulk {H : Type} : DataW H → Nat
  | .lit (.string bytes) => bytes.length + 1
  | .lit _ => 1
  | .nil => 1
  | .ptr d => uptoBulk d + 1
  | .slice elems spare => uptoBulkAll elems + uptoBulkAll spare + 1
  | .agg parts => uptoBulkAll parts + 1
  | .iface _ d => uptoBulk d + 1
  | .map entries => uptoBulkEntries entries + 1
  | .held _ => 1
def uptoBulkAll {H : Type} : List (DataW H) → Nat
  | [] => 0
  | d :: r => uptoBulk d + uptoBulkAll r
def uptoBulkEntries {H : Type} : List (Lit × DataW H) → Nat
  | [] => 0
  | x :: r => uptoBulkEntry x + uptoBulkEntries r
def uptoBulkEntry {H : Type} : Lit × DataW H → Nat
  | (.string bytes, d) => bytes.length + uptoBulk d + 1
  | (_, d) => uptoBulk d + 1
 end
def uptoSmall : (H : Type) → List (DataW H) → Bool := fun _ ds => decide (uptoBulkAll ds ≤ 1048576)
def OpenSpec.upto (s : _root_.Go.ChangeSpec) : _root_.Go.OpenSpec := { _root_.Go.OpenSpec.ofChange s with cond := some uptoSmall }

/-- 'credencelaw02.WholeParse', WHERE WHAT IT READS IS OF BULK AT MOST 1048576: true; the input reads as it did. -/
def wholeParseUptoRow : OpenClaim := { program := "ytflmdcmlhpifeaa", sum := "d50e573a24b8de361c234222aef12d5784bd4dedddab7117467f694694630039", func := "credence/credencelaw02.WholeParse", spec := "wholeParse", apart := false, narrowed := true }
def WholeParseUptoSaid : Prop := wholeParseUptoRow.holds Try.pinned (OpenSpec.upto wholeParseSpec)

/-- 'credencelaw02.WholeTells', WHERE WHAT IT READS IS OF BULK AT MOST 1048576: true; the input reads as it did. -/
def wholeTellsUptoRow : OpenClaim := { program := "ytflmdcmlhpifeaa", sum := "d50e573a24b8de361c234222aef12d5784bd4dedddab7117467f694694630039", func := "credence/credencelaw02.WholeTells", spec := "wholeTells", apart := false, narrowed := true }
def WholeTellsUptoSaid : Prop := wholeTellsUptoRow.holds Try.pinned (OpenSpec.upto wholeTellsSpec)

/-- 'credencelaw02.WholeNames', WHERE WHAT IT READS IS OF BULK AT MOST 1048576: true; the input reads as it did. -/
def wholeNamesUptoRow : OpenClaim := { program := "ytflmdcmlhpifeaa", sum := "d50e573a24b8de361c234222aef12d5784bd4dedddab7117467f694694630039", func := "credence/credencelaw02.WholeNames", spec := "wholeNames", apart := false, narrowed := true }
def WholeNamesUptoSaid : Prop := wholeNamesUptoRow.holds Try.pinned (OpenSpec.upto wholeNamesSpec)

/-- 'credencelaw02.WholeMakes', WHERE WHAT IT READS IS OF BULK AT MOST 1048576: true; the input reads as it did. -/
def wholeMakesUptoRow : OpenClaim := { program := "ytflmdcmlhpifeaa", sum := "d50e573a24b8de361c234222aef12d5784bd4dedddab7117467f694694630039", func := "credence/credencelaw02.WholeMakes", spec := "wholeMakes", apart := false, narrowed := true }
def WholeMakesUptoSaid : Prop := wholeMakesUptoRow.holds Try.pinned (OpenSpec.upto wholeMakesSpec)

/-- 'credencelaw02.WholeRing', WHERE WHAT IT READS IS OF BULK AT MOST 1048576: true; the input reads as it did. -/
def wholeRingUptoRow : OpenClaim := { program := "ytflmdcmlhpifeaa", sum := "d50e573a24b8de361c234222aef12d5784bd4dedddab7117467f694694630039", func := "credence/credencelaw02.WholeRing", spec := "wholeRing", apart := false, narrowed := true }
def WholeRingUptoSaid : Prop := wholeRingUptoRow.holds Try.pinned (OpenSpec.upto wholeRingSpec)

/-- 'credencelaw02.WholeOrder', WHERE WHAT IT READS IS OF BULK AT MOST 1048576: true; the input reads as it did. -/
def wholeOrderUptoRow : OpenClaim := { program := "ytflmdcmlhpifeaa", sum := "d50e573a24b8de361c234222aef12d5784bd4dedddab7117467f694694630039", func := "credence/credencelaw02.WholeOrder", spec := "wholeOrder", apart := false, narrowed := true }
def WholeOrderUptoSaid : Prop := wholeOrderUptoRow.holds Try.pinned (OpenSpec.upto wholeOrderSpec)

/-- 'credencelaw02.WholeDivides', WHERE WHAT IT READS IS OF BULK AT MOST 1048576: true; the input reads as it did. -/
def wholeDividesUptoRow : OpenClaim := { program := "ytflmdcmlhpifeaa", sum := "d50e573a24b8de361c234222aef12d5784bd4dedddab7117467f694694630039", func := "credence/credencelaw02.WholeDivides", spec := "wholeDivides", apart := false, narrowed := true }
def WholeDividesUptoSaid : Prop := wholeDividesUptoRow.holds Try.pinned (OpenSpec.upto wholeDividesSpec)

/-- 'credencelaw02.WholeBezout', WHERE WHAT IT READS IS OF BULK AT MOST 1048576: true; the input reads as it did. -/
def wholeBezoutUptoRow : OpenClaim := { program := "ytflmdcmlhpifeaa", sum := "d50e573a24b8de361c234222aef12d5784bd4dedddab7117467f694694630039", func := "credence/credencelaw02.WholeBezout", spec := "wholeBezout", apart := false, narrowed := true }
def WholeBezoutUptoSaid : Prop := wholeBezoutUptoRow.holds Try.pinned (OpenSpec.upto wholeBezoutSpec)

/-- 'credencelaw02.WholeBack', WHERE WHAT IT READS IS OF BULK AT MOST 1048576: true; the input reads as it did. -/
def wholeBackUptoRow : OpenClaim := { program := "ytflmdcmlhpifeaa", sum := "d50e573a24b8de361c234222aef12d5784bd4dedddab7117467f694694630039", func := "credence/credencelaw02.WholeBack", spec := "wholeBack", apart := false, narrowed := true }
def WholeBackUptoSaid : Prop := wholeBackUptoRow.holds Try.pinned (OpenSpec.upto wholeBackSpec)

/-- 'credencelaw02.WholeInts', WHERE WHAT IT READS IS OF BULK AT MOST 1048576: true; the input reads as it did. -/
def wholeIntsUptoRow : OpenClaim := { program := "ytflmdcmlhpifeaa", sum := "d50e573a24b8de361c234222aef12d5784bd4dedddab7117467f694694630039", func := "credence/credencelaw02.WholeInts", spec := "wholeInts", apart := false, narrowed := true }
def WholeIntsUptoSaid : Prop := wholeIntsUptoRow.holds Try.pinned (OpenSpec.upto wholeIntsSpec)

end Rows
end Go.Proofs.Ytflmdcmlhpifeaa
