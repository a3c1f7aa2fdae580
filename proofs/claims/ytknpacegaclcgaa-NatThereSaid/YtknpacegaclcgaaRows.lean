/-
  No cell of these rows narrows 'for every input' (looked for: loops, veiled, ifaces, maps, wideKeys, modest, calm, conditions, laid).
  DERIVED. THE GIVEN ROWS OF THIS SEAT. 14 by the template 'for every input the law returns true; each argument reads behind the call as it read before'; 0 by the template 'total and deterministic' (their statements: YtknpacegaclcgaaTotals.lean).
  GIVEN WITH THE SEED: the statements are not yours to turn. If you find one false, say at which input.
  Laid BY PROGRAM, IN A SANDBOX (cutbox-rows.mjs): the forced cells as the released guide's own fill.sh prints them over the translation d04bcc0094bab5be… (all of the seat's roots in one cut). By AI agents, Wed Nov 11 2026. No macro, syntax, notation, axiom, sorry.
-/
import Derived.Test.YtknpacegaclcgaaChecked
import GoSem.Claim
import GoSem.ClaimJoined
import GoSem.ClaimMapViews
import Derived.JoinedTies
import Derived.KernelRfl
namespace Go.Proofs.Ytknpacegaclcgaa
/- THE CELL 'sum', in the pinned program and in every row, IS THE sha256 OF THE DUMP (.gsa) THAT YtknpacegaclcgaaProg.lean LOADS. Nothing in Lean hashes anything: it is a label: what it is worth is what the hold of that sum in a sandbox is worth. -/
noncomputable def Try.pinned : Pinned := { name := "ytknpacegaclcgaa", sum := "d04bcc0094bab5be9cc222879548dffb295eaace48b2db39a2680eebfb34c664", checked := Try.checked }
namespace Rows
def none {H : Type} : Left H := { results := [], args := [] }

/-- 'credencelaw01.NatOf': WHATEVER THE INPUT: true; the input reads as it did. -/
def natOfSpec : ChangeSpec := { name := "natOf", fn := fun _ => fun
  | [d] => { results := [.lit (.bool true)], args := [d] }
  | _ => none }
def natOfRow : OpenClaim := { program := "ytknpacegaclcgaa", sum := "d04bcc0094bab5be9cc222879548dffb295eaace48b2db39a2680eebfb34c664", func := "credence/credencelaw01.NatOf", spec := "natOf", apart := false }
def NatOfSaid : Prop := natOfRow.holds Try.pinned (OpenSpec.ofChange natOfSpec)

/-- ITS FALSE NEIGHBOUR: 'it returns false'. Refute it at one input. -/
def natOfWrong : ChangeSpec := { name := "natOf", fn := fun _ => fun
  | [d] => { results := [.lit (.bool false)], args := [d] }
  | _ => none }
def NatOfWrongFalsely : Prop := natOfRow.holds Try.pinned (OpenSpec.ofChange natOfWrong)

/-- 'credencelaw01.NatShift': WHATEVER THE INPUT: true; the input reads as it did. -/
def natShiftSpec : ChangeSpec := { name := "natShift", fn := fun _ => fun
  | [d1, d2] => { results := [.lit (.bool true)], args := [d1, d2] }
  | _ => none }
def natShiftRow : OpenClaim := { program := "ytknpacegaclcgaa", sum := "d04bcc0094bab5be9cc222879548dffb295eaace48b2db39a2680eebfb34c664", func := "credence/credencelaw01.NatShift", spec := "natShift", apart := false }
def NatShiftSaid : Prop := natShiftRow.holds Try.pinned (OpenSpec.ofChange natShiftSpec)

/-- ITS FALSE NEIGHBOUR: 'it returns false'. Refute it at one input. -/
def natShiftWrong : ChangeSpec := { name := "natShift", fn := fun _ => fun
  | [d1, d2] => { results := [.lit (.bool false)], args := [d1, d2] }
  | _ => none }
def NatShiftWrongFalsely : Prop := natShiftRow.holds Try.pinned (OpenSpec.ofChange natShiftWrong)

/-- 'credencelaw01.NatText': WHATEVER THE INPUT: true; the input reads as it did. -/
def natTextSpec : ChangeSpec := { name := "natText", fn := fun _ => fun
  | [d1, d2] => { results := [.lit (.bool true)], args := [d1, d2] }
  | _ => none }
def natTextRow : OpenClaim := { program := "ytknpacegaclcgaa", sum := "d04bcc0094bab5be9cc222879548dffb295eaace48b2db39a2680eebfb34c664", func := "credence/credencelaw01.NatText", spec := "natText", apart := false }
def NatTextSaid : Prop := natTextRow.holds Try.pinned (OpenSpec.ofChange natTextSpec)

/-- ITS FALSE NEIGHBOUR: 'it returns false'. Refute it at one input. -/
def natTextWrong : ChangeSpec := { name := "natText", fn := fun _ => fun
  | [d1, d2] => { results := [.lit (.bool false)], args := [d1, d2] }
  | _ => none }
def NatTextWrongFalsely : Prop := natTextRow.holds Try.pinned (OpenSpec.ofChange natTextWrong)

/-- 'credencelaw01.NatPow': WHATEVER THE INPUT: true; the input reads as it did. -/
def natPowSpec : ChangeSpec := { name := "natPow", fn := fun _ => fun
  | [d1, d2] => { results := [.lit (.bool true)], args := [d1, d2] }
  | _ => none }
def natPowRow : OpenClaim := { program := "ytknpacegaclcgaa", sum := "d04bcc0094bab5be9cc222879548dffb295eaace48b2db39a2680eebfb34c664", func := "credence/credencelaw01.NatPow", spec := "natPow", recurses := true, apart := false }
def NatPowSaid : Prop := natPowRow.holds Try.pinned (OpenSpec.ofChange natPowSpec)

/-- ITS FALSE NEIGHBOUR: 'it returns false'. Refute it at one input. -/
def natPowWrong : ChangeSpec := { name := "natPow", fn := fun _ => fun
  | [d1, d2] => { results := [.lit (.bool false)], args := [d1, d2] }
  | _ => none }
def NatPowWrongFalsely : Prop := natPowRow.holds Try.pinned (OpenSpec.ofChange natPowWrong)

/-- 'credencelaw01.NatSums': WHATEVER THE INPUT: true; the input reads as it did. -/
def natSumsSpec : ChangeSpec := { name := "natSums", fn := fun _ => fun
  | [d1, d2] => { results := [.lit (.bool true)], args := [d1, d2] }
  | _ => none }
def natSumsRow : OpenClaim := { program := "ytknpacegaclcgaa", sum := "d04bcc0094bab5be9cc222879548dffb295eaace48b2db39a2680eebfb34c664", func := "credence/credencelaw01.NatSums", spec := "natSums", apart := false }
def NatSumsSaid : Prop := natSumsRow.holds Try.pinned (OpenSpec.ofChange natSumsSpec)

/-- ITS FALSE NEIGHBOUR: 'it returns false'. Refute it at one input. -/
def natSumsWrong : ChangeSpec := { name := "natSums", fn := fun _ => fun
  | [d1, d2] => { results := [.lit (.bool false)], args := [d1, d2] }
  | _ => none }
def NatSumsWrongFalsely : Prop := natSumsRow.holds Try.pinned (OpenSpec.ofChange natSumsWrong)

/-- 'credencelaw01.NatDiv': WHATEVER THE INPUT: true; the input reads as it did. -/
def natDivSpec : ChangeSpec := { name := "natDiv", fn := fun _ => fun
  | [d1, d2] => { results := [.lit (.bool true)], args := [d1, d2] }
  | _ => none }
def natDivRow : OpenClaim := { program := "ytknpacegaclcgaa", sum := "d04bcc0094bab5be9cc222879548dffb295eaace48b2db39a2680eebfb34c664", func := "credence/credencelaw01.NatDiv", spec := "natDiv", apart := false }
def NatDivSaid : Prop := natDivRow.holds Try.pinned (OpenSpec.ofChange natDivSpec)

/-- ITS FALSE NEIGHBOUR: 'it returns false'. Refute it at one input. -/
def natDivWrong : ChangeSpec := { name := "natDiv", fn := fun _ => fun
  | [d1, d2] => { results := [.lit (.bool false)], args := [d1, d2] }
  | _ => none }
def NatDivWrongFalsely : Prop := natDivRow.holds Try.pinned (OpenSpec.ofChange natDivWrong)

/-- 'credencelaw01.NatRoot': WHATEVER THE INPUT: true; the input reads as it did. -/
def natRootSpec : ChangeSpec := { name := "natRoot", fn := fun _ => fun
  | [d] => { results := [.lit (.bool true)], args := [d] }
  | _ => none }
def natRootRow : OpenClaim := { program := "ytknpacegaclcgaa", sum := "d04bcc0094bab5be9cc222879548dffb295eaace48b2db39a2680eebfb34c664", func := "credence/credencelaw01.NatRoot", spec := "natRoot", apart := false }
def NatRootSaid : Prop := natRootRow.holds Try.pinned (OpenSpec.ofChange natRootSpec)

/-- ITS FALSE NEIGHBOUR: 'it returns false'. Refute it at one input. -/
def natRootWrong : ChangeSpec := { name := "natRoot", fn := fun _ => fun
  | [d] => { results := [.lit (.bool false)], args := [d] }
  | _ => none }
def NatRootWrongFalsely : Prop := natRootRow.holds Try.pinned (OpenSpec.ofChange natRootWrong)

/-- 'credencelaw01.NatDivides': WHATEVER THE INPUT: true; the input reads as it did. -/
def natDividesSpec : ChangeSpec := { name := "natDivides", fn := fun _ => fun
  | [d1, d2, d3] => { results := [.lit (.bool true)], args := [d1, d2, d3] }
  | _ => none }
def natDividesRow : OpenClaim := { program := "ytknpacegaclcgaa", sum := "d04bcc0094bab5be9cc222879548dffb295eaace48b2db39a2680eebfb34c664", func := "credence/credencelaw01.NatDivides", spec := "natDivides", apart := false }
def NatDividesSaid : Prop := natDividesRow.holds Try.pinned (OpenSpec.ofChange natDividesSpec)

/-- ITS FALSE NEIGHBOUR: 'it returns false'. Refute it at one input. -/
def natDividesWrong : ChangeSpec := { name := "natDivides", fn := fun _ => fun
  | [d1, d2, d3] => { results := [.lit (.bool false)], args := [d1, d2, d3] }
  | _ => none }
def NatDividesWrongFalsely : Prop := natDividesRow.holds Try.pinned (OpenSpec.ofChange natDividesWrong)

/-- 'credencelaw01.NatRoots': WHATEVER THE INPUT: true; the input reads as it did. -/
def natRootsSpec : ChangeSpec := { name := "natRoots", fn := fun _ => fun
  | [d] => { results := [.lit (.bool true)], args := [d] }
  | _ => none }
def natRootsRow : OpenClaim := { program := "ytknpacegaclcgaa", sum := "d04bcc0094bab5be9cc222879548dffb295eaace48b2db39a2680eebfb34c664", func := "credence/credencelaw01.NatRoots", spec := "natRoots", apart := false }
def NatRootsSaid : Prop := natRootsRow.holds Try.pinned (OpenSpec.ofChange natRootsSpec)

/-- ITS FALSE NEIGHBOUR: 'it returns false'. Refute it at one input. -/
def natRootsWrong : ChangeSpec := { name := "natRoots", fn := fun _ => fun
  | [d] => { results := [.lit (.bool false)], args := [d] }
  | _ => none }
def NatRootsWrongFalsely : Prop := natRootsRow.holds Try.pinned (OpenSpec.ofChange natRootsWrong)

/-- 'credencelaw01.NatThere': WHATEVER THE INPUT: true; the input reads as it did. -/
def natThereSpec : ChangeSpec := { name := "natThere", fn := fun _ => fun
  | [d1, d2, d3] => { results := [.lit (.bool true)], args := [d1, d2, d3] }
  | _ => none }
def natThereRow : OpenClaim := { program := "ytknpacegaclcgaa", sum := "d04bcc0094bab5be9cc222879548dffb295eaace48b2db39a2680eebfb34c664", func := "credence/credencelaw01.NatThere", spec := "natThere", apart := false }
def NatThereSaid : Prop := natThereRow.holds Try.pinned (OpenSpec.ofChange natThereSpec)

/-- ITS FALSE NEIGHBOUR: 'it returns false'. Refute it at one input. -/
def natThereWrong : ChangeSpec := { name := "natThere", fn := fun _ => fun
  | [d1, d2, d3] => { results := [.lit (.bool false)], args := [d1, d2, d3] }
  | _ => none }
def NatThereWrongFalsely : Prop := natThereRow.holds Try.pinned (OpenSpec.ofChange natThereWrong)

/-- 'credencelaw01.NatGcd': WHATEVER THE INPUT: true; the input reads as it did. -/
def natGcdSpec : ChangeSpec := { name := "natGcd", fn := fun _ => fun
  | [d1, d2, d3] => { results := [.lit (.bool true)], args := [d1, d2, d3] }
  | _ => none }
def natGcdRow : OpenClaim := { program := "ytknpacegaclcgaa", sum := "d04bcc0094bab5be9cc222879548dffb295eaace48b2db39a2680eebfb34c664", func := "credence/credencelaw01.NatGcd", spec := "natGcd", apart := false }
def NatGcdSaid : Prop := natGcdRow.holds Try.pinned (OpenSpec.ofChange natGcdSpec)

/-- ITS FALSE NEIGHBOUR: 'it returns false'. Refute it at one input. -/
def natGcdWrong : ChangeSpec := { name := "natGcd", fn := fun _ => fun
  | [d1, d2, d3] => { results := [.lit (.bool false)], args := [d1, d2, d3] }
  | _ => none }
def NatGcdWrongFalsely : Prop := natGcdRow.holds Try.pinned (OpenSpec.ofChange natGcdWrong)

/-- 'credencelaw01.NatNames': WHATEVER THE INPUT: true; the input reads as it did. -/
def natNamesSpec : ChangeSpec := { name := "natNames", fn := fun _ => fun
  | [] => { results := [.lit (.bool true)], args := [] }
  | _ => none }
def natNamesRow : OpenClaim := { program := "ytknpacegaclcgaa", sum := "d04bcc0094bab5be9cc222879548dffb295eaace48b2db39a2680eebfb34c664", func := "credence/credencelaw01.NatNames", spec := "natNames", apart := false }
def NatNamesSaid : Prop := natNamesRow.holds Try.pinned (OpenSpec.ofChange natNamesSpec)

/-- ITS FALSE NEIGHBOUR: 'it returns false'. Refute it at one input. -/
def natNamesWrong : ChangeSpec := { name := "natNames", fn := fun _ => fun
  | [] => { results := [.lit (.bool false)], args := [] }
  | _ => none }
def NatNamesWrongFalsely : Prop := natNamesRow.holds Try.pinned (OpenSpec.ofChange natNamesWrong)

/-- 'credencelaw01.NatRing': WHATEVER THE INPUT: true; the input reads as it did. -/
def natRingSpec : ChangeSpec := { name := "natRing", fn := fun _ => fun
  | [d1, d2, d3] => { results := [.lit (.bool true)], args := [d1, d2, d3] }
  | _ => none }
def natRingRow : OpenClaim := { program := "ytknpacegaclcgaa", sum := "d04bcc0094bab5be9cc222879548dffb295eaace48b2db39a2680eebfb34c664", func := "credence/credencelaw01.NatRing", spec := "natRing", apart := false }
def NatRingSaid : Prop := natRingRow.holds Try.pinned (OpenSpec.ofChange natRingSpec)

/-- ITS FALSE NEIGHBOUR: 'it returns false'. Refute it at one input. -/
def natRingWrong : ChangeSpec := { name := "natRing", fn := fun _ => fun
  | [d1, d2, d3] => { results := [.lit (.bool false)], args := [d1, d2, d3] }
  | _ => none }
def NatRingWrongFalsely : Prop := natRingRow.holds Try.pinned (OpenSpec.ofChange natRingWrong)

/-- 'credencelaw01.NatPowers': WHATEVER THE INPUT: true; the input reads as it did. -/
def natPowersSpec : ChangeSpec := { name := "natPowers", fn := fun _ => fun
  | [d1, d2, d3] => { results := [.lit (.bool true)], args := [d1, d2, d3] }
  | _ => none }
def natPowersRow : OpenClaim := { program := "ytknpacegaclcgaa", sum := "d04bcc0094bab5be9cc222879548dffb295eaace48b2db39a2680eebfb34c664", func := "credence/credencelaw01.NatPowers", spec := "natPowers", apart := false }
def NatPowersSaid : Prop := natPowersRow.holds Try.pinned (OpenSpec.ofChange natPowersSpec)

/-- ITS FALSE NEIGHBOUR: 'it returns false'. Refute it at one input. -/
def natPowersWrong : ChangeSpec := { name := "natPowers", fn := fun _ => fun
  | [d1, d2, d3] => { results := [.lit (.bool false)], args := [d1, d2, d3] }
  | _ => none }
def NatPowersWrongFalsely : Prop := natPowersRow.holds Try.pinned (OpenSpec.ofChange natPowersWrong)

/- THE SECOND FORM. 'bulk': how many values and letters a reading holds, each counted each time it is reached (what is shared counts as often as it is met; a slice's spare places count too). A statement '..UptoSaid' is the law's where the arguments, and the package variables that the reading takes, are together of bulk at most 1048576: NARROWER than '..Said'. Prove '..Said' where nothing that the law and all that it calls make is longer than what came in: it says more and counts as full. Else prove '..UptoSaid'. A law counts once. -/
mutual
def uptoBulk {H : Type} : DataW H → Nat
  | .lit (.string bytes) => bytes.length + 1
  | .lit _ => 1
  | .nil => 1
  | .ptr d => uptoBulk d + 1
  | .slice elems spare => uptoBulkAll elems + uptoBulkAll spare + 1
  | .agg parts => uptoBulkAll parts + 1
  | .iface _ d => uptoBulk d + 1
  | .map entries => uptoBulkEntries entries + 1
  | .held _ => 1
def uptoBulkAll {H : Type} : List (DataW H) → Nat
  | [] => 0
  | d :: r => uptoBulk d + uptoBulkAll r
def uptoBulkEntries {H : Type} : List (Lit × DataW H) → Nat
  | [] => 0
  | x :: r => uptoBulkEntry x + uptoBulkEntries r
def uptoBulkEntry {H : Type} : Lit × DataW H → Nat
  | (.string bytes, d) => bytes.length + uptoBulk d + 1
  | (_, d) => uptoBulk d + 1
 end
def uptoSmall : (H : Type) → List (DataW H) → Bool := fun _ ds => decide (uptoBulkAll ds ≤ 1048576)
def OpenSpec.upto (s : _root_.Go.ChangeSpec) : _root_.Go.OpenSpec := { _root_.Go.OpenSpec.ofChange s with cond := some uptoSmall }

/-- 'credencelaw01.NatOf', WHERE WHAT IT READS IS OF BULK AT MOST 1048576: true; the input reads as it did. -/
def natOfUptoRow : OpenClaim := { program := "ytknpacegaclcgaa", sum := "d04bcc0094bab5be9cc222879548dffb295eaace48b2db39a2680eebfb34c664", func := "credence/credencelaw01.NatOf", spec := "natOf", apart := false, narrowed := true }
def NatOfUptoSaid : Prop := natOfUptoRow.holds Try.pinned (OpenSpec.upto natOfSpec)

/-- 'credencelaw01.NatShift', WHERE WHAT IT READS IS OF BULK AT MOST 1048576: true; the input reads as it did. -/
def natShiftUptoRow : OpenClaim := { program := "ytknpacegaclcgaa", sum := "d04bcc0094bab5be9cc222879548dffb295eaace48b2db39a2680eebfb34c664", func := "credence/credencelaw01.NatShift", spec := "natShift", apart := false, narrowed := true }
def NatShiftUptoSaid : Prop := natShiftUptoRow.holds Try.pinned (OpenSpec.upto natShiftSpec)

/-- 'credencelaw01.NatText', WHERE WHAT IT READS IS OF BULK AT MOST 1048576: true; the input reads as it did. -/
def natTextUptoRow : OpenClaim := { program := "ytknpacegaclcgaa", sum := "d04bcc0094bab5be9cc222879548dffb295eaace48b2db39a2680eebfb34c664", func := "credence/credencelaw01.NatText", spec := "natText", apart := false, narrowed := true }
def NatTextUptoSaid : Prop := natTextUptoRow.holds Try.pinned (OpenSpec.upto natTextSpec)

/-- 'credencelaw01.NatPow', WHERE WHAT IT READS IS OF BULK AT MOST 1048576: true; the input reads as it did. -/
def natPowUptoRow : OpenClaim := { program := "ytknpacegaclcgaa", sum := "d04bcc0094bab5be9cc222879548dffb295eaace48b2db39a2680eebfb34c664", func := "credence/credencelaw01.NatPow", spec := "natPow", recurses := true, apart := false, narrowed := true }
def NatPowUptoSaid : Prop := natPowUptoRow.holds Try.pinned (OpenSpec.upto natPowSpec)

/-- 'credencelaw01.NatSums', WHERE WHAT IT READS IS OF BULK AT MOST 1048576: true; the input reads as it did. -/
def natSumsUptoRow : OpenClaim := { program := "ytknpacegaclcgaa", sum := "d04bcc0094bab5be9cc222879548dffb295eaace48b2db39a2680eebfb34c664", func := "credence/credencelaw01.NatSums", spec := "natSums", apart := false, narrowed := true }
def NatSumsUptoSaid : Prop := natSumsUptoRow.holds Try.pinned (OpenSpec.upto natSumsSpec)

/-- 'credencelaw01.NatDiv', WHERE WHAT IT READS IS OF BULK AT MOST 1048576: true; the input reads as it did. -/
def natDivUptoRow : OpenClaim := { program := "ytknpacegaclcgaa", sum := "d04bcc0094bab5be9cc222879548dffb295eaace48b2db39a2680eebfb34c664", func := "credence/credencelaw01.NatDiv", spec := "natDiv", apart := false, narrowed := true }
def NatDivUptoSaid : Prop := natDivUptoRow.holds Try.pinned (OpenSpec.upto natDivSpec)

/-- 'credencelaw01.NatRoot', WHERE WHAT IT READS IS OF BULK AT MOST 1048576: true; the input reads as it did. -/
def natRootUptoRow : OpenClaim := { program := "ytknpacegaclcgaa", sum := "d04bcc0094bab5be9cc222879548dffb295eaace48b2db39a2680eebfb34c664", func := "credence/credencelaw01.NatRoot", spec := "natRoot", apart := false, narrowed := true }
def NatRootUptoSaid : Prop := natRootUptoRow.holds Try.pinned (OpenSpec.upto natRootSpec)

/-- 'credencelaw01.NatDivides', WHERE WHAT IT READS IS OF BULK AT MOST 1048576: true; the input reads as it did. -/
def natDividesUptoRow : OpenClaim := { program := "ytknpacegaclcgaa", sum := "d04bcc0094bab5be9cc222879548dffb295eaace48b2db39a2680eebfb34c664", func := "credence/credencelaw01.NatDivides", spec := "natDivides", apart := false, narrowed := true }
def NatDividesUptoSaid : Prop := natDividesUptoRow.holds Try.pinned (OpenSpec.upto natDividesSpec)

/-- 'credencelaw01.NatRoots', WHERE WHAT IT READS IS OF BULK AT MOST 1048576: true; the input reads as it did. -/
def natRootsUptoRow : OpenClaim := { program := "ytknpacegaclcgaa", sum := "d04bcc0094bab5be9cc222879548dffb295eaace48b2db39a2680eebfb34c664", func := "credence/credencelaw01.NatRoots", spec := "natRoots", apart := false, narrowed := true }
def NatRootsUptoSaid : Prop := natRootsUptoRow.holds Try.pinned (OpenSpec.upto natRootsSpec)

/-- 'credencelaw01.NatThere', WHERE WHAT IT READS IS OF BULK AT MOST 1048576: true; the input reads as it did. -/
def natThereUptoRow : OpenClaim := { program := "ytknpacegaclcgaa", sum := "d04bcc0094bab5be9cc222879548dffb295eaace48b2db39a2680eebfb34c664", func := "credence/credencelaw01.NatThere", spec := "natThere", apart := false, narrowed := true }
def NatThereUptoSaid : Prop := natThereUptoRow.holds Try.pinned (OpenSpec.upto natThereSpec)

/-- 'credencelaw01.NatGcd', WHERE WHAT IT READS IS OF BULK AT MOST 1048576: true; the input reads as it did. -/
def natGcdUptoRow : OpenClaim := { program := "ytknpacegaclcgaa", sum := "d04bcc0094bab5be9cc222879548dffb295eaace48b2db39a2680eebfb34c664", func := "credence/credencelaw01.NatGcd", spec := "natGcd", apart := false, narrowed := true }
def NatGcdUptoSaid : Prop := natGcdUptoRow.holds Try.pinned (OpenSpec.upto natGcdSpec)

/-- 'credencelaw01.NatNames', WHERE WHAT IT READS IS OF BULK AT MOST 1048576: true; the input reads as it did. -/
def natNamesUptoRow : OpenClaim := { program := "ytknpacegaclcgaa", sum := "d04bcc0094bab5be9cc222879548dffb295eaace48b2db39a2680eebfb34c664", func := "credence/credencelaw01.NatNames", spec := "natNames", apart := false, narrowed := true }
def NatNamesUptoSaid : Prop := natNamesUptoRow.holds Try.pinned (OpenSpec.upto natNamesSpec)

/-- 'credencelaw01.NatRing', WHERE WHAT IT READS IS OF BULK AT MOST 1048576: true; the input reads as it did. -/
def natRingUptoRow : OpenClaim := { program := "ytknpacegaclcgaa", sum := "d04bcc0094bab5be9cc222879548dffb295eaace48b2db39a2680eebfb34c664", func := "credence/credencelaw01.NatRing", spec := "natRing", apart := false, narrowed := true }
def NatRingUptoSaid : Prop := natRingUptoRow.holds Try.pinned (OpenSpec.upto natRingSpec)

/-- 'credencelaw01.NatPowers', WHERE WHAT IT READS IS OF BULK AT MOST 1048576: true; the input reads as it did. -/
def natPowersUptoRow : OpenClaim := { program := "ytknpacegaclcgaa", sum := "d04bcc0094bab5be9cc222879548dffb295eaace48b2db39a2680eebfb34c664", func := "credence/credencelaw01.NatPowers", spec := "natPowers", apart := false, narrowed := true }
def NatPowersUptoSaid : Prop := natPowersUptoRow.holds Try.pinned (OpenSpec.upto natPowersSpec)

end Rows
end Go.Proofs.Ytknpacegaclcgaa
