/-
  No cell of these rows narrows 'for every input' (looked for: loops, veiled, ifaces, maps, wideKeys, modest, calm, conditions, laid).
  DERIVED. THE GIVEN ROWS OF THIS SEAT. 4 by the template 'for every input the law returns true; each argument reads behind the call as it read before'; 0 by the template 'total and deterministic' (their statements: YtennilapmcgnbaaTotals.lean).
  GIVEN WITH THE SEED: the statements are not yours to turn. If you find one false, say at which input.
  Laid BY PROGRAM, IN A SANDBOX (cutbox-rows.mjs): the forced cells as the released guide's own fill.sh prints them over the translation 46e1ea1367ed793e… (all of the seat's roots in one cut). By AI agents, Wed Nov 11 2026. No macro, syntax, notation, axiom, sorry.
-/
import Derived.Test.YtennilapmcgnbaaChecked
import GoSem.Claim
import GoSem.ClaimJoined
import GoSem.ClaimMapViews
import Derived.JoinedTies
import Derived.KernelRfl
namespace Go.Proofs.Ytennilapmcgnbaa
/- THE CELL 'sum', in the pinned program and in every row, IS THE sha256 OF THE DUMP (.gsa) THAT YtennilapmcgnbaaProg.lean LOADS. Nothing in Lean hashes anything: it is a label: what it is worth is what the hold of that sum in a sandbox is worth. -/
noncomputable def Try.pinned : Pinned := { name := "ytennilapmcgnbaa", sum := "46e1ea1367ed793e05ad2b27fb5b3a736453473414adf02f9782197ebac9da64", checked := Try.checked }
namespace Rows
def none {H : Type} : Left H := { results := [], args := [] }

/-- 'credencelaw09.ExprOpen': WHATEVER THE INPUT: true; the input reads as it did. -/
def exprOpenSpec : ChangeSpec := { name := "exprOpen", fn := fun _ => fun
  | [d1, d2, d3] => { results := [.lit (.bool true)], args := [d1, d2, d3] }
  | _ => none }
def exprOpenRow : OpenClaim := { program := "ytennilapmcgnbaa", sum := "46e1ea1367ed793e05ad2b27fb5b3a736453473414adf02f9782197ebac9da64", func := "credence/credencelaw09.ExprOpen", spec := "exprOpen", recurses := true, apart := false }
def ExprOpenSaid : Prop := exprOpenRow.holds Try.pinned (OpenSpec.ofChange exprOpenSpec)

/-- ITS FALSE NEIGHBOUR: 'it returns false'. Refute it at one input. -/
def exprOpenWrong : ChangeSpec := { name := "exprOpen", fn := fun _ => fun
  | [d1, d2, d3] => { results := [.lit (.bool false)], args := [d1, d2, d3] }
  | _ => none }
def ExprOpenWrongFalsely : Prop := exprOpenRow.holds Try.pinned (OpenSpec.ofChange exprOpenWrong)

/-- 'credencelaw09.ExprJoined': WHATEVER THE INPUT: true; the input reads as it did. -/
def exprJoinedSpec : ChangeSpec := { name := "exprJoined", fn := fun _ => fun
  | [d1, d2, d3] => { results := [.lit (.bool true)], args := [d1, d2, d3] }
  | _ => none }
def exprJoinedRow : OpenClaim := { program := "ytennilapmcgnbaa", sum := "46e1ea1367ed793e05ad2b27fb5b3a736453473414adf02f9782197ebac9da64", func := "credence/credencelaw09.ExprJoined", spec := "exprJoined", recurses := true, apart := false }
def ExprJoinedSaid : Prop := exprJoinedRow.holds Try.pinned (OpenSpec.ofChange exprJoinedSpec)

/-- ITS FALSE NEIGHBOUR: 'it returns false'. Refute it at one input. -/
def exprJoinedWrong : ChangeSpec := { name := "exprJoined", fn := fun _ => fun
  | [d1, d2, d3] => { results := [.lit (.bool false)], args := [d1, d2, d3] }
  | _ => none }
def ExprJoinedWrongFalsely : Prop := exprJoinedRow.holds Try.pinned (OpenSpec.ofChange exprJoinedWrong)

/-- 'credencelaw09.ExprLong': WHATEVER THE INPUT: true; the input reads as it did. -/
def exprLongSpec : ChangeSpec := { name := "exprLong", fn := fun _ => fun
  | [d1, d2] => { results := [.lit (.bool true)], args := [d1, d2] }
  | _ => none }
def exprLongRow : OpenClaim := { program := "ytennilapmcgnbaa", sum := "46e1ea1367ed793e05ad2b27fb5b3a736453473414adf02f9782197ebac9da64", func := "credence/credencelaw09.ExprLong", spec := "exprLong", recurses := true, apart := false }
def ExprLongSaid : Prop := exprLongRow.holds Try.pinned (OpenSpec.ofChange exprLongSpec)

/-- ITS FALSE NEIGHBOUR: 'it returns false'. Refute it at one input. -/
def exprLongWrong : ChangeSpec := { name := "exprLong", fn := fun _ => fun
  | [d1, d2] => { results := [.lit (.bool false)], args := [d1, d2] }
  | _ => none }
def ExprLongWrongFalsely : Prop := exprLongRow.holds Try.pinned (OpenSpec.ofChange exprLongWrong)

/-- 'credencelaw03.FracMade': WHATEVER THE INPUT: true; the input reads as it did. -/
def fracMadeSpec : ChangeSpec := { name := "fracMade", fn := fun _ => fun
  | [d] => { results := [.lit (.bool true)], args := [d] }
  | _ => none }
def fracMadeRow : OpenClaim := { program := "ytennilapmcgnbaa", sum := "46e1ea1367ed793e05ad2b27fb5b3a736453473414adf02f9782197ebac9da64", func := "credence/credencelaw03.FracMade", spec := "fracMade", inPlace := ["internal/bytealg.IndexByteString", "internal/bytealg.IndexString"], unfollowed := true, recurses := true, named := ["internal/bytealg.MaxLen"], apart := false }
def FracMadeSaid : Prop := fracMadeRow.holds Try.pinned (OpenSpec.ofChange fracMadeSpec)

/-- ITS FALSE NEIGHBOUR: 'it returns false'. Refute it at one input. -/
def fracMadeWrong : ChangeSpec := { name := "fracMade", fn := fun _ => fun
  | [d] => { results := [.lit (.bool false)], args := [d] }
  | _ => none }
def FracMadeWrongFalsely : Prop := fracMadeRow.holds Try.pinned (OpenSpec.ofChange fracMadeWrong)

/- THE SECOND FORM. 'bulk': how many values and letters a reading holds, each counted each time it is reached (what is shared counts as often as it is met; a slice's spare places count too). A statement '..UptoSaid' is the law's where the arguments, and the package variables that the reading takes, are together of bulk at most 1048576: NARROWER than '..Said'. Prove '..Said' where nothing that the law and all that it calls make is longer than what came in: it says more and counts as full. Else prove '..UptoSaid'. A law counts once. -/
mutual
def uptoBulk {H : Type} : DataW H → Nat
  | .lit (.string bytes) => bytes.length + 1
  | .lit _ => 1
  | .nil => 1
  | .ptr d => uptoBulk d + 1
  | .slice elems spare => uptoBulkAll elems + uptoBulkAll spare + 1
  | .agg parts => uptoBulkAll parts + 1
  | .iface _ d => uptoBulk d + 1
  | .map entries => uptoBulkEntries entries + 1
  | .held _ => 1
def uptoBulkAll {H : Type} : List (DataW H) → Nat
  | [] => 0
  | d :: r => uptoBulk d + uptoBulkAll r
def uptoBulkEntries {H : Type} : List (Lit × DataW H) → Nat
  | [] => 0
  | x :: r => uptoBulkEntry x + uptoBulkEntries r
def uptoBulkEntry {H : Type} : Lit × DataW H → Nat
  | (.string bytes, d) => bytes.length + uptoBulk d + 1
  | (_, d) => uptoBulk d + 1
 end
def uptoSmall : (H : Type) → List (DataW H) → Bool := fun _ ds => decide (uptoBulkAll ds ≤ 1048576)
def OpenSpec.upto (s : _root_.Go.ChangeSpec) : _root_.Go.OpenSpec := { _root_.Go.OpenSpec.ofChange s with cond := some uptoSmall }

/-- 'credencelaw09.ExprOpen', WHERE WHAT IT READS IS OF BULK AT MOST 1048576: true; the input reads as it did. -/
def exprOpenUptoRow : OpenClaim := { program := "ytennilapmcgnbaa", sum := "46e1ea1367ed793e05ad2b27fb5b3a736453473414adf02f9782197ebac9da64", func := "credence/credencelaw09.ExprOpen", spec := "exprOpen", recurses := true, apart := false, narrowed := true }
def ExprOpenUptoSaid : Prop := exprOpenUptoRow.holds Try.pinned (OpenSpec.upto exprOpenSpec)

/-- 'credencelaw09.ExprJoined', WHERE WHAT IT READS IS OF BULK AT MOST 1048576: true; the input reads as it did. -/
def exprJoinedUptoRow : OpenClaim := { program := "ytennilapmcgnbaa", sum := "46e1ea1367ed793e05ad2b27fb5b3a736453473414adf02f9782197ebac9da64", func := "credence/credencelaw09.ExprJoined", spec := "exprJoined", recurses := true, apart := false, narrowed := true }
def ExprJoinedUptoSaid : Prop := exprJoinedUptoRow.holds Try.pinned (OpenSpec.upto exprJoinedSpec)

/-- 'credencelaw09.ExprLong', WHERE WHAT IT READS IS OF BULK AT MOST 1048576: true; the input reads as it did. -/
def exprLongUptoRow : OpenClaim := { program := "ytennilapmcgnbaa", sum := "46e1ea1367ed793e05ad2b27fb5b3a736453473414adf02f9782197ebac9da64", func := "credence/credencelaw09.ExprLong", spec := "exprLong", recurses := true, apart := false, narrowed := true }
def ExprLongUptoSaid : Prop := exprLongUptoRow.holds Try.pinned (OpenSpec.upto exprLongSpec)

/-- 'credencelaw03.FracMade', WHERE WHAT IT READS IS OF BULK AT MOST 1048576: true; the input reads as it did. -/
def fracMadeUptoRow : OpenClaim := { program := "ytennilapmcgnbaa", sum := "46e1ea1367ed793e05ad2b27fb5b3a736453473414adf02f9782197ebac9da64", func := "credence/credencelaw03.FracMade", spec := "fracMade", inPlace := ["internal/bytealg.IndexByteString", "internal/bytealg.IndexString"], unfollowed := true, recurses := true, named := ["internal/bytealg.MaxLen"], apart := false, narrowed := true }
def FracMadeUptoSaid : Prop := fracMadeUptoRow.holds Try.pinned (OpenSpec.upto fracMadeSpec)

end Rows
end Go.Proofs.Ytennilapmcgnbaa
