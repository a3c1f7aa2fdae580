/-
  No cell of these rows narrows 'for every input' (looked for: loops, veiled, ifaces, maps, wideKeys, modest, calm, conditions, laid).
  DERIVED. THE GIVEN ROWS OF THIS SEAT. 4 by the template 'for every input the law returns true; each argument reads behind the call as it read before'; 0 by the template 'total and deterministic' (their statements: YtokkfppchfmjcaaGreatTotals.lean).
  GIVEN WITH THE SEED: the statements are not yours to turn. If you find one false, say at which input.
  Laid BY PROGRAM, IN A SANDBOX (cutbox-rows.mjs): the forced cells as the released guide's own fill.sh prints them over the translation e468ca38dbd9c262… (all of the seat's roots in one cut). By AI agents, Wed Nov 11 2026. No macro, syntax, notation, axiom, sorry.
-/
import Derived.Test.YtokkfppchfmjcaaGreatChecked
import GoSem.Claim
import GoSem.ClaimJoined
import GoSem.ClaimMapViews
import Derived.JoinedTies
import Derived.KernelRfl
namespace Go.Proofs.YtokkfppchfmjcaaGreat
/- THE CELL 'sum', in the pinned program and in every row, IS THE sha256 OF THE DUMP (.gsa) THAT YtokkfppchfmjcaaGreatProg.lean LOADS. Nothing in Lean hashes anything: it is a label: what it is worth is what the hold of that sum in a sandbox is worth. -/
noncomputable def Tryz.pinned : Pinned := { name := "ytokkfppchfmjcaagreat", sum := "e468ca38dbd9c262c852666be65c0862274e2a785fb32253eeb54657c21a717d", checked := Tryz.checked }
namespace Rows
def none {H : Type} : Left H := { results := [], args := [] }

/-- 'credencelaw12.RingOrder': WHATEVER THE INPUT: true; the input reads as it did. -/
def ringOrderSpec : ChangeSpec := { name := "ringOrder", fn := fun _ => fun
  | [d1, d2, d3] => { results := [.lit (.bool true)], args := [d1, d2, d3] }
  | _ => none }
def ringOrderRow : OpenClaim := { program := "ytokkfppchfmjcaagreat", sum := "e468ca38dbd9c262c852666be65c0862274e2a785fb32253eeb54657c21a717d", func := "credence/credencelaw12.RingOrder", spec := "ringOrder", unfollowed := true, recurses := true, apart := false }
def RingOrderSaid : Prop := ringOrderRow.holds Tryz.pinned (OpenSpec.ofChange ringOrderSpec)

/-- ITS FALSE NEIGHBOUR: 'it returns false'. Refute it at one input. -/
def ringOrderWrong : ChangeSpec := { name := "ringOrder", fn := fun _ => fun
  | [d1, d2, d3] => { results := [.lit (.bool false)], args := [d1, d2, d3] }
  | _ => none }
def RingOrderWrongFalsely : Prop := ringOrderRow.holds Tryz.pinned (OpenSpec.ofChange ringOrderWrong)

/-- 'credencelaw09.ExprEval': WHATEVER THE INPUT: true; the input reads as it did. -/
def exprEvalSpec : ChangeSpec := { name := "exprEval", fn := fun _ => fun
  | [d] => { results := [.lit (.bool true)], args := [d] }
  | _ => none }
def exprEvalRow : OpenClaim := { program := "ytokkfppchfmjcaagreat", sum := "e468ca38dbd9c262c852666be65c0862274e2a785fb32253eeb54657c21a717d", func := "credence/credencelaw09.ExprEval", spec := "exprEval", recurses := true, apart := false }
def ExprEvalSaid : Prop := exprEvalRow.holds Tryz.pinned (OpenSpec.ofChange exprEvalSpec)

/-- ITS FALSE NEIGHBOUR: 'it returns false'. Refute it at one input. -/
def exprEvalWrong : ChangeSpec := { name := "exprEval", fn := fun _ => fun
  | [d] => { results := [.lit (.bool false)], args := [d] }
  | _ => none }
def ExprEvalWrongFalsely : Prop := exprEvalRow.holds Tryz.pinned (OpenSpec.ofChange exprEvalWrong)

/-- 'credencelaw09.ExprLine': WHATEVER THE INPUT: true; the input reads as it did. -/
def exprLineSpec : ChangeSpec := { name := "exprLine", fn := fun _ => fun
  | [d1, d2] => { results := [.lit (.bool true)], args := [d1, d2] }
  | _ => none }
def exprLineRow : OpenClaim := { program := "ytokkfppchfmjcaagreat", sum := "e468ca38dbd9c262c852666be65c0862274e2a785fb32253eeb54657c21a717d", func := "credence/credencelaw09.ExprLine", spec := "exprLine", recurses := true, apart := false }
def ExprLineSaid : Prop := exprLineRow.holds Tryz.pinned (OpenSpec.ofChange exprLineSpec)

/-- ITS FALSE NEIGHBOUR: 'it returns false'. Refute it at one input. -/
def exprLineWrong : ChangeSpec := { name := "exprLine", fn := fun _ => fun
  | [d1, d2] => { results := [.lit (.bool false)], args := [d1, d2] }
  | _ => none }
def ExprLineWrongFalsely : Prop := exprLineRow.holds Tryz.pinned (OpenSpec.ofChange exprLineWrong)

/-- 'credencelaw03.FracTerms': WHATEVER THE INPUT: true; the input reads as it did. -/
def fracTermsSpec : ChangeSpec := { name := "fracTerms", fn := fun _ => fun
  | [d1, d2] => { results := [.lit (.bool true)], args := [d1, d2] }
  | _ => none }
def fracTermsRow : OpenClaim := { program := "ytokkfppchfmjcaagreat", sum := "e468ca38dbd9c262c852666be65c0862274e2a785fb32253eeb54657c21a717d", func := "credence/credencelaw03.FracTerms", spec := "fracTerms", inPlace := ["internal/bytealg.IndexByteString", "internal/bytealg.IndexString"], unfollowed := true, recurses := true, named := ["internal/bytealg.MaxLen"], apart := false }
def FracTermsSaid : Prop := fracTermsRow.holds Tryz.pinned (OpenSpec.ofChange fracTermsSpec)

/-- ITS FALSE NEIGHBOUR: 'it returns false'. Refute it at one input. -/
def fracTermsWrong : ChangeSpec := { name := "fracTerms", fn := fun _ => fun
  | [d1, d2] => { results := [.lit (.bool false)], args := [d1, d2] }
  | _ => none }
def FracTermsWrongFalsely : Prop := fracTermsRow.holds Tryz.pinned (OpenSpec.ofChange fracTermsWrong)

/- THE SECOND FORM. 'bulk': how many values and letters a reading holds, each counted each time it is reached (what is shared counts as often as it is met; a slice's spare places count too). A statement '..UptoSaid' is the law's where the arguments, and the package variables that the reading takes, are together of bulk at most 1048576: NARROWER than '..Said'. Prove '..Said' where nothing that the law and all that it calls make is longer than what came in: it says more and counts as full. Else prove '..UptoSaid'. A law counts once. -/
mutual
def uptoBulk {H : Type} : DataW H → Nat
  | .lit (.string bytes) => bytes.length + 1
  | .lit _ => 1
  | .nil => 1
  | .ptr d => uptoBulk d + 1
  | .slice elems spare => uptoBulkAll elems + uptoBulkAll spare + 1
  | .agg parts => uptoBulkAll parts + 1
  | .iface _ d => uptoBulk d + 1
  | .map entries => uptoBulkEntries entries + 1
  | .held _ => 1
def uptoBulkAll {H : Type} : List (DataW H) → Nat
  | [] => 0
  | d :: r => uptoBulk d + uptoBulkAll r
def uptoBulkEntries {H : Type} : List (Lit × DataW H) → Nat
  | [] => 0
  | x :: r => uptoBulkEntry x + uptoBulkEntries r
def uptoBulkEntry {H : Type} : Lit × DataW H → Nat
  | (.string bytes, d) => bytes.length + uptoBulk d + 1
  | (_, d) => uptoBulk d + 1
 end
def uptoSmall : (H : Type) → List (DataW H) → Bool := fun _ ds => decide (uptoBulkAll ds ≤ 1048576)
def OpenSpec.upto (s : _root_.Go.ChangeSpec) : _root_.Go.OpenSpec := { _root_.Go.OpenSpec.ofChange s with cond := some uptoSmall }

/-- 'credencelaw12.RingOrder', WHERE WHAT IT READS IS OF BULK AT MOST 1048576: true; the input reads as it did. -/
def ringOrderUptoRow : OpenClaim := { program := "ytokkfppchfmjcaagreat", sum := "e468ca38dbd9c262c852666be65c0862274e2a785fb32253eeb54657c21a717d", func := "credence/credencelaw12.RingOrder", spec := "ringOrder", unfollowed := true, recurses := true, apart := false, narrowed := true }
def RingOrderUptoSaid : Prop := ringOrderUptoRow.holds Tryz.pinned (OpenSpec.upto ringOrderSpec)

/-- 'credencelaw09.ExprEval', WHERE WHAT IT READS IS OF BULK AT MOST 1048576: true; the input reads as it did. -/
def exprEvalUptoRow : OpenClaim := { program := "ytokkfppchfmjcaagreat", sum := "e468ca38dbd9c262c852666be65c0862274e2a785fb32253eeb54657c21a717d", func := "credence/credencelaw09.ExprEval", spec := "exprEval", recurses := true, apart := false, narrowed := true }
def ExprEvalUptoSaid : Prop := exprEvalUptoRow.holds Tryz.pinned (OpenSpec.upto exprEvalSpec)

/-- 'credencelaw09.ExprLine', WHERE WHAT IT READS IS OF BULK AT MOST 1048576: true; the input reads as it did. -/
def exprLineUptoRow : OpenClaim := { program := "ytokkfppchfmjcaagreat", sum := "e468ca38dbd9c262c852666be65c0862274e2a785fb32253eeb54657c21a717d", func := "credence/credencelaw09.ExprLine", spec := "exprLine", recurses := true, apart := false, narrowed := true }
def ExprLineUptoSaid : Prop := exprLineUptoRow.holds Tryz.pinned (OpenSpec.upto exprLineSpec)

/-- 'credencelaw03.FracTerms', WHERE WHAT IT READS IS OF BULK AT MOST 1048576: true; the input reads as it did. -/
def fracTermsUptoRow : OpenClaim := { program := "ytokkfppchfmjcaagreat", sum := "e468ca38dbd9c262c852666be65c0862274e2a785fb32253eeb54657c21a717d", func := "credence/credencelaw03.FracTerms", spec := "fracTerms", inPlace := ["internal/bytealg.IndexByteString", "internal/bytealg.IndexString"], unfollowed := true, recurses := true, named := ["internal/bytealg.MaxLen"], apart := false, narrowed := true }
def FracTermsUptoSaid : Prop := fracTermsUptoRow.holds Tryz.pinned (OpenSpec.upto fracTermsSpec)

end Rows
end Go.Proofs.YtokkfppchfmjcaaGreat
