/-
  No cell of these rows narrows 'for every input' (looked for: loops, veiled, ifaces, maps, wideKeys, modest, calm, conditions, laid).
  DERIVED. THE GIVEN ROWS OF THIS SEAT. 8 by the template 'for every input the law returns true; each argument reads behind the call as it read before'; 0 by the template 'total and deterministic' (their statements: YtenmjgnhneofjaaTotals.lean).
  GIVEN WITH THE SEED: the statements are not yours to turn. If you find one false, say at which input.
  Laid BY PROGRAM, IN A SANDBOX (cutbox-rows.mjs): the forced cells as the released guide's own fill.sh prints them over the translation 9a3898074d048b3d… (all of the seat's roots in one cut). By AI agents, Wed Nov 11 2026. No macro, syntax, notation, axiom, sorry.
-/
import Derived.Test.YtenmjgnhneofjaaChecked
import GoSem.Claim
import GoSem.ClaimJoined
import GoSem.ClaimMapViews
import Derived.JoinedTies
import Derived.KernelRfl
namespace Go.Proofs.Ytenmjgnhneofjaa
/- THE CELL 'sum', in the pinned program and in every row, IS THE sha256 OF THE DUMP (.gsa) THAT YtenmjgnhneofjaaProg.lean LOADS. Nothing in Lean hashes anything: it is a label: what it is worth is what the hold of that sum in a sandbox is worth. -/
noncomputable def Try.pinned : Pinned := { name := "ytenmjgnhneofjaa", sum := "9a3898074d048b3d8479f9055b1ce0de76eb534fd4f9f17840c0f459128b1d61", checked := Try.checked }
namespace Rows
def none {H : Type} : Left H := { results := [], args := [] }

/-- 'credencelaw02.WholeMakes': WHATEVER THE INPUT: true; the input reads as it did. -/
def wholeMakesSpec : ChangeSpec := { name := "wholeMakes", fn := fun _ => fun
  | [d1, d2] => { results := [.lit (.bool true)], args := [d1, d2] }
  | _ => none }
def wholeMakesRow : OpenClaim := { program := "ytenmjgnhneofjaa", sum := "9a3898074d048b3d8479f9055b1ce0de76eb534fd4f9f17840c0f459128b1d61", func := "credence/credencelaw02.WholeMakes", spec := "wholeMakes", apart := false }
def WholeMakesSaid : Prop := wholeMakesRow.holds Try.pinned (OpenSpec.ofChange wholeMakesSpec)

/-- ITS FALSE NEIGHBOUR: 'it returns false'. Refute it at one input. -/
def wholeMakesWrong : ChangeSpec := { name := "wholeMakes", fn := fun _ => fun
  | [d1, d2] => { results := [.lit (.bool false)], args := [d1, d2] }
  | _ => none }
def WholeMakesWrongFalsely : Prop := wholeMakesRow.holds Try.pinned (OpenSpec.ofChange wholeMakesWrong)

/-- 'credencelaw03.FracMake': WHATEVER THE INPUT: true; the input reads as it did. -/
def fracMakeSpec : ChangeSpec := { name := "fracMake", fn := fun _ => fun
  | [d1, d2, d3, d4] => { results := [.lit (.bool true)], args := [d1, d2, d3, d4] }
  | _ => none }
def fracMakeRow : OpenClaim := { program := "ytenmjgnhneofjaa", sum := "9a3898074d048b3d8479f9055b1ce0de76eb534fd4f9f17840c0f459128b1d61", func := "credence/credencelaw03.FracMake", spec := "fracMake", inPlace := ["internal/bytealg.IndexByteString", "internal/bytealg.IndexString"], named := ["internal/bytealg.MaxLen"], apart := false }
def FracMakeSaid : Prop := fracMakeRow.holds Try.pinned (OpenSpec.ofChange fracMakeSpec)

/-- ITS FALSE NEIGHBOUR: 'it returns false'. Refute it at one input. -/
def fracMakeWrong : ChangeSpec := { name := "fracMake", fn := fun _ => fun
  | [d1, d2, d3, d4] => { results := [.lit (.bool false)], args := [d1, d2, d3, d4] }
  | _ => none }
def FracMakeWrongFalsely : Prop := fracMakeRow.holds Try.pinned (OpenSpec.ofChange fracMakeWrong)

/-- 'credencelaw03.FracSum': WHATEVER THE INPUT: true; the input reads as it did. -/
def fracSumSpec : ChangeSpec := { name := "fracSum", fn := fun _ => fun
  | [d] => { results := [.lit (.bool true)], args := [d] }
  | _ => none }
def fracSumRow : OpenClaim := { program := "ytenmjgnhneofjaa", sum := "9a3898074d048b3d8479f9055b1ce0de76eb534fd4f9f17840c0f459128b1d61", func := "credence/credencelaw03.FracSum", spec := "fracSum", inPlace := ["internal/bytealg.IndexByteString", "internal/bytealg.IndexString"], named := ["internal/bytealg.MaxLen"], apart := false }
def FracSumSaid : Prop := fracSumRow.holds Try.pinned (OpenSpec.ofChange fracSumSpec)

/-- ITS FALSE NEIGHBOUR: 'it returns false'. Refute it at one input. -/
def fracSumWrong : ChangeSpec := { name := "fracSum", fn := fun _ => fun
  | [d] => { results := [.lit (.bool false)], args := [d] }
  | _ => none }
def FracSumWrongFalsely : Prop := fracSumRow.holds Try.pinned (OpenSpec.ofChange fracSumWrong)

/-- 'credencelaw03.FracText': WHATEVER THE INPUT: true; the input reads as it did. -/
def fracTextSpec : ChangeSpec := { name := "fracText", fn := fun _ => fun
  | [d1, d2] => { results := [.lit (.bool true)], args := [d1, d2] }
  | _ => none }
def fracTextRow : OpenClaim := { program := "ytenmjgnhneofjaa", sum := "9a3898074d048b3d8479f9055b1ce0de76eb534fd4f9f17840c0f459128b1d61", func := "credence/credencelaw03.FracText", spec := "fracText", inPlace := ["internal/bytealg.IndexByteString", "internal/bytealg.IndexString"], named := ["internal/bytealg.MaxLen"], apart := false }
def FracTextSaid : Prop := fracTextRow.holds Try.pinned (OpenSpec.ofChange fracTextSpec)

/-- ITS FALSE NEIGHBOUR: 'it returns false'. Refute it at one input. -/
def fracTextWrong : ChangeSpec := { name := "fracText", fn := fun _ => fun
  | [d1, d2] => { results := [.lit (.bool false)], args := [d1, d2] }
  | _ => none }
def FracTextWrongFalsely : Prop := fracTextRow.holds Try.pinned (OpenSpec.ofChange fracTextWrong)

/-- 'credencelaw03.FracThere': WHATEVER THE INPUT: true; the input reads as it did. -/
def fracThereSpec : ChangeSpec := { name := "fracThere", fn := fun _ => fun
  | [d1, d2, d3] => { results := [.lit (.bool true)], args := [d1, d2, d3] }
  | _ => none }
def fracThereRow : OpenClaim := { program := "ytenmjgnhneofjaa", sum := "9a3898074d048b3d8479f9055b1ce0de76eb534fd4f9f17840c0f459128b1d61", func := "credence/credencelaw03.FracThere", spec := "fracThere", inPlace := ["internal/bytealg.IndexByteString", "internal/bytealg.IndexString"], named := ["internal/bytealg.MaxLen"], apart := false }
def FracThereSaid : Prop := fracThereRow.holds Try.pinned (OpenSpec.ofChange fracThereSpec)

/-- ITS FALSE NEIGHBOUR: 'it returns false'. Refute it at one input. -/
def fracThereWrong : ChangeSpec := { name := "fracThere", fn := fun _ => fun
  | [d1, d2, d3] => { results := [.lit (.bool false)], args := [d1, d2, d3] }
  | _ => none }
def FracThereWrongFalsely : Prop := fracThereRow.holds Try.pinned (OpenSpec.ofChange fracThereWrong)

/-- 'credencelaw03.FracField': WHATEVER THE INPUT: true; the input reads as it did. -/
def fracFieldSpec : ChangeSpec := { name := "fracField", fn := fun _ => fun
  | [d1, d2, d3] => { results := [.lit (.bool true)], args := [d1, d2, d3] }
  | _ => none }
def fracFieldRow : OpenClaim := { program := "ytenmjgnhneofjaa", sum := "9a3898074d048b3d8479f9055b1ce0de76eb534fd4f9f17840c0f459128b1d61", func := "credence/credencelaw03.FracField", spec := "fracField", inPlace := ["internal/bytealg.IndexByteString", "internal/bytealg.IndexString"], named := ["internal/bytealg.MaxLen"], apart := false }
def FracFieldSaid : Prop := fracFieldRow.holds Try.pinned (OpenSpec.ofChange fracFieldSpec)

/-- ITS FALSE NEIGHBOUR: 'it returns false'. Refute it at one input. -/
def fracFieldWrong : ChangeSpec := { name := "fracField", fn := fun _ => fun
  | [d1, d2, d3] => { results := [.lit (.bool false)], args := [d1, d2, d3] }
  | _ => none }
def FracFieldWrongFalsely : Prop := fracFieldRow.holds Try.pinned (OpenSpec.ofChange fracFieldWrong)

/-- 'credencelaw03.FracMade': WHATEVER THE INPUT: true; the input reads as it did. -/
def fracMadeSpec : ChangeSpec := { name := "fracMade", fn := fun _ => fun
  | [d] => { results := [.lit (.bool true)], args := [d] }
  | _ => none }
def fracMadeRow : OpenClaim := { program := "ytenmjgnhneofjaa", sum := "9a3898074d048b3d8479f9055b1ce0de76eb534fd4f9f17840c0f459128b1d61", func := "credence/credencelaw03.FracMade", spec := "fracMade", inPlace := ["internal/bytealg.IndexByteString", "internal/bytealg.IndexString"], unfollowed := true, recurses := true, named := ["internal/bytealg.MaxLen"], apart := false }
def FracMadeSaid : Prop := fracMadeRow.holds Try.pinned (OpenSpec.ofChange fracMadeSpec)

/-- ITS FALSE NEIGHBOUR: 'it returns false'. Refute it at one input. -/
def fracMadeWrong : ChangeSpec := { name := "fracMade", fn := fun _ => fun
  | [d] => { results := [.lit (.bool false)], args := [d] }
  | _ => none }
def FracMadeWrongFalsely : Prop := fracMadeRow.holds Try.pinned (OpenSpec.ofChange fracMadeWrong)

/-- 'credencelaw03.FracLeast': WHATEVER THE INPUT: true; the input reads as it did. -/
def fracLeastSpec : ChangeSpec := { name := "fracLeast", fn := fun _ => fun
  | [d1, d2] => { results := [.lit (.bool true)], args := [d1, d2] }
  | _ => none }
def fracLeastRow : OpenClaim := { program := "ytenmjgnhneofjaa", sum := "9a3898074d048b3d8479f9055b1ce0de76eb534fd4f9f17840c0f459128b1d61", func := "credence/credencelaw03.FracLeast", spec := "fracLeast", inPlace := ["internal/bytealg.IndexByteString", "internal/bytealg.IndexString"], recurses := true, named := ["internal/bytealg.MaxLen"], apart := false }
def FracLeastSaid : Prop := fracLeastRow.holds Try.pinned (OpenSpec.ofChange fracLeastSpec)

/-- ITS FALSE NEIGHBOUR: 'it returns false'. Refute it at one input. -/
def fracLeastWrong : ChangeSpec := { name := "fracLeast", fn := fun _ => fun
  | [d1, d2] => { results := [.lit (.bool false)], args := [d1, d2] }
  | _ => none }
def FracLeastWrongFalsely : Prop := fracLeastRow.holds Try.pinned (OpenSpec.ofChange fracLeastWrong)

/- THE SECOND FORM. 'bulk': how many values and letters a reading holds, each counted each time it is reached (what is shared counts as often as it is met; a slice's spare places count too). A statement '..UptoSaid' is the law's where the arguments, and the package variables that the reading takes, are together of bulk at most 1048576: NARROWER than '..Said'. Prove '..Said' where nothing that the law and all that it calls make is longer than what came in: it says more and counts as full. Else prove '..UptoSaid'. A law counts once. -/
mutual
def uptoBulk {H : Type} : DataW H → Nat
  | .lit (.string bytes) => bytes.length + 1
  | .lit _ => 1
  | .nil => 1
  | .ptr d => uptoBulk d + 1
  | .slice elems spare => uptoBulkAll elems + uptoBulkAll spare + 1
  | .agg parts => uptoBulkAll parts + 1
  | .iface _ d => uptoBulk d + 1
  | .map entries => uptoBulkEntries entries + 1
  | .held _ => 1
def uptoBulkAll {H : Type} : List (DataW H) → Nat
  | [] => 0
  | d :: r => uptoBulk d + uptoBulkAll r
def uptoBulkEntries {H : Type} : List (Lit × DataW H) → Nat
  | [] => 0
  | x :: r => uptoBulkEntry x + uptoBulkEntries r
def uptoBulkEntry {H : Type} : Lit × DataW H → Nat
  | (.string bytes, d) => bytes.length + uptoBulk d + 1
  | (_, d) => uptoBulk d + 1
 end
def uptoSmall : (H : Type) → List (DataW H) → Bool := fun _ ds => decide (uptoBulkAll ds ≤ 1048576)
def OpenSpec.upto (s : _root_.Go.ChangeSpec) : _root_.Go.OpenSpec := { _root_.Go.OpenSpec.ofChange s with cond := some uptoSmall }

/-- 'credencelaw02.WholeMakes', WHERE WHAT IT READS IS OF BULK AT MOST 1048576: true; the input reads as it did. -/
def wholeMakesUptoRow : OpenClaim := { program := "ytenmjgnhneofjaa", sum := "9a3898074d048b3d8479f9055b1ce0de76eb534fd4f9f17840c0f459128b1d61", func := "credence/credencelaw02.WholeMakes", spec := "wholeMakes", apart := false, narrowed := true }
def WholeMakesUptoSaid : Prop := wholeMakesUptoRow.holds Try.pinned (OpenSpec.upto wholeMakesSpec)

/-- 'credencelaw03.FracMake', WHERE WHAT IT READS IS OF BULK AT MOST 1048576: true; the input reads as it did. -/
def fracMakeUptoRow : OpenClaim := { program := "ytenmjgnhneofjaa", sum := "9a3898074d048b3d8479f9055b1ce0de76eb534fd4f9f17840c0f459128b1d61", func := "credence/credencelaw03.FracMake", spec := "fracMake", inPlace := ["internal/bytealg.IndexByteString", "internal/bytealg.IndexString"], named := ["internal/bytealg.MaxLen"], apart := false, narrowed := true }
def FracMakeUptoSaid : Prop := fracMakeUptoRow.holds Try.pinned (OpenSpec.upto fracMakeSpec)

/-- 'credencelaw03.FracSum', WHERE WHAT IT READS IS OF BULK AT MOST 1048576: true; the input reads as it did. -/
def fracSumUptoRow : OpenClaim := { program := "ytenmjgnhneofjaa", sum := "9a3898074d048b3d8479f9055b1ce0de76eb534fd4f9f17840c0f459128b1d61", func := "credence/credencelaw03.FracSum", spec := "fracSum", inPlace := ["internal/bytealg.IndexByteString", "internal/bytealg.IndexString"], named := ["internal/bytealg.MaxLen"], apart := false, narrowed := true }
def FracSumUptoSaid : Prop := fracSumUptoRow.holds Try.pinned (OpenSpec.upto fracSumSpec)

/-- 'credencelaw03.FracText', WHERE WHAT IT READS IS OF BULK AT MOST 1048576: true; the input reads as it did. -/
def fracTextUptoRow : OpenClaim := { program := "ytenmjgnhneofjaa", sum := "9a3898074d048b3d8479f9055b1ce0de76eb534fd4f9f17840c0f459128b1d61", func := "credence/credencelaw03.FracText", spec := "fracText", inPlace := ["internal/bytealg.IndexByteString", "internal/bytealg.IndexString"], named := ["internal/bytealg.MaxLen"], apart := false, narrowed := true }
def FracTextUptoSaid : Prop := fracTextUptoRow.holds Try.pinned (OpenSpec.upto fracTextSpec)

/-- 'credencelaw03.FracThere', WHERE WHAT IT READS IS OF BULK AT MOST 1048576: true; the input reads as it did. -/
def fracThereUptoRow : OpenClaim := { program := "ytenmjgnhneofjaa", sum := "9a3898074d048b3d8479f9055b1ce0de76eb534fd4f9f17840c0f459128b1d61", func := "credence/credencelaw03.FracThere", spec := "fracThere", inPlace := ["internal/bytealg.IndexByteString", "internal/bytealg.IndexString"], named := ["internal/bytealg.MaxLen"], apart := false, narrowed := true }
def FracThereUptoSaid : Prop := fracThereUptoRow.holds Try.pinned (OpenSpec.upto fracThereSpec)

/-- 'credencelaw03.FracField', WHERE WHAT IT READS IS OF BULK AT MOST 1048576: true; the input reads as it did. -/
def fracFieldUptoRow : OpenClaim := { program := "ytenmjgnhneofjaa", sum := "9a3898074d048b3d8479f9055b1ce0de76eb534fd4f9f17840c0f459128b1d61", func := "credence/credencelaw03.FracField", spec := "fracField", inPlace := ["internal/bytealg.IndexByteString", "internal/bytealg.IndexString"], named := ["internal/bytealg.MaxLen"], apart := false, narrowed := true }
def FracFieldUptoSaid : Prop := fracFieldUptoRow.holds Try.pinned (OpenSpec.upto fracFieldSpec)

/-- 'credencelaw03.FracMade', WHERE WHAT IT READS IS OF BULK AT MOST 1048576: true; the input reads as it did. -/
def fracMadeUptoRow : OpenClaim := { program := "ytenmjgnhneofjaa", sum := "9a3898074d048b3d8479f9055b1ce0de76eb534fd4f9f17840c0f459128b1d61", func := "credence/credencelaw03.FracMade", spec := "fracMade", inPlace := ["internal/bytealg.IndexByteString", "internal/bytealg.IndexString"], unfollowed := true, recurses := true, named := ["internal/bytealg.MaxLen"], apart := false, narrowed := true }
def FracMadeUptoSaid : Prop := fracMadeUptoRow.holds Try.pinned (OpenSpec.upto fracMadeSpec)

/-- 'credencelaw03.FracLeast', WHERE WHAT IT READS IS OF BULK AT MOST 1048576: true; the input reads as it did. -/
def fracLeastUptoRow : OpenClaim := { program := "ytenmjgnhneofjaa", sum := "9a3898074d048b3d8479f9055b1ce0de76eb534fd4f9f17840c0f459128b1d61", func := "credence/credencelaw03.FracLeast", spec := "fracLeast", inPlace := ["internal/bytealg.IndexByteString", "internal/bytealg.IndexString"], recurses := true, named := ["internal/bytealg.MaxLen"], apart := false, narrowed := true }
def FracLeastUptoSaid : Prop := fracLeastUptoRow.holds Try.pinned (OpenSpec.upto fracLeastSpec)

end Rows
end Go.Proofs.Ytenmjgnhneofjaa
