/-
  No cell of these rows narrows 'for every input' (looked for: loops, veiled, ifaces, maps, wideKeys, modest, calm, conditions, laid).
  DERIVED. THE GIVEN ROWS OF THIS SEAT. 12 by the template 'for every input the law returns true; each argument reads behind the call as it read before'; 0 by the template 'total and deterministic' (their statements: YtaapaafagmbkoaaTotals.lean).
  GIVEN WITH THE SEED: the statements are not yours to turn. If you find one false, say at which input.
  Laid BY PROGRAM, IN A SANDBOX (cutbox-rows.mjs): the forced cells as the released guide's own fill.sh prints them over the translation 3af916e5ec9c3106… (all of the seat's roots in one cut). By AI agents, Wed Nov 11 2026. No macro, syntax, notation, axiom, sorry.
-/
import Derived.Test.YtaapaafagmbkoaaChecked
import GoSem.Claim
import GoSem.ClaimJoined
import GoSem.ClaimMapViews
import Derived.JoinedTies
import Derived.KernelRfl
namespace Go.Proofs.Ytaapaafagmbkoaa
/- THE CELL 'sum', in the pinned program and in every row, IS THE sha256 OF THE DUMP (.gsa) THAT YtaapaafagmbkoaaProg.lean LOADS. Nothing in Lean hashes anything: it is a label: what it is worth is what the hold of that sum in a sandbox is worth. -/
noncomputable def Try.pinned : Pinned := { name := "ytaapaafagmbkoaa", sum := "3af916e5ec9c3106bed7ad8192c2ee55628e9af1d889f58f066303bfd54d7702", checked := Try.checked }
namespace Rows
def none {H : Type} : Left H := { results := [], args := [] }

/-- 'laws.FnExactPathInts': WHATEVER THE INPUT: true; the input reads as it did. -/
def fnExactPathIntsSpec : ChangeSpec := { name := "fnExactPathInts", fn := fun _ => fun
  | [d] => { results := [.lit (.bool true)], args := [d] }
  | _ => none }
def fnExactPathIntsRow : OpenClaim := { program := "ytaapaafagmbkoaa", sum := "3af916e5ec9c3106bed7ad8192c2ee55628e9af1d889f58f066303bfd54d7702", func := "loop.example/g00505/laws.FnExactPathInts", spec := "fnExactPathInts", apart := false }
def FnExactPathIntsSaid : Prop := fnExactPathIntsRow.holds Try.pinned (OpenSpec.ofChange fnExactPathIntsSpec)

/-- ITS FALSE NEIGHBOUR: 'it returns false'. Refute it at one input. -/
def fnExactPathIntsWrong : ChangeSpec := { name := "fnExactPathInts", fn := fun _ => fun
  | [d] => { results := [.lit (.bool false)], args := [d] }
  | _ => none }
def FnExactPathIntsWrongFalsely : Prop := fnExactPathIntsRow.holds Try.pinned (OpenSpec.ofChange fnExactPathIntsWrong)

/-- 'laws.FnExactPathSize': WHATEVER THE INPUT: true; the input reads as it did. -/
def fnExactPathSizeSpec : ChangeSpec := { name := "fnExactPathSize", fn := fun _ => fun
  | [d] => { results := [.lit (.bool true)], args := [d] }
  | _ => none }
def fnExactPathSizeRow : OpenClaim := { program := "ytaapaafagmbkoaa", sum := "3af916e5ec9c3106bed7ad8192c2ee55628e9af1d889f58f066303bfd54d7702", func := "loop.example/g00505/laws.FnExactPathSize", spec := "fnExactPathSize", apart := false }
def FnExactPathSizeSaid : Prop := fnExactPathSizeRow.holds Try.pinned (OpenSpec.ofChange fnExactPathSizeSpec)

/-- ITS FALSE NEIGHBOUR: 'it returns false'. Refute it at one input. -/
def fnExactPathSizeWrong : ChangeSpec := { name := "fnExactPathSize", fn := fun _ => fun
  | [d] => { results := [.lit (.bool false)], args := [d] }
  | _ => none }
def FnExactPathSizeWrongFalsely : Prop := fnExactPathSizeRow.holds Try.pinned (OpenSpec.ofChange fnExactPathSizeWrong)

/-- 'laws.FnExactPathFromInts': WHATEVER THE INPUT: true; the input reads as it did. -/
def fnExactPathFromIntsSpec : ChangeSpec := { name := "fnExactPathFromInts", fn := fun _ => fun
  | [d] => { results := [.lit (.bool true)], args := [d] }
  | _ => none }
def fnExactPathFromIntsRow : OpenClaim := { program := "ytaapaafagmbkoaa", sum := "3af916e5ec9c3106bed7ad8192c2ee55628e9af1d889f58f066303bfd54d7702", func := "loop.example/g00505/laws.FnExactPathFromInts", spec := "fnExactPathFromInts", apart := false }
def FnExactPathFromIntsSaid : Prop := fnExactPathFromIntsRow.holds Try.pinned (OpenSpec.ofChange fnExactPathFromIntsSpec)

/-- ITS FALSE NEIGHBOUR: 'it returns false'. Refute it at one input. -/
def fnExactPathFromIntsWrong : ChangeSpec := { name := "fnExactPathFromInts", fn := fun _ => fun
  | [d] => { results := [.lit (.bool false)], args := [d] }
  | _ => none }
def FnExactPathFromIntsWrongFalsely : Prop := fnExactPathFromIntsRow.holds Try.pinned (OpenSpec.ofChange fnExactPathFromIntsWrong)

/-- 'laws.FnExactPathSteps': WHATEVER THE INPUT: true; the input reads as it did. -/
def fnExactPathStepsSpec : ChangeSpec := { name := "fnExactPathSteps", fn := fun _ => fun
  | [d] => { results := [.lit (.bool true)], args := [d] }
  | _ => none }
def fnExactPathStepsRow : OpenClaim := { program := "ytaapaafagmbkoaa", sum := "3af916e5ec9c3106bed7ad8192c2ee55628e9af1d889f58f066303bfd54d7702", func := "loop.example/g00505/laws.FnExactPathSteps", spec := "fnExactPathSteps", apart := false }
def FnExactPathStepsSaid : Prop := fnExactPathStepsRow.holds Try.pinned (OpenSpec.ofChange fnExactPathStepsSpec)

/-- ITS FALSE NEIGHBOUR: 'it returns false'. Refute it at one input. -/
def fnExactPathStepsWrong : ChangeSpec := { name := "fnExactPathSteps", fn := fun _ => fun
  | [d] => { results := [.lit (.bool false)], args := [d] }
  | _ => none }
def FnExactPathStepsWrongFalsely : Prop := fnExactPathStepsRow.holds Try.pinned (OpenSpec.ofChange fnExactPathStepsWrong)

/-- 'laws.FnExactInterfacesUsed': WHATEVER THE INPUT: true; the input reads as it did. -/
def fnExactInterfacesUsedSpec : ChangeSpec := { name := "fnExactInterfacesUsed", fn := fun _ => fun
  | [d] => { results := [.lit (.bool true)], args := [d] }
  | _ => none }
def fnExactInterfacesUsedRow : OpenClaim := { program := "ytaapaafagmbkoaa", sum := "3af916e5ec9c3106bed7ad8192c2ee55628e9af1d889f58f066303bfd54d7702", func := "loop.example/g00505/laws.FnExactInterfacesUsed", spec := "fnExactInterfacesUsed", apart := false }
def FnExactInterfacesUsedSaid : Prop := fnExactInterfacesUsedRow.holds Try.pinned (OpenSpec.ofChange fnExactInterfacesUsedSpec)

/-- ITS FALSE NEIGHBOUR: 'it returns false'. Refute it at one input. -/
def fnExactInterfacesUsedWrong : ChangeSpec := { name := "fnExactInterfacesUsed", fn := fun _ => fun
  | [d] => { results := [.lit (.bool false)], args := [d] }
  | _ => none }
def FnExactInterfacesUsedWrongFalsely : Prop := fnExactInterfacesUsedRow.holds Try.pinned (OpenSpec.ofChange fnExactInterfacesUsedWrong)

/-- 'laws.FnExactEqualVerdicts': WHATEVER THE INPUT: true; the input reads as it did. -/
def fnExactEqualVerdictsSpec : ChangeSpec := { name := "fnExactEqualVerdicts", fn := fun _ => fun
  | [d1, d2] => { results := [.lit (.bool true)], args := [d1, d2] }
  | _ => none }
def fnExactEqualVerdictsRow : OpenClaim := { program := "ytaapaafagmbkoaa", sum := "3af916e5ec9c3106bed7ad8192c2ee55628e9af1d889f58f066303bfd54d7702", func := "loop.example/g00505/laws.FnExactEqualVerdicts", spec := "fnExactEqualVerdicts", apart := false }
def FnExactEqualVerdictsSaid : Prop := fnExactEqualVerdictsRow.holds Try.pinned (OpenSpec.ofChange fnExactEqualVerdictsSpec)

/-- ITS FALSE NEIGHBOUR: 'it returns false'. Refute it at one input. -/
def fnExactEqualVerdictsWrong : ChangeSpec := { name := "fnExactEqualVerdicts", fn := fun _ => fun
  | [d1, d2] => { results := [.lit (.bool false)], args := [d1, d2] }
  | _ => none }
def FnExactEqualVerdictsWrongFalsely : Prop := fnExactEqualVerdictsRow.holds Try.pinned (OpenSpec.ofChange fnExactEqualVerdictsWrong)

/-- 'laws.FnExactBetterPath': WHATEVER THE INPUT: true; the input reads as it did. -/
def fnExactBetterPathSpec : ChangeSpec := { name := "fnExactBetterPath", fn := fun _ => fun
  | [d1, d2] => { results := [.lit (.bool true)], args := [d1, d2] }
  | _ => none }
def fnExactBetterPathRow : OpenClaim := { program := "ytaapaafagmbkoaa", sum := "3af916e5ec9c3106bed7ad8192c2ee55628e9af1d889f58f066303bfd54d7702", func := "loop.example/g00505/laws.FnExactBetterPath", spec := "fnExactBetterPath", apart := false }
def FnExactBetterPathSaid : Prop := fnExactBetterPathRow.holds Try.pinned (OpenSpec.ofChange fnExactBetterPathSpec)

/-- ITS FALSE NEIGHBOUR: 'it returns false'. Refute it at one input. -/
def fnExactBetterPathWrong : ChangeSpec := { name := "fnExactBetterPath", fn := fun _ => fun
  | [d1, d2] => { results := [.lit (.bool false)], args := [d1, d2] }
  | _ => none }
def FnExactBetterPathWrongFalsely : Prop := fnExactBetterPathRow.holds Try.pinned (OpenSpec.ofChange fnExactBetterPathWrong)

/-- 'laws.FnExactJoinThree': WHATEVER THE INPUT: true; the input reads as it did. -/
def fnExactJoinThreeSpec : ChangeSpec := { name := "fnExactJoinThree", fn := fun _ => fun
  | [d1, d2, d3, d4] => { results := [.lit (.bool true)], args := [d1, d2, d3, d4] }
  | _ => none }
def fnExactJoinThreeRow : OpenClaim := { program := "ytaapaafagmbkoaa", sum := "3af916e5ec9c3106bed7ad8192c2ee55628e9af1d889f58f066303bfd54d7702", func := "loop.example/g00505/laws.FnExactJoinThree", spec := "fnExactJoinThree", unfollowed := true, recurses := true, apart := false }
def FnExactJoinThreeSaid : Prop := fnExactJoinThreeRow.holds Try.pinned (OpenSpec.ofChange fnExactJoinThreeSpec)

/-- ITS FALSE NEIGHBOUR: 'it returns false'. Refute it at one input. -/
def fnExactJoinThreeWrong : ChangeSpec := { name := "fnExactJoinThree", fn := fun _ => fun
  | [d1, d2, d3, d4] => { results := [.lit (.bool false)], args := [d1, d2, d3, d4] }
  | _ => none }
def FnExactJoinThreeWrongFalsely : Prop := fnExactJoinThreeRow.holds Try.pinned (OpenSpec.ofChange fnExactJoinThreeWrong)

/-- 'laws.FnExactJoinUpDown': WHATEVER THE INPUT: true; the input reads as it did. -/
def fnExactJoinUpDownSpec : ChangeSpec := { name := "fnExactJoinUpDown", fn := fun _ => fun
  | [d1, d2] => { results := [.lit (.bool true)], args := [d1, d2] }
  | _ => none }
def fnExactJoinUpDownRow : OpenClaim := { program := "ytaapaafagmbkoaa", sum := "3af916e5ec9c3106bed7ad8192c2ee55628e9af1d889f58f066303bfd54d7702", func := "loop.example/g00505/laws.FnExactJoinUpDown", spec := "fnExactJoinUpDown", apart := false }
def FnExactJoinUpDownSaid : Prop := fnExactJoinUpDownRow.holds Try.pinned (OpenSpec.ofChange fnExactJoinUpDownSpec)

/-- ITS FALSE NEIGHBOUR: 'it returns false'. Refute it at one input. -/
def fnExactJoinUpDownWrong : ChangeSpec := { name := "fnExactJoinUpDown", fn := fun _ => fun
  | [d1, d2] => { results := [.lit (.bool false)], args := [d1, d2] }
  | _ => none }
def FnExactJoinUpDownWrongFalsely : Prop := fnExactJoinUpDownRow.holds Try.pinned (OpenSpec.ofChange fnExactJoinUpDownWrong)

/-- 'laws.FnExactAppendPath': WHATEVER THE INPUT: true; the input reads as it did. -/
def fnExactAppendPathSpec : ChangeSpec := { name := "fnExactAppendPath", fn := fun _ => fun
  | [d1, d2] => { results := [.lit (.bool true)], args := [d1, d2] }
  | _ => none }
def fnExactAppendPathRow : OpenClaim := { program := "ytaapaafagmbkoaa", sum := "3af916e5ec9c3106bed7ad8192c2ee55628e9af1d889f58f066303bfd54d7702", func := "loop.example/g00505/laws.FnExactAppendPath", spec := "fnExactAppendPath", apart := false }
def FnExactAppendPathSaid : Prop := fnExactAppendPathRow.holds Try.pinned (OpenSpec.ofChange fnExactAppendPathSpec)

/-- ITS FALSE NEIGHBOUR: 'it returns false'. Refute it at one input. -/
def fnExactAppendPathWrong : ChangeSpec := { name := "fnExactAppendPath", fn := fun _ => fun
  | [d1, d2] => { results := [.lit (.bool false)], args := [d1, d2] }
  | _ => none }
def FnExactAppendPathWrongFalsely : Prop := fnExactAppendPathRow.holds Try.pinned (OpenSpec.ofChange fnExactAppendPathWrong)

/-- 'laws.FnExactVerifyPart': WHATEVER THE INPUT: true; the input reads as it did. -/
def fnExactVerifyPartSpec : ChangeSpec := { name := "fnExactVerifyPart", fn := fun _ => fun
  | [d1, d2] => { results := [.lit (.bool true)], args := [d1, d2] }
  | _ => none }
def fnExactVerifyPartRow : OpenClaim := { program := "ytaapaafagmbkoaa", sum := "3af916e5ec9c3106bed7ad8192c2ee55628e9af1d889f58f066303bfd54d7702", func := "loop.example/g00505/laws.FnExactVerifyPart", spec := "fnExactVerifyPart", apart := false }
def FnExactVerifyPartSaid : Prop := fnExactVerifyPartRow.holds Try.pinned (OpenSpec.ofChange fnExactVerifyPartSpec)

/-- ITS FALSE NEIGHBOUR: 'it returns false'. Refute it at one input. -/
def fnExactVerifyPartWrong : ChangeSpec := { name := "fnExactVerifyPart", fn := fun _ => fun
  | [d1, d2] => { results := [.lit (.bool false)], args := [d1, d2] }
  | _ => none }
def FnExactVerifyPartWrongFalsely : Prop := fnExactVerifyPartRow.holds Try.pinned (OpenSpec.ofChange fnExactVerifyPartWrong)

/-- 'laws.FnExactValidPart': WHATEVER THE INPUT: true; the input reads as it did. -/
def fnExactValidPartSpec : ChangeSpec := { name := "fnExactValidPart", fn := fun _ => fun
  | [d1, d2] => { results := [.lit (.bool true)], args := [d1, d2] }
  | _ => none }
def fnExactValidPartRow : OpenClaim := { program := "ytaapaafagmbkoaa", sum := "3af916e5ec9c3106bed7ad8192c2ee55628e9af1d889f58f066303bfd54d7702", func := "loop.example/g00505/laws.FnExactValidPart", spec := "fnExactValidPart", apart := false }
def FnExactValidPartSaid : Prop := fnExactValidPartRow.holds Try.pinned (OpenSpec.ofChange fnExactValidPartSpec)

/-- ITS FALSE NEIGHBOUR: 'it returns false'. Refute it at one input. -/
def fnExactValidPartWrong : ChangeSpec := { name := "fnExactValidPart", fn := fun _ => fun
  | [d1, d2] => { results := [.lit (.bool false)], args := [d1, d2] }
  | _ => none }
def FnExactValidPartWrongFalsely : Prop := fnExactValidPartRow.holds Try.pinned (OpenSpec.ofChange fnExactValidPartWrong)

/- THE SECOND FORM. 'bulk': how many values and letters a reading holds, each counted each time it is reached (what is shared counts as often as it is met; a slice's spare places count too). A statement '..UptoSaid' is the law's where the arguments, and the package variables that the reading takes, are together of bulk at most 1048576: NARROWER than '..Said'. Prove '..Said' where nothing that the law and all that it calls make is longer than what came in: it says more and counts as full. Else prove '..UptoSaid'. A law counts once. -/
mutual
def uptoBulk {H : Type} : DataW H → Nat
  | .lit (.string bytes) => bytes.length + 1
  | .lit _ => 1
  | .nil => 1
  | .ptr d => uptoBulk d + 1
  | .slice elems spare => uptoBulkAll elems + uptoBulkAll spare + 1
  | .agg parts => uptoBulkAll parts + 1
  | .iface _ d => uptoBulk d + 1
  | .map entries => uptoBulkEntries entries + 1
  | .held _ => 1
def uptoBulkAll {H : Type} : List (DataW H) → Nat
  | [] => 0
  | d :: r => uptoBulk d + uptoBulkAll r
def uptoBulkEntries {H : Type} : List (Lit × DataW H) → Nat
  | [] => 0
  | x :: r => uptoBulkEntry x + uptoBulkEntries r
def uptoBulkEntry {H : Type} : Lit × DataW H → Nat
  | (.string bytes, d) => bytes.length + uptoBulk d + 1
  | (_, d) => uptoBulk d + 1
 end
def uptoSmall : (H : Type) → List (DataW H) → Bool := fun _ ds => decide (uptoBulkAll ds ≤ 1048576)
def OpenSpec.upto (s : _root_.Go.ChangeSpec) : _root_.Go.OpenSpec := { _root_.Go.OpenSpec.ofChange s with cond := some uptoSmall }

/-- 'laws.FnExactPathInts', WHERE WHAT IT READS IS OF BULK AT MOST 1048576: true; the input reads as it did. -/
def fnExactPathIntsUptoRow : OpenClaim := { program := "ytaapaafagmbkoaa", sum := "3af916e5ec9c3106bed7ad8192c2ee55628e9af1d889f58f066303bfd54d7702", func := "loop.example/g00505/laws.FnExactPathInts", spec := "fnExactPathInts", apart := false, narrowed := true }
def FnExactPathIntsUptoSaid : Prop := fnExactPathIntsUptoRow.holds Try.pinned (OpenSpec.upto fnExactPathIntsSpec)

/-- 'laws.FnExactPathSize', WHERE WHAT IT READS IS OF BULK AT MOST 1048576: true; the input reads as it did. -/
def fnExactPathSizeUptoRow : OpenClaim := { program := "ytaapaafagmbkoaa", sum := "3af916e5ec9c3106bed7ad8192c2ee55628e9af1d889f58f066303bfd54d7702", func := "loop.example/g00505/laws.FnExactPathSize", spec := "fnExactPathSize", apart := false, narrowed := true }
def FnExactPathSizeUptoSaid : Prop := fnExactPathSizeUptoRow.holds Try.pinned (OpenSpec.upto fnExactPathSizeSpec)

/-- 'laws.FnExactPathFromInts', WHERE WHAT IT READS IS OF BULK AT MOST 1048576: true; the input reads as it did. -/
def fnExactPathFromIntsUptoRow : OpenClaim := { program := "ytaapaafagmbkoaa", sum := "3af916e5ec9c3106bed7ad8192c2ee55628e9af1d889f58f066303bfd54d7702", func := "loop.example/g00505/laws.FnExactPathFromInts", spec := "fnExactPathFromInts", apart := false, narrowed := true }
def FnExactPathFromIntsUptoSaid : Prop := fnExactPathFromIntsUptoRow.holds Try.pinned (OpenSpec.upto fnExactPathFromIntsSpec)

/-- 'laws.FnExactPathSteps', WHERE WHAT IT READS IS OF BULK AT MOST 1048576: true; the input reads as it did. -/
def fnExactPathStepsUptoRow : OpenClaim := { program := "ytaapaafagmbkoaa", sum := "3af916e5ec9c3106bed7ad8192c2ee55628e9af1d889f58f066303bfd54d7702", func := "loop.example/g00505/laws.FnExactPathSteps", spec := "fnExactPathSteps", apart := false, narrowed := true }
def FnExactPathStepsUptoSaid : Prop := fnExactPathStepsUptoRow.holds Try.pinned (OpenSpec.upto fnExactPathStepsSpec)

/-- 'laws.FnExactInterfacesUsed', WHERE WHAT IT READS IS OF BULK AT MOST 1048576: true; the input reads as it did. -/
def fnExactInterfacesUsedUptoRow : OpenClaim := { program := "ytaapaafagmbkoaa", sum := "3af916e5ec9c3106bed7ad8192c2ee55628e9af1d889f58f066303bfd54d7702", func := "loop.example/g00505/laws.FnExactInterfacesUsed", spec := "fnExactInterfacesUsed", apart := false, narrowed := true }
def FnExactInterfacesUsedUptoSaid : Prop := fnExactInterfacesUsedUptoRow.holds Try.pinned (OpenSpec.upto fnExactInterfacesUsedSpec)

/-- 'laws.FnExactEqualVerdicts', WHERE WHAT IT READS IS OF BULK AT MOST 1048576: true; the input reads as it did. -/
def fnExactEqualVerdictsUptoRow : OpenClaim := { program := "ytaapaafagmbkoaa", sum := "3af916e5ec9c3106bed7ad8192c2ee55628e9af1d889f58f066303bfd54d7702", func := "loop.example/g00505/laws.FnExactEqualVerdicts", spec := "fnExactEqualVerdicts", apart := false, narrowed := true }
def FnExactEqualVerdictsUptoSaid : Prop := fnExactEqualVerdictsUptoRow.holds Try.pinned (OpenSpec.upto fnExactEqualVerdictsSpec)

/-- 'laws.FnExactBetterPath', WHERE WHAT IT READS IS OF BULK AT MOST 1048576: true; the input reads as it did. -/
def fnExactBetterPathUptoRow : OpenClaim := { program := "ytaapaafagmbkoaa", sum := "3af916e5ec9c3106bed7ad8192c2ee55628e9af1d889f58f066303bfd54d7702", func := "loop.example/g00505/laws.FnExactBetterPath", spec := "fnExactBetterPath", apart := false, narrowed := true }
def FnExactBetterPathUptoSaid : Prop := fnExactBetterPathUptoRow.holds Try.pinned (OpenSpec.upto fnExactBetterPathSpec)

/-- 'laws.FnExactJoinThree', WHERE WHAT IT READS IS OF BULK AT MOST 1048576: true; the input reads as it did. -/
def fnExactJoinThreeUptoRow : OpenClaim := { program := "ytaapaafagmbkoaa", sum := "3af916e5ec9c3106bed7ad8192c2ee55628e9af1d889f58f066303bfd54d7702", func := "loop.example/g00505/laws.FnExactJoinThree", spec := "fnExactJoinThree", unfollowed := true, recurses := true, apart := false, narrowed := true }
def FnExactJoinThreeUptoSaid : Prop := fnExactJoinThreeUptoRow.holds Try.pinned (OpenSpec.upto fnExactJoinThreeSpec)

/-- 'laws.FnExactJoinUpDown', WHERE WHAT IT READS IS OF BULK AT MOST 1048576: true; the input reads as it did. -/
def fnExactJoinUpDownUptoRow : OpenClaim := { program := "ytaapaafagmbkoaa", sum := "3af916e5ec9c3106bed7ad8192c2ee55628e9af1d889f58f066303bfd54d7702", func := "loop.example/g00505/laws.FnExactJoinUpDown", spec := "fnExactJoinUpDown", apart := false, narrowed := true }
def FnExactJoinUpDownUptoSaid : Prop := fnExactJoinUpDownUptoRow.holds Try.pinned (OpenSpec.upto fnExactJoinUpDownSpec)

/-- 'laws.FnExactAppendPath', WHERE WHAT IT READS IS OF BULK AT MOST 1048576: true; the input reads as it did. -/
def fnExactAppendPathUptoRow : OpenClaim := { program := "ytaapaafagmbkoaa", sum := "3af916e5ec9c3106bed7ad8192c2ee55628e9af1d889f58f066303bfd54d7702", func := "loop.example/g00505/laws.FnExactAppendPath", spec := "fnExactAppendPath", apart := false, narrowed := true }
def FnExactAppendPathUptoSaid : Prop := fnExactAppendPathUptoRow.holds Try.pinned (OpenSpec.upto fnExactAppendPathSpec)

/-- 'laws.FnExactVerifyPart', WHERE WHAT IT READS IS OF BULK AT MOST 1048576: true; the input reads as it did. -/
def fnExactVerifyPartUptoRow : OpenClaim := { program := "ytaapaafagmbkoaa", sum := "3af916e5ec9c3106bed7ad8192c2ee55628e9af1d889f58f066303bfd54d7702", func := "loop.example/g00505/laws.FnExactVerifyPart", spec := "fnExactVerifyPart", apart := false, narrowed := true }
def FnExactVerifyPartUptoSaid : Prop := fnExactVerifyPartUptoRow.holds Try.pinned (OpenSpec.upto fnExactVerifyPartSpec)

/-- 'laws.FnExactValidPart', WHERE WHAT IT READS IS OF BULK AT MOST 1048576: true; the input reads as it did. -/
def fnExactValidPartUptoRow : OpenClaim := { program := "ytaapaafagmbkoaa", sum := "3af916e5ec9c3106bed7ad8192c2ee55628e9af1d889f58f066303bfd54d7702", func := "loop.example/g00505/laws.FnExactValidPart", spec := "fnExactValidPart", apart := false, narrowed := true }
def FnExactValidPartUptoSaid : Prop := fnExactValidPartUptoRow.holds Try.pinned (OpenSpec.upto fnExactValidPartSpec)

end Rows
end Go.Proofs.Ytaapaafagmbkoaa
