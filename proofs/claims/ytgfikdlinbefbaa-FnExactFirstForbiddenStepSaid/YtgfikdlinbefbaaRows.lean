/-
  No cell of these rows narrows 'for every input' (looked for: loops, veiled, ifaces, maps, wideKeys, modest, calm, conditions, laid).
  DERIVED. THE GIVEN ROWS OF THIS SEAT. 12 by the template 'for every input the law returns true; each argument reads behind the call as it read before'; 0 by the template 'total and deterministic' (their statements: YtgfikdlinbefbaaTotals.lean).
  GIVEN WITH THE SEED: the statements are not yours to turn. If you find one false, say at which input.
  Laid BY PROGRAM, IN A SANDBOX (cutbox-rows.mjs): the forced cells as the released guide's own fill.sh prints them over the translation 2735edc7066d8d1c… (all of the seat's roots in one cut). By AI agents, Wed Nov 11 2026. No macro, syntax, notation, axiom, sorry.
-/
import Derived.Test.YtgfikdlinbefbaaChecked
import GoSem.Claim
import GoSem.ClaimJoined
import GoSem.ClaimMapViews
import Derived.JoinedTies
import Derived.KernelRfl
namespace Go.Proofs.Ytgfikdlinbefbaa
/- THE CELL 'sum', in the pinned program and in every row, IS THE sha256 OF THE DUMP (.gsa) THAT YtgfikdlinbefbaaProg.lean LOADS. Nothing in Lean hashes anything: it is a label: what it is worth is what the hold of that sum in a sandbox is worth. -/
noncomputable def Try.pinned : Pinned := { name := "ytgfikdlinbefbaa", sum := "2735edc7066d8d1c6ac9c9b7734187fa4d9b465ca57bbc46b411bfaa59566b47", checked := Try.checked }
namespace Rows
def none {H : Type} : Left H := { results := [], args := [] }

/-- 'laws.FnExactVerifyPath': WHATEVER THE INPUT: true; the input reads as it did. -/
def fnExactVerifyPathSpec : ChangeSpec := { name := "fnExactVerifyPath", fn := fun _ => fun
  | [d1, d2] => { results := [.lit (.bool true)], args := [d1, d2] }
  | _ => none }
def fnExactVerifyPathRow : OpenClaim := { program := "ytgfikdlinbefbaa", sum := "2735edc7066d8d1c6ac9c9b7734187fa4d9b465ca57bbc46b411bfaa59566b47", func := "loop.example/g00505/laws.FnExactVerifyPath", spec := "fnExactVerifyPath", apart := false }
def FnExactVerifyPathSaid : Prop := fnExactVerifyPathRow.holds Try.pinned (OpenSpec.ofChange fnExactVerifyPathSpec)

/-- ITS FALSE NEIGHBOUR: 'it returns false'. Refute it at one input. -/
def fnExactVerifyPathWrong : ChangeSpec := { name := "fnExactVerifyPath", fn := fun _ => fun
  | [d1, d2] => { results := [.lit (.bool false)], args := [d1, d2] }
  | _ => none }
def FnExactVerifyPathWrongFalsely : Prop := fnExactVerifyPathRow.holds Try.pinned (OpenSpec.ofChange fnExactVerifyPathWrong)

/-- 'laws.FnExactAdvanceHop': WHATEVER THE INPUT: true; the input reads as it did. -/
def fnExactAdvanceHopSpec : ChangeSpec := { name := "fnExactAdvanceHop", fn := fun _ => fun
  | [d] => { results := [.lit (.bool true)], args := [d] }
  | _ => none }
def fnExactAdvanceHopRow : OpenClaim := { program := "ytgfikdlinbefbaa", sum := "2735edc7066d8d1c6ac9c9b7734187fa4d9b465ca57bbc46b411bfaa59566b47", func := "loop.example/g00505/laws.FnExactAdvanceHop", spec := "fnExactAdvanceHop", apart := false }
def FnExactAdvanceHopSaid : Prop := fnExactAdvanceHopRow.holds Try.pinned (OpenSpec.ofChange fnExactAdvanceHopSpec)

/-- ITS FALSE NEIGHBOUR: 'it returns false'. Refute it at one input. -/
def fnExactAdvanceHopWrong : ChangeSpec := { name := "fnExactAdvanceHop", fn := fun _ => fun
  | [d] => { results := [.lit (.bool false)], args := [d] }
  | _ => none }
def FnExactAdvanceHopWrongFalsely : Prop := fnExactAdvanceHopRow.holds Try.pinned (OpenSpec.ofChange fnExactAdvanceHopWrong)

/-- 'laws.FnExactCoreSteps': WHATEVER THE INPUT: true; the input reads as it did. -/
def fnExactCoreStepsSpec : ChangeSpec := { name := "fnExactCoreSteps", fn := fun _ => fun
  | [d1, d2] => { results := [.lit (.bool true)], args := [d1, d2] }
  | _ => none }
def fnExactCoreStepsRow : OpenClaim := { program := "ytgfikdlinbefbaa", sum := "2735edc7066d8d1c6ac9c9b7734187fa4d9b465ca57bbc46b411bfaa59566b47", func := "loop.example/g00505/laws.FnExactCoreSteps", spec := "fnExactCoreSteps", apart := false }
def FnExactCoreStepsSaid : Prop := fnExactCoreStepsRow.holds Try.pinned (OpenSpec.ofChange fnExactCoreStepsSpec)

/-- ITS FALSE NEIGHBOUR: 'it returns false'. Refute it at one input. -/
def fnExactCoreStepsWrong : ChangeSpec := { name := "fnExactCoreSteps", fn := fun _ => fun
  | [d1, d2] => { results := [.lit (.bool false)], args := [d1, d2] }
  | _ => none }
def FnExactCoreStepsWrongFalsely : Prop := fnExactCoreStepsRow.holds Try.pinned (OpenSpec.ofChange fnExactCoreStepsWrong)

/-- 'laws.FnExactDownSteps': WHATEVER THE INPUT: true; the input reads as it did. -/
def fnExactDownStepsSpec : ChangeSpec := { name := "fnExactDownSteps", fn := fun _ => fun
  | [d1, d2] => { results := [.lit (.bool true)], args := [d1, d2] }
  | _ => none }
def fnExactDownStepsRow : OpenClaim := { program := "ytgfikdlinbefbaa", sum := "2735edc7066d8d1c6ac9c9b7734187fa4d9b465ca57bbc46b411bfaa59566b47", func := "loop.example/g00505/laws.FnExactDownSteps", spec := "fnExactDownSteps", apart := false }
def FnExactDownStepsSaid : Prop := fnExactDownStepsRow.holds Try.pinned (OpenSpec.ofChange fnExactDownStepsSpec)

/-- ITS FALSE NEIGHBOUR: 'it returns false'. Refute it at one input. -/
def fnExactDownStepsWrong : ChangeSpec := { name := "fnExactDownSteps", fn := fun _ => fun
  | [d1, d2] => { results := [.lit (.bool false)], args := [d1, d2] }
  | _ => none }
def FnExactDownStepsWrongFalsely : Prop := fnExactDownStepsRow.holds Try.pinned (OpenSpec.ofChange fnExactDownStepsWrong)

/-- 'laws.FnExactUpSteps': WHATEVER THE INPUT: true; the input reads as it did. -/
def fnExactUpStepsSpec : ChangeSpec := { name := "fnExactUpSteps", fn := fun _ => fun
  | [d1, d2] => { results := [.lit (.bool true)], args := [d1, d2] }
  | _ => none }
def fnExactUpStepsRow : OpenClaim := { program := "ytgfikdlinbefbaa", sum := "2735edc7066d8d1c6ac9c9b7734187fa4d9b465ca57bbc46b411bfaa59566b47", func := "loop.example/g00505/laws.FnExactUpSteps", spec := "fnExactUpSteps", apart := false }
def FnExactUpStepsSaid : Prop := fnExactUpStepsRow.holds Try.pinned (OpenSpec.ofChange fnExactUpStepsSpec)

/-- ITS FALSE NEIGHBOUR: 'it returns false'. Refute it at one input. -/
def fnExactUpStepsWrong : ChangeSpec := { name := "fnExactUpSteps", fn := fun _ => fun
  | [d1, d2] => { results := [.lit (.bool false)], args := [d1, d2] }
  | _ => none }
def FnExactUpStepsWrongFalsely : Prop := fnExactUpStepsRow.holds Try.pinned (OpenSpec.ofChange fnExactUpStepsWrong)

/-- 'laws.FnExactReadPath': WHATEVER THE INPUT: true; the input reads as it did. -/
def fnExactReadPathSpec : ChangeSpec := { name := "fnExactReadPath", fn := fun _ => fun
  | [d1, d2] => { results := [.lit (.bool true)], args := [d1, d2] }
  | _ => none }
def fnExactReadPathRow : OpenClaim := { program := "ytgfikdlinbefbaa", sum := "2735edc7066d8d1c6ac9c9b7734187fa4d9b465ca57bbc46b411bfaa59566b47", func := "loop.example/g00505/laws.FnExactReadPath", spec := "fnExactReadPath", apart := false }
def FnExactReadPathSaid : Prop := fnExactReadPathRow.holds Try.pinned (OpenSpec.ofChange fnExactReadPathSpec)

/-- ITS FALSE NEIGHBOUR: 'it returns false'. Refute it at one input. -/
def fnExactReadPathWrong : ChangeSpec := { name := "fnExactReadPath", fn := fun _ => fun
  | [d1, d2] => { results := [.lit (.bool false)], args := [d1, d2] }
  | _ => none }
def FnExactReadPathWrongFalsely : Prop := fnExactReadPathRow.holds Try.pinned (OpenSpec.ofChange fnExactReadPathWrong)

/-- 'laws.FnExactNewPacket': WHATEVER THE INPUT: true; the input reads as it did. -/
def fnExactNewPacketSpec : ChangeSpec := { name := "fnExactNewPacket", fn := fun _ => fun
  | [d1, d2, d3, d4, d5] => { results := [.lit (.bool true)], args := [d1, d2, d3, d4, d5] }
  | _ => none }
def fnExactNewPacketRow : OpenClaim := { program := "ytgfikdlinbefbaa", sum := "2735edc7066d8d1c6ac9c9b7734187fa4d9b465ca57bbc46b411bfaa59566b47", func := "loop.example/g00505/laws.FnExactNewPacket", spec := "fnExactNewPacket", apart := false }
def FnExactNewPacketSaid : Prop := fnExactNewPacketRow.holds Try.pinned (OpenSpec.ofChange fnExactNewPacketSpec)

/-- ITS FALSE NEIGHBOUR: 'it returns false'. Refute it at one input. -/
def fnExactNewPacketWrong : ChangeSpec := { name := "fnExactNewPacket", fn := fun _ => fun
  | [d1, d2, d3, d4, d5] => { results := [.lit (.bool false)], args := [d1, d2, d3, d4, d5] }
  | _ => none }
def FnExactNewPacketWrongFalsely : Prop := fnExactNewPacketRow.holds Try.pinned (OpenSpec.ofChange fnExactNewPacketWrong)

/-- 'laws.FnExactFirstForbiddenStep': WHATEVER THE INPUT: true; the input reads as it did. -/
def fnExactFirstForbiddenStepSpec : ChangeSpec := { name := "fnExactFirstForbiddenStep", fn := fun _ => fun
  | [d1, d2] => { results := [.lit (.bool true)], args := [d1, d2] }
  | _ => none }
def fnExactFirstForbiddenStepRow : OpenClaim := { program := "ytgfikdlinbefbaa", sum := "2735edc7066d8d1c6ac9c9b7734187fa4d9b465ca57bbc46b411bfaa59566b47", func := "loop.example/g00505/laws.FnExactFirstForbiddenStep", spec := "fnExactFirstForbiddenStep", apart := false }
def FnExactFirstForbiddenStepSaid : Prop := fnExactFirstForbiddenStepRow.holds Try.pinned (OpenSpec.ofChange fnExactFirstForbiddenStepSpec)

/-- ITS FALSE NEIGHBOUR: 'it returns false'. Refute it at one input. -/
def fnExactFirstForbiddenStepWrong : ChangeSpec := { name := "fnExactFirstForbiddenStep", fn := fun _ => fun
  | [d1, d2] => { results := [.lit (.bool false)], args := [d1, d2] }
  | _ => none }
def FnExactFirstForbiddenStepWrongFalsely : Prop := fnExactFirstForbiddenStepRow.holds Try.pinned (OpenSpec.ofChange fnExactFirstForbiddenStepWrong)

/-- 'laws.FnExactPathAllowed': WHATEVER THE INPUT: true; the input reads as it did. -/
def fnExactPathAllowedSpec : ChangeSpec := { name := "fnExactPathAllowed", fn := fun _ => fun
  | [d1, d2] => { results := [.lit (.bool true)], args := [d1, d2] }
  | _ => none }
def fnExactPathAllowedRow : OpenClaim := { program := "ytgfikdlinbefbaa", sum := "2735edc7066d8d1c6ac9c9b7734187fa4d9b465ca57bbc46b411bfaa59566b47", func := "loop.example/g00505/laws.FnExactPathAllowed", spec := "fnExactPathAllowed", apart := false }
def FnExactPathAllowedSaid : Prop := fnExactPathAllowedRow.holds Try.pinned (OpenSpec.ofChange fnExactPathAllowedSpec)

/-- ITS FALSE NEIGHBOUR: 'it returns false'. Refute it at one input. -/
def fnExactPathAllowedWrong : ChangeSpec := { name := "fnExactPathAllowed", fn := fun _ => fun
  | [d1, d2] => { results := [.lit (.bool false)], args := [d1, d2] }
  | _ => none }
def FnExactPathAllowedWrongFalsely : Prop := fnExactPathAllowedRow.holds Try.pinned (OpenSpec.ofChange fnExactPathAllowedWrong)

/-- 'laws.FnExactWellFormedPath': WHATEVER THE INPUT: true; the input reads as it did. -/
def fnExactWellFormedPathSpec : ChangeSpec := { name := "fnExactWellFormedPath", fn := fun _ => fun
  | [d1, d2] => { results := [.lit (.bool true)], args := [d1, d2] }
  | _ => none }
def fnExactWellFormedPathRow : OpenClaim := { program := "ytgfikdlinbefbaa", sum := "2735edc7066d8d1c6ac9c9b7734187fa4d9b465ca57bbc46b411bfaa59566b47", func := "loop.example/g00505/laws.FnExactWellFormedPath", spec := "fnExactWellFormedPath", apart := false }
def FnExactWellFormedPathSaid : Prop := fnExactWellFormedPathRow.holds Try.pinned (OpenSpec.ofChange fnExactWellFormedPathSpec)

/-- ITS FALSE NEIGHBOUR: 'it returns false'. Refute it at one input. -/
def fnExactWellFormedPathWrong : ChangeSpec := { name := "fnExactWellFormedPath", fn := fun _ => fun
  | [d1, d2] => { results := [.lit (.bool false)], args := [d1, d2] }
  | _ => none }
def FnExactWellFormedPathWrongFalsely : Prop := fnExactWellFormedPathRow.holds Try.pinned (OpenSpec.ofChange fnExactWellFormedPathWrong)

/-- 'laws.FnExactSimplePath': WHATEVER THE INPUT: true; the input reads as it did. -/
def fnExactSimplePathSpec : ChangeSpec := { name := "fnExactSimplePath", fn := fun _ => fun
  | [d1, d2] => { results := [.lit (.bool true)], args := [d1, d2] }
  | _ => none }
def fnExactSimplePathRow : OpenClaim := { program := "ytgfikdlinbefbaa", sum := "2735edc7066d8d1c6ac9c9b7734187fa4d9b465ca57bbc46b411bfaa59566b47", func := "loop.example/g00505/laws.FnExactSimplePath", spec := "fnExactSimplePath", apart := false }
def FnExactSimplePathSaid : Prop := fnExactSimplePathRow.holds Try.pinned (OpenSpec.ofChange fnExactSimplePathSpec)

/-- ITS FALSE NEIGHBOUR: 'it returns false'. Refute it at one input. -/
def fnExactSimplePathWrong : ChangeSpec := { name := "fnExactSimplePath", fn := fun _ => fun
  | [d1, d2] => { results := [.lit (.bool false)], args := [d1, d2] }
  | _ => none }
def FnExactSimplePathWrongFalsely : Prop := fnExactSimplePathRow.holds Try.pinned (OpenSpec.ofChange fnExactSimplePathWrong)

/-- 'laws.FnExactPathUsable': WHATEVER THE INPUT: true; the input reads as it did. -/
def fnExactPathUsableSpec : ChangeSpec := { name := "fnExactPathUsable", fn := fun _ => fun
  | [d1, d2, d3] => { results := [.lit (.bool true)], args := [d1, d2, d3] }
  | _ => none }
def fnExactPathUsableRow : OpenClaim := { program := "ytgfikdlinbefbaa", sum := "2735edc7066d8d1c6ac9c9b7734187fa4d9b465ca57bbc46b411bfaa59566b47", func := "loop.example/g00505/laws.FnExactPathUsable", spec := "fnExactPathUsable", apart := false }
def FnExactPathUsableSaid : Prop := fnExactPathUsableRow.holds Try.pinned (OpenSpec.ofChange fnExactPathUsableSpec)

/-- ITS FALSE NEIGHBOUR: 'it returns false'. Refute it at one input. -/
def fnExactPathUsableWrong : ChangeSpec := { name := "fnExactPathUsable", fn := fun _ => fun
  | [d1, d2, d3] => { results := [.lit (.bool false)], args := [d1, d2, d3] }
  | _ => none }
def FnExactPathUsableWrongFalsely : Prop := fnExactPathUsableRow.holds Try.pinned (OpenSpec.ofChange fnExactPathUsableWrong)

/- THE SECOND FORM. 'bulk': how many values and letters a reading holds, each counted each time it is reached (what is shared counts as often as it is met; a slice's spare places count too). A statement '..UptoSaid' is the law's where the arguments, and the package variables that the reading takes, are together of bulk at most 1048576: NARROWER than '..Said'. Prove '..Said' where nothing that the law and all that it calls make is longer than what came in: it says more and counts as full. Else prove '..UptoSaid'. A law counts once. -/
mutual
def uptoBulk {H : Type} : DataW H → Nat
  | .lit (.string bytes) => bytes.length + 1
  | .lit _ => 1
  | .nil => 1
  | .ptr d => uptoBulk d + 1
  | .slice elems spare => uptoBulkAll elems + uptoBulkAll spare + 1
  | .agg parts => uptoBulkAll parts + 1
  | .iface _ d => uptoBulk d + 1
  | .map entries => uptoBulkEntries entries + 1
  | .held _ => 1
def uptoBulkAll {H : Type} : List (DataW H) → Nat
  | [] => 0
  | d :: r => uptoBulk d + uptoBulkAll r
def uptoBulkEntries {H : Type} : List (Lit × DataW H) → Nat
  | [] => 0
  | x :: r => uptoBulkEntry x + uptoBulkEntries r
def uptoBulkEntry {H : Type} : Lit × DataW H → Nat
  | (.string bytes, d) => bytes.length + uptoBulk d + 1
  | (_, d) => uptoBulk d + 1
 end
def uptoSmall : (H : Type) → List (DataW H) → Bool := fun _ ds => decide (uptoBulkAll ds ≤ 1048576)
def OpenSpec.upto (s : _root_.Go.ChangeSpec) : _root_.Go.OpenSpec := { _root_.Go.OpenSpec.ofChange s with cond := some uptoSmall }

/-- 'laws.FnExactVerifyPath', WHERE WHAT IT READS IS OF BULK AT MOST 1048576: true; the input reads as it did. -/
def fnExactVerifyPathUptoRow : OpenClaim := { program := "ytgfikdlinbefbaa", sum := "2735edc7066d8d1c6ac9c9b7734187fa4d9b465ca57bbc46b411bfaa59566b47", func := "loop.example/g00505/laws.FnExactVerifyPath", spec := "fnExactVerifyPath", apart := false, narrowed := true }
def FnExactVerifyPathUptoSaid : Prop := fnExactVerifyPathUptoRow.holds Try.pinned (OpenSpec.upto fnExactVerifyPathSpec)

/-- 'laws.FnExactAdvanceHop', WHERE WHAT IT READS IS OF BULK AT MOST 1048576: true; the input reads as it did. -/
def fnExactAdvanceHopUptoRow : OpenClaim := { program := "ytgfikdlinbefbaa", sum := "2735edc7066d8d1c6ac9c9b7734187fa4d9b465ca57bbc46b411bfaa59566b47", func := "loop.example/g00505/laws.FnExactAdvanceHop", spec := "fnExactAdvanceHop", apart := false, narrowed := true }
def FnExactAdvanceHopUptoSaid : Prop := fnExactAdvanceHopUptoRow.holds Try.pinned (OpenSpec.upto fnExactAdvanceHopSpec)

/-- 'laws.FnExactCoreSteps', WHERE WHAT IT READS IS OF BULK AT MOST 1048576: true; the input reads as it did. -/
def fnExactCoreStepsUptoRow : OpenClaim := { program := "ytgfikdlinbefbaa", sum := "2735edc7066d8d1c6ac9c9b7734187fa4d9b465ca57bbc46b411bfaa59566b47", func := "loop.example/g00505/laws.FnExactCoreSteps", spec := "fnExactCoreSteps", apart := false, narrowed := true }
def FnExactCoreStepsUptoSaid : Prop := fnExactCoreStepsUptoRow.holds Try.pinned (OpenSpec.upto fnExactCoreStepsSpec)

/-- 'laws.FnExactDownSteps', WHERE WHAT IT READS IS OF BULK AT MOST 1048576: true; the input reads as it did. -/
def fnExactDownStepsUptoRow : OpenClaim := { program := "ytgfikdlinbefbaa", sum := "2735edc7066d8d1c6ac9c9b7734187fa4d9b465ca57bbc46b411bfaa59566b47", func := "loop.example/g00505/laws.FnExactDownSteps", spec := "fnExactDownSteps", apart := false, narrowed := true }
def FnExactDownStepsUptoSaid : Prop := fnExactDownStepsUptoRow.holds Try.pinned (OpenSpec.upto fnExactDownStepsSpec)

/-- 'laws.FnExactUpSteps', WHERE WHAT IT READS IS OF BULK AT MOST 1048576: true; the input reads as it did. -/
def fnExactUpStepsUptoRow : OpenClaim := { program := "ytgfikdlinbefbaa", sum := "2735edc7066d8d1c6ac9c9b7734187fa4d9b465ca57bbc46b411bfaa59566b47", func := "loop.example/g00505/laws.FnExactUpSteps", spec := "fnExactUpSteps", apart := false, narrowed := true }
def FnExactUpStepsUptoSaid : Prop := fnExactUpStepsUptoRow.holds Try.pinned (OpenSpec.upto fnExactUpStepsSpec)

/-- 'laws.FnExactReadPath', WHERE WHAT IT READS IS OF BULK AT MOST 1048576: true; the input reads as it did. -/
def fnExactReadPathUptoRow : OpenClaim := { program := "ytgfikdlinbefbaa", sum := "2735edc7066d8d1c6ac9c9b7734187fa4d9b465ca57bbc46b411bfaa59566b47", func := "loop.example/g00505/laws.FnExactReadPath", spec := "fnExactReadPath", apart := false, narrowed := true }
def FnExactReadPathUptoSaid : Prop := fnExactReadPathUptoRow.holds Try.pinned (OpenSpec.upto fnExactReadPathSpec)

/-- 'laws.FnExactNewPacket', WHERE WHAT IT READS IS OF BULK AT MOST 1048576: true; the input reads as it did. -/
def fnExactNewPacketUptoRow : OpenClaim := { program := "ytgfikdlinbefbaa", sum := "2735edc7066d8d1c6ac9c9b7734187fa4d9b465ca57bbc46b411bfaa59566b47", func := "loop.example/g00505/laws.FnExactNewPacket", spec := "fnExactNewPacket", apart := false, narrowed := true }
def FnExactNewPacketUptoSaid : Prop := fnExactNewPacketUptoRow.holds Try.pinned (OpenSpec.upto fnExactNewPacketSpec)

/-- 'laws.FnExactFirstForbiddenStep', WHERE WHAT IT READS IS OF BULK AT MOST 1048576: true; the input reads as it did. -/
def fnExactFirstForbiddenStepUptoRow : OpenClaim := { program := "ytgfikdlinbefbaa", sum := "2735edc7066d8d1c6ac9c9b7734187fa4d9b465ca57bbc46b411bfaa59566b47", func := "loop.example/g00505/laws.FnExactFirstForbiddenStep", spec := "fnExactFirstForbiddenStep", apart := false, narrowed := true }
def FnExactFirstForbiddenStepUptoSaid : Prop := fnExactFirstForbiddenStepUptoRow.holds Try.pinned (OpenSpec.upto fnExactFirstForbiddenStepSpec)

/-- 'laws.FnExactPathAllowed', WHERE WHAT IT READS IS OF BULK AT MOST 1048576: true; the input reads as it did. -/
def fnExactPathAllowedUptoRow : OpenClaim := { program := "ytgfikdlinbefbaa", sum := "2735edc7066d8d1c6ac9c9b7734187fa4d9b465ca57bbc46b411bfaa59566b47", func := "loop.example/g00505/laws.FnExactPathAllowed", spec := "fnExactPathAllowed", apart := false, narrowed := true }
def FnExactPathAllowedUptoSaid : Prop := fnExactPathAllowedUptoRow.holds Try.pinned (OpenSpec.upto fnExactPathAllowedSpec)

/-- 'laws.FnExactWellFormedPath', WHERE WHAT IT READS IS OF BULK AT MOST 1048576: true; the input reads as it did. -/
def fnExactWellFormedPathUptoRow : OpenClaim := { program := "ytgfikdlinbefbaa", sum := "2735edc7066d8d1c6ac9c9b7734187fa4d9b465ca57bbc46b411bfaa59566b47", func := "loop.example/g00505/laws.FnExactWellFormedPath", spec := "fnExactWellFormedPath", apart := false, narrowed := true }
def FnExactWellFormedPathUptoSaid : Prop := fnExactWellFormedPathUptoRow.holds Try.pinned (OpenSpec.upto fnExactWellFormedPathSpec)

/-- 'laws.FnExactSimplePath', WHERE WHAT IT READS IS OF BULK AT MOST 1048576: true; the input reads as it did. -/
def fnExactSimplePathUptoRow : OpenClaim := { program := "ytgfikdlinbefbaa", sum := "2735edc7066d8d1c6ac9c9b7734187fa4d9b465ca57bbc46b411bfaa59566b47", func := "loop.example/g00505/laws.FnExactSimplePath", spec := "fnExactSimplePath", apart := false, narrowed := true }
def FnExactSimplePathUptoSaid : Prop := fnExactSimplePathUptoRow.holds Try.pinned (OpenSpec.upto fnExactSimplePathSpec)

/-- 'laws.FnExactPathUsable', WHERE WHAT IT READS IS OF BULK AT MOST 1048576: true; the input reads as it did. -/
def fnExactPathUsableUptoRow : OpenClaim := { program := "ytgfikdlinbefbaa", sum := "2735edc7066d8d1c6ac9c9b7734187fa4d9b465ca57bbc46b411bfaa59566b47", func := "loop.example/g00505/laws.FnExactPathUsable", spec := "fnExactPathUsable", apart := false, narrowed := true }
def FnExactPathUsableUptoSaid : Prop := fnExactPathUsableUptoRow.holds Try.pinned (OpenSpec.upto fnExactPathUsableSpec)

end Rows
end Go.Proofs.Ytgfikdlinbefbaa
