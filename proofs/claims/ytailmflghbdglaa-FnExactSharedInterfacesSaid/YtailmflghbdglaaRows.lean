/-
  No cell of these rows narrows 'for every input' (looked for: loops, veiled, ifaces, maps, wideKeys, modest, calm, conditions, laid).
  DERIVED. THE GIVEN ROWS OF THIS SEAT. 12 by the template 'for every input the law returns true; each argument reads behind the call as it read before'; 0 by the template 'total and deterministic' (their statements: YtailmflghbdglaaTotals.lean).
  GIVEN WITH THE SEED: the statements are not yours to turn. If you find one false, say at which input.
  Laid BY PROGRAM, IN A SANDBOX (cutbox-rows.mjs): the forced cells as the released guide's own fill.sh prints them over the translation 54fbdea05b4c74ed… (all of the seat's roots in one cut). By AI agents, Wed Nov 11 2026. No macro, syntax, notation, axiom, sorry.
-/
import Derived.Test.YtailmflghbdglaaChecked
import GoSem.Claim
import GoSem.ClaimJoined
import GoSem.ClaimMapViews
import Derived.JoinedTies
import Derived.KernelRfl
namespace Go.Proofs.Ytailmflghbdglaa
/- THE CELL 'sum', in the pinned program and in every row, IS THE sha256 OF THE DUMP (.gsa) THAT YtailmflghbdglaaProg.lean LOADS. Nothing in Lean hashes anything: it is a label: what it is worth is what the hold of that sum in a sandbox is worth. -/
noncomputable def Try.pinned : Pinned := { name := "ytailmflghbdglaa", sum := "54fbdea05b4c74ed58c277a0aa6d965d63d7f4b6560f19699c3188eb4a2b4778", checked := Try.checked }
namespace Rows
def none {H : Type} : Left H := { results := [], args := [] }

/-- 'laws.FnExactHasPath': WHATEVER THE INPUT: true; the input reads as it did. -/
def fnExactHasPathSpec : ChangeSpec := { name := "fnExactHasPath", fn := fun _ => fun
  | [d1, d2] => { results := [.lit (.bool true)], args := [d1, d2] }
  | _ => none }
def fnExactHasPathRow : OpenClaim := { program := "ytailmflghbdglaa", sum := "54fbdea05b4c74ed58c277a0aa6d965d63d7f4b6560f19699c3188eb4a2b4778", func := "loop.example/g00505/laws.FnExactHasPath", spec := "fnExactHasPath", apart := false }
def FnExactHasPathSaid : Prop := fnExactHasPathRow.holds Try.pinned (OpenSpec.ofChange fnExactHasPathSpec)

/-- ITS FALSE NEIGHBOUR: 'it returns false'. Refute it at one input. -/
def fnExactHasPathWrong : ChangeSpec := { name := "fnExactHasPath", fn := fun _ => fun
  | [d1, d2] => { results := [.lit (.bool false)], args := [d1, d2] }
  | _ => none }
def FnExactHasPathWrongFalsely : Prop := fnExactHasPathRow.holds Try.pinned (OpenSpec.ofChange fnExactHasPathWrong)

/-- 'laws.FnExactCurrentAS': WHATEVER THE INPUT: true; the input reads as it did. -/
def fnExactCurrentASSpec : ChangeSpec := { name := "fnExactCurrentAS", fn := fun _ => fun
  | [d] => { results := [.lit (.bool true)], args := [d] }
  | _ => none }
def fnExactCurrentASRow : OpenClaim := { program := "ytailmflghbdglaa", sum := "54fbdea05b4c74ed58c277a0aa6d965d63d7f4b6560f19699c3188eb4a2b4778", func := "loop.example/g00505/laws.FnExactCurrentAS", spec := "fnExactCurrentAS", apart := false }
def FnExactCurrentASSaid : Prop := fnExactCurrentASRow.holds Try.pinned (OpenSpec.ofChange fnExactCurrentASSpec)

/-- ITS FALSE NEIGHBOUR: 'it returns false'. Refute it at one input. -/
def fnExactCurrentASWrong : ChangeSpec := { name := "fnExactCurrentAS", fn := fun _ => fun
  | [d] => { results := [.lit (.bool false)], args := [d] }
  | _ => none }
def FnExactCurrentASWrongFalsely : Prop := fnExactCurrentASRow.holds Try.pinned (OpenSpec.ofChange fnExactCurrentASWrong)

/-- 'laws.FnExactEqualPathLists': WHATEVER THE INPUT: true; the input reads as it did. -/
def fnExactEqualPathListsSpec : ChangeSpec := { name := "fnExactEqualPathLists", fn := fun _ => fun
  | [d1, d2] => { results := [.lit (.bool true)], args := [d1, d2] }
  | _ => none }
def fnExactEqualPathListsRow : OpenClaim := { program := "ytailmflghbdglaa", sum := "54fbdea05b4c74ed58c277a0aa6d965d63d7f4b6560f19699c3188eb4a2b4778", func := "loop.example/g00505/laws.FnExactEqualPathLists", spec := "fnExactEqualPathLists", apart := false }
def FnExactEqualPathListsSaid : Prop := fnExactEqualPathListsRow.holds Try.pinned (OpenSpec.ofChange fnExactEqualPathListsSpec)

/-- ITS FALSE NEIGHBOUR: 'it returns false'. Refute it at one input. -/
def fnExactEqualPathListsWrong : ChangeSpec := { name := "fnExactEqualPathLists", fn := fun _ => fun
  | [d1, d2] => { results := [.lit (.bool false)], args := [d1, d2] }
  | _ => none }
def FnExactEqualPathListsWrongFalsely : Prop := fnExactEqualPathListsRow.holds Try.pinned (OpenSpec.ofChange fnExactEqualPathListsWrong)

/-- 'laws.FnExactAtLastHop': WHATEVER THE INPUT: true; the input reads as it did. -/
def fnExactAtLastHopSpec : ChangeSpec := { name := "fnExactAtLastHop", fn := fun _ => fun
  | [d] => { results := [.lit (.bool true)], args := [d] }
  | _ => none }
def fnExactAtLastHopRow : OpenClaim := { program := "ytailmflghbdglaa", sum := "54fbdea05b4c74ed58c277a0aa6d965d63d7f4b6560f19699c3188eb4a2b4778", func := "loop.example/g00505/laws.FnExactAtLastHop", spec := "fnExactAtLastHop", apart := false }
def FnExactAtLastHopSaid : Prop := fnExactAtLastHopRow.holds Try.pinned (OpenSpec.ofChange fnExactAtLastHopSpec)

/-- ITS FALSE NEIGHBOUR: 'it returns false'. Refute it at one input. -/
def fnExactAtLastHopWrong : ChangeSpec := { name := "fnExactAtLastHop", fn := fun _ => fun
  | [d] => { results := [.lit (.bool false)], args := [d] }
  | _ => none }
def FnExactAtLastHopWrongFalsely : Prop := fnExactAtLastHopRow.holds Try.pinned (OpenSpec.ofChange fnExactAtLastHopWrong)

/-- 'laws.FnExactCurrentHopValid': WHATEVER THE INPUT: true; the input reads as it did. -/
def fnExactCurrentHopValidSpec : ChangeSpec := { name := "fnExactCurrentHopValid", fn := fun _ => fun
  | [d1, d2] => { results := [.lit (.bool true)], args := [d1, d2] }
  | _ => none }
def fnExactCurrentHopValidRow : OpenClaim := { program := "ytailmflghbdglaa", sum := "54fbdea05b4c74ed58c277a0aa6d965d63d7f4b6560f19699c3188eb4a2b4778", func := "loop.example/g00505/laws.FnExactCurrentHopValid", spec := "fnExactCurrentHopValid", apart := false }
def FnExactCurrentHopValidSaid : Prop := fnExactCurrentHopValidRow.holds Try.pinned (OpenSpec.ofChange fnExactCurrentHopValidSpec)

/-- ITS FALSE NEIGHBOUR: 'it returns false'. Refute it at one input. -/
def fnExactCurrentHopValidWrong : ChangeSpec := { name := "fnExactCurrentHopValid", fn := fun _ => fun
  | [d1, d2] => { results := [.lit (.bool false)], args := [d1, d2] }
  | _ => none }
def FnExactCurrentHopValidWrongFalsely : Prop := fnExactCurrentHopValidRow.holds Try.pinned (OpenSpec.ofChange fnExactCurrentHopValidWrong)

/-- 'laws.FnExactPathSize': WHATEVER THE INPUT: true; the input reads as it did. -/
def fnExactPathSizeSpec : ChangeSpec := { name := "fnExactPathSize", fn := fun _ => fun
  | [d] => { results := [.lit (.bool true)], args := [d] }
  | _ => none }
def fnExactPathSizeRow : OpenClaim := { program := "ytailmflghbdglaa", sum := "54fbdea05b4c74ed58c277a0aa6d965d63d7f4b6560f19699c3188eb4a2b4778", func := "loop.example/g00505/laws.FnExactPathSize", spec := "fnExactPathSize", apart := false }
def FnExactPathSizeSaid : Prop := fnExactPathSizeRow.holds Try.pinned (OpenSpec.ofChange fnExactPathSizeSpec)

/-- ITS FALSE NEIGHBOUR: 'it returns false'. Refute it at one input. -/
def fnExactPathSizeWrong : ChangeSpec := { name := "fnExactPathSize", fn := fun _ => fun
  | [d] => { results := [.lit (.bool false)], args := [d] }
  | _ => none }
def FnExactPathSizeWrongFalsely : Prop := fnExactPathSizeRow.holds Try.pinned (OpenSpec.ofChange fnExactPathSizeWrong)

/-- 'laws.FnExactPathFromInts': WHATEVER THE INPUT: true; the input reads as it did. -/
def fnExactPathFromIntsSpec : ChangeSpec := { name := "fnExactPathFromInts", fn := fun _ => fun
  | [d] => { results := [.lit (.bool true)], args := [d] }
  | _ => none }
def fnExactPathFromIntsRow : OpenClaim := { program := "ytailmflghbdglaa", sum := "54fbdea05b4c74ed58c277a0aa6d965d63d7f4b6560f19699c3188eb4a2b4778", func := "loop.example/g00505/laws.FnExactPathFromInts", spec := "fnExactPathFromInts", apart := false }
def FnExactPathFromIntsSaid : Prop := fnExactPathFromIntsRow.holds Try.pinned (OpenSpec.ofChange fnExactPathFromIntsSpec)

/-- ITS FALSE NEIGHBOUR: 'it returns false'. Refute it at one input. -/
def fnExactPathFromIntsWrong : ChangeSpec := { name := "fnExactPathFromInts", fn := fun _ => fun
  | [d] => { results := [.lit (.bool false)], args := [d] }
  | _ => none }
def FnExactPathFromIntsWrongFalsely : Prop := fnExactPathFromIntsRow.holds Try.pinned (OpenSpec.ofChange fnExactPathFromIntsWrong)

/-- 'laws.FnExactEqualPackets': WHATEVER THE INPUT: true; the input reads as it did. -/
def fnExactEqualPacketsSpec : ChangeSpec := { name := "fnExactEqualPackets", fn := fun _ => fun
  | [d1, d2] => { results := [.lit (.bool true)], args := [d1, d2] }
  | _ => none }
def fnExactEqualPacketsRow : OpenClaim := { program := "ytailmflghbdglaa", sum := "54fbdea05b4c74ed58c277a0aa6d965d63d7f4b6560f19699c3188eb4a2b4778", func := "loop.example/g00505/laws.FnExactEqualPackets", spec := "fnExactEqualPackets", apart := false }
def FnExactEqualPacketsSaid : Prop := fnExactEqualPacketsRow.holds Try.pinned (OpenSpec.ofChange fnExactEqualPacketsSpec)

/-- ITS FALSE NEIGHBOUR: 'it returns false'. Refute it at one input. -/
def fnExactEqualPacketsWrong : ChangeSpec := { name := "fnExactEqualPackets", fn := fun _ => fun
  | [d1, d2] => { results := [.lit (.bool false)], args := [d1, d2] }
  | _ => none }
def FnExactEqualPacketsWrongFalsely : Prop := fnExactEqualPacketsRow.holds Try.pinned (OpenSpec.ofChange fnExactEqualPacketsWrong)

/-- 'laws.FnExactSharedInterfaces': WHATEVER THE INPUT: true; the input reads as it did. -/
def fnExactSharedInterfacesSpec : ChangeSpec := { name := "fnExactSharedInterfaces", fn := fun _ => fun
  | [d1, d2] => { results := [.lit (.bool true)], args := [d1, d2] }
  | _ => none }
def fnExactSharedInterfacesRow : OpenClaim := { program := "ytailmflghbdglaa", sum := "54fbdea05b4c74ed58c277a0aa6d965d63d7f4b6560f19699c3188eb4a2b4778", func := "loop.example/g00505/laws.FnExactSharedInterfaces", spec := "fnExactSharedInterfaces", apart := false }
def FnExactSharedInterfacesSaid : Prop := fnExactSharedInterfacesRow.holds Try.pinned (OpenSpec.ofChange fnExactSharedInterfacesSpec)

/-- ITS FALSE NEIGHBOUR: 'it returns false'. Refute it at one input. -/
def fnExactSharedInterfacesWrong : ChangeSpec := { name := "fnExactSharedInterfaces", fn := fun _ => fun
  | [d1, d2] => { results := [.lit (.bool false)], args := [d1, d2] }
  | _ => none }
def FnExactSharedInterfacesWrongFalsely : Prop := fnExactSharedInterfacesRow.holds Try.pinned (OpenSpec.ofChange fnExactSharedInterfacesWrong)

/-- 'laws.FnExactPathSteps': WHATEVER THE INPUT: true; the input reads as it did. -/
def fnExactPathStepsSpec : ChangeSpec := { name := "fnExactPathSteps", fn := fun _ => fun
  | [d] => { results := [.lit (.bool true)], args := [d] }
  | _ => none }
def fnExactPathStepsRow : OpenClaim := { program := "ytailmflghbdglaa", sum := "54fbdea05b4c74ed58c277a0aa6d965d63d7f4b6560f19699c3188eb4a2b4778", func := "loop.example/g00505/laws.FnExactPathSteps", spec := "fnExactPathSteps", apart := false }
def FnExactPathStepsSaid : Prop := fnExactPathStepsRow.holds Try.pinned (OpenSpec.ofChange fnExactPathStepsSpec)

/-- ITS FALSE NEIGHBOUR: 'it returns false'. Refute it at one input. -/
def fnExactPathStepsWrong : ChangeSpec := { name := "fnExactPathSteps", fn := fun _ => fun
  | [d] => { results := [.lit (.bool false)], args := [d] }
  | _ => none }
def FnExactPathStepsWrongFalsely : Prop := fnExactPathStepsRow.holds Try.pinned (OpenSpec.ofChange fnExactPathStepsWrong)

/-- 'laws.FnExactInterfacesUsed': WHATEVER THE INPUT: true; the input reads as it did. -/
def fnExactInterfacesUsedSpec : ChangeSpec := { name := "fnExactInterfacesUsed", fn := fun _ => fun
  | [d] => { results := [.lit (.bool true)], args := [d] }
  | _ => none }
def fnExactInterfacesUsedRow : OpenClaim := { program := "ytailmflghbdglaa", sum := "54fbdea05b4c74ed58c277a0aa6d965d63d7f4b6560f19699c3188eb4a2b4778", func := "loop.example/g00505/laws.FnExactInterfacesUsed", spec := "fnExactInterfacesUsed", apart := false }
def FnExactInterfacesUsedSaid : Prop := fnExactInterfacesUsedRow.holds Try.pinned (OpenSpec.ofChange fnExactInterfacesUsedSpec)

/-- ITS FALSE NEIGHBOUR: 'it returns false'. Refute it at one input. -/
def fnExactInterfacesUsedWrong : ChangeSpec := { name := "fnExactInterfacesUsed", fn := fun _ => fun
  | [d] => { results := [.lit (.bool false)], args := [d] }
  | _ => none }
def FnExactInterfacesUsedWrongFalsely : Prop := fnExactInterfacesUsedRow.holds Try.pinned (OpenSpec.ofChange fnExactInterfacesUsedWrong)

/-- 'laws.FnExactValidPacket': WHATEVER THE INPUT: true; the input reads as it did. -/
def fnExactValidPacketSpec : ChangeSpec := { name := "fnExactValidPacket", fn := fun _ => fun
  | [d] => { results := [.lit (.bool true)], args := [d] }
  | _ => none }
def fnExactValidPacketRow : OpenClaim := { program := "ytailmflghbdglaa", sum := "54fbdea05b4c74ed58c277a0aa6d965d63d7f4b6560f19699c3188eb4a2b4778", func := "loop.example/g00505/laws.FnExactValidPacket", spec := "fnExactValidPacket", apart := false }
def FnExactValidPacketSaid : Prop := fnExactValidPacketRow.holds Try.pinned (OpenSpec.ofChange fnExactValidPacketSpec)

/-- ITS FALSE NEIGHBOUR: 'it returns false'. Refute it at one input. -/
def fnExactValidPacketWrong : ChangeSpec := { name := "fnExactValidPacket", fn := fun _ => fun
  | [d] => { results := [.lit (.bool false)], args := [d] }
  | _ => none }
def FnExactValidPacketWrongFalsely : Prop := fnExactValidPacketRow.holds Try.pinned (OpenSpec.ofChange fnExactValidPacketWrong)

/- THE SECOND FORM. 'bulk': how many values and letters a reading holds, each counted each time it is reached (what is shared counts as often as it is met; a slice's spare places count too). A statement '..UptoSaid' is the law's where the arguments, and the package variables that the reading takes, are together of bulk at most 1048576: NARROWER than '..Said'. Prove '..Said' where nothing that the law and all that it calls make is longer than what came in: it says more and counts as full. Else prove '..UptoSaid'. A law counts once. -/
mutual
def uptoBulk {H : Type} : DataW H → Nat
  | .lit (.string bytes) => bytes.length + 1
  | .lit _ => 1
  | .nil => 1
  | .ptr d => uptoBulk d + 1
  | .slice elems spare => uptoBulkAll elems + uptoBulkAll spare + 1
  | .agg parts => uptoBulkAll parts + 1
  | .iface _ d => uptoBulk d + 1
  | .map entries => uptoBulkEntries entries + 1
  | .held _ => 1
def uptoBulkAll {H : Type} : List (DataW H) → Nat
  | [] => 0
  | d :: r => uptoBulk d + uptoBulkAll r
def uptoBulkEntries {H : Type} : List (Lit × DataW H) → Nat
  | [] => 0
  | x :: r => uptoBulkEntry x + uptoBulkEntries r
def uptoBulkEntry {H : Type} : Lit × DataW H → Nat
  | (.string bytes, d) => bytes.length + uptoBulk d + 1
  | (_, d) => uptoBulk d + 1
 end
def uptoSmall : (H : Type) → List (DataW H) → Bool := fun _ ds => decide (uptoBulkAll ds ≤ 1048576)
def OpenSpec.upto (s : _root_.Go.ChangeSpec) : _root_.Go.OpenSpec := { _root_.Go.OpenSpec.ofChange s with cond := some uptoSmall }

/-- 'laws.FnExactHasPath', WHERE WHAT IT READS IS OF BULK AT MOST 1048576: true; the input reads as it did. -/
def fnExactHasPathUptoRow : OpenClaim := { program := "ytailmflghbdglaa", sum := "54fbdea05b4c74ed58c277a0aa6d965d63d7f4b6560f19699c3188eb4a2b4778", func := "loop.example/g00505/laws.FnExactHasPath", spec := "fnExactHasPath", apart := false, narrowed := true }
def FnExactHasPathUptoSaid : Prop := fnExactHasPathUptoRow.holds Try.pinned (OpenSpec.upto fnExactHasPathSpec)

/-- 'laws.FnExactCurrentAS', WHERE WHAT IT READS IS OF BULK AT MOST 1048576: true; the input reads as it did. -/
def fnExactCurrentASUptoRow : OpenClaim := { program := "ytailmflghbdglaa", sum := "54fbdea05b4c74ed58c277a0aa6d965d63d7f4b6560f19699c3188eb4a2b4778", func := "loop.example/g00505/laws.FnExactCurrentAS", spec := "fnExactCurrentAS", apart := false, narrowed := true }
def FnExactCurrentASUptoSaid : Prop := fnExactCurrentASUptoRow.holds Try.pinned (OpenSpec.upto fnExactCurrentASSpec)

/-- 'laws.FnExactEqualPathLists', WHERE WHAT IT READS IS OF BULK AT MOST 1048576: true; the input reads as it did. -/
def fnExactEqualPathListsUptoRow : OpenClaim := { program := "ytailmflghbdglaa", sum := "54fbdea05b4c74ed58c277a0aa6d965d63d7f4b6560f19699c3188eb4a2b4778", func := "loop.example/g00505/laws.FnExactEqualPathLists", spec := "fnExactEqualPathLists", apart := false, narrowed := true }
def FnExactEqualPathListsUptoSaid : Prop := fnExactEqualPathListsUptoRow.holds Try.pinned (OpenSpec.upto fnExactEqualPathListsSpec)

/-- 'laws.FnExactAtLastHop', WHERE WHAT IT READS IS OF BULK AT MOST 1048576: true; the input reads as it did. -/
def fnExactAtLastHopUptoRow : OpenClaim := { program := "ytailmflghbdglaa", sum := "54fbdea05b4c74ed58c277a0aa6d965d63d7f4b6560f19699c3188eb4a2b4778", func := "loop.example/g00505/laws.FnExactAtLastHop", spec := "fnExactAtLastHop", apart := false, narrowed := true }
def FnExactAtLastHopUptoSaid : Prop := fnExactAtLastHopUptoRow.holds Try.pinned (OpenSpec.upto fnExactAtLastHopSpec)

/-- 'laws.FnExactCurrentHopValid', WHERE WHAT IT READS IS OF BULK AT MOST 1048576: true; the input reads as it did. -/
def fnExactCurrentHopValidUptoRow : OpenClaim := { program := "ytailmflghbdglaa", sum := "54fbdea05b4c74ed58c277a0aa6d965d63d7f4b6560f19699c3188eb4a2b4778", func := "loop.example/g00505/laws.FnExactCurrentHopValid", spec := "fnExactCurrentHopValid", apart := false, narrowed := true }
def FnExactCurrentHopValidUptoSaid : Prop := fnExactCurrentHopValidUptoRow.holds Try.pinned (OpenSpec.upto fnExactCurrentHopValidSpec)

/-- 'laws.FnExactPathSize', WHERE WHAT IT READS IS OF BULK AT MOST 1048576: true; the input reads as it did. -/
def fnExactPathSizeUptoRow : OpenClaim := { program := "ytailmflghbdglaa", sum := "54fbdea05b4c74ed58c277a0aa6d965d63d7f4b6560f19699c3188eb4a2b4778", func := "loop.example/g00505/laws.FnExactPathSize", spec := "fnExactPathSize", apart := false, narrowed := true }
def FnExactPathSizeUptoSaid : Prop := fnExactPathSizeUptoRow.holds Try.pinned (OpenSpec.upto fnExactPathSizeSpec)

/-- 'laws.FnExactPathFromInts', WHERE WHAT IT READS IS OF BULK AT MOST 1048576: true; the input reads as it did. -/
def fnExactPathFromIntsUptoRow : OpenClaim := { program := "ytailmflghbdglaa", sum := "54fbdea05b4c74ed58c277a0aa6d965d63d7f4b6560f19699c3188eb4a2b4778", func := "loop.example/g00505/laws.FnExactPathFromInts", spec := "fnExactPathFromInts", apart := false, narrowed := true }
def FnExactPathFromIntsUptoSaid : Prop := fnExactPathFromIntsUptoRow.holds Try.pinned (OpenSpec.upto fnExactPathFromIntsSpec)

/-- 'laws.FnExactEqualPackets', WHERE WHAT IT READS IS OF BULK AT MOST 1048576: true; the input reads as it did. -/
def fnExactEqualPacketsUptoRow : OpenClaim := { program := "ytailmflghbdglaa", sum := "54fbdea05b4c74ed58c277a0aa6d965d63d7f4b6560f19699c3188eb4a2b4778", func := "loop.example/g00505/laws.FnExactEqualPackets", spec := "fnExactEqualPackets", apart := false, narrowed := true }
def FnExactEqualPacketsUptoSaid : Prop := fnExactEqualPacketsUptoRow.holds Try.pinned (OpenSpec.upto fnExactEqualPacketsSpec)

/-- 'laws.FnExactSharedInterfaces', WHERE WHAT IT READS IS OF BULK AT MOST 1048576: true; the input reads as it did. -/
def fnExactSharedInterfacesUptoRow : OpenClaim := { program := "ytailmflghbdglaa", sum := "54fbdea05b4c74ed58c277a0aa6d965d63d7f4b6560f19699c3188eb4a2b4778", func := "loop.example/g00505/laws.FnExactSharedInterfaces", spec := "fnExactSharedInterfaces", apart := false, narrowed := true }
def FnExactSharedInterfacesUptoSaid : Prop := fnExactSharedInterfacesUptoRow.holds Try.pinned (OpenSpec.upto fnExactSharedInterfacesSpec)

/-- 'laws.FnExactPathSteps', WHERE WHAT IT READS IS OF BULK AT MOST 1048576: true; the input reads as it did. -/
def fnExactPathStepsUptoRow : OpenClaim := { program := "ytailmflghbdglaa", sum := "54fbdea05b4c74ed58c277a0aa6d965d63d7f4b6560f19699c3188eb4a2b4778", func := "loop.example/g00505/laws.FnExactPathSteps", spec := "fnExactPathSteps", apart := false, narrowed := true }
def FnExactPathStepsUptoSaid : Prop := fnExactPathStepsUptoRow.holds Try.pinned (OpenSpec.upto fnExactPathStepsSpec)

/-- 'laws.FnExactInterfacesUsed', WHERE WHAT IT READS IS OF BULK AT MOST 1048576: true; the input reads as it did. -/
def fnExactInterfacesUsedUptoRow : OpenClaim := { program := "ytailmflghbdglaa", sum := "54fbdea05b4c74ed58c277a0aa6d965d63d7f4b6560f19699c3188eb4a2b4778", func := "loop.example/g00505/laws.FnExactInterfacesUsed", spec := "fnExactInterfacesUsed", apart := false, narrowed := true }
def FnExactInterfacesUsedUptoSaid : Prop := fnExactInterfacesUsedUptoRow.holds Try.pinned (OpenSpec.upto fnExactInterfacesUsedSpec)

/-- 'laws.FnExactValidPacket', WHERE WHAT IT READS IS OF BULK AT MOST 1048576: true; the input reads as it did. -/
def fnExactValidPacketUptoRow : OpenClaim := { program := "ytailmflghbdglaa", sum := "54fbdea05b4c74ed58c277a0aa6d965d63d7f4b6560f19699c3188eb4a2b4778", func := "loop.example/g00505/laws.FnExactValidPacket", spec := "fnExactValidPacket", apart := false, narrowed := true }
def FnExactValidPacketUptoSaid : Prop := fnExactValidPacketUptoRow.holds Try.pinned (OpenSpec.upto fnExactValidPacketSpec)

end Rows
end Go.Proofs.Ytailmflghbdglaa
