/-
  No cell of these rows narrows 'for every input' (looked for: loops, veiled, ifaces, maps, wideKeys, modest, calm, conditions, laid).
  DERIVED. THE GIVEN ROWS OF THIS SEAT. 12 by the template 'for every input the law returns true; each argument reads behind the call as it read before'; 0 by the template 'total and deterministic' (their statements: YtfgobdejlfojiaaTotals.lean).
  GIVEN WITH THE SEED: the statements are not yours to turn. If you find one false, say at which input.
  Laid BY PROGRAM, IN A SANDBOX (cutbox-rows.mjs): the forced cells as the released guide's own fill.sh prints them over the translation de4fcce2ab5df3f6… (all of the seat's roots in one cut). By AI agents, Wed Nov 11 2026. No macro, syntax, notation, axiom, sorry.
-/
import Derived.Test.YtfgobdejlfojiaaChecked
import GoSem.Claim
import GoSem.ClaimJoined
import GoSem.ClaimMapViews
import Derived.JoinedTies
import Derived.KernelRfl
namespace Go.Proofs.Ytfgobdejlfojiaa
/- THE CELL 'sum', in the pinned program and in every row, IS THE sha256 OF THE DUMP (.gsa) THAT YtfgobdejlfojiaaProg.lean LOADS. Nothing in Lean hashes anything: it is a label: what it is worth is what the hold of that sum in a sandbox is worth. -/
noncomputable def Try.pinned : Pinned := { name := "ytfgobdejlfojiaa", sum := "de4fcce2ab5df3f67ac11ae9aaf808395eb634022c2df8e753395f991d68ce7a", checked := Try.checked }
namespace Rows
def none {H : Type} : Left H := { results := [], args := [] }

/-- 'laws.FnExactWellFormedPath': WHATEVER THE INPUT: true; the input reads as it did. -/
def fnExactWellFormedPathSpec : ChangeSpec := { name := "fnExactWellFormedPath", fn := fun _ => fun
  | [d1, d2] => { results := [.lit (.bool true)], args := [d1, d2] }
  | _ => none }
def fnExactWellFormedPathRow : OpenClaim := { program := "ytfgobdejlfojiaa", sum := "de4fcce2ab5df3f67ac11ae9aaf808395eb634022c2df8e753395f991d68ce7a", func := "loop.example/g00505/laws.FnExactWellFormedPath", spec := "fnExactWellFormedPath", apart := false }
def FnExactWellFormedPathSaid : Prop := fnExactWellFormedPathRow.holds Try.pinned (OpenSpec.ofChange fnExactWellFormedPathSpec)

/-- ITS FALSE NEIGHBOUR: 'it returns false'. Refute it at one input. -/
def fnExactWellFormedPathWrong : ChangeSpec := { name := "fnExactWellFormedPath", fn := fun _ => fun
  | [d1, d2] => { results := [.lit (.bool false)], args := [d1, d2] }
  | _ => none }
def FnExactWellFormedPathWrongFalsely : Prop := fnExactWellFormedPathRow.holds Try.pinned (OpenSpec.ofChange fnExactWellFormedPathWrong)

/-- 'laws.FnExactSimplePath': WHATEVER THE INPUT: true; the input reads as it did. -/
def fnExactSimplePathSpec : ChangeSpec := { name := "fnExactSimplePath", fn := fun _ => fun
  | [d1, d2] => { results := [.lit (.bool true)], args := [d1, d2] }
  | _ => none }
def fnExactSimplePathRow : OpenClaim := { program := "ytfgobdejlfojiaa", sum := "de4fcce2ab5df3f67ac11ae9aaf808395eb634022c2df8e753395f991d68ce7a", func := "loop.example/g00505/laws.FnExactSimplePath", spec := "fnExactSimplePath", apart := false }
def FnExactSimplePathSaid : Prop := fnExactSimplePathRow.holds Try.pinned (OpenSpec.ofChange fnExactSimplePathSpec)

/-- ITS FALSE NEIGHBOUR: 'it returns false'. Refute it at one input. -/
def fnExactSimplePathWrong : ChangeSpec := { name := "fnExactSimplePath", fn := fun _ => fun
  | [d1, d2] => { results := [.lit (.bool false)], args := [d1, d2] }
  | _ => none }
def FnExactSimplePathWrongFalsely : Prop := fnExactSimplePathRow.holds Try.pinned (OpenSpec.ofChange fnExactSimplePathWrong)

/-- 'laws.FnExactPathUsable': WHATEVER THE INPUT: true; the input reads as it did. -/
def fnExactPathUsableSpec : ChangeSpec := { name := "fnExactPathUsable", fn := fun _ => fun
  | [d1, d2, d3] => { results := [.lit (.bool true)], args := [d1, d2, d3] }
  | _ => none }
def fnExactPathUsableRow : OpenClaim := { program := "ytfgobdejlfojiaa", sum := "de4fcce2ab5df3f67ac11ae9aaf808395eb634022c2df8e753395f991d68ce7a", func := "loop.example/g00505/laws.FnExactPathUsable", spec := "fnExactPathUsable", apart := false }
def FnExactPathUsableSaid : Prop := fnExactPathUsableRow.holds Try.pinned (OpenSpec.ofChange fnExactPathUsableSpec)

/-- ITS FALSE NEIGHBOUR: 'it returns false'. Refute it at one input. -/
def fnExactPathUsableWrong : ChangeSpec := { name := "fnExactPathUsable", fn := fun _ => fun
  | [d1, d2, d3] => { results := [.lit (.bool false)], args := [d1, d2, d3] }
  | _ => none }
def FnExactPathUsableWrongFalsely : Prop := fnExactPathUsableRow.holds Try.pinned (OpenSpec.ofChange fnExactPathUsableWrong)

/-- 'laws.FnExactAdvanceHop': WHATEVER THE INPUT: true; the input reads as it did. -/
def fnExactAdvanceHopSpec : ChangeSpec := { name := "fnExactAdvanceHop", fn := fun _ => fun
  | [d] => { results := [.lit (.bool true)], args := [d] }
  | _ => none }
def fnExactAdvanceHopRow : OpenClaim := { program := "ytfgobdejlfojiaa", sum := "de4fcce2ab5df3f67ac11ae9aaf808395eb634022c2df8e753395f991d68ce7a", func := "loop.example/g00505/laws.FnExactAdvanceHop", spec := "fnExactAdvanceHop", apart := false }
def FnExactAdvanceHopSaid : Prop := fnExactAdvanceHopRow.holds Try.pinned (OpenSpec.ofChange fnExactAdvanceHopSpec)

/-- ITS FALSE NEIGHBOUR: 'it returns false'. Refute it at one input. -/
def fnExactAdvanceHopWrong : ChangeSpec := { name := "fnExactAdvanceHop", fn := fun _ => fun
  | [d] => { results := [.lit (.bool false)], args := [d] }
  | _ => none }
def FnExactAdvanceHopWrongFalsely : Prop := fnExactAdvanceHopRow.holds Try.pinned (OpenSpec.ofChange fnExactAdvanceHopWrong)

/-- 'laws.FnExactReadPath': WHATEVER THE INPUT: true; the input reads as it did. -/
def fnExactReadPathSpec : ChangeSpec := { name := "fnExactReadPath", fn := fun _ => fun
  | [d1, d2] => { results := [.lit (.bool true)], args := [d1, d2] }
  | _ => none }
def fnExactReadPathRow : OpenClaim := { program := "ytfgobdejlfojiaa", sum := "de4fcce2ab5df3f67ac11ae9aaf808395eb634022c2df8e753395f991d68ce7a", func := "loop.example/g00505/laws.FnExactReadPath", spec := "fnExactReadPath", apart := false }
def FnExactReadPathSaid : Prop := fnExactReadPathRow.holds Try.pinned (OpenSpec.ofChange fnExactReadPathSpec)

/-- ITS FALSE NEIGHBOUR: 'it returns false'. Refute it at one input. -/
def fnExactReadPathWrong : ChangeSpec := { name := "fnExactReadPath", fn := fun _ => fun
  | [d1, d2] => { results := [.lit (.bool false)], args := [d1, d2] }
  | _ => none }
def FnExactReadPathWrongFalsely : Prop := fnExactReadPathRow.holds Try.pinned (OpenSpec.ofChange fnExactReadPathWrong)

/-- 'laws.FnExactNewPacket': WHATEVER THE INPUT: true; the input reads as it did. -/
def fnExactNewPacketSpec : ChangeSpec := { name := "fnExactNewPacket", fn := fun _ => fun
  | [d1, d2, d3, d4, d5] => { results := [.lit (.bool true)], args := [d1, d2, d3, d4, d5] }
  | _ => none }
def fnExactNewPacketRow : OpenClaim := { program := "ytfgobdejlfojiaa", sum := "de4fcce2ab5df3f67ac11ae9aaf808395eb634022c2df8e753395f991d68ce7a", func := "loop.example/g00505/laws.FnExactNewPacket", spec := "fnExactNewPacket", apart := false }
def FnExactNewPacketSaid : Prop := fnExactNewPacketRow.holds Try.pinned (OpenSpec.ofChange fnExactNewPacketSpec)

/-- ITS FALSE NEIGHBOUR: 'it returns false'. Refute it at one input. -/
def fnExactNewPacketWrong : ChangeSpec := { name := "fnExactNewPacket", fn := fun _ => fun
  | [d1, d2, d3, d4, d5] => { results := [.lit (.bool false)], args := [d1, d2, d3, d4, d5] }
  | _ => none }
def FnExactNewPacketWrongFalsely : Prop := fnExactNewPacketRow.holds Try.pinned (OpenSpec.ofChange fnExactNewPacketWrong)

/-- 'laws.FnExactEncodePacket': WHATEVER THE INPUT: true; the input reads as it did. -/
def fnExactEncodePacketSpec : ChangeSpec := { name := "fnExactEncodePacket", fn := fun _ => fun
  | [d] => { results := [.lit (.bool true)], args := [d] }
  | _ => none }
def fnExactEncodePacketRow : OpenClaim := { program := "ytfgobdejlfojiaa", sum := "de4fcce2ab5df3f67ac11ae9aaf808395eb634022c2df8e753395f991d68ce7a", func := "loop.example/g00505/laws.FnExactEncodePacket", spec := "fnExactEncodePacket", apart := false }
def FnExactEncodePacketSaid : Prop := fnExactEncodePacketRow.holds Try.pinned (OpenSpec.ofChange fnExactEncodePacketSpec)

/-- ITS FALSE NEIGHBOUR: 'it returns false'. Refute it at one input. -/
def fnExactEncodePacketWrong : ChangeSpec := { name := "fnExactEncodePacket", fn := fun _ => fun
  | [d] => { results := [.lit (.bool false)], args := [d] }
  | _ => none }
def FnExactEncodePacketWrongFalsely : Prop := fnExactEncodePacketRow.holds Try.pinned (OpenSpec.ofChange fnExactEncodePacketWrong)

/-- 'laws.FnExactDecodePacket': WHATEVER THE INPUT: true; the input reads as it did. -/
def fnExactDecodePacketSpec : ChangeSpec := { name := "fnExactDecodePacket", fn := fun _ => fun
  | [d] => { results := [.lit (.bool true)], args := [d] }
  | _ => none }
def fnExactDecodePacketRow : OpenClaim := { program := "ytfgobdejlfojiaa", sum := "de4fcce2ab5df3f67ac11ae9aaf808395eb634022c2df8e753395f991d68ce7a", func := "loop.example/g00505/laws.FnExactDecodePacket", spec := "fnExactDecodePacket", apart := false }
def FnExactDecodePacketSaid : Prop := fnExactDecodePacketRow.holds Try.pinned (OpenSpec.ofChange fnExactDecodePacketSpec)

/-- ITS FALSE NEIGHBOUR: 'it returns false'. Refute it at one input. -/
def fnExactDecodePacketWrong : ChangeSpec := { name := "fnExactDecodePacket", fn := fun _ => fun
  | [d] => { results := [.lit (.bool false)], args := [d] }
  | _ => none }
def FnExactDecodePacketWrongFalsely : Prop := fnExactDecodePacketRow.holds Try.pinned (OpenSpec.ofChange fnExactDecodePacketWrong)

/-- 'laws.FnExactSortPaths': WHATEVER THE INPUT: true; the input reads as it did. -/
def fnExactSortPathsSpec : ChangeSpec := { name := "fnExactSortPaths", fn := fun _ => fun
  | [d] => { results := [.lit (.bool true)], args := [d] }
  | _ => none }
def fnExactSortPathsRow : OpenClaim := { program := "ytfgobdejlfojiaa", sum := "de4fcce2ab5df3f67ac11ae9aaf808395eb634022c2df8e753395f991d68ce7a", func := "loop.example/g00505/laws.FnExactSortPaths", spec := "fnExactSortPaths", apart := false }
def FnExactSortPathsSaid : Prop := fnExactSortPathsRow.holds Try.pinned (OpenSpec.ofChange fnExactSortPathsSpec)

/-- ITS FALSE NEIGHBOUR: 'it returns false'. Refute it at one input. -/
def fnExactSortPathsWrong : ChangeSpec := { name := "fnExactSortPaths", fn := fun _ => fun
  | [d] => { results := [.lit (.bool false)], args := [d] }
  | _ => none }
def FnExactSortPathsWrongFalsely : Prop := fnExactSortPathsRow.holds Try.pinned (OpenSpec.ofChange fnExactSortPathsWrong)

/-- 'laws.FnExactDisjointPaths': WHATEVER THE INPUT: true; the input reads as it did. -/
def fnExactDisjointPathsSpec : ChangeSpec := { name := "fnExactDisjointPaths", fn := fun _ => fun
  | [d1, d2] => { results := [.lit (.bool true)], args := [d1, d2] }
  | _ => none }
def fnExactDisjointPathsRow : OpenClaim := { program := "ytfgobdejlfojiaa", sum := "de4fcce2ab5df3f67ac11ae9aaf808395eb634022c2df8e753395f991d68ce7a", func := "loop.example/g00505/laws.FnExactDisjointPaths", spec := "fnExactDisjointPaths", apart := false }
def FnExactDisjointPathsSaid : Prop := fnExactDisjointPathsRow.holds Try.pinned (OpenSpec.ofChange fnExactDisjointPathsSpec)

/-- ITS FALSE NEIGHBOUR: 'it returns false'. Refute it at one input. -/
def fnExactDisjointPathsWrong : ChangeSpec := { name := "fnExactDisjointPaths", fn := fun _ => fun
  | [d1, d2] => { results := [.lit (.bool false)], args := [d1, d2] }
  | _ => none }
def FnExactDisjointPathsWrongFalsely : Prop := fnExactDisjointPathsRow.holds Try.pinned (OpenSpec.ofChange fnExactDisjointPathsWrong)

/-- 'laws.FnExactFormatPath': WHATEVER THE INPUT: true; the input reads as it did. -/
def fnExactFormatPathSpec : ChangeSpec := { name := "fnExactFormatPath", fn := fun _ => fun
  | [d1, d2] => { results := [.lit (.bool true)], args := [d1, d2] }
  | _ => none }
def fnExactFormatPathRow : OpenClaim := { program := "ytfgobdejlfojiaa", sum := "de4fcce2ab5df3f67ac11ae9aaf808395eb634022c2df8e753395f991d68ce7a", func := "loop.example/g00505/laws.FnExactFormatPath", spec := "fnExactFormatPath", apart := false }
def FnExactFormatPathSaid : Prop := fnExactFormatPathRow.holds Try.pinned (OpenSpec.ofChange fnExactFormatPathSpec)

/-- ITS FALSE NEIGHBOUR: 'it returns false'. Refute it at one input. -/
def fnExactFormatPathWrong : ChangeSpec := { name := "fnExactFormatPath", fn := fun _ => fun
  | [d1, d2] => { results := [.lit (.bool false)], args := [d1, d2] }
  | _ => none }
def FnExactFormatPathWrongFalsely : Prop := fnExactFormatPathRow.holds Try.pinned (OpenSpec.ofChange fnExactFormatPathWrong)

/-- 'laws.FnExactFormatPacket': WHATEVER THE INPUT: true; the input reads as it did. -/
def fnExactFormatPacketSpec : ChangeSpec := { name := "fnExactFormatPacket", fn := fun _ => fun
  | [d1, d2] => { results := [.lit (.bool true)], args := [d1, d2] }
  | _ => none }
def fnExactFormatPacketRow : OpenClaim := { program := "ytfgobdejlfojiaa", sum := "de4fcce2ab5df3f67ac11ae9aaf808395eb634022c2df8e753395f991d68ce7a", func := "loop.example/g00505/laws.FnExactFormatPacket", spec := "fnExactFormatPacket", apart := false }
def FnExactFormatPacketSaid : Prop := fnExactFormatPacketRow.holds Try.pinned (OpenSpec.ofChange fnExactFormatPacketSpec)

/-- ITS FALSE NEIGHBOUR: 'it returns false'. Refute it at one input. -/
def fnExactFormatPacketWrong : ChangeSpec := { name := "fnExactFormatPacket", fn := fun _ => fun
  | [d1, d2] => { results := [.lit (.bool false)], args := [d1, d2] }
  | _ => none }
def FnExactFormatPacketWrongFalsely : Prop := fnExactFormatPacketRow.holds Try.pinned (OpenSpec.ofChange fnExactFormatPacketWrong)

/- THE SECOND FORM. 'bulk': how many values and letters a reading holds, each counted each time it is reached (what is shared counts as often as it is met; a slice's spare places count too). A statement '..UptoSaid' is the law's where the arguments, and the package variables that the reading takes, are together of bulk at most 1048576: NARROWER than '..Said'. Prove '..Said' where nothing that the law and all that it calls make is longer than what came in: it says more and counts as full. Else prove '..UptoSaid'. A law counts once. -/
mutual
def uptoBulk {H : Type} : DataW H → Nat
  | .lit (.string bytes) => bytes.length + 1
  | .lit _ => 1
  | .nil => 1
  | .ptr d => uptoBulk d + 1
  | .slice elems spare => uptoBulkAll elems + uptoBulkAll spare + 1
  | .agg parts => uptoBulkAll parts + 1
  | .iface _ d => uptoBulk d + 1
  | .map entries => uptoBulkEntries entries + 1
  | .held _ => 1
def uptoBulkAll {H : Type} : List (DataW H) → Nat
  | [] => 0
  | d :: r => uptoBulk d + uptoBulkAll r
def uptoBulkEntries {H : Type} : List (Lit × DataW H) → Nat
  | [] => 0
  | x :: r => uptoBulkEntry x + uptoBulkEntries r
def uptoBulkEntry {H : Type} : Lit × DataW H → Nat
  | (.string bytes, d) => bytes.length + uptoBulk d + 1
  | (_, d) => uptoBulk d + 1
 end
def uptoSmall : (H : Type) → List (DataW H) → Bool := fun _ ds => decide (uptoBulkAll ds ≤ 1048576)
def OpenSpec.upto (s : _root_.Go.ChangeSpec) : _root_.Go.OpenSpec := { _root_.Go.OpenSpec.ofChange s with cond := some uptoSmall }

/-- 'laws.FnExactWellFormedPath', WHERE WHAT IT READS IS OF BULK AT MOST 1048576: true; the input reads as it did. -/
def fnExactWellFormedPathUptoRow : OpenClaim := { program := "ytfgobdejlfojiaa", sum := "de4fcce2ab5df3f67ac11ae9aaf808395eb634022c2df8e753395f991d68ce7a", func := "loop.example/g00505/laws.FnExactWellFormedPath", spec := "fnExactWellFormedPath", apart := false, narrowed := true }
def FnExactWellFormedPathUptoSaid : Prop := fnExactWellFormedPathUptoRow.holds Try.pinned (OpenSpec.upto fnExactWellFormedPathSpec)

/-- 'laws.FnExactSimplePath', WHERE WHAT IT READS IS OF BULK AT MOST 1048576: true; the input reads as it did. -/
def fnExactSimplePathUptoRow : OpenClaim := { program := "ytfgobdejlfojiaa", sum := "de4fcce2ab5df3f67ac11ae9aaf808395eb634022c2df8e753395f991d68ce7a", func := "loop.example/g00505/laws.FnExactSimplePath", spec := "fnExactSimplePath", apart := false, narrowed := true }
def FnExactSimplePathUptoSaid : Prop := fnExactSimplePathUptoRow.holds Try.pinned (OpenSpec.upto fnExactSimplePathSpec)

/-- 'laws.FnExactPathUsable', WHERE WHAT IT READS IS OF BULK AT MOST 1048576: true; the input reads as it did. -/
def fnExactPathUsableUptoRow : OpenClaim := { program := "ytfgobdejlfojiaa", sum := "de4fcce2ab5df3f67ac11ae9aaf808395eb634022c2df8e753395f991d68ce7a", func := "loop.example/g00505/laws.FnExactPathUsable", spec := "fnExactPathUsable", apart := false, narrowed := true }
def FnExactPathUsableUptoSaid : Prop := fnExactPathUsableUptoRow.holds Try.pinned (OpenSpec.upto fnExactPathUsableSpec)

/-- 'laws.FnExactAdvanceHop', WHERE WHAT IT READS IS OF BULK AT MOST 1048576: true; the input reads as it did. -/
def fnExactAdvanceHopUptoRow : OpenClaim := { program := "ytfgobdejlfojiaa", sum := "de4fcce2ab5df3f67ac11ae9aaf808395eb634022c2df8e753395f991d68ce7a", func := "loop.example/g00505/laws.FnExactAdvanceHop", spec := "fnExactAdvanceHop", apart := false, narrowed := true }
def FnExactAdvanceHopUptoSaid : Prop := fnExactAdvanceHopUptoRow.holds Try.pinned (OpenSpec.upto fnExactAdvanceHopSpec)

/-- 'laws.FnExactReadPath', WHERE WHAT IT READS IS OF BULK AT MOST 1048576: true; the input reads as it did. -/
def fnExactReadPathUptoRow : OpenClaim := { program := "ytfgobdejlfojiaa", sum := "de4fcce2ab5df3f67ac11ae9aaf808395eb634022c2df8e753395f991d68ce7a", func := "loop.example/g00505/laws.FnExactReadPath", spec := "fnExactReadPath", apart := false, narrowed := true }
def FnExactReadPathUptoSaid : Prop := fnExactReadPathUptoRow.holds Try.pinned (OpenSpec.upto fnExactReadPathSpec)

/-- 'laws.FnExactNewPacket', WHERE WHAT IT READS IS OF BULK AT MOST 1048576: true; the input reads as it did. -/
def fnExactNewPacketUptoRow : OpenClaim := { program := "ytfgobdejlfojiaa", sum := "de4fcce2ab5df3f67ac11ae9aaf808395eb634022c2df8e753395f991d68ce7a", func := "loop.example/g00505/laws.FnExactNewPacket", spec := "fnExactNewPacket", apart := false, narrowed := true }
def FnExactNewPacketUptoSaid : Prop := fnExactNewPacketUptoRow.holds Try.pinned (OpenSpec.upto fnExactNewPacketSpec)

/-- 'laws.FnExactEncodePacket', WHERE WHAT IT READS IS OF BULK AT MOST 1048576: true; the input reads as it did. -/
def fnExactEncodePacketUptoRow : OpenClaim := { program := "ytfgobdejlfojiaa", sum := "de4fcce2ab5df3f67ac11ae9aaf808395eb634022c2df8e753395f991d68ce7a", func := "loop.example/g00505/laws.FnExactEncodePacket", spec := "fnExactEncodePacket", apart := false, narrowed := true }
def FnExactEncodePacketUptoSaid : Prop := fnExactEncodePacketUptoRow.holds Try.pinned (OpenSpec.upto fnExactEncodePacketSpec)

/-- 'laws.FnExactDecodePacket', WHERE WHAT IT READS IS OF BULK AT MOST 1048576: true; the input reads as it did. -/
def fnExactDecodePacketUptoRow : OpenClaim := { program := "ytfgobdejlfojiaa", sum := "de4fcce2ab5df3f67ac11ae9aaf808395eb634022c2df8e753395f991d68ce7a", func := "loop.example/g00505/laws.FnExactDecodePacket", spec := "fnExactDecodePacket", apart := false, narrowed := true }
def FnExactDecodePacketUptoSaid : Prop := fnExactDecodePacketUptoRow.holds Try.pinned (OpenSpec.upto fnExactDecodePacketSpec)

/-- 'laws.FnExactSortPaths', WHERE WHAT IT READS IS OF BULK AT MOST 1048576: true; the input reads as it did. -/
def fnExactSortPathsUptoRow : OpenClaim := { program := "ytfgobdejlfojiaa", sum := "de4fcce2ab5df3f67ac11ae9aaf808395eb634022c2df8e753395f991d68ce7a", func := "loop.example/g00505/laws.FnExactSortPaths", spec := "fnExactSortPaths", apart := false, narrowed := true }
def FnExactSortPathsUptoSaid : Prop := fnExactSortPathsUptoRow.holds Try.pinned (OpenSpec.upto fnExactSortPathsSpec)

/-- 'laws.FnExactDisjointPaths', WHERE WHAT IT READS IS OF BULK AT MOST 1048576: true; the input reads as it did. -/
def fnExactDisjointPathsUptoRow : OpenClaim := { program := "ytfgobdejlfojiaa", sum := "de4fcce2ab5df3f67ac11ae9aaf808395eb634022c2df8e753395f991d68ce7a", func := "loop.example/g00505/laws.FnExactDisjointPaths", spec := "fnExactDisjointPaths", apart := false, narrowed := true }
def FnExactDisjointPathsUptoSaid : Prop := fnExactDisjointPathsUptoRow.holds Try.pinned (OpenSpec.upto fnExactDisjointPathsSpec)

/-- 'laws.FnExactFormatPath', WHERE WHAT IT READS IS OF BULK AT MOST 1048576: true; the input reads as it did. -/
def fnExactFormatPathUptoRow : OpenClaim := { program := "ytfgobdejlfojiaa", sum := "de4fcce2ab5df3f67ac11ae9aaf808395eb634022c2df8e753395f991d68ce7a", func := "loop.example/g00505/laws.FnExactFormatPath", spec := "fnExactFormatPath", apart := false, narrowed := true }
def FnExactFormatPathUptoSaid : Prop := fnExactFormatPathUptoRow.holds Try.pinned (OpenSpec.upto fnExactFormatPathSpec)

/-- 'laws.FnExactFormatPacket', WHERE WHAT IT READS IS OF BULK AT MOST 1048576: true; the input reads as it did. -/
def fnExactFormatPacketUptoRow : OpenClaim := { program := "ytfgobdejlfojiaa", sum := "de4fcce2ab5df3f67ac11ae9aaf808395eb634022c2df8e753395f991d68ce7a", func := "loop.example/g00505/laws.FnExactFormatPacket", spec := "fnExactFormatPacket", apart := false, narrowed := true }
def FnExactFormatPacketUptoSaid : Prop := fnExactFormatPacketUptoRow.holds Try.pinned (OpenSpec.upto fnExactFormatPacketSpec)

end Rows
end Go.Proofs.Ytfgobdejlfojiaa
