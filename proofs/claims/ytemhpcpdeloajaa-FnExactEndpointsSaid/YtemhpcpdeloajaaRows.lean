/-
  No cell of these rows narrows 'for every input' (looked for: loops, veiled, ifaces, maps, wideKeys, modest, calm, conditions, laid).
  DERIVED. THE GIVEN ROWS OF THIS SEAT. 12 by the template 'for every input the law returns true; each argument reads behind the call as it read before'; 0 by the template 'total and deterministic' (their statements: YtemhpcpdeloajaaTotals.lean).
  GIVEN WITH THE SEED: the statements are not yours to turn. If you find one false, say at which input.
  Laid BY PROGRAM, IN A SANDBOX (cutbox-rows.mjs): the forced cells as the released guide's own fill.sh prints them over the translation e236ce573377d382… (all of the seat's roots in one cut). By AI agents, Wed Nov 11 2026. No macro, syntax, notation, axiom, sorry.
-/
import Derived.Test.YtemhpcpdeloajaaChecked
import GoSem.Claim
import GoSem.ClaimJoined
import GoSem.ClaimMapViews
import Derived.JoinedTies
import Derived.KernelRfl
namespace Go.Proofs.Ytemhpcpdeloajaa
/- THE CELL 'sum', in the pinned program and in every row, IS THE sha256 OF THE DUMP (.gsa) THAT YtemhpcpdeloajaaProg.lean LOADS. Nothing in Lean hashes anything: it is a label: what it is worth is what the hold of that sum in a sandbox is worth. -/
noncomputable def Try.pinned : Pinned := { name := "ytemhpcpdeloajaa", sum := "e236ce573377d3824c827d4226fd0c2a7d8a78641a92e5d7e90ea623e20a93b2", checked := Try.checked }
namespace Rows
def none {H : Type} : Left H := { results := [], args := [] }

/-- 'laws.FnExactVerdictName': WHATEVER THE INPUT: true; the input reads as it did. -/
def fnExactVerdictNameSpec : ChangeSpec := { name := "fnExactVerdictName", fn := fun _ => fun
  | [d] => { results := [.lit (.bool true)], args := [d] }
  | _ => none }
def fnExactVerdictNameRow : OpenClaim := { program := "ytemhpcpdeloajaa", sum := "e236ce573377d3824c827d4226fd0c2a7d8a78641a92e5d7e90ea623e20a93b2", func := "loop.example/g00505/laws.FnExactVerdictName", spec := "fnExactVerdictName", apart := false }
def FnExactVerdictNameSaid : Prop := fnExactVerdictNameRow.holds Try.pinned (OpenSpec.ofChange fnExactVerdictNameSpec)

/-- ITS FALSE NEIGHBOUR: 'it returns false'. Refute it at one input. -/
def fnExactVerdictNameWrong : ChangeSpec := { name := "fnExactVerdictName", fn := fun _ => fun
  | [d] => { results := [.lit (.bool false)], args := [d] }
  | _ => none }
def FnExactVerdictNameWrongFalsely : Prop := fnExactVerdictNameRow.holds Try.pinned (OpenSpec.ofChange fnExactVerdictNameWrong)

/-- 'laws.FnExactTransitAllowed': WHATEVER THE INPUT: true; the input reads as it did. -/
def fnExactTransitAllowedSpec : ChangeSpec := { name := "fnExactTransitAllowed", fn := fun _ => fun
  | [d1, d2] => { results := [.lit (.bool true)], args := [d1, d2] }
  | _ => none }
def fnExactTransitAllowedRow : OpenClaim := { program := "ytemhpcpdeloajaa", sum := "e236ce573377d3824c827d4226fd0c2a7d8a78641a92e5d7e90ea623e20a93b2", func := "loop.example/g00505/laws.FnExactTransitAllowed", spec := "fnExactTransitAllowed", apart := false }
def FnExactTransitAllowedSaid : Prop := fnExactTransitAllowedRow.holds Try.pinned (OpenSpec.ofChange fnExactTransitAllowedSpec)

/-- ITS FALSE NEIGHBOUR: 'it returns false'. Refute it at one input. -/
def fnExactTransitAllowedWrong : ChangeSpec := { name := "fnExactTransitAllowed", fn := fun _ => fun
  | [d1, d2] => { results := [.lit (.bool false)], args := [d1, d2] }
  | _ => none }
def FnExactTransitAllowedWrongFalsely : Prop := fnExactTransitAllowedRow.holds Try.pinned (OpenSpec.ofChange fnExactTransitAllowedWrong)

/-- 'laws.FnExactHopCount': WHATEVER THE INPUT: true; the input reads as it did. -/
def fnExactHopCountSpec : ChangeSpec := { name := "fnExactHopCount", fn := fun _ => fun
  | [d] => { results := [.lit (.bool true)], args := [d] }
  | _ => none }
def fnExactHopCountRow : OpenClaim := { program := "ytemhpcpdeloajaa", sum := "e236ce573377d3824c827d4226fd0c2a7d8a78641a92e5d7e90ea623e20a93b2", func := "loop.example/g00505/laws.FnExactHopCount", spec := "fnExactHopCount", apart := false }
def FnExactHopCountSaid : Prop := fnExactHopCountRow.holds Try.pinned (OpenSpec.ofChange fnExactHopCountSpec)

/-- ITS FALSE NEIGHBOUR: 'it returns false'. Refute it at one input. -/
def fnExactHopCountWrong : ChangeSpec := { name := "fnExactHopCount", fn := fun _ => fun
  | [d] => { results := [.lit (.bool false)], args := [d] }
  | _ => none }
def FnExactHopCountWrongFalsely : Prop := fnExactHopCountRow.holds Try.pinned (OpenSpec.ofChange fnExactHopCountWrong)

/-- 'laws.FnExactPathExpiry': WHATEVER THE INPUT: true; the input reads as it did. -/
def fnExactPathExpirySpec : ChangeSpec := { name := "fnExactPathExpiry", fn := fun _ => fun
  | [d] => { results := [.lit (.bool true)], args := [d] }
  | _ => none }
def fnExactPathExpiryRow : OpenClaim := { program := "ytemhpcpdeloajaa", sum := "e236ce573377d3824c827d4226fd0c2a7d8a78641a92e5d7e90ea623e20a93b2", func := "loop.example/g00505/laws.FnExactPathExpiry", spec := "fnExactPathExpiry", apart := false }
def FnExactPathExpirySaid : Prop := fnExactPathExpiryRow.holds Try.pinned (OpenSpec.ofChange fnExactPathExpirySpec)

/-- ITS FALSE NEIGHBOUR: 'it returns false'. Refute it at one input. -/
def fnExactPathExpiryWrong : ChangeSpec := { name := "fnExactPathExpiry", fn := fun _ => fun
  | [d] => { results := [.lit (.bool false)], args := [d] }
  | _ => none }
def FnExactPathExpiryWrongFalsely : Prop := fnExactPathExpiryRow.holds Try.pinned (OpenSpec.ofChange fnExactPathExpiryWrong)

/-- 'laws.FnExactCountParts': WHATEVER THE INPUT: true; the input reads as it did. -/
def fnExactCountPartsSpec : ChangeSpec := { name := "fnExactCountParts", fn := fun _ => fun
  | [d] => { results := [.lit (.bool true)], args := [d] }
  | _ => none }
def fnExactCountPartsRow : OpenClaim := { program := "ytemhpcpdeloajaa", sum := "e236ce573377d3824c827d4226fd0c2a7d8a78641a92e5d7e90ea623e20a93b2", func := "loop.example/g00505/laws.FnExactCountParts", spec := "fnExactCountParts", apart := false }
def FnExactCountPartsSaid : Prop := fnExactCountPartsRow.holds Try.pinned (OpenSpec.ofChange fnExactCountPartsSpec)

/-- ITS FALSE NEIGHBOUR: 'it returns false'. Refute it at one input. -/
def fnExactCountPartsWrong : ChangeSpec := { name := "fnExactCountParts", fn := fun _ => fun
  | [d] => { results := [.lit (.bool false)], args := [d] }
  | _ => none }
def FnExactCountPartsWrongFalsely : Prop := fnExactCountPartsRow.holds Try.pinned (OpenSpec.ofChange fnExactCountPartsWrong)

/-- 'laws.FnExactPathDigest': WHATEVER THE INPUT: true; the input reads as it did. -/
def fnExactPathDigestSpec : ChangeSpec := { name := "fnExactPathDigest", fn := fun _ => fun
  | [d] => { results := [.lit (.bool true)], args := [d] }
  | _ => none }
def fnExactPathDigestRow : OpenClaim := { program := "ytemhpcpdeloajaa", sum := "e236ce573377d3824c827d4226fd0c2a7d8a78641a92e5d7e90ea623e20a93b2", func := "loop.example/g00505/laws.FnExactPathDigest", spec := "fnExactPathDigest", apart := false }
def FnExactPathDigestSaid : Prop := fnExactPathDigestRow.holds Try.pinned (OpenSpec.ofChange fnExactPathDigestSpec)

/-- ITS FALSE NEIGHBOUR: 'it returns false'. Refute it at one input. -/
def fnExactPathDigestWrong : ChangeSpec := { name := "fnExactPathDigest", fn := fun _ => fun
  | [d] => { results := [.lit (.bool false)], args := [d] }
  | _ => none }
def FnExactPathDigestWrongFalsely : Prop := fnExactPathDigestRow.holds Try.pinned (OpenSpec.ofChange fnExactPathDigestWrong)

/-- 'laws.FnExactEqualPaths': WHATEVER THE INPUT: true; the input reads as it did. -/
def fnExactEqualPathsSpec : ChangeSpec := { name := "fnExactEqualPaths", fn := fun _ => fun
  | [d1, d2] => { results := [.lit (.bool true)], args := [d1, d2] }
  | _ => none }
def fnExactEqualPathsRow : OpenClaim := { program := "ytemhpcpdeloajaa", sum := "e236ce573377d3824c827d4226fd0c2a7d8a78641a92e5d7e90ea623e20a93b2", func := "loop.example/g00505/laws.FnExactEqualPaths", spec := "fnExactEqualPaths", apart := false }
def FnExactEqualPathsSaid : Prop := fnExactEqualPathsRow.holds Try.pinned (OpenSpec.ofChange fnExactEqualPathsSpec)

/-- ITS FALSE NEIGHBOUR: 'it returns false'. Refute it at one input. -/
def fnExactEqualPathsWrong : ChangeSpec := { name := "fnExactEqualPaths", fn := fun _ => fun
  | [d1, d2] => { results := [.lit (.bool false)], args := [d1, d2] }
  | _ => none }
def FnExactEqualPathsWrongFalsely : Prop := fnExactEqualPathsRow.holds Try.pinned (OpenSpec.ofChange fnExactEqualPathsWrong)

/-- 'laws.FnExactEncodablePath': WHATEVER THE INPUT: true; the input reads as it did. -/
def fnExactEncodablePathSpec : ChangeSpec := { name := "fnExactEncodablePath", fn := fun _ => fun
  | [d] => { results := [.lit (.bool true)], args := [d] }
  | _ => none }
def fnExactEncodablePathRow : OpenClaim := { program := "ytemhpcpdeloajaa", sum := "e236ce573377d3824c827d4226fd0c2a7d8a78641a92e5d7e90ea623e20a93b2", func := "loop.example/g00505/laws.FnExactEncodablePath", spec := "fnExactEncodablePath", apart := false }
def FnExactEncodablePathSaid : Prop := fnExactEncodablePathRow.holds Try.pinned (OpenSpec.ofChange fnExactEncodablePathSpec)

/-- ITS FALSE NEIGHBOUR: 'it returns false'. Refute it at one input. -/
def fnExactEncodablePathWrong : ChangeSpec := { name := "fnExactEncodablePath", fn := fun _ => fun
  | [d] => { results := [.lit (.bool false)], args := [d] }
  | _ => none }
def FnExactEncodablePathWrongFalsely : Prop := fnExactEncodablePathRow.holds Try.pinned (OpenSpec.ofChange fnExactEncodablePathWrong)

/-- 'laws.FnExactPathInts': WHATEVER THE INPUT: true; the input reads as it did. -/
def fnExactPathIntsSpec : ChangeSpec := { name := "fnExactPathInts", fn := fun _ => fun
  | [d] => { results := [.lit (.bool true)], args := [d] }
  | _ => none }
def fnExactPathIntsRow : OpenClaim := { program := "ytemhpcpdeloajaa", sum := "e236ce573377d3824c827d4226fd0c2a7d8a78641a92e5d7e90ea623e20a93b2", func := "loop.example/g00505/laws.FnExactPathInts", spec := "fnExactPathInts", apart := false }
def FnExactPathIntsSaid : Prop := fnExactPathIntsRow.holds Try.pinned (OpenSpec.ofChange fnExactPathIntsSpec)

/-- ITS FALSE NEIGHBOUR: 'it returns false'. Refute it at one input. -/
def fnExactPathIntsWrong : ChangeSpec := { name := "fnExactPathInts", fn := fun _ => fun
  | [d] => { results := [.lit (.bool false)], args := [d] }
  | _ => none }
def FnExactPathIntsWrongFalsely : Prop := fnExactPathIntsRow.holds Try.pinned (OpenSpec.ofChange fnExactPathIntsWrong)

/-- 'laws.FnExactPathLength': WHATEVER THE INPUT: true; the input reads as it did. -/
def fnExactPathLengthSpec : ChangeSpec := { name := "fnExactPathLength", fn := fun _ => fun
  | [d] => { results := [.lit (.bool true)], args := [d] }
  | _ => none }
def fnExactPathLengthRow : OpenClaim := { program := "ytemhpcpdeloajaa", sum := "e236ce573377d3824c827d4226fd0c2a7d8a78641a92e5d7e90ea623e20a93b2", func := "loop.example/g00505/laws.FnExactPathLength", spec := "fnExactPathLength", apart := false }
def FnExactPathLengthSaid : Prop := fnExactPathLengthRow.holds Try.pinned (OpenSpec.ofChange fnExactPathLengthSpec)

/-- ITS FALSE NEIGHBOUR: 'it returns false'. Refute it at one input. -/
def fnExactPathLengthWrong : ChangeSpec := { name := "fnExactPathLength", fn := fun _ => fun
  | [d] => { results := [.lit (.bool false)], args := [d] }
  | _ => none }
def FnExactPathLengthWrongFalsely : Prop := fnExactPathLengthRow.holds Try.pinned (OpenSpec.ofChange fnExactPathLengthWrong)

/-- 'laws.FnExactStepAllowed': WHATEVER THE INPUT: true; the input reads as it did. -/
def fnExactStepAllowedSpec : ChangeSpec := { name := "fnExactStepAllowed", fn := fun _ => fun
  | [d1, d2] => { results := [.lit (.bool true)], args := [d1, d2] }
  | _ => none }
def fnExactStepAllowedRow : OpenClaim := { program := "ytemhpcpdeloajaa", sum := "e236ce573377d3824c827d4226fd0c2a7d8a78641a92e5d7e90ea623e20a93b2", func := "loop.example/g00505/laws.FnExactStepAllowed", spec := "fnExactStepAllowed", apart := false }
def FnExactStepAllowedSaid : Prop := fnExactStepAllowedRow.holds Try.pinned (OpenSpec.ofChange fnExactStepAllowedSpec)

/-- ITS FALSE NEIGHBOUR: 'it returns false'. Refute it at one input. -/
def fnExactStepAllowedWrong : ChangeSpec := { name := "fnExactStepAllowed", fn := fun _ => fun
  | [d1, d2] => { results := [.lit (.bool false)], args := [d1, d2] }
  | _ => none }
def FnExactStepAllowedWrongFalsely : Prop := fnExactStepAllowedRow.holds Try.pinned (OpenSpec.ofChange fnExactStepAllowedWrong)

/-- 'laws.FnExactEndpoints': WHATEVER THE INPUT: true; the input reads as it did. -/
def fnExactEndpointsSpec : ChangeSpec := { name := "fnExactEndpoints", fn := fun _ => fun
  | [d] => { results := [.lit (.bool true)], args := [d] }
  | _ => none }
def fnExactEndpointsRow : OpenClaim := { program := "ytemhpcpdeloajaa", sum := "e236ce573377d3824c827d4226fd0c2a7d8a78641a92e5d7e90ea623e20a93b2", func := "loop.example/g00505/laws.FnExactEndpoints", spec := "fnExactEndpoints", apart := false }
def FnExactEndpointsSaid : Prop := fnExactEndpointsRow.holds Try.pinned (OpenSpec.ofChange fnExactEndpointsSpec)

/-- ITS FALSE NEIGHBOUR: 'it returns false'. Refute it at one input. -/
def fnExactEndpointsWrong : ChangeSpec := { name := "fnExactEndpoints", fn := fun _ => fun
  | [d] => { results := [.lit (.bool false)], args := [d] }
  | _ => none }
def FnExactEndpointsWrongFalsely : Prop := fnExactEndpointsRow.holds Try.pinned (OpenSpec.ofChange fnExactEndpointsWrong)

/- THE SECOND FORM. 'bulk': how many values and letters a reading holds, each counted each time it is reached (what is shared counts as often as it is met; a slice's spare places count too). A statement '..UptoSaid' is the law's where the arguments, and the package variables that the reading takes, are together of bulk at most 1048576: NARROWER than '..Said'. Prove '..Said' where nothing that the law and all that it calls make is longer than what came in: it says more and counts as full. Else prove '..UptoSaid'. A law counts once. -/
mutual
def uptoBulk {H : Type} : DataW H → Nat
  | .lit (.string bytes) => bytes.length + 1
  | .lit _ => 1
  | .nil => 1
  | .ptr d => uptoBulk d + 1
  | .slice elems spare => uptoBulkAll elems + uptoBulkAll spare + 1
  | .agg parts => uptoBulkAll parts + 1
  | .iface _ d => uptoBulk d + 1
  | .map entries => uptoBulkEntries entries + 1
  | .held _ => 1
def uptoBulkAll {H : Type} : List (DataW H) → Nat
  | [] => 0
  | d :: r => uptoBulk d + uptoBulkAll r
def uptoBulkEntries {H : Type} : List (Lit × DataW H) → Nat
  | [] => 0
  | x :: r => uptoBulkEntry x + uptoBulkEntries r
def uptoBulkEntry {H : Type} : Lit × DataW H → Nat
  | (.string bytes, d) => bytes.length + uptoBulk d + 1
  | (_, d) => uptoBulk d + 1
 end
def uptoSmall : (H : Type) → List (DataW H) → Bool := fun _ ds => decide (uptoBulkAll ds ≤ 1048576)
def OpenSpec.upto (s : _root_.Go.ChangeSpec) : _root_.Go.OpenSpec := { _root_.Go.OpenSpec.ofChange s with cond := some uptoSmall }

/-- 'laws.FnExactVerdictName', WHERE WHAT IT READS IS OF BULK AT MOST 1048576: true; the input reads as it did. -/
def fnExactVerdictNameUptoRow : OpenClaim := { program := "ytemhpcpdeloajaa", sum := "e236ce573377d3824c827d4226fd0c2a7d8a78641a92e5d7e90ea623e20a93b2", func := "loop.example/g00505/laws.FnExactVerdictName", spec := "fnExactVerdictName", apart := false, narrowed := true }
def FnExactVerdictNameUptoSaid : Prop := fnExactVerdictNameUptoRow.holds Try.pinned (OpenSpec.upto fnExactVerdictNameSpec)

/-- 'laws.FnExactTransitAllowed', WHERE WHAT IT READS IS OF BULK AT MOST 1048576: true; the input reads as it did. -/
def fnExactTransitAllowedUptoRow : OpenClaim := { program := "ytemhpcpdeloajaa", sum := "e236ce573377d3824c827d4226fd0c2a7d8a78641a92e5d7e90ea623e20a93b2", func := "loop.example/g00505/laws.FnExactTransitAllowed", spec := "fnExactTransitAllowed", apart := false, narrowed := true }
def FnExactTransitAllowedUptoSaid : Prop := fnExactTransitAllowedUptoRow.holds Try.pinned (OpenSpec.upto fnExactTransitAllowedSpec)

/-- 'laws.FnExactHopCount', WHERE WHAT IT READS IS OF BULK AT MOST 1048576: true; the input reads as it did. -/
def fnExactHopCountUptoRow : OpenClaim := { program := "ytemhpcpdeloajaa", sum := "e236ce573377d3824c827d4226fd0c2a7d8a78641a92e5d7e90ea623e20a93b2", func := "loop.example/g00505/laws.FnExactHopCount", spec := "fnExactHopCount", apart := false, narrowed := true }
def FnExactHopCountUptoSaid : Prop := fnExactHopCountUptoRow.holds Try.pinned (OpenSpec.upto fnExactHopCountSpec)

/-- 'laws.FnExactPathExpiry', WHERE WHAT IT READS IS OF BULK AT MOST 1048576: true; the input reads as it did. -/
def fnExactPathExpiryUptoRow : OpenClaim := { program := "ytemhpcpdeloajaa", sum := "e236ce573377d3824c827d4226fd0c2a7d8a78641a92e5d7e90ea623e20a93b2", func := "loop.example/g00505/laws.FnExactPathExpiry", spec := "fnExactPathExpiry", apart := false, narrowed := true }
def FnExactPathExpiryUptoSaid : Prop := fnExactPathExpiryUptoRow.holds Try.pinned (OpenSpec.upto fnExactPathExpirySpec)

/-- 'laws.FnExactCountParts', WHERE WHAT IT READS IS OF BULK AT MOST 1048576: true; the input reads as it did. -/
def fnExactCountPartsUptoRow : OpenClaim := { program := "ytemhpcpdeloajaa", sum := "e236ce573377d3824c827d4226fd0c2a7d8a78641a92e5d7e90ea623e20a93b2", func := "loop.example/g00505/laws.FnExactCountParts", spec := "fnExactCountParts", apart := false, narrowed := true }
def FnExactCountPartsUptoSaid : Prop := fnExactCountPartsUptoRow.holds Try.pinned (OpenSpec.upto fnExactCountPartsSpec)

/-- 'laws.FnExactPathDigest', WHERE WHAT IT READS IS OF BULK AT MOST 1048576: true; the input reads as it did. -/
def fnExactPathDigestUptoRow : OpenClaim := { program := "ytemhpcpdeloajaa", sum := "e236ce573377d3824c827d4226fd0c2a7d8a78641a92e5d7e90ea623e20a93b2", func := "loop.example/g00505/laws.FnExactPathDigest", spec := "fnExactPathDigest", apart := false, narrowed := true }
def FnExactPathDigestUptoSaid : Prop := fnExactPathDigestUptoRow.holds Try.pinned (OpenSpec.upto fnExactPathDigestSpec)

/-- 'laws.FnExactEqualPaths', WHERE WHAT IT READS IS OF BULK AT MOST 1048576: true; the input reads as it did. -/
def fnExactEqualPathsUptoRow : OpenClaim := { program := "ytemhpcpdeloajaa", sum := "e236ce573377d3824c827d4226fd0c2a7d8a78641a92e5d7e90ea623e20a93b2", func := "loop.example/g00505/laws.FnExactEqualPaths", spec := "fnExactEqualPaths", apart := false, narrowed := true }
def FnExactEqualPathsUptoSaid : Prop := fnExactEqualPathsUptoRow.holds Try.pinned (OpenSpec.upto fnExactEqualPathsSpec)

/-- 'laws.FnExactEncodablePath', WHERE WHAT IT READS IS OF BULK AT MOST 1048576: true; the input reads as it did. -/
def fnExactEncodablePathUptoRow : OpenClaim := { program := "ytemhpcpdeloajaa", sum := "e236ce573377d3824c827d4226fd0c2a7d8a78641a92e5d7e90ea623e20a93b2", func := "loop.example/g00505/laws.FnExactEncodablePath", spec := "fnExactEncodablePath", apart := false, narrowed := true }
def FnExactEncodablePathUptoSaid : Prop := fnExactEncodablePathUptoRow.holds Try.pinned (OpenSpec.upto fnExactEncodablePathSpec)

/-- 'laws.FnExactPathInts', WHERE WHAT IT READS IS OF BULK AT MOST 1048576: true; the input reads as it did. -/
def fnExactPathIntsUptoRow : OpenClaim := { program := "ytemhpcpdeloajaa", sum := "e236ce573377d3824c827d4226fd0c2a7d8a78641a92e5d7e90ea623e20a93b2", func := "loop.example/g00505/laws.FnExactPathInts", spec := "fnExactPathInts", apart := false, narrowed := true }
def FnExactPathIntsUptoSaid : Prop := fnExactPathIntsUptoRow.holds Try.pinned (OpenSpec.upto fnExactPathIntsSpec)

/-- 'laws.FnExactPathLength', WHERE WHAT IT READS IS OF BULK AT MOST 1048576: true; the input reads as it did. -/
def fnExactPathLengthUptoRow : OpenClaim := { program := "ytemhpcpdeloajaa", sum := "e236ce573377d3824c827d4226fd0c2a7d8a78641a92e5d7e90ea623e20a93b2", func := "loop.example/g00505/laws.FnExactPathLength", spec := "fnExactPathLength", apart := false, narrowed := true }
def FnExactPathLengthUptoSaid : Prop := fnExactPathLengthUptoRow.holds Try.pinned (OpenSpec.upto fnExactPathLengthSpec)

/-- 'laws.FnExactStepAllowed', WHERE WHAT IT READS IS OF BULK AT MOST 1048576: true; the input reads as it did. -/
def fnExactStepAllowedUptoRow : OpenClaim := { program := "ytemhpcpdeloajaa", sum := "e236ce573377d3824c827d4226fd0c2a7d8a78641a92e5d7e90ea623e20a93b2", func := "loop.example/g00505/laws.FnExactStepAllowed", spec := "fnExactStepAllowed", apart := false, narrowed := true }
def FnExactStepAllowedUptoSaid : Prop := fnExactStepAllowedUptoRow.holds Try.pinned (OpenSpec.upto fnExactStepAllowedSpec)

/-- 'laws.FnExactEndpoints', WHERE WHAT IT READS IS OF BULK AT MOST 1048576: true; the input reads as it did. -/
def fnExactEndpointsUptoRow : OpenClaim := { program := "ytemhpcpdeloajaa", sum := "e236ce573377d3824c827d4226fd0c2a7d8a78641a92e5d7e90ea623e20a93b2", func := "loop.example/g00505/laws.FnExactEndpoints", spec := "fnExactEndpoints", apart := false, narrowed := true }
def FnExactEndpointsUptoSaid : Prop := fnExactEndpointsUptoRow.holds Try.pinned (OpenSpec.upto fnExactEndpointsSpec)

end Rows
end Go.Proofs.Ytemhpcpdeloajaa
