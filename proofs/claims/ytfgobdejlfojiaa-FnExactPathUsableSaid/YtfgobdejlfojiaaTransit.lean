/- impl.TransitAllowed and spec.TransitAllowed. -/
import Derived.Test.YtfgobdejlfojiaaNum
namespace Go.Proofs.Ytfgobdejlfojiaa
open Go.RowKit
set_option linter.unusedVariables false

/-- From an interface of kind a to one of kind b a packet may pass. -/
def transit (a b : Int) : Bool :=
  if a = 5 ∨ a = 2 then b == 1 || b == 2 || b == 3 || b == 5
  else if a = 3 then b == 2 || b == 5
  else if a = 1 then b == 1 || b == 2 || b == 5
  else false

theorem kinds (a : Int) : a = 5 ∨ a = 2 ∨ a = 3 ∨ a = 1 ∨ ((a == 5) = false ∧ (a == 2) = false ∧ (a == 3) = false ∧ (a == 1) = false) := by
  simp only [beq_eq_false_iff_ne, ne_eq]; omega


end Go.Proofs.Ytfgobdejlfojiaa
