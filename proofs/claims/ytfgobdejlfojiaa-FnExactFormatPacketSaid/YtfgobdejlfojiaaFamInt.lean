/- The copies, comparisons and measures that the laws make: Int. (Printed by fam.py.) -/
import Derived.Test.YtfgobdejlfojiaaRows
import Derived.Test.YtfgobdejlfojiaaPlain
import Derived.WalkKit
import Derived.WalkSpells
import Derived.WalkLawsBesides
import Derived.StillTailTactics
import Derived.Deep.QuietTactic
import Derived.BigQuiet
namespace Go.Proofs.Ytfgobdejlfojiaa
open Go.RowKit
set_option linter.unusedVariables false

theorem et_int : ElemT Try.prog 100 3 1 8 := ElemT.mk' Try.underlying100 (z := I 0) (by kernel_rfl) rfl (by omega)

end Go.Proofs.Ytfgobdejlfojiaa
