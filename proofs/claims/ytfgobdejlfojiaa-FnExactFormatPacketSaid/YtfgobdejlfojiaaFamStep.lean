/- The copies, comparisons and measures that the laws make: Step. (Printed by fam.py.) -/
import Derived.Test.YtfgobdejlfojiaaRows
import Derived.Test.YtfgobdejlfojiaaPlain
import Derived.WalkKit
import Derived.WalkSpells
import Derived.WalkLawsBesides
import Derived.StillTailTactics
import Derived.Deep.QuietTactic
import Derived.BigQuiet
namespace Go.Proofs.Ytfgobdejlfojiaa
open Go.RowKit
set_option linter.unusedVariables false

theorem et_step : ElemT Try.prog 127 131 3 24 := ElemT.mk' Try.underlying127 (z := .agg #[I 0, I 0, I 0]) (by kernel_rfl) rfl (by omega)

end Go.Proofs.Ytfgobdejlfojiaa
