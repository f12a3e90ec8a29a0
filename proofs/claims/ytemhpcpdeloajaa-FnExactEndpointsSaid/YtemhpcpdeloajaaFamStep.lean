/- The copies, comparisons and measures that the laws make: Step. (Printed by fam.py.) -/
import Derived.Test.YtemhpcpdeloajaaRows
import Derived.Test.YtemhpcpdeloajaaPlain
import Derived.WalkKit
import Derived.WalkSpells
import Derived.WalkLawsBesides
import Derived.StillTailTactics
import Derived.Deep.QuietTactic
import Derived.BigQuiet
namespace Go.Proofs.Ytemhpcpdeloajaa
open Go.RowKit
set_option linter.unusedVariables false

theorem et_step : ElemT Try.prog 90 63 3 24 := ElemT.mk' Try.underlying90 (z := .agg #[I 0, I 0, I 0]) (by kernel_rfl) rfl (by omega)

theorem to_step (a0 : Int) (a1 : Int) (a2 : Int) (w : World) : Calls Try.prog 48 #[.agg #[I a0, I a1, I a2]] w fun r w' => r = .returned (.agg #[I a0, I a1, I a2]) ∧ Below w.heap.size w w' := by
  go_enter Try.func48, Try.ntmps48
  go_wp2
  refine bodyPost_ret (v := .agg #[I a0, I a1, I a2]) (by simp [results, Try.results48, go_sem]) rfl ⟨rfl, ?_⟩
  repeat (first | refine ext_set ?_ (by first | omega | (simp; try omega)) _ | refine ext_alloc ?_ _ | refine Below.drew ?_ | assumption | exact Below.refl _ _)

end Go.Proofs.Ytemhpcpdeloajaa
