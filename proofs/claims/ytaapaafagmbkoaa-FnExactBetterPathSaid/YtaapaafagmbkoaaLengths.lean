/- PathLength, Endpoints, of the program and of the reference. -/
import Derived.Test.YtaapaafagmbkoaaPathStepsB
namespace Go.Proofs.Ytaapaafagmbkoaa
open Go.RowKit
set_option linter.unusedVariables false

set_option maxRecDepth 100000 in
theorem impl_PathLength (p : Path) (cs : List Value) (w : World) (h : pathT.R w cs p) (hz : sz_path p ≤ 1048576) (hl : lenOk_path p) (hg : rng_path p) :
    Calls Try.prog 92 #[.agg cs.toArray] w fun e w' => e = .returned (I ((pathSteps p).length : Int)) ∧ Below w.heap.size w w' := by
  have h0 := h
  obtain ⟨A, c, rfl, _⟩ := path_form h
  have HC := hid fun w' (hw : Below w.heap.size w w') => impl_PathSteps p _ w' (pathT.kp h0 hw) hz hl hg
  clear hz hl hg h h0
  have hb0 : Below w.heap.size w (w.alloc (.cells #[.slice A (List.length p) c] 30)) := ext_alloc1 _ _
  go_enter Try.func92, Try.ntmps92
  go_wp2_with (fail)
  refine (HC.out _ hb0).mono ?_
  rintro e w1 ⟨v1, fp1, rfl, hO1, hb1⟩
  obtain ⟨Av, cv, ev, _⟩ := hO1.form
  subst ev
  go_wp2_with (fail)
  go_ret
  exact ⟨rfl, ext_trans hb0 hb1⟩
set_option maxRecDepth 100000 in
theorem spec_PathLength (p : Path) (cs : List Value) (w : World) (h : pathT.R w cs p) (hz : sz_path p ≤ 1048576) (hl : lenOk_path p) (hg : rng_path p) :
    Calls Try.prog 89 #[.agg cs.toArray] w fun e w' => e = .returned (I ((pathSteps p).length : Int)) ∧ Below w.heap.size w w' := by
  have h0 := h
  obtain ⟨A, c, rfl, _⟩ := path_form h
  have HC := hid fun w' (hw : Below w.heap.size w w') => spec_PathSteps p _ w' (pathT.kp h0 hw) hz hl hg
  clear hz hl hg h h0
  have hb0 : Below w.heap.size w (w.alloc (.cells #[.slice A (List.length p) c] 30)) := ext_alloc1 _ _
  go_enter Try.func89, Try.ntmps89
  go_wp2_with (fail)
  refine (HC.out _ hb0).mono ?_
  rintro e w1 ⟨v1, fp1, rfl, hO1, hb1⟩
  obtain ⟨Av, cv, ev, _⟩ := hO1.form
  subst ev
  go_wp2_with (fail)
  go_ret
  exact ⟨rfl, ext_trans hb0 hb1⟩

/-- The ends of a path. -/
def endA (p : Path) : Int := if (pathSteps p).length = 0 then -1 else (firstOf (pathSteps p)).ia
def endB (p : Path) : Int := if (pathSteps p).length = 0 then -1 else (lastOf (pathSteps p)).ia


end Go.Proofs.Ytaapaafagmbkoaa
