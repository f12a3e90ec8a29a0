/- laws.FnExactVerdictName returns true, for all arguments: the walk of the law out of contracts, and the row. No condition. (Printed by lawgen.py.) -/
import Derived.Test.YtemhpcpdeloajaaVerdictName
import Derived.Test.YtemhpcpdeloajaaOpen
import Derived.Deep.RegionHeld3
namespace Go.Proofs.Ytemhpcpdeloajaa
open Go.RowKit
set_option linter.unusedVariables false

set_option maxHeartbeats 2000000 in
set_option maxRecDepth 100000 in
theorem lawVerdictName (d0 : Int) (w : World) (g0 : In64 d0) :
    Calls Try.prog 3 #[I d0] w fun r w' => r = .returned (.bool true) ∧ Below w.heap.size w w' := by
  have G0 := hid g0
  clear g0
  have x0 : Below w.heap.size w w := by repeat (first | refine ext_alloc ?_ _ | exact Below.refl _ _)
  go_enter Try.func3, Try.ntmps3
  go_wp2_with (fail)
  refine (spec_VerdictName d0 _ G0.out).mono ?_
  rintro e w1 ⟨rfl, hb1⟩
  have x_1 := ext_trans x0 hb1
  go_wp2_with (fail)
  refine (impl_VerdictName d0 _ G0.out).mono ?_
  rintro e w2 ⟨rfl, hb2⟩
  have x_2 := ext_trans x_1 hb2
  go_wp2_with (fail)
  go_ret
  exact ⟨rfl, x_2⟩

namespace fnExactVerdictName
open Go.ChangeShapes Go.WideShapes Go.ChangeAt

set_option maxRecDepth 100000 in
theorem lifted (os : Os) (started : os.Started) (H : Type) (enc : TypeId × Value → H) :
    ReturnsInHanded {} Try.checked os 3 .any (Rows.fnExactVerdictNameSpec.pre6 enc Try.prog Try.f3 Rows.fnExactVerdictNameRow.domain false) (Rows.fnExactVerdictNameSpec.post enc Try.prog Try.f3 false true false false) := by
  refine returnsInHanded_of_change (C := Try.checked) knob started (by kernel_rfl) Try.func3
    (ChangeSpec.witness6 (enc := enc) (C := Try.checked) false ⟨#[], #[I 0], []⟩ 8 (by kernel_rfl) (by kernel_rfl) (by kernel_rfl) (by kernel_rfl)) ?_
  intro W base args ds gs before hval0 hW hcnd _
  have hval : ∀ (j : Nat) t v, Try.f3.params[j]? = some t → args[j]? = some v → Value.okWide Try.prog W .any base t v := hval0
  have hW' := hW
  obtain ⟨p, q, hA0, hV, rfl, hfz, hnd⟩ := hW
  have hA : DataW.TrodAll enc Try.prog W 0 (fun _ => true) true Try.f3.params.toList args.toList ds p := hA0
  rw [Try.params3] at hA hval
  obtain ⟨v0, vs0, d0, ds0, p0, q0, hargs, rfl, rfl, h0, r0⟩ := trodAll_cons hA
  obtain ⟨rfl, rfl, rfl⟩ := trodAll_nil r0
  obtain rfl : args = #[v0] := by cases args; simp_all
  obtain ⟨rfl, rfl⟩ := trodVars_none hV
  have k0 := h0
  have lt0 : ∀ x ∈ p0, x.block < W.heap.size := by obtain ⟨m, hm⟩ := k0; exact DataW.trod_lt m _ _ _ hm
  obtain ⟨x0, rfl, G0⟩ := open_i64 (hval 0 3 v0 rfl rfl) h0
  clear hA0 hval0
  refine (lawVerdictName x0 W G0).mono fun e W' ⟨he, bel⟩ => ?_
  subst he
  exact ⟨_, rfl, _, _, _, [], _, [], hW', trodAll_mk1 (shut_bool Try.underlying4 _), (trodAll_cons_mk (Below.trod laidOut (by kernel_rfl) (of_decide_eq_true (by kernel_rfl)) k0 bel lt0) trodAll_mk0), rfl, bel.frame _, fun h => by cases h⟩

theorem over : Rows.fnExactVerdictNameRow.holds Try.pinned (OpenSpec.ofChange Rows.fnExactVerdictNameSpec) :=
  OpenClaim.holds_of_wide 3 Try.f3 rfl rfl rfl rfl rfl rfl rfl ⟨rfl, rfl, rfl, rfl, rfl⟩ rfl rfl rfl rfl rfl (by kernel_rfl) Try.func3 (by kernel_rfl)
    (of_decide_eq_true (by kernel_rfl)) (by unfold Func.isWrapper; first | (rw [if_pos (by decide +kernel)]; kernel_rfl) | (rw [if_neg (by decide +kernel)]; exact ⟨rfl, rfl⟩))
    (fun os started H enc _ => lifted os started H enc)

theorem proved : Rows.FnExactVerdictNameSaid := over
#print axioms proved
end fnExactVerdictName
end Go.Proofs.Ytemhpcpdeloajaa
