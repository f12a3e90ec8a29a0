/- laws.FnExactTransitAllowed returns true, for all arguments: the walk of the law out of contracts, and the row. No condition. (Printed by lawgen.py.) -/
import Derived.Test.YtemhpcpdeloajaaTransit
import Derived.Test.YtemhpcpdeloajaaOpen
import Derived.Deep.RegionHeld3
namespace Go.Proofs.Ytemhpcpdeloajaa
open Go.RowKit
set_option linter.unusedVariables false

set_option maxHeartbeats 2000000 in
set_option maxRecDepth 100000 in
theorem lawTransitAllowed (d0 : Int) (d1 : Int) (w : World) (g0 : In64 d0) (g1 : In64 d1) :
    Calls Try.prog 4 #[I d0, I d1] w fun r w' => r = .returned (.bool true) ∧ Below w.heap.size w w' := by
  have G0 := hid g0
  clear g0
  have G1 := hid g1
  clear g1
  have x0 : Below w.heap.size w w := by repeat (first | refine ext_alloc ?_ _ | exact Below.refl _ _)
  go_enter Try.func4, Try.ntmps4
  go_wp2_with (fail)
  refine (spec_TransitAllowed d0 d1 _ G0.out G1.out).mono ?_
  rintro e w1 ⟨rfl, hb1⟩
  have x_1 := ext_trans x0 hb1
  go_wp2_with (fail)
  refine (impl_TransitAllowed d0 d1 _ G0.out G1.out).mono ?_
  rintro e w2 ⟨rfl, hb2⟩
  have x_2 := ext_trans x_1 hb2
  go_wp2_with (fail)
  go_ret
  exact ⟨rfl, x_2⟩

namespace fnExactTransitAllowed
open Go.ChangeShapes Go.WideShapes Go.ChangeAt

set_option maxRecDepth 100000 in
theorem lifted (os : Os) (started : os.Started) (H : Type) (enc : TypeId × Value → H) :
    ReturnsInHanded {} Try.checked os 4 .any (Rows.fnExactTransitAllowedSpec.pre6 enc Try.prog Try.f4 Rows.fnExactTransitAllowedRow.domain false) (Rows.fnExactTransitAllowedSpec.post enc Try.prog Try.f4 false true false false) := by
  refine returnsInHanded_of_change (C := Try.checked) knob started (by kernel_rfl) Try.func4
    (ChangeSpec.witness6 (enc := enc) (C := Try.checked) false ⟨#[], #[I 0, I 0], []⟩ 8 (by kernel_rfl) (by kernel_rfl) (by kernel_rfl) (by kernel_rfl)) ?_
  intro W base args ds gs before hval0 hW hcnd _
  have hval : ∀ (j : Nat) t v, Try.f4.params[j]? = some t → args[j]? = some v → Value.okWide Try.prog W .any base t v := hval0
  have hW' := hW
  obtain ⟨p, q, hA0, hV, rfl, hfz, hnd⟩ := hW
  have hA : DataW.TrodAll enc Try.prog W 0 (fun _ => true) true Try.f4.params.toList args.toList ds p := hA0
  rw [Try.params4] at hA hval
  obtain ⟨v0, vs0, d0, ds0, p0, q0, hargs, rfl, rfl, h0, r0⟩ := trodAll_cons hA
  obtain ⟨v1, vs1, d1, ds1, p1, q1, rfl, rfl, rfl, h1, r1⟩ := trodAll_cons r0
  obtain ⟨rfl, rfl, rfl⟩ := trodAll_nil r1
  obtain rfl : args = #[v0, v1] := by cases args; simp_all
  obtain ⟨rfl, rfl⟩ := trodVars_none hV
  have k0 := h0
  have lt0 : ∀ x ∈ p0, x.block < W.heap.size := by obtain ⟨m, hm⟩ := k0; exact DataW.trod_lt m _ _ _ hm
  obtain ⟨x0, rfl, G0⟩ := open_i64 (hval 0 3 v0 rfl rfl) h0
  have k1 := h1
  have lt1 : ∀ x ∈ p1, x.block < W.heap.size := by obtain ⟨m, hm⟩ := k1; exact DataW.trod_lt m _ _ _ hm
  obtain ⟨x1, rfl, G1⟩ := open_i64 (hval 1 3 v1 rfl rfl) h1
  clear hA0 hval0
  refine (lawTransitAllowed x0 x1 W G0 G1).mono fun e W' ⟨he, bel⟩ => ?_
  subst he
  exact ⟨_, rfl, _, _, _, [], _, [], hW', trodAll_mk1 (shut_bool Try.underlying4 _), (trodAll_cons_mk (Below.trod laidOut (by kernel_rfl) (of_decide_eq_true (by kernel_rfl)) k0 bel lt0) (trodAll_cons_mk (Below.trod laidOut (by kernel_rfl) (of_decide_eq_true (by kernel_rfl)) k1 bel lt1) trodAll_mk0)), rfl, bel.frame _, fun h => by cases h⟩

theorem over : Rows.fnExactTransitAllowedRow.holds Try.pinned (OpenSpec.ofChange Rows.fnExactTransitAllowedSpec) :=
  OpenClaim.holds_of_wide 4 Try.f4 rfl rfl rfl rfl rfl rfl rfl ⟨rfl, rfl, rfl, rfl, rfl⟩ rfl rfl rfl rfl rfl (by kernel_rfl) Try.func4 (by kernel_rfl)
    (of_decide_eq_true (by kernel_rfl)) (by unfold Func.isWrapper; first | (rw [if_pos (by decide +kernel)]; kernel_rfl) | (rw [if_neg (by decide +kernel)]; exact ⟨rfl, rfl⟩))
    (fun os started H enc _ => lifted os started H enc)

theorem proved : Rows.FnExactTransitAllowedSaid := over
#print axioms proved
end fnExactTransitAllowed
end Go.Proofs.Ytemhpcpdeloajaa
