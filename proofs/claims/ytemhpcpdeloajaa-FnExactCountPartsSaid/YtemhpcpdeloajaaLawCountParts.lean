/- laws.FnExactCountParts returns true, for all arguments: the walk of the law out of contracts, and the row. No condition. (Printed by lawgen.py.) -/
import Derived.Test.YtemhpcpdeloajaaCountParts
import Derived.Test.YtemhpcpdeloajaaFamPaths
import Derived.Test.YtemhpcpdeloajaaOpen
import Derived.Deep.RegionHeld3
namespace Go.Proofs.Ytemhpcpdeloajaa
open Go.RowKit
set_option linter.unusedVariables false

set_option maxHeartbeats 2000000 in
theorem lawCountParts (d0 : List Path) (v0 : Value) (w : World) (h0 : SlR pathT w v0 d0) (l0 : d0.length ≤ 9223372036854775807 ∧ ∀ x ∈ d0, lenOk_path x) (g0 : ∀ x ∈ d0, rng_path x) :
    Calls Try.prog 7 #[v0] w fun r w' => r = .returned (.bool true) ∧ Below w.heap.size w w' := by
  obtain ⟨A0, c0, rfl, _⟩ := h0.form
  have G0 := hid g0
  clear g0
  have x0 : Below w.heap.size w w := by repeat (first | refine ext_alloc ?_ _ | exact Below.refl _ _)
  by_cases z0 : (sz_paths d0 : Int) ≤ 1048576
  · have y0 : ¬ 1048576 - (sz_paths d0 : Int) < 0 := by omega
    go_enter Try.func7, Try.ntmps7
    go_wp2_with (fail)
    refine (szc_pathS d0 _ (1048576) _ (h0.below x0) (by omega) (by omega) l0.1 l0.2).mono ?_
    rintro e w1 ⟨rfl, hb1⟩
    rw [szI_yes (by omega)]
    have x_1 := ext_trans x0 hb1
    have sz0 : sz_paths d0 ≤ 1048576 := by omega
    go_wp2_with (fail)
    refine (to_pathS d0 _ _ (h0.below (x_1)) sz0).mono ?_
    rintro e w2 ⟨vq2, fq2, rfl, hQ2, hb2⟩
    obtain ⟨B02, cB02, rfl, _⟩ := hQ2.form
    have x_2 := ext_trans x_1 hb2
    go_wp2_with (fail)
    refine (spec_CountParts d0 _ _ hQ2.read sz0 l0 G0.out).mono ?_
    rintro e w3 ⟨rfl, hb3⟩
    have x_3 := ext_trans x_2 hb3
    have hQ2' := hQ2.below hb3
    go_wp2_with (fail)
    refine (to_pathS d0 _ _ (h0.below (x_3)) sz0).mono ?_
    rintro e w4 ⟨vq4, fq4, rfl, hQ4, hb4⟩
    obtain ⟨B04, cB04, rfl, _⟩ := hQ4.form
    have x_4 := ext_trans x_3 hb4
    go_wp2_with (fail)
    refine (impl_CountParts d0 _ _ hQ4.read sz0 l0 G0.out).mono ?_
    rintro e w5 ⟨rfl, hb5⟩
    have x_5 := ext_trans x_4 hb5
    have hQ4' := hQ4.below hb5
    clear hQ4
    go_wp2_with (fail)
    refine (to_pathS d0 _ _ (h0.below (x_5)) sz0).mono ?_
    rintro e w6 ⟨vq6, fq6, rfl, hQ6, hb6⟩
    obtain ⟨B06, cB06, rfl, _⟩ := hQ6.form
    have x_6 := ext_trans x_5 hb6
    have hQ4'' := hQ4'.below hb6
    clear hQ4'
    go_wp2_with (fail)
    refine (eq_pathS d0 _ _ _ hQ4''.read hQ6.read sz0).mono ?_
    rintro e w7 ⟨rfl, hb7⟩
    have x_7 := ext_trans x_6 hb7
    have hQ4''' := hQ4''.below hb7
    clear hQ4''
    have hQ6' := hQ6.below hb7
    go_wp2_with (fail)
    go_ret
    exact ⟨rfl, x_7⟩
  ·
    go_enter Try.func7, Try.ntmps7
    go_wp2_with (fail)
    refine (szc_pathS d0 _ (1048576) _ (h0.below x0) (by omega) (by omega) l0.1 l0.2).mono ?_
    rintro e w1 ⟨rfl, hb1⟩
    rw [szI_no (by omega)]
    have x_1 := ext_trans x0 hb1
    go_wp2_with (fail)
    go_ret
    exact ⟨rfl, x_1⟩

namespace fnExactCountParts
open Go.ChangeShapes Go.WideShapes Go.ChangeAt

set_option maxRecDepth 100000 in
theorem lifted (os : Os) (started : os.Started) (H : Type) (enc : TypeId × Value → H) :
    ReturnsInHanded {} Try.checked os 7 .any (Rows.fnExactCountPartsSpec.pre6 enc Try.prog Try.f7 Rows.fnExactCountPartsRow.domain false) (Rows.fnExactCountPartsSpec.post enc Try.prog Try.f7 false true false false) := by
  refine returnsInHanded_of_change (C := Try.checked) knob started (by kernel_rfl) Try.func7
    (ChangeSpec.witness6 (enc := enc) (C := Try.checked) false ⟨#[], #[.slice none 0 0], []⟩ 8 (by kernel_rfl) (by kernel_rfl) (by kernel_rfl) (by kernel_rfl)) ?_
  intro W base args ds gs before hval0 hW hcnd _
  have hval : ∀ (j : Nat) t v, Try.f7.params[j]? = some t → args[j]? = some v → Value.okWide Try.prog W .any base t v := hval0
  have hW' := hW
  obtain ⟨p, q, hA0, hV, rfl, hfz, hnd⟩ := hW
  have hA : DataW.TrodAll enc Try.prog W 0 (fun _ => true) true Try.f7.params.toList args.toList ds p := hA0
  rw [Try.params7] at hA hval
  obtain ⟨v0, vs0, d0, ds0, p0, q0, hargs, rfl, rfl, h0, r0⟩ := trodAll_cons hA
  obtain ⟨rfl, rfl, rfl⟩ := trodAll_nil r0
  obtain rfl : args = #[v0] := by cases args; simp_all
  obtain ⟨rfl, rfl⟩ := trodVars_none hV
  have k0 := h0
  have lt0 : ∀ x ∈ p0, x.block < W.heap.size := by obtain ⟨m, hm⟩ := k0; exact DataW.trod_lt m _ _ _ hm
  obtain ⟨x0, R0, L0, G0⟩ := open_pathS (hval 0 36 v0 rfl rfl) h0
  clear hA0 hval0
  refine (lawCountParts x0 _ W R0 L0 G0).mono fun e W' ⟨he, bel⟩ => ?_
  subst he
  exact ⟨_, rfl, _, _, _, [], _, [], hW', trodAll_mk1 (shut_bool Try.underlying4 _), (trodAll_cons_mk (Below.trod laidOut (by kernel_rfl) (of_decide_eq_true (by kernel_rfl)) k0 bel lt0) trodAll_mk0), rfl, bel.frame _, fun h => by cases h⟩

theorem over : Rows.fnExactCountPartsRow.holds Try.pinned (OpenSpec.ofChange Rows.fnExactCountPartsSpec) :=
  OpenClaim.holds_of_wide 7 Try.f7 rfl rfl rfl rfl rfl rfl rfl ⟨rfl, rfl, rfl, rfl, rfl⟩ rfl rfl rfl rfl rfl (by kernel_rfl) Try.func7 (by kernel_rfl)
    (of_decide_eq_true (by kernel_rfl)) (by unfold Func.isWrapper; first | (rw [if_pos (by decide +kernel)]; kernel_rfl) | (rw [if_neg (by decide +kernel)]; exact ⟨rfl, rfl⟩))
    (fun os started H enc _ => lifted os started H enc)

theorem proved : Rows.FnExactCountPartsSaid := over
#print axioms proved
end fnExactCountParts
end Go.Proofs.Ytemhpcpdeloajaa
