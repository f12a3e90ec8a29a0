/- laws.FnExactEqualPathLists returns true, for all arguments: the walk of the law out of contracts, and the row. No condition. (Printed by lawgen.py.) -/
import Derived.Test.YtailmflghbdglaaPathLists
import Derived.Test.YtailmflghbdglaaFamPaths
import Derived.Test.YtailmflghbdglaaOpen
import Derived.Deep.RegionHeld3
namespace Go.Proofs.Ytailmflghbdglaa
open Go.RowKit
set_option linter.unusedVariables false

set_option maxHeartbeats 2000000 in
set_option maxRecDepth 100000 in
theorem lawEqualPathLists (d0 : List Path) (v0 : Value) (d1 : List Path) (v1 : Value) (w : World) (h0 : SlR pathT w v0 d0) (l0 : d0.length ≤ 9223372036854775807 ∧ ∀ x ∈ d0, lenOk_path x) (g0 : ∀ x ∈ d0, rng_path x) (h1 : SlR pathT w v1 d1) (l1 : d1.length ≤ 9223372036854775807 ∧ ∀ x ∈ d1, lenOk_path x) (g1 : ∀ x ∈ d1, rng_path x) :
    Calls Try.prog 5 #[v0, v1] w fun r w' => r = .returned (.bool true) ∧ Below w.heap.size w w' := by
  obtain ⟨A0, c0, rfl, _⟩ := h0.form
  have G0 := hid g0
  clear g0
  obtain ⟨A1, c1, rfl, _⟩ := h1.form
  have G1 := hid g1
  clear g1
  have x0 : Below w.heap.size w w := by repeat (first | refine ext_alloc ?_ _ | exact Below.refl _ _)
  by_cases z0 : (sz_paths d0 : Int) ≤ 1048576
  · have y0 : ¬ 1048576 - (sz_paths d0 : Int) < 0 := by omega
    by_cases z1 : (sz_paths d1 : Int) ≤ 1048576 - sz_paths d0
    · have y1 : ¬ 1048576 - sz_paths d0 - (sz_paths d1 : Int) < 0 := by omega
      go_enter Try.func5, Try.ntmps5
      go_wp2_with (fail)
      refine (szc_pathS d0 _ (1048576) _ (h0.below x0) (by omega) (by omega) l0.1 l0.2).mono ?_
      rintro e w1 ⟨rfl, hb1⟩
      rw [szI_yes (by omega)]
      have x_1 := ext_trans x0 hb1
      go_wp2_with (fail)
      refine (szc_pathS d1 _ (1048576 - sz_paths d0) _ (h1.below x_1) (by omega) (by omega) l1.1 l1.2).mono ?_
      rintro e w2 ⟨rfl, hb2⟩
      rw [szI_yes (by omega)]
      have x_2 := ext_trans x_1 hb2
      have sz0 : sz_paths d0 ≤ 1048576 := by omega
      have sz1 : sz_paths d1 ≤ 1048576 := by omega
      go_wp2_with (fail)
      refine (to_pathS d0 _ _ (h0.below (x_2)) sz0).mono ?_
      rintro e w3 ⟨vq3, fq3, rfl, hQ3, hb3⟩
      obtain ⟨B03, cB03, rfl, _⟩ := hQ3.form
      have x_3 := ext_trans x_2 hb3
      go_wp2_with (fail)
      refine (to_pathS d1 _ _ (h1.below (x_3)) sz1).mono ?_
      rintro e w4 ⟨vq4, fq4, rfl, hQ4, hb4⟩
      obtain ⟨B14, cB14, rfl, _⟩ := hQ4.form
      have x_4 := ext_trans x_3 hb4
      have hQ3' := hQ3.below hb4
      go_wp2_with (fail)
      refine (spec_EqualPathLists d0 _ d1 _ _ hQ3'.read sz0 l0 G0.out hQ4.read sz1 l1 G1.out).mono ?_
      rintro e w5 ⟨rfl, hb5⟩
      have x_5 := ext_trans x_4 hb5
      have hQ3'' := hQ3'.below hb5
      have hQ4' := hQ4.below hb5
      go_wp2_with (fail)
      refine (to_pathS d0 _ _ (h0.below (x_5)) sz0).mono ?_
      rintro e w6 ⟨vq6, fq6, rfl, hQ6, hb6⟩
      obtain ⟨B06, cB06, rfl, _⟩ := hQ6.form
      have x_6 := ext_trans x_5 hb6
      go_wp2_with (fail)
      refine (to_pathS d1 _ _ (h1.below (x_6)) sz1).mono ?_
      rintro e w7 ⟨vq7, fq7, rfl, hQ7, hb7⟩
      obtain ⟨B17, cB17, rfl, _⟩ := hQ7.form
      have x_7 := ext_trans x_6 hb7
      have hQ6' := hQ6.below hb7
      clear hQ6
      go_wp2_with (fail)
      refine (impl_EqualPathLists d0 _ d1 _ _ hQ6'.read sz0 l0 G0.out hQ7.read sz1 l1 G1.out).mono ?_
      rintro e w8 ⟨rfl, hb8⟩
      have x_8 := ext_trans x_7 hb8
      have hQ6'' := hQ6'.below hb8
      have hQ7' := hQ7.below hb8
      clear hQ6' hQ7
      go_wp2_with (fail)
      refine (to_pathS d0 _ _ (h0.below (x_8)) sz0).mono ?_
      rintro e w9 ⟨vq9, fq9, rfl, hQ9, hb9⟩
      obtain ⟨B09, cB09, rfl, _⟩ := hQ9.form
      have x_9 := ext_trans x_8 hb9
      have hQ6''' := hQ6''.below hb9
      have hQ7'' := hQ7'.below hb9
      clear hQ6'' hQ7'
      go_wp2_with (fail)
      refine (eq_pathS d0 _ _ _ hQ6'''.read hQ9.read sz0).mono ?_
      rintro e w10 ⟨rfl, hb10⟩
      have x_10 := ext_trans x_9 hb10
      have hQ6'''' := hQ6'''.below hb10
      have hQ7''' := hQ7''.below hb10
      clear hQ6''' hQ7''
      have hQ9' := hQ9.below hb10
      go_wp2_with (fail)
      refine (to_pathS d1 _ _ (h1.below (x_10)) sz1).mono ?_
      rintro e w11 ⟨vq11, fq11, rfl, hQ11, hb11⟩
      obtain ⟨B111, cB111, rfl, _⟩ := hQ11.form
      have x_11 := ext_trans x_10 hb11
      have hQ6''''' := hQ6''''.below hb11
      have hQ7'''' := hQ7'''.below hb11
      clear hQ6'''' hQ7'''
      go_wp2_with (fail)
      refine (eq_pathS d1 _ _ _ hQ7''''.read hQ11.read sz1).mono ?_
      rintro e w12 ⟨rfl, hb12⟩
      have x_12 := ext_trans x_11 hb12
      have hQ6'''''' := hQ6'''''.below hb12
      have hQ7''''' := hQ7''''.below hb12
      clear hQ6''''' hQ7''''
      have hQ11' := hQ11.below hb12
      go_wp2_with (fail)
      go_ret
      exact ⟨rfl, x_12⟩
    ·
      go_enter Try.func5, Try.ntmps5
      go_wp2_with (fail)
      refine (szc_pathS d0 _ (1048576) _ (h0.below x0) (by omega) (by omega) l0.1 l0.2).mono ?_
      rintro e w1 ⟨rfl, hb1⟩
      rw [szI_yes (by omega)]
      have x_1 := ext_trans x0 hb1
      go_wp2_with (fail)
      refine (szc_pathS d1 _ (1048576 - sz_paths d0) _ (h1.below x_1) (by omega) (by omega) l1.1 l1.2).mono ?_
      rintro e w2 ⟨rfl, hb2⟩
      rw [szI_no (by omega)]
      have x_2 := ext_trans x_1 hb2
      go_wp2_with (fail)
      go_ret
      exact ⟨rfl, x_2⟩
  ·
    go_enter Try.func5, Try.ntmps5
    go_wp2_with (fail)
    refine (szc_pathS d0 _ (1048576) _ (h0.below x0) (by omega) (by omega) l0.1 l0.2).mono ?_
    rintro e w1 ⟨rfl, hb1⟩
    rw [szI_no (by omega)]
    have x_1 := ext_trans x0 hb1
    go_wp2_with (fail)
    go_ret
    exact ⟨rfl, x_1⟩

namespace fnExactEqualPathLists
open Go.ChangeShapes Go.WideShapes Go.ChangeAt

set_option maxRecDepth 100000 in
theorem lifted (os : Os) (started : os.Started) (H : Type) (enc : TypeId × Value → H) :
    ReturnsInHanded {} Try.checked os 5 .any (Rows.fnExactEqualPathListsSpec.pre6 enc Try.prog Try.f5 Rows.fnExactEqualPathListsRow.domain false) (Rows.fnExactEqualPathListsSpec.post enc Try.prog Try.f5 false true false false) := by
  refine returnsInHanded_of_change (C := Try.checked) knob started (by kernel_rfl) Try.func5
    (ChangeSpec.witness6 (enc := enc) (C := Try.checked) false ⟨#[], #[.slice none 0 0, .slice none 0 0], []⟩ 8 (by kernel_rfl) (by kernel_rfl) (by kernel_rfl) (by kernel_rfl)) ?_
  intro W base args ds gs before hval0 hW hcnd _
  have hval : ∀ (j : Nat) t v, Try.f5.params[j]? = some t → args[j]? = some v → Value.okWide Try.prog W .any base t v := hval0
  have hW' := hW
  obtain ⟨p, q, hA0, hV, rfl, hfz, hnd⟩ := hW
  have hA : DataW.TrodAll enc Try.prog W 0 (fun _ => true) true Try.f5.params.toList args.toList ds p := hA0
  rw [Try.params5] at hA hval
  obtain ⟨v0, vs0, d0, ds0, p0, q0, hargs, rfl, rfl, h0, r0⟩ := trodAll_cons hA
  obtain ⟨v1, vs1, d1, ds1, p1, q1, rfl, rfl, rfl, h1, r1⟩ := trodAll_cons r0
  obtain ⟨rfl, rfl, rfl⟩ := trodAll_nil r1
  obtain rfl : args = #[v0, v1] := by cases args; simp_all
  obtain ⟨rfl, rfl⟩ := trodVars_none hV
  have k0 := h0
  have lt0 : ∀ x ∈ p0, x.block < W.heap.size := by obtain ⟨m, hm⟩ := k0; exact DataW.trod_lt m _ _ _ hm
  obtain ⟨x0, R0, L0, G0⟩ := open_pathS (hval 0 22 v0 rfl rfl) h0
  have k1 := h1
  have lt1 : ∀ x ∈ p1, x.block < W.heap.size := by obtain ⟨m, hm⟩ := k1; exact DataW.trod_lt m _ _ _ hm
  obtain ⟨x1, R1, L1, G1⟩ := open_pathS (hval 1 22 v1 rfl rfl) h1
  clear hA0 hval0
  refine (lawEqualPathLists x0 _ x1 _ W R0 L0 G0 R1 L1 G1).mono fun e W' ⟨he, bel⟩ => ?_
  subst he
  exact ⟨_, rfl, _, _, _, [], _, [], hW', trodAll_mk1 (shut_bool Try.underlying4 _), (trodAll_cons_mk (Below.trod laidOut (by kernel_rfl) (of_decide_eq_true (by kernel_rfl)) k0 bel lt0) (trodAll_cons_mk (Below.trod laidOut (by kernel_rfl) (of_decide_eq_true (by kernel_rfl)) k1 bel lt1) trodAll_mk0)), rfl, bel.frame _, fun h => by cases h⟩

theorem over : Rows.fnExactEqualPathListsRow.holds Try.pinned (OpenSpec.ofChange Rows.fnExactEqualPathListsSpec) :=
  OpenClaim.holds_of_wide 5 Try.f5 rfl rfl rfl rfl rfl rfl rfl ⟨rfl, rfl, rfl, rfl, rfl⟩ rfl rfl rfl rfl rfl (by kernel_rfl) Try.func5 (by kernel_rfl)
    (of_decide_eq_true (by kernel_rfl)) (by unfold Func.isWrapper; first | (rw [if_pos (by decide +kernel)]; kernel_rfl) | (rw [if_neg (by decide +kernel)]; exact ⟨rfl, rfl⟩))
    (fun os started H enc _ => lifted os started H enc)

theorem proved : Rows.FnExactEqualPathListsSaid := over
#print axioms proved
end fnExactEqualPathLists
end Go.Proofs.Ytailmflghbdglaa
