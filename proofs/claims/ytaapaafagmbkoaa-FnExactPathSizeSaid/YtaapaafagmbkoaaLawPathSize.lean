/- laws.FnExactPathSize returns true, for all arguments: the walk of the law out of contracts, and the row. No condition. (Printed by law2.py.) -/
import Derived.Test.YtaapaafagmbkoaaWkH
import Derived.Test.YtaapaafagmbkoaaEqs
import Derived.Test.YtaapaafagmbkoaaHole
import Derived.Test.YtaapaafagmbkoaaMarks2
import Derived.Test.YtaapaafagmbkoaaFamPath
import Derived.Test.YtaapaafagmbkoaaOpen
namespace Go.Proofs.Ytaapaafagmbkoaa
open Go.RowKit
set_option linter.unusedVariables false

set_option maxRecDepth 20000

theorem szI_pos {left : Int} {n : Nat} (h0 : 0 ≤ left) (h : ¬ szI left n < 0) : (n : Int) ≤ left ∧ szI left n = left - n := by
  unfold szI at *
  split at h
  · rename_i h1; exact ⟨h1, by rw [if_pos h1]⟩
  · omega

set_option maxHeartbeats 1000000 in
theorem lawPathSize (d0 : Path) (cs0 : List Value) (w : World) (h0 : pathT.R w cs0 d0) (l0 : lenOk_path d0) (g0 : rng_path d0) :
    Calls Try.prog 4 #[.agg cs0.toArray] w fun r w' => r = .returned (.bool true) ∧ Below w.heap.size w w' := by
  have f0 : VA pathT w (.agg cs0.toArray) d0 := ⟨cs0, rfl, h0⟩
  generalize Value.agg cs0.toArray = v0 at f0 ⊢
  clear h0
  have hcb0 : 0 ≤ cnt_parts d0 ∧ cnt_parts d0 ≤ 5 * (sz_path d0 : Int) := cnt_parts_bd d0
  have X0 := Below.refl w.heap.size w
  refine enter Try.func4 rfl Try.ntmps4 rfl ?_
  refine w_seq ?_
  refine w_region ?_
  refine t_boxr (by assumption) rfl ?_ rfl rfl
  intro p1 w1 x2 hp1
  replace f0 := f0.below x2
  have X0 := ext_trans X0 x2
  have S := Sep.nil w1
  have B := Below.refl w1.heap.size w1
  have Hb := Nat.le_refl w1.heap.size
  refine t_assign rfl ?_ rfl
  refine t_done ?_
  refine x_seq ?_
  refine w_seq ?_
  refine w_region ?_
  refine t_assign rfl ?_ rfl
  refine t_done ?_
  refine x_seq ?_
  refine w_seq ?_
  refine w_region ?_
  refine t_lda (by assumption) ab_l_path sb_l_path B rfl ?_ rfl
  intro v7 hv7
  obtain ⟨v7_0, rfl, hv7_0⟩ := path_va hv7
  refine t_move rfl ?_ rfl
  refine t_callx Try.call15 rfl (va1 (by first | assumption | exact VA.below (by assumption) B) fun cs h => szc_path _ cs _ _ h (by omega) (by omega) (by assumption)) ?_ rfl rfl
  intro w3 x4
  have B := bx Hb B x4
  have S := S.below x4
  refine t_assign rfl ?_ rfl
  refine t_done ?_
  refine x_seq ?_
  refine w_seq ?_
  refine w_seq ?_
  refine w_region ?_
  refine t_move rfl ?_ rfl
  refine t_lss rfl rfl ?_ rfl
  refine t_done ?_
  refine x_seq ?_
  refine w_if rfl ?_ ?_
  · intro _
    refine w_seq ?_
    refine w_region ?_
    refine t_assign rfl ?_ rfl
    refine t_done ?_
    refine x_seq ?_
    refine w_ret ?_
    refine x_then_ret ?_
    refine x_ret1 rfl rfl ?_
    exact ⟨rfl, ext_trans X0 B⟩
  intro hz5
  have hz5 := szI_pos (by omega) hz5
  refine w_skip ?_
  refine x_seq ?_
  refine w_seq ?_
  refine w_region ?_
  refine t_lda (by assumption) ab_l_path sb_l_path B rfl ?_ rfl
  intro v12 hv12
  obtain ⟨v12_0, rfl, hv12_0⟩ := path_va hv12
  refine t_call Try.call17 rfl (va1 (by first | assumption | exact VA.below (by assumption) B) fun cs h => to_path _ cs _ h (by omega)) ?_ rfl rfl
  rintro e w6 ⟨cs13, fp13, rfl, hO13, x7⟩
  refine ⟨_, rfl, x7, ?_⟩
  have S := S.add (o := tyO pathT _ _) x7 hO13
  have B := bx Hb B x7
  obtain ⟨u13_0, heq, S2⟩ := S.pathOpen
  subst heq
  have S := S2
  clear S2
  refine t_callx Try.call24 rfl (spec_PathSize _ _ _ (path_mkv (S.sl)) (by omega) (by assumption) (by assumption)) ?_ rfl rfl
  intro w8 x9
  have B := bx Hb B x9
  have S := S.below x9
  refine t_assign rfl ?_ rfl
  refine t_done ?_
  refine x_seq ?_
  refine w_seq ?_
  refine w_region ?_
  refine t_lda (by assumption) ab_l_path sb_l_path B rfl ?_ rfl
  intro v15 hv15
  obtain ⟨v15_0, rfl, hv15_0⟩ := path_va hv15
  refine t_call Try.call17 rfl (va1 (by first | assumption | exact VA.below (by assumption) B) fun cs h => to_path _ cs _ h (by omega)) ?_ rfl rfl
  rintro e w10 ⟨cs16, fp16, rfl, hO16, x11⟩
  refine ⟨_, rfl, x11, ?_⟩
  have S := S.add (o := tyO pathT _ _) x11 hO16
  have B := bx Hb B x11
  obtain ⟨u16_0, heq, S2⟩ := S.pathOpen
  subst heq
  have S := S2
  clear S2
  refine t_alloc S z_path rfl ?_ rfl rfl
  intro g5 w12 x13 S
  have B := bx Hb B x13
  refine t_stn S sb_path rfl rfl rfl rfl (by intro u hu; simp only [List.mem_cons, List.not_mem_nil, or_false] at hu; rcases hu with rfl <;> first | rfl | exact (SlR.cells (by first | assumption | exact S.tail.sl | exact S.tail.tail.sl | exact S.tail.tail.tail.sl | exact S.tail.tail.tail.tail.sl | exact S.tail.tail.tail.tail.tail.sl | exact S.tail.tail.tail.tail.tail.tail.sl | exact S.tail.tail.tail.tail.tail.tail.tail.sl | exact S.tail.tail.tail.tail.tail.tail.tail.tail.sl)).2) ?_
  intro w14 b15 S
  have B := B.trans b15
  refine t_done ?_
  refine x_seq ?_
  refine w_seq ?_
  refine w_region ?_
  refine t_bxn S.box ab_path sb_path rfl rfl ?_ rfl
  refine t_callx Try.call25 rfl (impl_PathSize _ _ _ (path_mkv (S.tail.sl)) (by omega) (by assumption) (by assumption)) ?_ rfl rfl
  intro w16 x17
  have B := bx Hb B x17
  have S := S.below x17
  refine t_assign rfl ?_ rfl
  refine t_done ?_
  refine x_seq ?_
  refine w_seq ?_
  refine w_seq ?_
  refine w_region ?_
  refine t_move rfl ?_ rfl
  refine t_move rfl ?_ rfl
  refine t_neq rfl rfl ?_ rfl
  refine t_done ?_
  refine x_seq ?_
  refine w_if rfl (fun h => absurd rfl h) ?_
  intro _
  refine w_skip ?_
  refine x_seq ?_
  refine w_seq ?_
  refine w_seq ?_
  refine w_draw (.st .take 0 (.st .take 1 (.st .run 2 (.st .run 3 (.st .take 4 .done))))) mixed (by kernel_rfl) ?_
  intro w18 x19
  have B := bx Hb B x19
  have S := S.below x19
  refine t_bxn S.box ab_path sb_path rfl rfl ?_ rfl
  refine t_lda (by assumption) ab_l_path sb_l_path B rfl ?_ rfl
  intro v23 hv23
  obtain ⟨v23_0, rfl, hv23_0⟩ := path_va hv23
  refine t_call Try.call17 rfl (va1 (by first | assumption | exact VA.below (by assumption) B) fun cs h => to_path _ cs _ h (by omega)) ?_ rfl rfl
  rintro e w20 ⟨cs24, fp24, rfl, hO24, x21⟩
  refine ⟨_, rfl, x21, ?_⟩
  have S := S.add (o := tyO pathT _ _) x21 hO24
  have B := bx Hb B x21
  obtain ⟨u24_0, heq, S2⟩ := S.pathOpen
  subst heq
  have S := S2
  clear S2
  refine t_callx Try.call20 rfl (eqv_path _ _ _ _ (path_mkv (S.tail.tail.sl)) (path_mkv (S.sl)) (ok_path_sz (by omega))) ?_ rfl rfl
  intro w22 x23
  have B := bx Hb B x23
  have S := S.below x23
  refine t_notb rfl ?_ rfl
  refine t_done' ?_
  refine x_seq ?_
  refine w_no rfl ?_
  refine w_skip ?_
  refine x_seq ?_
  refine w_seq ?_
  refine w_region ?_
  refine t_assign rfl ?_ rfl
  refine t_done ?_
  refine x_seq ?_
  refine w_ret ?_
  refine x_ret1 rfl rfl ?_
  exact ⟨rfl, ext_trans X0 B⟩

namespace fnExactPathSize
open Go.ChangeShapes Go.WideShapes Go.ChangeAt

set_option maxRecDepth 100000 in
theorem lifted (os : Os) (started : os.Started) (H : Type) (enc : TypeId × Value → H) :
    ReturnsInHanded {} Try.checked os 4 .any (Rows.fnExactPathSizeSpec.pre6 enc Try.prog Try.f4 Rows.fnExactPathSizeRow.domain false) (Rows.fnExactPathSizeSpec.post enc Try.prog Try.f4 false true false false) := by
  refine returnsInHanded_of_change (C := Try.checked) knob started (by kernel_rfl) Try.func4
    (ChangeSpec.witness6 (enc := enc) (C := Try.checked) false ⟨#[], #[.agg #[.slice none 0 0]], []⟩ 8 (by kernel_rfl) (by kernel_rfl) (by kernel_rfl) (by kernel_rfl)) ?_
  intro W base args ds gs before hval0 hW hcnd _
  have hval : ∀ (j : Nat) t v, Try.f4.params[j]? = some t → args[j]? = some v → Value.okWide Try.prog W .any base t v := hval0
  have hW' := hW
  obtain ⟨p, q, hA0, hV, rfl, hfz, hnd⟩ := hW
  have hA : DataW.TrodAll enc Try.prog W 0 (fun _ => true) true Try.f4.params.toList args.toList ds p := hA0
  rw [Try.params4] at hA hval
  obtain ⟨v0, vs0, d0, ds0, p0, q0, hargs, rfl, rfl, h0, r0⟩ := trodAll_cons hA
  obtain ⟨rfl, rfl, rfl⟩ := trodAll_nil r0
  obtain rfl : args = #[v0] := by cases args; simp_all
  obtain ⟨rfl, rfl⟩ := trodVars_none hV
  have k0 := h0
  have lt0 : ∀ x ∈ p0, x.block < W.heap.size := by obtain ⟨m, hm⟩ := k0; exact DataW.trod_lt m _ _ _ hm
  obtain ⟨cs0, x0, rfl, R0, L0, G0⟩ := open_path (hval 0 24 v0 rfl rfl) h0
  clear hA0 hval0
  refine (lawPathSize x0 _ W R0 L0 G0).mono fun e W' ⟨he, bel⟩ => ?_
  subst he
  exact ⟨_, rfl, _, _, _, [], _, [], hW', trodAll_mk1 (shut_bool Try.underlying4 _), (trodAll_cons_mk (Below.trod laidOut (by kernel_rfl) (of_decide_eq_true (by kernel_rfl)) k0 bel lt0) trodAll_mk0), rfl, bel.frame _, fun h => by cases h⟩

theorem over : Rows.fnExactPathSizeRow.holds Try.pinned (OpenSpec.ofChange Rows.fnExactPathSizeSpec) :=
  OpenClaim.holds_of_wide 4 Try.f4 rfl rfl rfl rfl rfl rfl rfl ⟨rfl, rfl, rfl, rfl, rfl⟩ rfl rfl rfl rfl rfl (by kernel_rfl) Try.func4 (by kernel_rfl)
    (of_decide_eq_true (by kernel_rfl)) (by unfold Func.isWrapper; first | (rw [if_pos (by decide +kernel)]; kernel_rfl) | (rw [if_neg (by decide +kernel)]; exact ⟨rfl, rfl⟩))
    (fun os started H enc _ => lifted os started H enc)

theorem proved : Rows.FnExactPathSizeSaid := over
#print axioms proved
end fnExactPathSize
end Go.Proofs.Ytaapaafagmbkoaa
