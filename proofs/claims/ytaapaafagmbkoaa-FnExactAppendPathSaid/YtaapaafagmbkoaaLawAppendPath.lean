/- laws.FnExactAppendPath returns true, for all arguments: the walk of the law out of contracts, and the row. No condition. (Printed by law2.py.) -/
import Derived.Test.YtaapaafagmbkoaaWkH
import Derived.Test.YtaapaafagmbkoaaEqs
import Derived.Test.YtaapaafagmbkoaaHole
import Derived.Test.YtaapaafagmbkoaaMarks2
import Derived.Test.YtaapaafagmbkoaaSepN
import Derived.Test.YtaapaafagmbkoaaFamPath
import Derived.Test.YtaapaafagmbkoaaFamByte
import Derived.Test.YtaapaafagmbkoaaOpenVrd
import Derived.Test.YtaapaafagmbkoaaOpen
namespace Go.Proofs.Ytaapaafagmbkoaa
open Go.RowKit
set_option linter.unusedVariables false

set_option maxRecDepth 20000

theorem szI_pos {left : Int} {n : Nat} (h0 : 0 ≤ left) (h : ¬ szI left n < 0) : (n : Int) ≤ left ∧ szI left n = left - n := by
  unfold szI at *
  split at h
  · rename_i h1; exact ⟨h1, by rw [if_pos h1]⟩
  · omega

set_option maxHeartbeats 1000000 in
theorem lawAppendPath (d0 : List UInt8) (v0 : Value) (d1 : Path) (cs1 : List Value) (w : World) (f0 : SlR byteT w v0 d0) (l0 : d0.length ≤ 9223372036854775807) (h1 : pathT.R w cs1 d1) (l1 : lenOk_path d1) (g1 : rng_path d1) :
    Calls Try.prog 12 #[v0, .agg cs1.toArray] w fun r w' => r = .returned (.bool true) ∧ Below w.heap.size w w' := by
  have f1 : VA pathT w (.agg cs1.toArray) d1 := ⟨cs1, rfl, h1⟩
  generalize Value.agg cs1.toArray = v1 at f1 ⊢
  clear h1
  have hcb1 : 0 ≤ cnt_parts d1 ∧ cnt_parts d1 ≤ 5 * (sz_path d1 : Int) := cnt_parts_bd d1
  have hr0 : sz_path d1 ≤ 1048576 → (pathEnc d1).length ≤ 100000000 := pathEnc_len d1
  have hr1 : (d0 ++ pathEnc d1).length = d0.length + (pathEnc d1).length := List.length_append ..
  have X0 := Below.refl w.heap.size w
  refine enter Try.func12 rfl Try.ntmps12 rfl ?_
  refine w_seq ?_
  refine w_region ?_
  refine t_boxr (by assumption) rfl ?_ rfl rfl
  intro p3 w1 x2 hp3
  replace f0 := f0.below x2
  replace f1 := f1.below x2
  have X0 := ext_trans X0 x2
  have S := Sep.nil w1
  have B := Below.refl w1.heap.size w1
  have Hb := Nat.le_refl w1.heap.size
  refine t_assign rfl ?_ rfl
  refine t_done ?_
  refine x_seq ?_
  refine w_seq ?_
  refine w_seq ?_
  refine w_region ?_
  refine t_move rfl ?_ rfl
  refine t_len e_byte (by assumption) rfl rfl ?_ rfl
  refine t_gtr rfl rfl ?_ rfl
  refine t_done ?_
  refine x_seq ?_
  refine w_if rfl ?_ ?_
  · intro _
    refine w_seq ?_
    refine w_region ?_
    refine t_assign rfl ?_ rfl
    refine t_done ?_
    refine x_seq ?_
    refine w_ret ?_
    refine x_then_ret ?_
    refine x_ret1 rfl rfl ?_
    exact ⟨rfl, ext_trans X0 B⟩
  intro hz3
  refine w_skip ?_
  refine x_seq ?_
  refine w_seq ?_
  refine w_region ?_
  refine t_assign rfl ?_ rfl
  refine t_done ?_
  refine x_seq ?_
  refine w_seq ?_
  refine w_region ?_
  refine t_lda (by assumption) ab_l_path sb_l_path B rfl ?_ rfl
  intro v17 hv17
  obtain ⟨v17_0, rfl, hv17_0⟩ := path_va hv17
  refine t_move rfl ?_ rfl
  refine t_callx Try.call15 rfl (va1 (by first | assumption | exact VA.below (by assumption) B) fun cs h => szc_path _ cs _ _ h (by omega) (by omega) (by assumption)) ?_ rfl rfl
  intro w4 x5
  have B := bx Hb B x5
  have S := S.below x5
  refine t_assign rfl ?_ rfl
  refine t_done ?_
  refine x_seq ?_
  refine w_seq ?_
  refine w_seq ?_
  refine w_region ?_
  refine t_move rfl ?_ rfl
  refine t_lss rfl rfl ?_ rfl
  refine t_done ?_
  refine x_seq ?_
  refine w_if rfl ?_ ?_
  · intro _
    refine w_seq ?_
    refine w_region ?_
    refine t_assign rfl ?_ rfl
    refine t_done ?_
    refine x_seq ?_
    refine w_ret ?_
    refine x_then_ret ?_
    refine x_ret1 rfl rfl ?_
    exact ⟨rfl, ext_trans X0 B⟩
  intro hz6
  have hz6 := szI_pos (by omega) hz6
  refine w_skip ?_
  refine x_seq ?_
  refine w_seq ?_
  refine w_draw (.st .take 0 (.st .take 2 (.st .run 1 (.st .run 3 (.st .run 4 (.st .take 5 .done)))))) mixed (by kernel_rfl) ?_
  intro w7 x8
  have B := bx Hb B x8
  have S := S.below x8
  refine t_move rfl ?_ rfl
  refine t_lda (by assumption) ab_l_path sb_l_path B rfl ?_ rfl
  intro v24 hv24
  obtain ⟨v24_0, rfl, hv24_0⟩ := path_va hv24
  refine t_call Try.call53 rfl (to_byteS _ _ _ (by first | assumption | exact SlR.below (by assumption) B) (by omega)) ?_ rfl rfl
  rintro e w9 ⟨v23, fpv23, rfl, hOv23, x10⟩
  refine ⟨_, rfl, x10, ?_⟩
  have S := S.add (o := slO _ _ _ _) x10 hOv23
  have B := bx Hb B x10
  refine t_call Try.call17 rfl (va1 (by first | assumption | exact VA.below (by assumption) B) fun cs h => to_path _ cs _ h (by omega)) ?_ rfl rfl
  rintro e w11 ⟨cs25, fp25, rfl, hO25, x12⟩
  refine ⟨_, rfl, x12, ?_⟩
  have S := S.add (o := tyO pathT _ _) x12 hO25
  have B := bx Hb B x12
  obtain ⟨u25_0, heq, S2⟩ := S.pathOpen
  subst heq
  have S := S2
  clear S2
  refine t_call Try.call52 rfl (spec_AppendPath _ _ _ _ _ (S.tail.sl) (path_mkv (S.sl)) (by first | omega | (simp; done)) (by omega) (by assumption) (by assumption)) ?_ rfl rfl
  rintro e w13 ⟨v26, fpv26, rfl, hOv26, x14⟩
  refine ⟨_, rfl, x14, ?_⟩
  have S := S.add (o := slO _ _ _ _) x14 hOv26
  have B := bx Hb B x14
  refine t_assign rfl ?_ rfl
  refine t_done' ?_
  refine x_seq ?_
  refine w_seq ?_
  refine w_region ?_
  refine t_move rfl ?_ rfl
  refine t_call Try.call53 rfl (to_byteS _ _ _ (by first | assumption | exact SlR.below (by assumption) B) (by omega)) ?_ rfl rfl
  rintro e w15 ⟨v28, fpv28, rfl, hOv28, x16⟩
  refine ⟨_, rfl, x16, ?_⟩
  have S := S.add (o := slO _ _ _ _) x16 hOv28
  have B := bx Hb B x16
  refine t_assign rfl ?_ rfl
  refine t_done ?_
  refine x_seq ?_
  refine w_seq ?_
  refine w_region ?_
  refine t_lda (by assumption) ab_l_path sb_l_path B rfl ?_ rfl
  intro v29 hv29
  obtain ⟨v29_0, rfl, hv29_0⟩ := path_va hv29
  refine t_call Try.call17 rfl (va1 (by first | assumption | exact VA.below (by assumption) B) fun cs h => to_path _ cs _ h (by omega)) ?_ rfl rfl
  rintro e w17 ⟨cs30, fp30, rfl, hO30, x18⟩
  refine ⟨_, rfl, x18, ?_⟩
  have S := S.add (o := tyO pathT _ _) x18 hO30
  have B := bx Hb B x18
  obtain ⟨u30_0, heq, S2⟩ := S.pathOpen
  subst heq
  have S := S2
  clear S2
  refine t_alloc S z_path rfl ?_ rfl rfl
  intro g8 w19 x20 S
  have B := bx Hb B x20
  refine t_stn S sb_path rfl rfl rfl rfl (by intro u hu; simp only [List.mem_cons, List.not_mem_nil, or_false] at hu; rcases hu with rfl <;> first | rfl | exact (SlR.cells (by first | assumption | exact S.tail.sl | exact S.tail.tail.sl | exact S.tail.tail.tail.sl | exact S.tail.tail.tail.tail.sl | exact S.tail.tail.tail.tail.tail.sl | exact S.tail.tail.tail.tail.tail.tail.sl | exact S.tail.tail.tail.tail.tail.tail.tail.sl | exact S.tail.tail.tail.tail.tail.tail.tail.tail.sl)).2) ?_
  intro w21 b22 S
  have B := B.trans b22
  refine t_done ?_
  refine x_seq ?_
  refine w_seq ?_
  refine w_region ?_
  refine t_move rfl ?_ rfl
  refine t_bxn S.box ab_path sb_path rfl rfl ?_ rfl
  refine t_call Try.call54 rfl (impl_AppendPath _ _ _ _ _ (S.tail.tail.sl) (path_mkv (S.tail.sl)) (by first | omega | (simp; done)) (by omega) (by assumption) (by assumption)) ?_ rfl rfl
  rintro e w23 ⟨v33, fpv33, rfl, hOv33, x24⟩
  refine ⟨_, rfl, x24, ?_⟩
  have S := S.add (o := slO _ _ _ _) x24 hOv33
  have B := bx Hb B x24
  refine t_assign rfl ?_ rfl
  refine t_done ?_
  refine x_seq ?_
  refine w_seq ?_
  refine w_seq ?_
  refine w_region ?_
  refine t_move rfl ?_ rfl
  refine t_move rfl ?_ rfl
  refine t_callx Try.call55 rfl (eqv_bytes _ _ _ _ (S.sl) (S.tail.tail.tail.tail.sl) (by omega)) ?_ rfl rfl
  intro w25 x26
  have B := bx Hb B x26
  have S := S.below x26
  refine t_notb rfl ?_ rfl
  refine t_done ?_
  refine x_seq ?_
  refine w_no rfl ?_
  refine w_skip ?_
  refine x_seq ?_
  refine w_seq ?_
  refine w_seq ?_
  refine w_region ?_
  refine t_move rfl ?_ rfl
  refine t_move rfl ?_ rfl
  refine t_call Try.call53 rfl (to_byteS _ _ _ (by first | assumption | exact SlR.below (by assumption) B) (by omega)) ?_ rfl rfl
  rintro e w27 ⟨v40, fpv40, rfl, hOv40, x28⟩
  refine ⟨_, rfl, x28, ?_⟩
  have S := S.add (o := slO _ _ _ _) x28 hOv40
  have B := bx Hb B x28
  refine t_callx Try.call55 rfl (eqv_bytes _ _ _ _ (S.tail.tail.tail.tail.sl) (S.sl) (by omega)) ?_ rfl rfl
  intro w29 x30
  have B := bx Hb B x30
  have S := S.below x30
  refine t_notb rfl ?_ rfl
  refine t_done ?_
  refine x_seq ?_
  refine w_no rfl ?_
  refine w_skip ?_
  refine x_seq ?_
  refine w_seq ?_
  refine w_seq ?_
  refine w_draw (.st .take 0 (.st .take 1 (.st .run 2 (.st .run 3 (.st .take 4 .done))))) mixed (by kernel_rfl) ?_
  intro w31 x32
  have B := bx Hb B x32
  have S := S.below x32
  refine t_bxn S.tail.tail.box ab_path sb_path rfl rfl ?_ rfl
  refine t_lda (by assumption) ab_l_path sb_l_path B rfl ?_ rfl
  intro v44 hv44
  obtain ⟨v44_0, rfl, hv44_0⟩ := path_va hv44
  refine t_call Try.call17 rfl (va1 (by first | assumption | exact VA.below (by assumption) B) fun cs h => to_path _ cs _ h (by omega)) ?_ rfl rfl
  rintro e w33 ⟨cs45, fp45, rfl, hO45, x34⟩
  refine ⟨_, rfl, x34, ?_⟩
  have S := S.add (o := tyO pathT _ _) x34 hO45
  have B := bx Hb B x34
  obtain ⟨u45_0, heq, S2⟩ := S.pathOpen
  subst heq
  have S := S2
  clear S2
  refine t_callx Try.call20 rfl (eqv_path _ _ _ _ (path_mkv (S.tail.tail.tail.tail.sl)) (path_mkv (S.sl)) (ok_path_sz (by omega))) ?_ rfl rfl
  intro w35 x36
  have B := bx Hb B x36
  have S := S.below x36
  refine t_notb rfl ?_ rfl
  refine t_done' ?_
  refine x_seq ?_
  refine w_no rfl ?_
  refine w_skip ?_
  refine x_seq ?_
  refine w_seq ?_
  refine w_region ?_
  refine t_assign rfl ?_ rfl
  refine t_done ?_
  refine x_seq ?_
  refine w_seq ?_
  refine w_region ?_
  refine t_move rfl ?_ rfl
  refine t_move rfl ?_ rfl
  have S := S.f5
  refine t_callf Try.call56 rfl (mark_byte _ _ _ _ _ _ S (by omega) (by omega)) ?_ rfl
  rintro e w37 ⟨rfl, S, x38⟩
  refine ⟨_, rfl, ?_⟩
  have B := B.trans x38
  refine t_assign rfl ?_ rfl
  refine t_done ?_
  refine x_seq ?_
  refine w_seq ?_
  refine w_region ?_
  refine t_bxn S.tail.tail.tail.tail.box ab_path sb_path rfl rfl ?_ rfl
  refine t_move rfl ?_ rfl
  have S := S.f5
  refine t_callf Try.call21 rfl (mark_path _ _ _ _ _ _ S (by omega) (by omega)) ?_ rfl
  rintro e w39 ⟨rfl, S, x40⟩
  refine ⟨_, rfl, ?_⟩
  have B := B.trans x40
  refine t_assign rfl ?_ rfl
  refine t_done ?_
  refine x_seq ?_
  refine w_seq ?_
  refine w_seq ?_
  refine w_region ?_
  refine t_move rfl ?_ rfl
  refine t_lss rfl rfl ?_ rfl
  refine t_move rfl ?_ rfl
  refine t_partp (t := 56) rfl (fun h => (by exfalso; omega)) ?_
  intro hc56
  refine t_on rfl rfl ?_
  refine t_move rfl ?_ rfl
  refine t_on rfl rfl ?_
  refine t_move rfl ?_ rfl
  refine t_on rfl rfl ?_
  refine t_callx Try.call55 rfl (eqv_bytes _ _ _ _ (S.tail.tail.tail.tail.sl) (S.tail.tail.tail.tail.tail.tail.sl) (by omega)) ?_ rfl rfl
  intro w41 x42
  have B := bx Hb B x42
  have S := S.below x42
  refine t_on rfl rfl ?_
  refine t_notb rfl ?_ rfl
  refine t_pickf rfl rfl ?_ rfl
  refine t_done ?_
  refine x_seq ?_
  refine w_no rfl ?_
  refine w_skip ?_
  refine x_seq ?_
  refine w_seq ?_
  refine w_region ?_
  refine t_assign rfl ?_ rfl
  refine t_done ?_
  refine x_seq ?_
  refine w_seq ?_
  refine w_region ?_
  refine t_move rfl ?_ rfl
  refine t_move rfl ?_ rfl
  have S := S.f4
  refine t_callf Try.call56 rfl (mark_byte _ _ _ _ _ _ S (by omega) (by omega)) ?_ rfl
  rintro e w43 ⟨rfl, S, x44⟩
  refine ⟨_, rfl, ?_⟩
  have B := B.trans x44
  refine t_assign rfl ?_ rfl
  refine t_done ?_
  refine x_seq ?_
  refine w_seq ?_
  refine w_region ?_
  refine t_assign rfl ?_ rfl
  refine t_done ?_
  refine x_seq ?_
  refine w_seq ?_
  refine w_region ?_
  refine t_move rfl ?_ rfl
  refine t_move rfl ?_ rfl
  refine t_callx Try.call57 rfl (held_byte _ _ _ _ (S.sl) (by omega) (by omega)) ?_ rfl rfl
  intro w45 x46
  have B := bx Hb B x46
  have S := S.below x46
  refine t_assign rfl ?_ rfl
  refine t_done ?_
  refine x_seq ?_
  refine w_seq ?_
  refine w_seq ?_
  refine w_region ?_
  refine t_move rfl ?_ rfl
  refine t_lss rfl rfl ?_ rfl
  refine t_done ?_
  refine x_seq ?_
  refine w_if rfl (fun h => (by exfalso; omega)) ?_
  intro hc69
  refine w_skip ?_
  refine x_seq ?_
  refine w_seq ?_
  refine w_seq ?_
  refine w_region ?_
  refine t_move rfl ?_ rfl
  refine t_move rfl ?_ rfl
  refine t_neq rfl rfl ?_ rfl
  refine t_done ?_
  refine x_seq ?_
  refine w_if rfl (fun h => absurd rfl h) ?_
  intro _
  refine w_skip ?_
  refine x_seq ?_
  refine w_seq ?_
  refine w_draw (.st .take 0 (.st .take 2 (.st .run 1 (.st .run 3 (.st .run 4 (.st .take 5 .done)))))) mixed (by kernel_rfl) ?_
  intro w47 x48
  have B := bx Hb B x48
  have S := S.below x48
  refine t_move rfl ?_ rfl
  refine t_lda (by assumption) ab_l_path sb_l_path B rfl ?_ rfl
  intro v75 hv75
  obtain ⟨v75_0, rfl, hv75_0⟩ := path_va hv75
  refine t_call Try.call53 rfl (to_byteS _ _ _ (by first | assumption | exact SlR.below (by assumption) B) (by omega)) ?_ rfl rfl
  rintro e w49 ⟨v74, fpv74, rfl, hOv74, x50⟩
  refine ⟨_, rfl, x50, ?_⟩
  have S := S.add (o := slO _ _ _ _) x50 hOv74
  have B := bx Hb B x50
  refine t_call Try.call17 rfl (va1 (by first | assumption | exact VA.below (by assumption) B) fun cs h => to_path _ cs _ h (by omega)) ?_ rfl rfl
  rintro e w51 ⟨cs76, fp76, rfl, hO76, x52⟩
  refine ⟨_, rfl, x52, ?_⟩
  have S := S.add (o := tyO pathT _ _) x52 hO76
  have B := bx Hb B x52
  obtain ⟨u76_0, heq, S2⟩ := S.pathOpen
  subst heq
  have S := S2
  clear S2
  refine t_call Try.call54 rfl (impl_AppendPath _ _ _ _ _ (S.tail.sl) (path_mkv (S.sl)) (by first | omega | (simp; done)) (by omega) (by assumption) (by assumption)) ?_ rfl rfl
  rintro e w53 ⟨v77, fpv77, rfl, hOv77, x54⟩
  refine ⟨_, rfl, x54, ?_⟩
  have S := S.add (o := slO _ _ _ _) x54 hOv77
  have B := bx Hb B x54
  refine t_assign rfl ?_ rfl
  refine t_done' ?_
  refine x_seq ?_
  refine w_seq ?_
  refine w_seq ?_
  refine w_region ?_
  refine t_move rfl ?_ rfl
  refine t_move rfl ?_ rfl
  refine t_callx Try.call55 rfl (eqv_bytes _ _ _ _ (S.sl) (S.tail.tail.tail.tail.tail.tail.tail.tail.tail.sl) (by omega)) ?_ rfl rfl
  intro w55 x56
  have B := bx Hb B x56
  have S := S.below x56
  refine t_notb rfl ?_ rfl
  refine t_done ?_
  refine x_seq ?_
  refine w_no rfl ?_
  refine w_skip ?_
  refine x_seq ?_
  refine w_seq ?_
  refine w_region ?_
  refine t_assign rfl ?_ rfl
  refine t_done ?_
  refine x_seq ?_
  refine w_seq ?_
  refine w_region ?_
  refine t_move rfl ?_ rfl
  refine t_move rfl ?_ rfl
  refine t_callx Try.call57 rfl (held_byte _ _ _ _ (S.tail.tail.tail.sl) (by omega) (by omega)) ?_ rfl rfl
  intro w57 x58
  have B := bx Hb B x58
  have S := S.below x58
  refine t_assign rfl ?_ rfl
  refine t_done ?_
  refine x_seq ?_
  refine w_seq ?_
  refine w_seq ?_
  refine w_region ?_
  refine t_move rfl ?_ rfl
  refine t_lss rfl rfl ?_ rfl
  refine t_done ?_
  refine x_seq ?_
  refine w_if rfl (fun h => (by exfalso; omega)) ?_
  intro hc86
  refine w_skip ?_
  refine x_seq ?_
  refine w_seq ?_
  refine w_seq ?_
  refine w_region ?_
  refine t_move rfl ?_ rfl
  refine t_move rfl ?_ rfl
  refine t_neq rfl rfl ?_ rfl
  refine t_done ?_
  refine x_seq ?_
  refine w_if rfl (fun h => absurd rfl h) ?_
  intro _
  refine w_skip ?_
  refine x_seq ?_
  refine w_seq ?_
  refine w_region ?_
  refine t_assign rfl ?_ rfl
  refine t_done ?_
  refine x_seq ?_
  refine w_ret ?_
  refine x_ret1 rfl rfl ?_
  exact ⟨rfl, ext_trans X0 B⟩

namespace fnExactAppendPath
open Go.ChangeShapes Go.WideShapes Go.ChangeAt

set_option maxRecDepth 100000 in
theorem lifted (os : Os) (started : os.Started) (H : Type) (enc : TypeId × Value → H) :
    ReturnsInHanded {} Try.checked os 12 .any (Rows.fnExactAppendPathSpec.pre6 enc Try.prog Try.f12 Rows.fnExactAppendPathRow.domain false) (Rows.fnExactAppendPathSpec.post enc Try.prog Try.f12 false true false false) := by
  refine returnsInHanded_of_change (C := Try.checked) knob started (by kernel_rfl) Try.func12
    (ChangeSpec.witness6 (enc := enc) (C := Try.checked) false ⟨#[], #[.slice none 0 0, .agg #[.slice none 0 0]], []⟩ 8 (by kernel_rfl) (by kernel_rfl) (by kernel_rfl) (by kernel_rfl)) ?_
  intro W base args ds gs before hval0 hW hcnd _
  have hval : ∀ (j : Nat) t v, Try.f12.params[j]? = some t → args[j]? = some v → Value.okWide Try.prog W .any base t v := hval0
  have hW' := hW
  obtain ⟨p, q, hA0, hV, rfl, hfz, hnd⟩ := hW
  have hA : DataW.TrodAll enc Try.prog W 0 (fun _ => true) true Try.f12.params.toList args.toList ds p := hA0
  rw [Try.params12] at hA hval
  obtain ⟨v0, vs0, d0, ds0, p0, q0, hargs, rfl, rfl, h0, r0⟩ := trodAll_cons hA
  obtain ⟨v1, vs1, d1, ds1, p1, q1, rfl, rfl, rfl, h1, r1⟩ := trodAll_cons r0
  obtain ⟨rfl, rfl, rfl⟩ := trodAll_nil r1
  obtain rfl : args = #[v0, v1] := by cases args; simp_all
  obtain ⟨rfl, rfl⟩ := trodVars_none hV
  have k0 := h0
  have lt0 : ∀ x ∈ p0, x.block < W.heap.size := by obtain ⟨m, hm⟩ := k0; exact DataW.trod_lt m _ _ _ hm
  obtain ⟨x0, R0, L0⟩ := open_byteS (hval 0 46 v0 rfl rfl) h0
  have k1 := h1
  have lt1 : ∀ x ∈ p1, x.block < W.heap.size := by obtain ⟨m, hm⟩ := k1; exact DataW.trod_lt m _ _ _ hm
  obtain ⟨cs1, x1, rfl, R1, L1, G1⟩ := open_path (hval 1 24 v1 rfl rfl) h1
  clear hA0 hval0
  refine (lawAppendPath x0 _ x1 _ W R0 L0 R1 L1 G1).mono fun e W' ⟨he, bel⟩ => ?_
  subst he
  exact ⟨_, rfl, _, _, _, [], _, [], hW', trodAll_mk1 (shut_bool Try.underlying4 _), (trodAll_cons_mk (Below.trod laidOut (by kernel_rfl) (of_decide_eq_true (by kernel_rfl)) k0 bel lt0) (trodAll_cons_mk (Below.trod laidOut (by kernel_rfl) (of_decide_eq_true (by kernel_rfl)) k1 bel lt1) trodAll_mk0)), rfl, bel.frame _, fun h => by cases h⟩

theorem over : Rows.fnExactAppendPathRow.holds Try.pinned (OpenSpec.ofChange Rows.fnExactAppendPathSpec) :=
  OpenClaim.holds_of_wide 12 Try.f12 rfl rfl rfl rfl rfl rfl rfl ⟨rfl, rfl, rfl, rfl, rfl⟩ rfl rfl rfl rfl rfl (by kernel_rfl) Try.func12 (by kernel_rfl)
    (of_decide_eq_true (by kernel_rfl)) (by unfold Func.isWrapper; first | (rw [if_pos (by decide +kernel)]; kernel_rfl) | (rw [if_neg (by decide +kernel)]; exact ⟨rfl, rfl⟩))
    (fun os started H enc _ => lifted os started H enc)

theorem proved : Rows.FnExactAppendPathSaid := over
#print axioms proved
end fnExactAppendPath
end Go.Proofs.Ytaapaafagmbkoaa
