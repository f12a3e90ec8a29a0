/- laws.FnExactJoinUpDown returns true, for all arguments: the walk of the law out of contracts, and the row. No condition. (Printed by law2.py.) -/
import Derived.Test.YtaapaafagmbkoaaWkK
import Derived.Test.YtaapaafagmbkoaaEqs
import Derived.Test.YtaapaafagmbkoaaHole
import Derived.Test.YtaapaafagmbkoaaMarks2
import Derived.Test.YtaapaafagmbkoaaSepN
import Derived.Test.YtaapaafagmbkoaaOkz
import Derived.Test.YtaapaafagmbkoaaFamSeg
import Derived.Test.YtaapaafagmbkoaaOpen
namespace Go.Proofs.Ytaapaafagmbkoaa
open Go.RowKit
set_option linter.unusedVariables false

set_option maxRecDepth 20000

theorem szI_pos {left : Int} {n : Nat} (h0 : 0 ≤ left) (h : ¬ szI left n < 0) : (n : Int) ≤ left ∧ szI left n = left - n := by
  unfold szI at *
  split at h
  · rename_i h1; exact ⟨h1, by rw [if_pos h1]⟩
  · omega

set_option maxHeartbeats 1000000 in
theorem lawJoinUpDown (d0 : Seg) (cs0 : List Value) (d1 : Seg) (cs1 : List Value) (w : World) (h0 : segT.R w cs0 d0) (l0 : lenOk_seg d0) (g0 : rng_seg d0) (h1 : segT.R w cs1 d1) (l1 : lenOk_seg d1) (g1 : rng_seg d1) :
    Calls Try.prog 11 #[.agg cs0.toArray, .agg cs1.toArray] w fun r w' => r = .returned (.bool true) ∧ Below w.heap.size w w' := by
  have f0 : VA segT w (.agg cs0.toArray) d0 := ⟨cs0, rfl, h0⟩
  generalize Value.agg cs0.toArray = v0 at f0 ⊢
  clear h0
  have z0 : sz_seg d0 = d0.hops.length := rfl
  have f1 : VA segT w (.agg cs1.toArray) d1 := ⟨cs1, rfl, h1⟩
  generalize Value.agg cs1.toArray = v1 at f1 ⊢
  clear h1
  have z1 : sz_seg d1 = d1.hops.length := rfl
  have hr0 := joinUD_sz d0 d1
  have hr1 : 0 ≤ cnt_parts (joinUD d0 d1) ∧ cnt_parts (joinUD d0 d1) ≤ 5 * (sz_path (joinUD d0 d1) : Int) := cnt_parts_bd (joinUD d0 d1)
  have X0 := Below.refl w.heap.size w
  refine enter Try.func11 rfl Try.ntmps11 rfl ?_
  refine w_seq ?_
  refine w_region ?_
  refine t_boxr (by assumption) rfl ?_ rfl rfl
  intro p2 w1 x2 hp2
  replace f0 := f0.below x2
  replace f1 := f1.below x2
  have X0 := ext_trans X0 x2
  refine t_boxr (by assumption) rfl ?_ rfl rfl
  intro p3 w3 x4 hp3
  replace f0 := f0.below x4
  replace f1 := f1.below x4
  replace hp2 := hp2.below x4
  have X0 := ext_trans X0 x4
  have S := Sep.nil w3
  have B := Below.refl w3.heap.size w3
  have Hb := Nat.le_refl w3.heap.size
  refine t_assign rfl ?_ rfl
  refine t_done ?_
  refine x_seq ?_
  refine w_seq ?_
  refine w_region ?_
  refine t_assign rfl ?_ rfl
  refine t_done ?_
  refine x_seq ?_
  refine w_seq ?_
  refine w_region ?_
  refine t_lda (by assumption) ab_l_seg sb_l_seg B rfl ?_ rfl
  intro v14 hv14
  obtain ⟨v14_2, rfl, hv14_2⟩ := seg_va hv14
  refine t_move rfl ?_ rfl
  refine t_callx Try.call44 rfl (va1 (by first | assumption | exact VA.below (by assumption) B) fun cs h => szc_seg _ cs _ _ h (by omega) (by omega) (by assumption)) ?_ rfl rfl
  intro w5 x6
  have B := bx Hb B x6
  have S := S.below x6
  refine t_assign rfl ?_ rfl
  refine t_done ?_
  refine x_seq ?_
  refine w_seq ?_
  refine w_seq ?_
  refine w_region ?_
  refine t_move rfl ?_ rfl
  refine t_lss rfl rfl ?_ rfl
  refine t_done ?_
  refine x_seq ?_
  refine w_if rfl ?_ ?_
  · intro _
    refine w_seq ?_
    refine w_region ?_
    refine t_assign rfl ?_ rfl
    refine t_done ?_
    refine x_seq ?_
    refine w_ret ?_
    refine x_then_ret ?_
    refine x_ret1 rfl rfl ?_
    exact ⟨rfl, ext_trans X0 B⟩
  intro hz7
  have hz7 := szI_pos (by omega) hz7
  refine w_skip ?_
  refine x_seq ?_
  refine w_seq ?_
  refine w_region ?_
  refine t_lda (by assumption) ab_l_seg sb_l_seg B rfl ?_ rfl
  intro v19 hv19
  obtain ⟨v19_2, rfl, hv19_2⟩ := seg_va hv19
  refine t_move rfl ?_ rfl
  refine t_callx Try.call44 rfl (va1 (by first | assumption | exact VA.below (by assumption) B) fun cs h => szc_seg _ cs _ _ h (by omega) (by omega) (by assumption)) ?_ rfl rfl
  intro w8 x9
  have B := bx Hb B x9
  have S := S.below x9
  refine t_assign rfl ?_ rfl
  refine t_done ?_
  refine x_seq ?_
  refine w_seq ?_
  refine w_seq ?_
  refine w_region ?_
  refine t_move rfl ?_ rfl
  refine t_lss rfl rfl ?_ rfl
  refine t_done ?_
  refine x_seq ?_
  refine w_if rfl ?_ ?_
  · intro _
    refine w_seq ?_
    refine w_region ?_
    refine t_assign rfl ?_ rfl
    refine t_done ?_
    refine x_seq ?_
    refine w_ret ?_
    refine x_then_ret ?_
    refine x_ret1 rfl rfl ?_
    exact ⟨rfl, ext_trans X0 B⟩
  intro hz10
  have hz10 := szI_pos (by omega) hz10
  refine w_skip ?_
  refine x_seq ?_
  refine w_seq ?_
  refine w_draw (.st .take 0 (.st .take 2 (.alt (.st .run 1 (.alt (.st .run 3 (.alt (.st .run 4 (.st .run 5 (.st .fin 6 .done))) (.st .run 5 (.st .run 4 (.st .fin 6 .done))))) (.st .run 5 (.st .run 3 (.st .run 4 (.st .fin 6 .done)))))) (.st .run 5 (.st .run 1 (.st .run 3 (.st .run 4 (.st .fin 6 .done)))))))) mixed (by kernel_rfl) ?_
  intro w11 x12
  have B := bx Hb B x12
  have S := S.below x12
  refine t_lda (by assumption) ab_l_seg sb_l_seg B rfl ?_ rfl
  intro v24 hv24
  obtain ⟨v24_2, rfl, hv24_2⟩ := seg_va hv24
  refine t_lda (by assumption) ab_l_seg sb_l_seg B rfl ?_ rfl
  intro v26 hv26
  obtain ⟨v26_2, rfl, hv26_2⟩ := seg_va hv26
  refine t_alt ?_ ?_
  · refine t_call Try.call46 rfl (va1 (by first | assumption | exact VA.below (by assumption) B) fun cs h => to_seg _ cs _ h (by omega)) ?_ rfl rfl
    rintro e w13 ⟨cs25, fp25, rfl, hO25, x14⟩
    refine ⟨_, rfl, x14, ?_⟩
    have S := S.add (o := tyO segT _ _) x14 hO25
    have B := bx Hb B x14
    obtain ⟨u25_2, heq, S2⟩ := S.segOpen
    subst heq
    have S := S2
    clear S2
    refine t_alt ?_ ?_
    · refine t_call Try.call46 rfl (va1 (by first | assumption | exact VA.below (by assumption) B) fun cs h => to_seg _ cs _ h (by omega)) ?_ rfl rfl
      rintro e w15 ⟨cs27, fp27, rfl, hO27, x16⟩
      refine ⟨_, rfl, x16, ?_⟩
      have S := S.add (o := tyO segT _ _) x16 hO27
      have B := bx Hb B x16
      obtain ⟨u27_2, heq, S2⟩ := S.segOpen
      subst heq
      have S := S2
      clear S2
      refine t_alt ?_ ?_
      · refine t_call Try.call50 rfl (spec_JoinUpDown _ _ _ _ _ (seg_mkv (S.tail.sl)) (seg_mkv (S.sl)) (by omega) (by omega)) ?_ rfl rfl
        rintro e w17 ⟨cs28, fp28, rfl, hO28, x18⟩
        refine ⟨_, rfl, x18, ?_⟩
        have S := S.add (o := tyO pathT _ _) x18 hO28
        have B := bx Hb B x18
        obtain ⟨u28_0, heq, S2⟩ := S.pathOpen
        subst heq
        have S := S2
        clear S2
        refine t_alloc S z_path rfl ?_ rfl rfl
        intro g6 w19 x20 S
        have B := bx Hb B x20
        refine t_stn S sb_path rfl rfl rfl rfl (by intro zz hu; have hu : zz ∈ ([u28_0] : List Value) := hu; simp only [List.mem_cons, List.not_mem_nil, or_false] at hu; rcases hu with rfl <;> first | rfl | exact (SlR.cells (by first | assumption | exact S.tail.sl | exact S.tail.tail.sl | exact S.tail.tail.tail.sl | exact S.tail.tail.tail.tail.sl | exact S.tail.tail.tail.tail.tail.sl | exact S.tail.tail.tail.tail.tail.tail.sl | exact S.tail.tail.tail.tail.tail.tail.tail.sl | exact S.tail.tail.tail.tail.tail.tail.tail.tail.sl)).2) ?_
        intro w21 b22 S
        have B := B.trans b22
        refine t_done' ?_
        refine x_seq ?_
        refine w_seq ?_
        refine w_region ?_
        refine t_lda (by assumption) ab_l_seg sb_l_seg B rfl ?_ rfl
        intro v29 hv29
        obtain ⟨v29_2, rfl, hv29_2⟩ := seg_va hv29
        refine t_call Try.call46 rfl (va1 (by first | assumption | exact VA.below (by assumption) B) fun cs h => to_seg _ cs _ h (by omega)) ?_ rfl rfl
        rintro e w23 ⟨cs30, fp30, rfl, hO30, x24⟩
        refine ⟨_, rfl, x24, ?_⟩
        have S := S.add (o := tyO segT _ _) x24 hO30
        have B := bx Hb B x24
        obtain ⟨u30_2, heq, S2⟩ := S.segOpen
        subst heq
        have S := S2
        clear S2
        refine t_alloc S z_seg rfl ?_ rfl rfl
        intro g7 w25 x26 S
        have B := bx Hb B x26
        refine t_stn S sb_seg rfl rfl rfl rfl (by intro zz hu; have hu : zz ∈ ([I d0.ts, I d0.beta, u30_2] : List Value) := hu; simp only [List.mem_cons, List.not_mem_nil, or_false] at hu; rcases hu with rfl | rfl | rfl <;> first | rfl | exact (SlR.cells (by first | assumption | exact S.tail.sl | exact S.tail.tail.sl | exact S.tail.tail.tail.sl | exact S.tail.tail.tail.tail.sl | exact S.tail.tail.tail.tail.tail.sl | exact S.tail.tail.tail.tail.tail.tail.sl | exact S.tail.tail.tail.tail.tail.tail.tail.sl | exact S.tail.tail.tail.tail.tail.tail.tail.tail.sl)).2) ?_
        intro w27 b28 S
        have B := B.trans b28
        refine t_done ?_
        refine x_seq ?_
        refine w_seq ?_
        refine w_region ?_
        refine t_lda (by assumption) ab_l_seg sb_l_seg B rfl ?_ rfl
        intro v31 hv31
        obtain ⟨v31_2, rfl, hv31_2⟩ := seg_va hv31
        refine t_call Try.call46 rfl (va1 (by first | assumption | exact VA.below (by assumption) B) fun cs h => to_seg _ cs _ h (by omega)) ?_ rfl rfl
        rintro e w29 ⟨cs32, fp32, rfl, hO32, x30⟩
        refine ⟨_, rfl, x30, ?_⟩
        have S := S.add (o := tyO segT _ _) x30 hO32
        have B := bx Hb B x30
        obtain ⟨u32_2, heq, S2⟩ := S.segOpen
        subst heq
        have S := S2
        clear S2
        refine t_alloc S z_seg rfl ?_ rfl rfl
        intro g8 w31 x32 S
        have B := bx Hb B x32
        refine t_stn S sb_seg rfl rfl rfl rfl (by intro zz hu; have hu : zz ∈ ([I d1.ts, I d1.beta, u32_2] : List Value) := hu; simp only [List.mem_cons, List.not_mem_nil, or_false] at hu; rcases hu with rfl | rfl | rfl <;> first | rfl | exact (SlR.cells (by first | assumption | exact S.tail.sl | exact S.tail.tail.sl | exact S.tail.tail.tail.sl | exact S.tail.tail.tail.tail.sl | exact S.tail.tail.tail.tail.tail.sl | exact S.tail.tail.tail.tail.tail.tail.sl | exact S.tail.tail.tail.tail.tail.tail.tail.sl | exact S.tail.tail.tail.tail.tail.tail.tail.tail.sl)).2) ?_
        intro w33 b34 S
        have B := B.trans b34
        refine t_done ?_
        refine x_seq ?_
        refine w_seq ?_
        refine w_region ?_
        refine t_bxn S.tail.tail.box ab_seg sb_seg rfl rfl ?_ rfl
        refine t_bxn S.box ab_seg sb_seg rfl rfl ?_ rfl
        refine t_call Try.call51 rfl (impl_JoinUpDown _ _ _ _ _ (seg_mkv (S.tail.tail.tail.sl)) (seg_mkv (S.tail.sl)) (by omega) (by omega)) ?_ rfl rfl
        rintro e w35 ⟨cs35, fp35, rfl, hO35, x36⟩
        refine ⟨_, rfl, x36, ?_⟩
        have S := S.add (o := tyO pathT _ _) x36 hO35
        have B := bx Hb B x36
        obtain ⟨u35_0, heq, S2⟩ := S.pathOpen
        subst heq
        have S := S2
        clear S2
        refine t_alloc S z_path rfl ?_ rfl rfl
        intro g9 w37 x38 S
        have B := bx Hb B x38
        refine t_stn S sb_path rfl rfl rfl rfl (by intro zz hu; have hu : zz ∈ ([u35_0] : List Value) := hu; simp only [List.mem_cons, List.not_mem_nil, or_false] at hu; rcases hu with rfl <;> first | rfl | exact (SlR.cells (by first | assumption | exact S.tail.sl | exact S.tail.tail.sl | exact S.tail.tail.tail.sl | exact S.tail.tail.tail.tail.sl | exact S.tail.tail.tail.tail.tail.sl | exact S.tail.tail.tail.tail.tail.tail.sl | exact S.tail.tail.tail.tail.tail.tail.tail.sl | exact S.tail.tail.tail.tail.tail.tail.tail.tail.sl)).2) ?_
        intro w39 b40 S
        have B := B.trans b40
        refine t_done ?_
        refine x_seq ?_
        refine w_seq ?_
        refine w_seq ?_
        refine w_region ?_
        refine t_bxn S.box ab_path sb_path rfl rfl ?_ rfl
        refine t_bxn S.tail.tail.tail.tail.tail.tail.box ab_path sb_path rfl rfl ?_ rfl
        refine t_callx Try.call20 rfl (eqv_path _ _ _ _ (path_mkv (S.tail.sl)) (path_mkv (S.tail.tail.tail.tail.tail.tail.tail.sl)) (ok_path_big (by omega))) ?_ rfl rfl
        intro w41 x42
        have B := bx Hb B x42
        have S := S.below x42
        refine t_notb rfl ?_ rfl
        refine t_done ?_
        refine x_seq ?_
        refine w_no rfl ?_
        refine w_skip ?_
        refine x_seq ?_
        refine w_seq ?_
        refine w_seq ?_
        refine w_draw (.st .take 0 (.st .take 1 (.st .run 2 (.st .run 3 (.st .take 4 .done))))) mixed (by kernel_rfl) ?_
        intro w43 x44
        have B := bx Hb B x44
        have S := S.below x44
        refine t_bxn S.tail.tail.tail.tail.box ab_seg sb_seg rfl rfl ?_ rfl
        refine t_lda (by assumption) ab_l_seg sb_l_seg B rfl ?_ rfl
        intro v41 hv41
        obtain ⟨v41_2, rfl, hv41_2⟩ := seg_va hv41
        refine t_call Try.call46 rfl (va1 (by first | assumption | exact VA.below (by assumption) B) fun cs h => to_seg _ cs _ h (by omega)) ?_ rfl rfl
        rintro e w45 ⟨cs42, fp42, rfl, hO42, x46⟩
        refine ⟨_, rfl, x46, ?_⟩
        have S := S.add (o := tyO segT _ _) x46 hO42
        have B := bx Hb B x46
        obtain ⟨u42_2, heq, S2⟩ := S.segOpen
        subst heq
        have S := S2
        clear S2
        refine t_callx Try.call48 rfl (eqv_seg _ _ _ _ (seg_mkv (S.tail.tail.tail.tail.tail.tail.sl)) (seg_mkv (S.sl)) (ok_seg_sz (by omega))) ?_ rfl rfl
        intro w47 x48
        have B := bx Hb B x48
        have S := S.below x48
        refine t_notb rfl ?_ rfl
        refine t_done' ?_
        refine x_seq ?_
        refine w_no rfl ?_
        refine w_skip ?_
        refine x_seq ?_
        refine w_seq ?_
        refine w_seq ?_
        refine w_draw (.st .take 0 (.st .take 1 (.st .run 2 (.st .run 3 (.st .take 4 .done))))) mixed (by kernel_rfl) ?_
        intro w49 x50
        have B := bx Hb B x50
        have S := S.below x50
        refine t_bxn S.tail.tail.tail.box ab_seg sb_seg rfl rfl ?_ rfl
        refine t_lda (by assumption) ab_l_seg sb_l_seg B rfl ?_ rfl
        intro v46 hv46
        obtain ⟨v46_2, rfl, hv46_2⟩ := seg_va hv46
        refine t_call Try.call46 rfl (va1 (by first | assumption | exact VA.below (by assumption) B) fun cs h => to_seg _ cs _ h (by omega)) ?_ rfl rfl
        rintro e w51 ⟨cs47, fp47, rfl, hO47, x52⟩
        refine ⟨_, rfl, x52, ?_⟩
        have S := S.add (o := tyO segT _ _) x52 hO47
        have B := bx Hb B x52
        obtain ⟨u47_2, heq, S2⟩ := S.segOpen
        subst heq
        have S := S2
        clear S2
        refine t_callx Try.call48 rfl (eqv_seg _ _ _ _ (seg_mkv (S.tail.tail.tail.tail.tail.sl)) (seg_mkv (S.sl)) (ok_seg_sz (by omega))) ?_ rfl rfl
        intro w53 x54
        have B := bx Hb B x54
        have S := S.below x54
        refine t_notb rfl ?_ rfl
        refine t_done' ?_
        refine x_seq ?_
        refine w_no rfl ?_
        refine w_skip ?_
        refine x_seq ?_
        refine w_seq ?_
        refine w_region ?_
        refine t_assign rfl ?_ rfl
        refine t_done ?_
        refine x_seq ?_
        refine w_seq ?_
        refine w_region ?_
        refine t_bxn S.tail.tail.tail.tail.tail.tail.box ab_seg sb_seg rfl rfl ?_ rfl
        refine t_move rfl ?_ rfl
        have S := S.f7
        refine t_callf Try.call49 rfl (mark_segm _ _ _ _ _ _ S (by omega) (by omega)) ?_ rfl
        rintro e w55 ⟨rfl, S, x56⟩
        refine ⟨_, rfl, ?_⟩
        have B := B.trans x56
        refine t_assign rfl ?_ rfl
        refine t_done ?_
        refine x_seq ?_
        refine w_seq ?_
        refine w_region ?_
        refine t_bxn S.tail.tail.tail.tail.tail.box ab_seg sb_seg rfl rfl ?_ rfl
        refine t_move rfl ?_ rfl
        have S := S.f6
        refine t_callf Try.call49 rfl (mark_segm _ _ _ _ _ _ S (by omega) (by omega)) ?_ rfl
        rintro e w57 ⟨rfl, S, x58⟩
        refine ⟨_, rfl, ?_⟩
        have B := B.trans x58
        refine t_assign rfl ?_ rfl
        refine t_done ?_
        refine x_seq ?_
        refine w_seq ?_
        refine w_seq ?_
        refine w_region ?_
        refine t_move rfl ?_ rfl
        refine t_lss rfl rfl ?_ rfl
        refine t_move rfl ?_ rfl
        refine t_partp (t := 58) rfl (fun h => (by exfalso; omega)) ?_
        intro hc58
        refine t_on rfl rfl ?_
        refine t_bxn S.tail.tail.tail.tail.box ab_path sb_path rfl rfl ?_ rfl
        refine t_on rfl rfl ?_
        refine t_bxn S.tail.tail.tail.tail.tail.tail.tail.tail.box ab_path sb_path rfl rfl ?_ rfl
        refine t_on rfl rfl ?_
        refine t_callx Try.call20 rfl (eqv_path _ _ _ _ (path_mkv (S.tail.tail.tail.tail.tail.sl)) (path_mkv (S.tail.tail.tail.tail.tail.tail.tail.tail.tail.sl)) (ok_path_big (by omega))) ?_ rfl rfl
        intro w59 x60
        have B := bx Hb B x60
        have S := S.below x60
        refine t_on rfl rfl ?_
        refine t_notb rfl ?_ rfl
        refine t_pickf rfl rfl ?_ rfl
        refine t_done ?_
        refine x_seq ?_
        refine w_no rfl ?_
        refine w_skip ?_
        refine x_seq ?_
        refine w_seq ?_
        refine w_region ?_
        refine t_assign rfl ?_ rfl
        refine t_done ?_
        refine x_seq ?_
        refine w_seq ?_
        refine w_region ?_
        refine t_bxn S.tail.tail.tail.tail.box ab_path sb_path rfl rfl ?_ rfl
        refine t_move rfl ?_ rfl
        have S := S.f5
        refine t_callf Try.call21 rfl (mark_path _ _ _ _ _ _ S (by omega) (by omega)) ?_ rfl
        rintro e w61 ⟨rfl, S, x62⟩
        refine ⟨_, rfl, ?_⟩
        have B := B.trans x62
        refine t_assign rfl ?_ rfl
        refine t_done ?_
        refine x_seq ?_
        refine w_seq ?_
        refine w_region ?_
        refine t_assign rfl ?_ rfl
        refine t_done ?_
        refine x_seq ?_
        refine w_seq ?_
        refine w_region ?_
        refine t_bxn S.tail.tail.tail.tail.tail.box ab_path sb_path rfl rfl ?_ rfl
        refine t_move rfl ?_ rfl
        refine t_callx Try.call29 rfl (held_path _ _ _ _ (S.sl) (by omega) (by omega)) ?_ rfl rfl
        intro w63 x64
        have B := bx Hb B x64
        have S := S.below x64
        refine t_assign rfl ?_ rfl
        refine t_done ?_
        refine x_seq ?_
        refine w_seq ?_
        refine w_seq ?_
        refine w_region ?_
        refine t_move rfl ?_ rfl
        refine t_lss rfl rfl ?_ rfl
        refine t_done ?_
        refine x_seq ?_
        refine w_if rfl (fun h => (by exfalso; omega)) ?_
        intro hc71
        refine w_skip ?_
        refine x_seq ?_
        refine w_seq ?_
        refine w_seq ?_
        refine w_region ?_
        refine t_move rfl ?_ rfl
        refine t_move rfl ?_ rfl
        refine t_neq rfl rfl ?_ rfl
        refine t_done ?_
        refine x_seq ?_
        refine w_if rfl (fun h => absurd rfl h) ?_
        intro _
        refine w_skip ?_
        refine x_seq ?_
        refine w_seq ?_
        refine w_draw (.st .take 0 (.st .take 2 (.alt (.st .run 1 (.alt (.st .run 3 (.alt (.st .run 4 (.st .run 5 (.st .fin 6 .done))) (.st .run 5 (.st .run 4 (.st .fin 6 .done))))) (.st .run 5 (.st .run 3 (.st .run 4 (.st .fin 6 .done)))))) (.st .run 5 (.st .run 1 (.st .run 3 (.st .run 4 (.st .fin 6 .done)))))))) mixed (by kernel_rfl) ?_
        intro w65 x66
        have B := bx Hb B x66
        have S := S.below x66
        refine t_lda (by assumption) ab_l_seg sb_l_seg B rfl ?_ rfl
        intro v75 hv75
        obtain ⟨v75_2, rfl, hv75_2⟩ := seg_va hv75
        refine t_lda (by assumption) ab_l_seg sb_l_seg B rfl ?_ rfl
        intro v77 hv77
        obtain ⟨v77_2, rfl, hv77_2⟩ := seg_va hv77
        refine t_alt ?_ ?_
        · refine t_call Try.call46 rfl (va1 (by first | assumption | exact VA.below (by assumption) B) fun cs h => to_seg _ cs _ h (by omega)) ?_ rfl rfl
          rintro e w67 ⟨cs76, fp76, rfl, hO76, x68⟩
          refine ⟨_, rfl, x68, ?_⟩
          have S := S.add (o := tyO segT _ _) x68 hO76
          have B := bx Hb B x68
          obtain ⟨u76_2, heq, S2⟩ := S.segOpen
          subst heq
          have S := S2
          clear S2
          refine t_alt ?_ ?_
          · refine t_call Try.call46 rfl (va1 (by first | assumption | exact VA.below (by assumption) B) fun cs h => to_seg _ cs _ h (by omega)) ?_ rfl rfl
            rintro e w69 ⟨cs78, fp78, rfl, hO78, x70⟩
            refine ⟨_, rfl, x70, ?_⟩
            have S := S.add (o := tyO segT _ _) x70 hO78
            have B := bx Hb B x70
            obtain ⟨u78_2, heq, S2⟩ := S.segOpen
            subst heq
            have S := S2
            clear S2
            refine t_alt ?_ ?_
            · refine t_call Try.call51 rfl (impl_JoinUpDown _ _ _ _ _ (seg_mkv (S.tail.sl)) (seg_mkv (S.sl)) (by omega) (by omega)) ?_ rfl rfl
              rintro e w71 ⟨cs79, fp79, rfl, hO79, x72⟩
              refine ⟨_, rfl, x72, ?_⟩
              have S := S.add (o := tyO pathT _ _) x72 hO79
              have B := bx Hb B x72
              obtain ⟨u79_0, heq, S2⟩ := S.pathOpen
              subst heq
              have S := S2
              clear S2
              refine t_alloc S z_path rfl ?_ rfl rfl
              intro g13 w73 x74 S
              have B := bx Hb B x74
              refine t_stn S sb_path rfl rfl rfl rfl (by intro zz hu; have hu : zz ∈ ([u79_0] : List Value) := hu; simp only [List.mem_cons, List.not_mem_nil, or_false] at hu; rcases hu with rfl <;> first | rfl | exact (SlR.cells (by first | assumption | exact S.tail.sl | exact S.tail.tail.sl | exact S.tail.tail.tail.sl | exact S.tail.tail.tail.tail.sl | exact S.tail.tail.tail.tail.tail.sl | exact S.tail.tail.tail.tail.tail.tail.sl | exact S.tail.tail.tail.tail.tail.tail.tail.sl | exact S.tail.tail.tail.tail.tail.tail.tail.tail.sl)).2) ?_
              intro w75 b76 S
              have B := B.trans b76
              refine t_done' ?_
              refine x_seq ?_
              refine w_seq ?_
              refine w_seq ?_
              refine w_region ?_
              refine t_bxn S.box ab_path sb_path rfl rfl ?_ rfl
              refine t_bxn S.tail.tail.tail.tail.tail.tail.tail.tail.tail.tail.tail.tail.box ab_path sb_path rfl rfl ?_ rfl
              refine t_callx Try.call20 rfl (eqv_path _ _ _ _ (path_mkv (S.tail.sl)) (path_mkv (S.tail.tail.tail.tail.tail.tail.tail.tail.tail.tail.tail.tail.tail.sl)) (ok_path_big (by omega))) ?_ rfl rfl
              intro w77 x78
              have B := bx Hb B x78
              have S := S.below x78
              refine t_notb rfl ?_ rfl
              refine t_done ?_
              refine x_seq ?_
              refine w_no rfl ?_
              refine w_skip ?_
              refine x_seq ?_
              refine w_seq ?_
              refine w_region ?_
              refine t_assign rfl ?_ rfl
              refine t_done ?_
              refine x_seq ?_
              refine w_seq ?_
              refine w_region ?_
              refine t_bxn S.tail.tail.tail.tail.tail.tail.tail.tail.tail.box ab_path sb_path rfl rfl ?_ rfl
              refine t_move rfl ?_ rfl
              refine t_callx Try.call29 rfl (held_path _ _ _ _ (S.tail.tail.tail.tail.sl) (by omega) (by omega)) ?_ rfl rfl
              intro w79 x80
              have B := bx Hb B x80
              have S := S.below x80
              refine t_assign rfl ?_ rfl
              refine t_done ?_
              refine x_seq ?_
              refine w_seq ?_
              refine w_seq ?_
              refine w_region ?_
              refine t_move rfl ?_ rfl
              refine t_lss rfl rfl ?_ rfl
              refine t_done ?_
              refine x_seq ?_
              refine w_if rfl (fun h => (by exfalso; omega)) ?_
              intro hc88
              refine w_skip ?_
              refine x_seq ?_
              refine w_seq ?_
              refine w_seq ?_
              refine w_region ?_
              refine t_move rfl ?_ rfl
              refine t_move rfl ?_ rfl
              refine t_neq rfl rfl ?_ rfl
              refine t_done ?_
              refine x_seq ?_
              refine w_if rfl (fun h => absurd rfl h) ?_
              intro _
              refine w_skip ?_
              refine x_seq ?_
              refine w_seq ?_
              refine w_region ?_
              refine t_assign rfl ?_ rfl
              refine t_done ?_
              refine x_seq ?_
              refine w_ret ?_
              refine x_ret1 rfl rfl ?_
              exact ⟨rfl, ext_trans X0 B⟩
            · refine t_alloc S z_path rfl ?_ rfl rfl
              intro g13 w81 x82 S
              have B := bx Hb B x82
              refine t_call Try.call51 rfl (impl_JoinUpDown _ _ _ _ _ (seg_mkv (S.tail.tail.sl)) (seg_mkv (S.tail.sl)) (by omega) (by omega)) ?_ rfl rfl
              rintro e w83 ⟨cs79, fp79, rfl, hO79, x84⟩
              refine ⟨_, rfl, x84, ?_⟩
              have S := S.add (o := tyO pathT _ _) x84 hO79
              have B := bx Hb B x84
              obtain ⟨u79_0, heq, S2⟩ := S.pathOpen
              subst heq
              have S := S2
              clear S2
              have S := S.f1
              refine t_stn S sb_path rfl rfl rfl rfl (by intro zz hu; have hu : zz ∈ ([u79_0] : List Value) := hu; simp only [List.mem_cons, List.not_mem_nil, or_false] at hu; rcases hu with rfl <;> first | rfl | exact (SlR.cells (by first | assumption | exact S.tail.sl | exact S.tail.tail.sl | exact S.tail.tail.tail.sl | exact S.tail.tail.tail.tail.sl | exact S.tail.tail.tail.tail.tail.sl | exact S.tail.tail.tail.tail.tail.tail.sl | exact S.tail.tail.tail.tail.tail.tail.tail.sl | exact S.tail.tail.tail.tail.tail.tail.tail.tail.sl)).2) ?_
              intro w85 b86 S
              have B := B.trans b86
              refine t_done' ?_
              refine x_seq ?_
              refine w_seq ?_
              refine w_seq ?_
              refine w_region ?_
              refine t_bxn S.box ab_path sb_path rfl rfl ?_ rfl
              refine t_bxn S.tail.tail.tail.tail.tail.tail.tail.tail.tail.tail.tail.tail.box ab_path sb_path rfl rfl ?_ rfl
              refine t_callx Try.call20 rfl (eqv_path _ _ _ _ (path_mkv (S.tail.sl)) (path_mkv (S.tail.tail.tail.tail.tail.tail.tail.tail.tail.tail.tail.tail.tail.sl)) (ok_path_big (by omega))) ?_ rfl rfl
              intro w87 x88
              have B := bx Hb B x88
              have S := S.below x88
              refine t_notb rfl ?_ rfl
              refine t_done ?_
              refine x_seq ?_
              refine w_no rfl ?_
              refine w_skip ?_
              refine x_seq ?_
              refine w_seq ?_
              refine w_region ?_
              refine t_assign rfl ?_ rfl
              refine t_done ?_
              refine x_seq ?_
              refine w_seq ?_
              refine w_region ?_
              refine t_bxn S.tail.tail.tail.tail.tail.tail.tail.tail.tail.box ab_path sb_path rfl rfl ?_ rfl
              refine t_move rfl ?_ rfl
              refine t_callx Try.call29 rfl (held_path _ _ _ _ (S.tail.tail.tail.tail.sl) (by omega) (by omega)) ?_ rfl rfl
              intro w89 x90
              have B := bx Hb B x90
              have S := S.below x90
              refine t_assign rfl ?_ rfl
              refine t_done ?_
              refine x_seq ?_
              refine w_seq ?_
              refine w_seq ?_
              refine w_region ?_
              refine t_move rfl ?_ rfl
              refine t_lss rfl rfl ?_ rfl
              refine t_done ?_
              refine x_seq ?_
              refine w_if rfl (fun h => (by exfalso; omega)) ?_
              intro hc88
              refine w_skip ?_
              refine x_seq ?_
              refine w_seq ?_
              refine w_seq ?_
              refine w_region ?_
              refine t_move rfl ?_ rfl
              refine t_move rfl ?_ rfl
              refine t_neq rfl rfl ?_ rfl
              refine t_done ?_
              refine x_seq ?_
              refine w_if rfl (fun h => absurd rfl h) ?_
              intro _
              refine w_skip ?_
              refine x_seq ?_
              refine w_seq ?_
              refine w_region ?_
              refine t_assign rfl ?_ rfl
              refine t_done ?_
              refine x_seq ?_
              refine w_ret ?_
              refine x_ret1 rfl rfl ?_
              exact ⟨rfl, ext_trans X0 B⟩
          · refine t_alloc S z_path rfl ?_ rfl rfl
            intro g13 w91 x92 S
            have B := bx Hb B x92
            refine t_call Try.call46 rfl (va1 (by first | assumption | exact VA.below (by assumption) B) fun cs h => to_seg _ cs _ h (by omega)) ?_ rfl rfl
            rintro e w93 ⟨cs78, fp78, rfl, hO78, x94⟩
            refine ⟨_, rfl, x94, ?_⟩
            have S := S.add (o := tyO segT _ _) x94 hO78
            have B := bx Hb B x94
            obtain ⟨u78_2, heq, S2⟩ := S.segOpen
            subst heq
            have S := S2
            clear S2
            refine t_call Try.call51 rfl (impl_JoinUpDown _ _ _ _ _ (seg_mkv (S.tail.tail.sl)) (seg_mkv (S.sl)) (by omega) (by omega)) ?_ rfl rfl
            rintro e w95 ⟨cs79, fp79, rfl, hO79, x96⟩
            refine ⟨_, rfl, x96, ?_⟩
            have S := S.add (o := tyO pathT _ _) x96 hO79
            have B := bx Hb B x96
            obtain ⟨u79_0, heq, S2⟩ := S.pathOpen
            subst heq
            have S := S2
            clear S2
            have S := S.f2
            refine t_stn S sb_path rfl rfl rfl rfl (by intro zz hu; have hu : zz ∈ ([u79_0] : List Value) := hu; simp only [List.mem_cons, List.not_mem_nil, or_false] at hu; rcases hu with rfl <;> first | rfl | exact (SlR.cells (by first | assumption | exact S.tail.sl | exact S.tail.tail.sl | exact S.tail.tail.tail.sl | exact S.tail.tail.tail.tail.sl | exact S.tail.tail.tail.tail.tail.sl | exact S.tail.tail.tail.tail.tail.tail.sl | exact S.tail.tail.tail.tail.tail.tail.tail.sl | exact S.tail.tail.tail.tail.tail.tail.tail.tail.sl)).2) ?_
            intro w97 b98 S
            have B := B.trans b98
            refine t_done' ?_
            refine x_seq ?_
            refine w_seq ?_
            refine w_seq ?_
            refine w_region ?_
            refine t_bxn S.box ab_path sb_path rfl rfl ?_ rfl
            refine t_bxn S.tail.tail.tail.tail.tail.tail.tail.tail.tail.tail.tail.tail.box ab_path sb_path rfl rfl ?_ rfl
            refine t_callx Try.call20 rfl (eqv_path _ _ _ _ (path_mkv (S.tail.sl)) (path_mkv (S.tail.tail.tail.tail.tail.tail.tail.tail.tail.tail.tail.tail.tail.sl)) (ok_path_big (by omega))) ?_ rfl rfl
            intro w99 x100
            have B := bx Hb B x100
            have S := S.below x100
            refine t_notb rfl ?_ rfl
            refine t_done ?_
            refine x_seq ?_
            refine w_no rfl ?_
            refine w_skip ?_
            refine x_seq ?_
            refine w_seq ?_
            refine w_region ?_
            refine t_assign rfl ?_ rfl
            refine t_done ?_
            refine x_seq ?_
            refine w_seq ?_
            refine w_region ?_
            refine t_bxn S.tail.tail.tail.tail.tail.tail.tail.tail.tail.box ab_path sb_path rfl rfl ?_ rfl
            refine t_move rfl ?_ rfl
            refine t_callx Try.call29 rfl (held_path _ _ _ _ (S.tail.tail.tail.tail.sl) (by omega) (by omega)) ?_ rfl rfl
            intro w101 x102
            have B := bx Hb B x102
            have S := S.below x102
            refine t_assign rfl ?_ rfl
            refine t_done ?_
            refine x_seq ?_
            refine w_seq ?_
            refine w_seq ?_
            refine w_region ?_
            refine t_move rfl ?_ rfl
            refine t_lss rfl rfl ?_ rfl
            refine t_done ?_
            refine x_seq ?_
            refine w_if rfl (fun h => (by exfalso; omega)) ?_
            intro hc88
            refine w_skip ?_
            refine x_seq ?_
            refine w_seq ?_
            refine w_seq ?_
            refine w_region ?_
            refine t_move rfl ?_ rfl
            refine t_move rfl ?_ rfl
            refine t_neq rfl rfl ?_ rfl
            refine t_done ?_
            refine x_seq ?_
            refine w_if rfl (fun h => absurd rfl h) ?_
            intro _
            refine w_skip ?_
            refine x_seq ?_
            refine w_seq ?_
            refine w_region ?_
            refine t_assign rfl ?_ rfl
            refine t_done ?_
            refine x_seq ?_
            refine w_ret ?_
            refine x_ret1 rfl rfl ?_
            exact ⟨rfl, ext_trans X0 B⟩
        · refine t_alloc S z_path rfl ?_ rfl rfl
          intro g13 w103 x104 S
          have B := bx Hb B x104
          refine t_call Try.call46 rfl (va1 (by first | assumption | exact VA.below (by assumption) B) fun cs h => to_seg _ cs _ h (by omega)) ?_ rfl rfl
          rintro e w105 ⟨cs76, fp76, rfl, hO76, x106⟩
          refine ⟨_, rfl, x106, ?_⟩
          have S := S.add (o := tyO segT _ _) x106 hO76
          have B := bx Hb B x106
          obtain ⟨u76_2, heq, S2⟩ := S.segOpen
          subst heq
          have S := S2
          clear S2
          refine t_call Try.call46 rfl (va1 (by first | assumption | exact VA.below (by assumption) B) fun cs h => to_seg _ cs _ h (by omega)) ?_ rfl rfl
          rintro e w107 ⟨cs78, fp78, rfl, hO78, x108⟩
          refine ⟨_, rfl, x108, ?_⟩
          have S := S.add (o := tyO segT _ _) x108 hO78
          have B := bx Hb B x108
          obtain ⟨u78_2, heq, S2⟩ := S.segOpen
          subst heq
          have S := S2
          clear S2
          refine t_call Try.call51 rfl (impl_JoinUpDown _ _ _ _ _ (seg_mkv (S.tail.sl)) (seg_mkv (S.sl)) (by omega) (by omega)) ?_ rfl rfl
          rintro e w109 ⟨cs79, fp79, rfl, hO79, x110⟩
          refine ⟨_, rfl, x110, ?_⟩
          have S := S.add (o := tyO pathT _ _) x110 hO79
          have B := bx Hb B x110
          obtain ⟨u79_0, heq, S2⟩ := S.pathOpen
          subst heq
          have S := S2
          clear S2
          have S := S.f3
          refine t_stn S sb_path rfl rfl rfl rfl (by intro zz hu; have hu : zz ∈ ([u79_0] : List Value) := hu; simp only [List.mem_cons, List.not_mem_nil, or_false] at hu; rcases hu with rfl <;> first | rfl | exact (SlR.cells (by first | assumption | exact S.tail.sl | exact S.tail.tail.sl | exact S.tail.tail.tail.sl | exact S.tail.tail.tail.tail.sl | exact S.tail.tail.tail.tail.tail.sl | exact S.tail.tail.tail.tail.tail.tail.sl | exact S.tail.tail.tail.tail.tail.tail.tail.sl | exact S.tail.tail.tail.tail.tail.tail.tail.tail.sl)).2) ?_
          intro w111 b112 S
          have B := B.trans b112
          refine t_done' ?_
          refine x_seq ?_
          refine w_seq ?_
          refine w_seq ?_
          refine w_region ?_
          refine t_bxn S.box ab_path sb_path rfl rfl ?_ rfl
          refine t_bxn S.tail.tail.tail.tail.tail.tail.tail.tail.tail.tail.tail.tail.box ab_path sb_path rfl rfl ?_ rfl
          refine t_callx Try.call20 rfl (eqv_path _ _ _ _ (path_mkv (S.tail.sl)) (path_mkv (S.tail.tail.tail.tail.tail.tail.tail.tail.tail.tail.tail.tail.tail.sl)) (ok_path_big (by omega))) ?_ rfl rfl
          intro w113 x114
          have B := bx Hb B x114
          have S := S.below x114
          refine t_notb rfl ?_ rfl
          refine t_done ?_
          refine x_seq ?_
          refine w_no rfl ?_
          refine w_skip ?_
          refine x_seq ?_
          refine w_seq ?_
          refine w_region ?_
          refine t_assign rfl ?_ rfl
          refine t_done ?_
          refine x_seq ?_
          refine w_seq ?_
          refine w_region ?_
          refine t_bxn S.tail.tail.tail.tail.tail.tail.tail.tail.tail.box ab_path sb_path rfl rfl ?_ rfl
          refine t_move rfl ?_ rfl
          refine t_callx Try.call29 rfl (held_path _ _ _ _ (S.tail.tail.tail.tail.sl) (by omega) (by omega)) ?_ rfl rfl
          intro w115 x116
          have B := bx Hb B x116
          have S := S.below x116
          refine t_assign rfl ?_ rfl
          refine t_done ?_
          refine x_seq ?_
          refine w_seq ?_
          refine w_seq ?_
          refine w_region ?_
          refine t_move rfl ?_ rfl
          refine t_lss rfl rfl ?_ rfl
          refine t_done ?_
          refine x_seq ?_
          refine w_if rfl (fun h => (by exfalso; omega)) ?_
          intro hc88
          refine w_skip ?_
          refine x_seq ?_
          refine w_seq ?_
          refine w_seq ?_
          refine w_region ?_
          refine t_move rfl ?_ rfl
          refine t_move rfl ?_ rfl
          refine t_neq rfl rfl ?_ rfl
          refine t_done ?_
          refine x_seq ?_
          refine w_if rfl (fun h => absurd rfl h) ?_
          intro _
          refine w_skip ?_
          refine x_seq ?_
          refine w_seq ?_
          refine w_region ?_
          refine t_assign rfl ?_ rfl
          refine t_done ?_
          refine x_seq ?_
          refine w_ret ?_
          refine x_ret1 rfl rfl ?_
          exact ⟨rfl, ext_trans X0 B⟩
      · refine t_alloc S z_path rfl ?_ rfl rfl
        intro g6 w117 x118 S
        have B := bx Hb B x118
        refine t_call Try.call50 rfl (spec_JoinUpDown _ _ _ _ _ (seg_mkv (S.tail.tail.sl)) (seg_mkv (S.tail.sl)) (by omega) (by omega)) ?_ rfl rfl
        rintro e w119 ⟨cs28, fp28, rfl, hO28, x120⟩
        refine ⟨_, rfl, x120, ?_⟩
        have S := S.add (o := tyO pathT _ _) x120 hO28
        have B := bx Hb B x120
        obtain ⟨u28_0, heq, S2⟩ := S.pathOpen
        subst heq
        have S := S2
        clear S2
        have S := S.f1
        refine t_stn S sb_path rfl rfl rfl rfl (by intro zz hu; have hu : zz ∈ ([u28_0] : List Value) := hu; simp only [List.mem_cons, List.not_mem_nil, or_false] at hu; rcases hu with rfl <;> first | rfl | exact (SlR.cells (by first | assumption | exact S.tail.sl | exact S.tail.tail.sl | exact S.tail.tail.tail.sl | exact S.tail.tail.tail.tail.sl | exact S.tail.tail.tail.tail.tail.sl | exact S.tail.tail.tail.tail.tail.tail.sl | exact S.tail.tail.tail.tail.tail.tail.tail.sl | exact S.tail.tail.tail.tail.tail.tail.tail.tail.sl)).2) ?_
        intro w121 b122 S
        have B := B.trans b122
        refine t_done' ?_
        refine x_seq ?_
        refine w_seq ?_
        refine w_region ?_
        refine t_lda (by assumption) ab_l_seg sb_l_seg B rfl ?_ rfl
        intro v29 hv29
        obtain ⟨v29_2, rfl, hv29_2⟩ := seg_va hv29
        refine t_call Try.call46 rfl (va1 (by first | assumption | exact VA.below (by assumption) B) fun cs h => to_seg _ cs _ h (by omega)) ?_ rfl rfl
        rintro e w123 ⟨cs30, fp30, rfl, hO30, x124⟩
        refine ⟨_, rfl, x124, ?_⟩
        have S := S.add (o := tyO segT _ _) x124 hO30
        have B := bx Hb B x124
        obtain ⟨u30_2, heq, S2⟩ := S.segOpen
        subst heq
        have S := S2
        clear S2
        refine t_alloc S z_seg rfl ?_ rfl rfl
        intro g7 w125 x126 S
        have B := bx Hb B x126
        refine t_stn S sb_seg rfl rfl rfl rfl (by intro zz hu; have hu : zz ∈ ([I d0.ts, I d0.beta, u30_2] : List Value) := hu; simp only [List.mem_cons, List.not_mem_nil, or_false] at hu; rcases hu with rfl | rfl | rfl <;> first | rfl | exact (SlR.cells (by first | assumption | exact S.tail.sl | exact S.tail.tail.sl | exact S.tail.tail.tail.sl | exact S.tail.tail.tail.tail.sl | exact S.tail.tail.tail.tail.tail.sl | exact S.tail.tail.tail.tail.tail.tail.sl | exact S.tail.tail.tail.tail.tail.tail.tail.sl | exact S.tail.tail.tail.tail.tail.tail.tail.tail.sl)).2) ?_
        intro w127 b128 S
        have B := B.trans b128
        refine t_done ?_
        refine x_seq ?_
        refine w_seq ?_
        refine w_region ?_
        refine t_lda (by assumption) ab_l_seg sb_l_seg B rfl ?_ rfl
        intro v31 hv31
        obtain ⟨v31_2, rfl, hv31_2⟩ := seg_va hv31
        refine t_call Try.call46 rfl (va1 (by first | assumption | exact VA.below (by assumption) B) fun cs h => to_seg _ cs _ h (by omega)) ?_ rfl rfl
        rintro e w129 ⟨cs32, fp32, rfl, hO32, x130⟩
        refine ⟨_, rfl, x130, ?_⟩
        have S := S.add (o := tyO segT _ _) x130 hO32
        have B := bx Hb B x130
        obtain ⟨u32_2, heq, S2⟩ := S.segOpen
        subst heq
        have S := S2
        clear S2
        refine t_alloc S z_seg rfl ?_ rfl rfl
        intro g8 w131 x132 S
        have B := bx Hb B x132
        refine t_stn S sb_seg rfl rfl rfl rfl (by intro zz hu; have hu : zz ∈ ([I d1.ts, I d1.beta, u32_2] : List Value) := hu; simp only [List.mem_cons, List.not_mem_nil, or_false] at hu; rcases hu with rfl | rfl | rfl <;> first | rfl | exact (SlR.cells (by first | assumption | exact S.tail.sl | exact S.tail.tail.sl | exact S.tail.tail.tail.sl | exact S.tail.tail.tail.tail.sl | exact S.tail.tail.tail.tail.tail.sl | exact S.tail.tail.tail.tail.tail.tail.sl | exact S.tail.tail.tail.tail.tail.tail.tail.sl | exact S.tail.tail.tail.tail.tail.tail.tail.tail.sl)).2) ?_
        intro w133 b134 S
        have B := B.trans b134
        refine t_done ?_
        refine x_seq ?_
        refine w_seq ?_
        refine w_region ?_
        refine t_bxn S.tail.tail.box ab_seg sb_seg rfl rfl ?_ rfl
        refine t_bxn S.box ab_seg sb_seg rfl rfl ?_ rfl
        refine t_call Try.call51 rfl (impl_JoinUpDown _ _ _ _ _ (seg_mkv (S.tail.tail.tail.sl)) (seg_mkv (S.tail.sl)) (by omega) (by omega)) ?_ rfl rfl
        rintro e w135 ⟨cs35, fp35, rfl, hO35, x136⟩
        refine ⟨_, rfl, x136, ?_⟩
        have S := S.add (o := tyO pathT _ _) x136 hO35
        have B := bx Hb B x136
        obtain ⟨u35_0, heq, S2⟩ := S.pathOpen
        subst heq
        have S := S2
        clear S2
        refine t_alloc S z_path rfl ?_ rfl rfl
        intro g9 w137 x138 S
        have B := bx Hb B x138
        refine t_stn S sb_path rfl rfl rfl rfl (by intro zz hu; have hu : zz ∈ ([u35_0] : List Value) := hu; simp only [List.mem_cons, List.not_mem_nil, or_false] at hu; rcases hu with rfl <;> first | rfl | exact (SlR.cells (by first | assumption | exact S.tail.sl | exact S.tail.tail.sl | exact S.tail.tail.tail.sl | exact S.tail.tail.tail.tail.sl | exact S.tail.tail.tail.tail.tail.sl | exact S.tail.tail.tail.tail.tail.tail.sl | exact S.tail.tail.tail.tail.tail.tail.tail.sl | exact S.tail.tail.tail.tail.tail.tail.tail.tail.sl)).2) ?_
        intro w139 b140 S
        have B := B.trans b140
        refine t_done ?_
        refine x_seq ?_
        refine w_seq ?_
        refine w_seq ?_
        refine w_region ?_
        refine t_bxn S.box ab_path sb_path rfl rfl ?_ rfl
        refine t_bxn S.tail.tail.tail.tail.tail.tail.box ab_path sb_path rfl rfl ?_ rfl
        refine t_callx Try.call20 rfl (eqv_path _ _ _ _ (path_mkv (S.tail.sl)) (path_mkv (S.tail.tail.tail.tail.tail.tail.tail.sl)) (ok_path_big (by omega))) ?_ rfl rfl
        intro w141 x142
        have B := bx Hb B x142
        have S := S.below x142
        refine t_notb rfl ?_ rfl
        refine t_done ?_
        refine x_seq ?_
        refine w_no rfl ?_
        refine w_skip ?_
        refine x_seq ?_
        refine w_seq ?_
        refine w_seq ?_
        refine w_draw (.st .take 0 (.st .take 1 (.st .run 2 (.st .run 3 (.st .take 4 .done))))) mixed (by kernel_rfl) ?_
        intro w143 x144
        have B := bx Hb B x144
        have S := S.below x144
        refine t_bxn S.tail.tail.tail.tail.box ab_seg sb_seg rfl rfl ?_ rfl
        refine t_lda (by assumption) ab_l_seg sb_l_seg B rfl ?_ rfl
        intro v41 hv41
        obtain ⟨v41_2, rfl, hv41_2⟩ := seg_va hv41
        refine t_call Try.call46 rfl (va1 (by first | assumption | exact VA.below (by assumption) B) fun cs h => to_seg _ cs _ h (by omega)) ?_ rfl rfl
        rintro e w145 ⟨cs42, fp42, rfl, hO42, x146⟩
        refine ⟨_, rfl, x146, ?_⟩
        have S := S.add (o := tyO segT _ _) x146 hO42
        have B := bx Hb B x146
        obtain ⟨u42_2, heq, S2⟩ := S.segOpen
        subst heq
        have S := S2
        clear S2
        refine t_callx Try.call48 rfl (eqv_seg _ _ _ _ (seg_mkv (S.tail.tail.tail.tail.tail.tail.sl)) (seg_mkv (S.sl)) (ok_seg_sz (by omega))) ?_ rfl rfl
        intro w147 x148
        have B := bx Hb B x148
        have S := S.below x148
        refine t_notb rfl ?_ rfl
        refine t_done' ?_
        refine x_seq ?_
        refine w_no rfl ?_
        refine w_skip ?_
        refine x_seq ?_
        refine w_seq ?_
        refine w_seq ?_
        refine w_draw (.st .take 0 (.st .take 1 (.st .run 2 (.st .run 3 (.st .take 4 .done))))) mixed (by kernel_rfl) ?_
        intro w149 x150
        have B := bx Hb B x150
        have S := S.below x150
        refine t_bxn S.tail.tail.tail.box ab_seg sb_seg rfl rfl ?_ rfl
        refine t_lda (by assumption) ab_l_seg sb_l_seg B rfl ?_ rfl
        intro v46 hv46
        obtain ⟨v46_2, rfl, hv46_2⟩ := seg_va hv46
        refine t_call Try.call46 rfl (va1 (by first | assumption | exact VA.below (by assumption) B) fun cs h => to_seg _ cs _ h (by omega)) ?_ rfl rfl
        rintro e w151 ⟨cs47, fp47, rfl, hO47, x152⟩
        refine ⟨_, rfl, x152, ?_⟩
        have S := S.add (o := tyO segT _ _) x152 hO47
        have B := bx Hb B x152
        obtain ⟨u47_2, heq, S2⟩ := S.segOpen
        subst heq
        have S := S2
        clear S2
        refine t_callx Try.call48 rfl (eqv_seg _ _ _ _ (seg_mkv (S.tail.tail.tail.tail.tail.sl)) (seg_mkv (S.sl)) (ok_seg_sz (by omega))) ?_ rfl rfl
        intro w153 x154
        have B := bx Hb B x154
        have S := S.below x154
        refine t_notb rfl ?_ rfl
        refine t_done' ?_
        refine x_seq ?_
        refine w_no rfl ?_
        refine w_skip ?_
        refine x_seq ?_
        refine w_seq ?_
        refine w_region ?_
        refine t_assign rfl ?_ rfl
        refine t_done ?_
        refine x_seq ?_
        refine w_seq ?_
        refine w_region ?_
        refine t_bxn S.tail.tail.tail.tail.tail.tail.box ab_seg sb_seg rfl rfl ?_ rfl
        refine t_move rfl ?_ rfl
        have S := S.f7
        refine t_callf Try.call49 rfl (mark_segm _ _ _ _ _ _ S (by omega) (by omega)) ?_ rfl
        rintro e w155 ⟨rfl, S, x156⟩
        refine ⟨_, rfl, ?_⟩
        have B := B.trans x156
        refine t_assign rfl ?_ rfl
        refine t_done ?_
        refine x_seq ?_
        refine w_seq ?_
        refine w_region ?_
        refine t_bxn S.tail.tail.tail.tail.tail.box ab_seg sb_seg rfl rfl ?_ rfl
        refine t_move rfl ?_ rfl
        have S := S.f6
        refine t_callf Try.call49 rfl (mark_segm _ _ _ _ _ _ S (by omega) (by omega)) ?_ rfl
        rintro e w157 ⟨rfl, S, x158⟩
        refine ⟨_, rfl, ?_⟩
        have B := B.trans x158
        refine t_assign rfl ?_ rfl
        refine t_done ?_
        refine x_seq ?_
        refine w_seq ?_
        refine w_seq ?_
        refine w_region ?_
        refine t_move rfl ?_ rfl
        refine t_lss rfl rfl ?_ rfl
        refine t_move rfl ?_ rfl
        refine t_partp (t := 58) rfl (fun h => (by exfalso; omega)) ?_
        intro hc58
        refine t_on rfl rfl ?_
        refine t_bxn S.tail.tail.tail.tail.box ab_path sb_path rfl rfl ?_ rfl
        refine t_on rfl rfl ?_
        refine t_bxn S.tail.tail.tail.tail.tail.tail.tail.tail.box ab_path sb_path rfl rfl ?_ rfl
        refine t_on rfl rfl ?_
        refine t_callx Try.call20 rfl (eqv_path _ _ _ _ (path_mkv (S.tail.tail.tail.tail.tail.sl)) (path_mkv (S.tail.tail.tail.tail.tail.tail.tail.tail.tail.sl)) (ok_path_big (by omega))) ?_ rfl rfl
        intro w159 x160
        have B := bx Hb B x160
        have S := S.below x160
        refine t_on rfl rfl ?_
        refine t_notb rfl ?_ rfl
        refine t_pickf rfl rfl ?_ rfl
        refine t_done ?_
        refine x_seq ?_
        refine w_no rfl ?_
        refine w_skip ?_
        refine x_seq ?_
        refine w_seq ?_
        refine w_region ?_
        refine t_assign rfl ?_ rfl
        refine t_done ?_
        refine x_seq ?_
        refine w_seq ?_
        refine w_region ?_
        refine t_bxn S.tail.tail.tail.tail.box ab_path sb_path rfl rfl ?_ rfl
        refine t_move rfl ?_ rfl
        have S := S.f5
        refine t_callf Try.call21 rfl (mark_path _ _ _ _ _ _ S (by omega) (by omega)) ?_ rfl
        rintro e w161 ⟨rfl, S, x162⟩
        refine ⟨_, rfl, ?_⟩
        have B := B.trans x162
        refine t_assign rfl ?_ rfl
        refine t_done ?_
        refine x_seq ?_
        refine w_seq ?_
        refine w_region ?_
        refine t_assign rfl ?_ rfl
        refine t_done ?_
        refine x_seq ?_
        refine w_seq ?_
        refine w_region ?_
        refine t_bxn S.tail.tail.tail.tail.tail.box ab_path sb_path rfl rfl ?_ rfl
        refine t_move rfl ?_ rfl
        refine t_callx Try.call29 rfl (held_path _ _ _ _ (S.sl) (by omega) (by omega)) ?_ rfl rfl
        intro w163 x164
        have B := bx Hb B x164
        have S := S.below x164
        refine t_assign rfl ?_ rfl
        refine t_done ?_
        refine x_seq ?_
        refine w_seq ?_
        refine w_seq ?_
        refine w_region ?_
        refine t_move rfl ?_ rfl
        refine t_lss rfl rfl ?_ rfl
        refine t_done ?_
        refine x_seq ?_
        refine w_if rfl (fun h => (by exfalso; omega)) ?_
        intro hc71
        refine w_skip ?_
        refine x_seq ?_
        refine w_seq ?_
        refine w_seq ?_
        refine w_region ?_
        refine t_move rfl ?_ rfl
        refine t_move rfl ?_ rfl
        refine t_neq rfl rfl ?_ rfl
        refine t_done ?_
        refine x_seq ?_
        refine w_if rfl (fun h => absurd rfl h) ?_
        intro _
        refine w_skip ?_
        refine x_seq ?_
        refine w_seq ?_
        refine w_draw (.st .take 0 (.st .take 2 (.alt (.st .run 1 (.alt (.st .run 3 (.alt (.st .run 4 (.st .run 5 (.st .fin 6 .done))) (.st .run 5 (.st .run 4 (.st .fin 6 .done))))) (.st .run 5 (.st .run 3 (.st .run 4 (.st .fin 6 .done)))))) (.st .run 5 (.st .run 1 (.st .run 3 (.st .run 4 (.st .fin 6 .done)))))))) mixed (by kernel_rfl) ?_
        intro w165 x166
        have B := bx Hb B x166
        have S := S.below x166
        refine t_lda (by assumption) ab_l_seg sb_l_seg B rfl ?_ rfl
        intro v75 hv75
        obtain ⟨v75_2, rfl, hv75_2⟩ := seg_va hv75
        refine t_lda (by assumption) ab_l_seg sb_l_seg B rfl ?_ rfl
        intro v77 hv77
        obtain ⟨v77_2, rfl, hv77_2⟩ := seg_va hv77
        refine t_alt ?_ ?_
        · refine t_call Try.call46 rfl (va1 (by first | assumption | exact VA.below (by assumption) B) fun cs h => to_seg _ cs _ h (by omega)) ?_ rfl rfl
          rintro e w167 ⟨cs76, fp76, rfl, hO76, x168⟩
          refine ⟨_, rfl, x168, ?_⟩
          have S := S.add (o := tyO segT _ _) x168 hO76
          have B := bx Hb B x168
          obtain ⟨u76_2, heq, S2⟩ := S.segOpen
          subst heq
          have S := S2
          clear S2
          refine t_alt ?_ ?_
          · refine t_call Try.call46 rfl (va1 (by first | assumption | exact VA.below (by assumption) B) fun cs h => to_seg _ cs _ h (by omega)) ?_ rfl rfl
            rintro e w169 ⟨cs78, fp78, rfl, hO78, x170⟩
            refine ⟨_, rfl, x170, ?_⟩
            have S := S.add (o := tyO segT _ _) x170 hO78
            have B := bx Hb B x170
            obtain ⟨u78_2, heq, S2⟩ := S.segOpen
            subst heq
            have S := S2
            clear S2
            refine t_alt ?_ ?_
            · refine t_call Try.call51 rfl (impl_JoinUpDown _ _ _ _ _ (seg_mkv (S.tail.sl)) (seg_mkv (S.sl)) (by omega) (by omega)) ?_ rfl rfl
              rintro e w171 ⟨cs79, fp79, rfl, hO79, x172⟩
              refine ⟨_, rfl, x172, ?_⟩
              have S := S.add (o := tyO pathT _ _) x172 hO79
              have B := bx Hb B x172
              obtain ⟨u79_0, heq, S2⟩ := S.pathOpen
              subst heq
              have S := S2
              clear S2
              refine t_alloc S z_path rfl ?_ rfl rfl
              intro g13 w173 x174 S
              have B := bx Hb B x174
              refine t_stn S sb_path rfl rfl rfl rfl (by intro zz hu; have hu : zz ∈ ([u79_0] : List Value) := hu; simp only [List.mem_cons, List.not_mem_nil, or_false] at hu; rcases hu with rfl <;> first | rfl | exact (SlR.cells (by first | assumption | exact S.tail.sl | exact S.tail.tail.sl | exact S.tail.tail.tail.sl | exact S.tail.tail.tail.tail.sl | exact S.tail.tail.tail.tail.tail.sl | exact S.tail.tail.tail.tail.tail.tail.sl | exact S.tail.tail.tail.tail.tail.tail.tail.sl | exact S.tail.tail.tail.tail.tail.tail.tail.tail.sl)).2) ?_
              intro w175 b176 S
              have B := B.trans b176
              refine t_done' ?_
              refine x_seq ?_
              refine w_seq ?_
              refine w_seq ?_
              refine w_region ?_
              refine t_bxn S.box ab_path sb_path rfl rfl ?_ rfl
              refine t_bxn S.tail.tail.tail.tail.tail.tail.tail.tail.tail.tail.tail.tail.box ab_path sb_path rfl rfl ?_ rfl
              refine t_callx Try.call20 rfl (eqv_path _ _ _ _ (path_mkv (S.tail.sl)) (path_mkv (S.tail.tail.tail.tail.tail.tail.tail.tail.tail.tail.tail.tail.tail.sl)) (ok_path_big (by omega))) ?_ rfl rfl
              intro w177 x178
              have B := bx Hb B x178
              have S := S.below x178
              refine t_notb rfl ?_ rfl
              refine t_done ?_
              refine x_seq ?_
              refine w_no rfl ?_
              refine w_skip ?_
              refine x_seq ?_
              refine w_seq ?_
              refine w_region ?_
              refine t_assign rfl ?_ rfl
              refine t_done ?_
              refine x_seq ?_
              refine w_seq ?_
              refine w_region ?_
              refine t_bxn S.tail.tail.tail.tail.tail.tail.tail.tail.tail.box ab_path sb_path rfl rfl ?_ rfl
              refine t_move rfl ?_ rfl
              refine t_callx Try.call29 rfl (held_path _ _ _ _ (S.tail.tail.tail.tail.sl) (by omega) (by omega)) ?_ rfl rfl
              intro w179 x180
              have B := bx Hb B x180
              have S := S.below x180
              refine t_assign rfl ?_ rfl
              refine t_done ?_
              refine x_seq ?_
              refine w_seq ?_
              refine w_seq ?_
              refine w_region ?_
              refine t_move rfl ?_ rfl
              refine t_lss rfl rfl ?_ rfl
              refine t_done ?_
              refine x_seq ?_
              refine w_if rfl (fun h => (by exfalso; omega)) ?_
              intro hc88
              refine w_skip ?_
              refine x_seq ?_
              refine w_seq ?_
              refine w_seq ?_
              refine w_region ?_
              refine t_move rfl ?_ rfl
              refine t_move rfl ?_ rfl
              refine t_neq rfl rfl ?_ rfl
              refine t_done ?_
              refine x_seq ?_
              refine w_if rfl (fun h => absurd rfl h) ?_
              intro _
              refine w_skip ?_
              refine x_seq ?_
              refine w_seq ?_
              refine w_region ?_
              refine t_assign rfl ?_ rfl
              refine t_done ?_
              refine x_seq ?_
              refine w_ret ?_
              refine x_ret1 rfl rfl ?_
              exact ⟨rfl, ext_trans X0 B⟩
            · refine t_alloc S z_path rfl ?_ rfl rfl
              intro g13 w181 x182 S
              have B := bx Hb B x182
              refine t_call Try.call51 rfl (impl_JoinUpDown _ _ _ _ _ (seg_mkv (S.tail.tail.sl)) (seg_mkv (S.tail.sl)) (by omega) (by omega)) ?_ rfl rfl
              rintro e w183 ⟨cs79, fp79, rfl, hO79, x184⟩
              refine ⟨_, rfl, x184, ?_⟩
              have S := S.add (o := tyO pathT _ _) x184 hO79
              have B := bx Hb B x184
              obtain ⟨u79_0, heq, S2⟩ := S.pathOpen
              subst heq
              have S := S2
              clear S2
              have S := S.f1
              refine t_stn S sb_path rfl rfl rfl rfl (by intro zz hu; have hu : zz ∈ ([u79_0] : List Value) := hu; simp only [List.mem_cons, List.not_mem_nil, or_false] at hu; rcases hu with rfl <;> first | rfl | exact (SlR.cells (by first | assumption | exact S.tail.sl | exact S.tail.tail.sl | exact S.tail.tail.tail.sl | exact S.tail.tail.tail.tail.sl | exact S.tail.tail.tail.tail.tail.sl | exact S.tail.tail.tail.tail.tail.tail.sl | exact S.tail.tail.tail.tail.tail.tail.tail.sl | exact S.tail.tail.tail.tail.tail.tail.tail.tail.sl)).2) ?_
              intro w185 b186 S
              have B := B.trans b186
              refine t_done' ?_
              refine x_seq ?_
              refine w_seq ?_
              refine w_seq ?_
              refine w_region ?_
              refine t_bxn S.box ab_path sb_path rfl rfl ?_ rfl
              refine t_bxn S.tail.tail.tail.tail.tail.tail.tail.tail.tail.tail.tail.tail.box ab_path sb_path rfl rfl ?_ rfl
              refine t_callx Try.call20 rfl (eqv_path _ _ _ _ (path_mkv (S.tail.sl)) (path_mkv (S.tail.tail.tail.tail.tail.tail.tail.tail.tail.tail.tail.tail.tail.sl)) (ok_path_big (by omega))) ?_ rfl rfl
              intro w187 x188
              have B := bx Hb B x188
              have S := S.below x188
              refine t_notb rfl ?_ rfl
              refine t_done ?_
              refine x_seq ?_
              refine w_no rfl ?_
              refine w_skip ?_
              refine x_seq ?_
              refine w_seq ?_
              refine w_region ?_
              refine t_assign rfl ?_ rfl
              refine t_done ?_
              refine x_seq ?_
              refine w_seq ?_
              refine w_region ?_
              refine t_bxn S.tail.tail.tail.tail.tail.tail.tail.tail.tail.box ab_path sb_path rfl rfl ?_ rfl
              refine t_move rfl ?_ rfl
              refine t_callx Try.call29 rfl (held_path _ _ _ _ (S.tail.tail.tail.tail.sl) (by omega) (by omega)) ?_ rfl rfl
              intro w189 x190
              have B := bx Hb B x190
              have S := S.below x190
              refine t_assign rfl ?_ rfl
              refine t_done ?_
              refine x_seq ?_
              refine w_seq ?_
              refine w_seq ?_
              refine w_region ?_
              refine t_move rfl ?_ rfl
              refine t_lss rfl rfl ?_ rfl
              refine t_done ?_
              refine x_seq ?_
              refine w_if rfl (fun h => (by exfalso; omega)) ?_
              intro hc88
              refine w_skip ?_
              refine x_seq ?_
              refine w_seq ?_
              refine w_seq ?_
              refine w_region ?_
              refine t_move rfl ?_ rfl
              refine t_move rfl ?_ rfl
              refine t_neq rfl rfl ?_ rfl
              refine t_done ?_
              refine x_seq ?_
              refine w_if rfl (fun h => absurd rfl h) ?_
              intro _
              refine w_skip ?_
              refine x_seq ?_
              refine w_seq ?_
              refine w_region ?_
              refine t_assign rfl ?_ rfl
              refine t_done ?_
              refine x_seq ?_
              refine w_ret ?_
              refine x_ret1 rfl rfl ?_
              exact ⟨rfl, ext_trans X0 B⟩
          · refine t_alloc S z_path rfl ?_ rfl rfl
            intro g13 w191 x192 S
            have B := bx Hb B x192
            refine t_call Try.call46 rfl (va1 (by first | assumption | exact VA.below (by assumption) B) fun cs h => to_seg _ cs _ h (by omega)) ?_ rfl rfl
            rintro e w193 ⟨cs78, fp78, rfl, hO78, x194⟩
            refine ⟨_, rfl, x194, ?_⟩
            have S := S.add (o := tyO segT _ _) x194 hO78
            have B := bx Hb B x194
            obtain ⟨u78_2, heq, S2⟩ := S.segOpen
            subst heq
            have S := S2
            clear S2
            refine t_call Try.call51 rfl (impl_JoinUpDown _ _ _ _ _ (seg_mkv (S.tail.tail.sl)) (seg_mkv (S.sl)) (by omega) (by omega)) ?_ rfl rfl
            rintro e w195 ⟨cs79, fp79, rfl, hO79, x196⟩
            refine ⟨_, rfl, x196, ?_⟩
            have S := S.add (o := tyO pathT _ _) x196 hO79
            have B := bx Hb B x196
            obtain ⟨u79_0, heq, S2⟩ := S.pathOpen
            subst heq
            have S := S2
            clear S2
            have S := S.f2
            refine t_stn S sb_path rfl rfl rfl rfl (by intro zz hu; have hu : zz ∈ ([u79_0] : List Value) := hu; simp only [List.mem_cons, List.not_mem_nil, or_false] at hu; rcases hu with rfl <;> first | rfl | exact (SlR.cells (by first | assumption | exact S.tail.sl | exact S.tail.tail.sl | exact S.tail.tail.tail.sl | exact S.tail.tail.tail.tail.sl | exact S.tail.tail.tail.tail.tail.sl | exact S.tail.tail.tail.tail.tail.tail.sl | exact S.tail.tail.tail.tail.tail.tail.tail.sl | exact S.tail.tail.tail.tail.tail.tail.tail.tail.sl)).2) ?_
            intro w197 b198 S
            have B := B.trans b198
            refine t_done' ?_
            refine x_seq ?_
            refine w_seq ?_
            refine w_seq ?_
            refine w_region ?_
            refine t_bxn S.box ab_path sb_path rfl rfl ?_ rfl
            refine t_bxn S.tail.tail.tail.tail.tail.tail.tail.tail.tail.tail.tail.tail.box ab_path sb_path rfl rfl ?_ rfl
            refine t_callx Try.call20 rfl (eqv_path _ _ _ _ (path_mkv (S.tail.sl)) (path_mkv (S.tail.tail.tail.tail.tail.tail.tail.tail.tail.tail.tail.tail.tail.sl)) (ok_path_big (by omega))) ?_ rfl rfl
            intro w199 x200
            have B := bx Hb B x200
            have S := S.below x200
            refine t_notb rfl ?_ rfl
            refine t_done ?_
            refine x_seq ?_
            refine w_no rfl ?_
            refine w_skip ?_
            refine x_seq ?_
            refine w_seq ?_
            refine w_region ?_
            refine t_assign rfl ?_ rfl
            refine t_done ?_
            refine x_seq ?_
            refine w_seq ?_
            refine w_region ?_
            refine t_bxn S.tail.tail.tail.tail.tail.tail.tail.tail.tail.box ab_path sb_path rfl rfl ?_ rfl
            refine t_move rfl ?_ rfl
            refine t_callx Try.call29 rfl (held_path _ _ _ _ (S.tail.tail.tail.tail.sl) (by omega) (by omega)) ?_ rfl rfl
            intro w201 x202
            have B := bx Hb B x202
            have S := S.below x202
            refine t_assign rfl ?_ rfl
            refine t_done ?_
            refine x_seq ?_
            refine w_seq ?_
            refine w_seq ?_
            refine w_region ?_
            refine t_move rfl ?_ rfl
            refine t_lss rfl rfl ?_ rfl
            refine t_done ?_
            refine x_seq ?_
            refine w_if rfl (fun h => (by exfalso; omega)) ?_
            intro hc88
            refine w_skip ?_
            refine x_seq ?_
            refine w_seq ?_
            refine w_seq ?_
            refine w_region ?_
            refine t_move rfl ?_ rfl
            refine t_move rfl ?_ rfl
            refine t_neq rfl rfl ?_ rfl
            refine t_done ?_
            refine x_seq ?_
            refine w_if rfl (fun h => absurd rfl h) ?_
            intro _
            refine w_skip ?_
            refine x_seq ?_
            refine w_seq ?_
            refine w_region ?_
            refine t_assign rfl ?_ rfl
            refine t_done ?_
            refine x_seq ?_
            refine w_ret ?_
            refine x_ret1 rfl rfl ?_
            exact ⟨rfl, ext_trans X0 B⟩
        · refine t_alloc S z_path rfl ?_ rfl rfl
          intro g13 w203 x204 S
          have B := bx Hb B x204
          refine t_call Try.call46 rfl (va1 (by first | assumption | exact VA.below (by assumption) B) fun cs h => to_seg _ cs _ h (by omega)) ?_ rfl rfl
          rintro e w205 ⟨cs76, fp76, rfl, hO76, x206⟩
          refine ⟨_, rfl, x206, ?_⟩
          have S := S.add (o := tyO segT _ _) x206 hO76
          have B := bx Hb B x206
          obtain ⟨u76_2, heq, S2⟩ := S.segOpen
          subst heq
          have S := S2
          clear S2
          refine t_call Try.call46 rfl (va1 (by first | assumption | exact VA.below (by assumption) B) fun cs h => to_seg _ cs _ h (by omega)) ?_ rfl rfl
          rintro e w207 ⟨cs78, fp78, rfl, hO78, x208⟩
          refine ⟨_, rfl, x208, ?_⟩
          have S := S.add (o := tyO segT _ _) x208 hO78
          have B := bx Hb B x208
          obtain ⟨u78_2, heq, S2⟩ := S.segOpen
          subst heq
          have S := S2
          clear S2
          refine t_call Try.call51 rfl (impl_JoinUpDown _ _ _ _ _ (seg_mkv (S.tail.sl)) (seg_mkv (S.sl)) (by omega) (by omega)) ?_ rfl rfl
          rintro e w209 ⟨cs79, fp79, rfl, hO79, x210⟩
          refine ⟨_, rfl, x210, ?_⟩
          have S := S.add (o := tyO pathT _ _) x210 hO79
          have B := bx Hb B x210
          obtain ⟨u79_0, heq, S2⟩ := S.pathOpen
          subst heq
          have S := S2
          clear S2
          have S := S.f3
          refine t_stn S sb_path rfl rfl rfl rfl (by intro zz hu; have hu : zz ∈ ([u79_0] : List Value) := hu; simp only [List.mem_cons, List.not_mem_nil, or_false] at hu; rcases hu with rfl <;> first | rfl | exact (SlR.cells (by first | assumption | exact S.tail.sl | exact S.tail.tail.sl | exact S.tail.tail.tail.sl | exact S.tail.tail.tail.tail.sl | exact S.tail.tail.tail.tail.tail.sl | exact S.tail.tail.tail.tail.tail.tail.sl | exact S.tail.tail.tail.tail.tail.tail.tail.sl | exact S.tail.tail.tail.tail.tail.tail.tail.tail.sl)).2) ?_
          intro w211 b212 S
          have B := B.trans b212
          refine t_done' ?_
          refine x_seq ?_
          refine w_seq ?_
          refine w_seq ?_
          refine w_region ?_
          refine t_bxn S.box ab_path sb_path rfl rfl ?_ rfl
          refine t_bxn S.tail.tail.tail.tail.tail.tail.tail.tail.tail.tail.tail.tail.box ab_path sb_path rfl rfl ?_ rfl
          refine t_callx Try.call20 rfl (eqv_path _ _ _ _ (path_mkv (S.tail.sl)) (path_mkv (S.tail.tail.tail.tail.tail.tail.tail.tail.tail.tail.tail.tail.tail.sl)) (ok_path_big (by omega))) ?_ rfl rfl
          intro w213 x214
          have B := bx Hb B x214
          have S := S.below x214
          refine t_notb rfl ?_ rfl
          refine t_done ?_
          refine x_seq ?_
          refine w_no rfl ?_
          refine w_skip ?_
          refine x_seq ?_
          refine w_seq ?_
          refine w_region ?_
          refine t_assign rfl ?_ rfl
          refine t_done ?_
          refine x_seq ?_
          refine w_seq ?_
          refine w_region ?_
          refine t_bxn S.tail.tail.tail.tail.tail.tail.tail.tail.tail.box ab_path sb_path rfl rfl ?_ rfl
          refine t_move rfl ?_ rfl
          refine t_callx Try.call29 rfl (held_path _ _ _ _ (S.tail.tail.tail.tail.sl) (by omega) (by omega)) ?_ rfl rfl
          intro w215 x216
          have B := bx Hb B x216
          have S := S.below x216
          refine t_assign rfl ?_ rfl
          refine t_done ?_
          refine x_seq ?_
          refine w_seq ?_
          refine w_seq ?_
          refine w_region ?_
          refine t_move rfl ?_ rfl
          refine t_lss rfl rfl ?_ rfl
          refine t_done ?_
          refine x_seq ?_
          refine w_if rfl (fun h => (by exfalso; omega)) ?_
          intro hc88
          refine w_skip ?_
          refine x_seq ?_
          refine w_seq ?_
          refine w_seq ?_
          refine w_region ?_
          refine t_move rfl ?_ rfl
          refine t_move rfl ?_ rfl
          refine t_neq rfl rfl ?_ rfl
          refine t_done ?_
          refine x_seq ?_
          refine w_if rfl (fun h => absurd rfl h) ?_
          intro _
          refine w_skip ?_
          refine x_seq ?_
          refine w_seq ?_
          refine w_region ?_
          refine t_assign rfl ?_ rfl
          refine t_done ?_
          refine x_seq ?_
          refine w_ret ?_
          refine x_ret1 rfl rfl ?_
          exact ⟨rfl, ext_trans X0 B⟩
    · refine t_alloc S z_path rfl ?_ rfl rfl
      intro g6 w217 x218 S
      have B := bx Hb B x218
      refine t_call Try.call46 rfl (va1 (by first | assumption | exact VA.below (by assumption) B) fun cs h => to_seg _ cs _ h (by omega)) ?_ rfl rfl
      rintro e w219 ⟨cs27, fp27, rfl, hO27, x220⟩
      refine ⟨_, rfl, x220, ?_⟩
      have S := S.add (o := tyO segT _ _) x220 hO27
      have B := bx Hb B x220
      obtain ⟨u27_2, heq, S2⟩ := S.segOpen
      subst heq
      have S := S2
      clear S2
      refine t_call Try.call50 rfl (spec_JoinUpDown _ _ _ _ _ (seg_mkv (S.tail.tail.sl)) (seg_mkv (S.sl)) (by omega) (by omega)) ?_ rfl rfl
      rintro e w221 ⟨cs28, fp28, rfl, hO28, x222⟩
      refine ⟨_, rfl, x222, ?_⟩
      have S := S.add (o := tyO pathT _ _) x222 hO28
      have B := bx Hb B x222
      obtain ⟨u28_0, heq, S2⟩ := S.pathOpen
      subst heq
      have S := S2
      clear S2
      have S := S.f2
      refine t_stn S sb_path rfl rfl rfl rfl (by intro zz hu; have hu : zz ∈ ([u28_0] : List Value) := hu; simp only [List.mem_cons, List.not_mem_nil, or_false] at hu; rcases hu with rfl <;> first | rfl | exact (SlR.cells (by first | assumption | exact S.tail.sl | exact S.tail.tail.sl | exact S.tail.tail.tail.sl | exact S.tail.tail.tail.tail.sl | exact S.tail.tail.tail.tail.tail.sl | exact S.tail.tail.tail.tail.tail.tail.sl | exact S.tail.tail.tail.tail.tail.tail.tail.sl | exact S.tail.tail.tail.tail.tail.tail.tail.tail.sl)).2) ?_
      intro w223 b224 S
      have B := B.trans b224
      refine t_done' ?_
      refine x_seq ?_
      refine w_seq ?_
      refine w_region ?_
      refine t_lda (by assumption) ab_l_seg sb_l_seg B rfl ?_ rfl
      intro v29 hv29
      obtain ⟨v29_2, rfl, hv29_2⟩ := seg_va hv29
      refine t_call Try.call46 rfl (va1 (by first | assumption | exact VA.below (by assumption) B) fun cs h => to_seg _ cs _ h (by omega)) ?_ rfl rfl
      rintro e w225 ⟨cs30, fp30, rfl, hO30, x226⟩
      refine ⟨_, rfl, x226, ?_⟩
      have S := S.add (o := tyO segT _ _) x226 hO30
      have B := bx Hb B x226
      obtain ⟨u30_2, heq, S2⟩ := S.segOpen
      subst heq
      have S := S2
      clear S2
      refine t_alloc S z_seg rfl ?_ rfl rfl
      intro g7 w227 x228 S
      have B := bx Hb B x228
      refine t_stn S sb_seg rfl rfl rfl rfl (by intro zz hu; have hu : zz ∈ ([I d0.ts, I d0.beta, u30_2] : List Value) := hu; simp only [List.mem_cons, List.not_mem_nil, or_false] at hu; rcases hu with rfl | rfl | rfl <;> first | rfl | exact (SlR.cells (by first | assumption | exact S.tail.sl | exact S.tail.tail.sl | exact S.tail.tail.tail.sl | exact S.tail.tail.tail.tail.sl | exact S.tail.tail.tail.tail.tail.sl | exact S.tail.tail.tail.tail.tail.tail.sl | exact S.tail.tail.tail.tail.tail.tail.tail.sl | exact S.tail.tail.tail.tail.tail.tail.tail.tail.sl)).2) ?_
      intro w229 b230 S
      have B := B.trans b230
      refine t_done ?_
      refine x_seq ?_
      refine w_seq ?_
      refine w_region ?_
      refine t_lda (by assumption) ab_l_seg sb_l_seg B rfl ?_ rfl
      intro v31 hv31
      obtain ⟨v31_2, rfl, hv31_2⟩ := seg_va hv31
      refine t_call Try.call46 rfl (va1 (by first | assumption | exact VA.below (by assumption) B) fun cs h => to_seg _ cs _ h (by omega)) ?_ rfl rfl
      rintro e w231 ⟨cs32, fp32, rfl, hO32, x232⟩
      refine ⟨_, rfl, x232, ?_⟩
      have S := S.add (o := tyO segT _ _) x232 hO32
      have B := bx Hb B x232
      obtain ⟨u32_2, heq, S2⟩ := S.segOpen
      subst heq
      have S := S2
      clear S2
      refine t_alloc S z_seg rfl ?_ rfl rfl
      intro g8 w233 x234 S
      have B := bx Hb B x234
      refine t_stn S sb_seg rfl rfl rfl rfl (by intro zz hu; have hu : zz ∈ ([I d1.ts, I d1.beta, u32_2] : List Value) := hu; simp only [List.mem_cons, List.not_mem_nil, or_false] at hu; rcases hu with rfl | rfl | rfl <;> first | rfl | exact (SlR.cells (by first | assumption | exact S.tail.sl | exact S.tail.tail.sl | exact S.tail.tail.tail.sl | exact S.tail.tail.tail.tail.sl | exact S.tail.tail.tail.tail.tail.sl | exact S.tail.tail.tail.tail.tail.tail.sl | exact S.tail.tail.tail.tail.tail.tail.tail.sl | exact S.tail.tail.tail.tail.tail.tail.tail.tail.sl)).2) ?_
      intro w235 b236 S
      have B := B.trans b236
      refine t_done ?_
      refine x_seq ?_
      refine w_seq ?_
      refine w_region ?_
      refine t_bxn S.tail.tail.box ab_seg sb_seg rfl rfl ?_ rfl
      refine t_bxn S.box ab_seg sb_seg rfl rfl ?_ rfl
      refine t_call Try.call51 rfl (impl_JoinUpDown _ _ _ _ _ (seg_mkv (S.tail.tail.tail.sl)) (seg_mkv (S.tail.sl)) (by omega) (by omega)) ?_ rfl rfl
      rintro e w237 ⟨cs35, fp35, rfl, hO35, x238⟩
      refine ⟨_, rfl, x238, ?_⟩
      have S := S.add (o := tyO pathT _ _) x238 hO35
      have B := bx Hb B x238
      obtain ⟨u35_0, heq, S2⟩ := S.pathOpen
      subst heq
      have S := S2
      clear S2
      refine t_alloc S z_path rfl ?_ rfl rfl
      intro g9 w239 x240 S
      have B := bx Hb B x240
      refine t_stn S sb_path rfl rfl rfl rfl (by intro zz hu; have hu : zz ∈ ([u35_0] : List Value) := hu; simp only [List.mem_cons, List.not_mem_nil, or_false] at hu; rcases hu with rfl <;> first | rfl | exact (SlR.cells (by first | assumption | exact S.tail.sl | exact S.tail.tail.sl | exact S.tail.tail.tail.sl | exact S.tail.tail.tail.tail.sl | exact S.tail.tail.tail.tail.tail.sl | exact S.tail.tail.tail.tail.tail.tail.sl | exact S.tail.tail.tail.tail.tail.tail.tail.sl | exact S.tail.tail.tail.tail.tail.tail.tail.tail.sl)).2) ?_
      intro w241 b242 S
      have B := B.trans b242
      refine t_done ?_
      refine x_seq ?_
      refine w_seq ?_
      refine w_seq ?_
      refine w_region ?_
      refine t_bxn S.box ab_path sb_path rfl rfl ?_ rfl
      refine t_bxn S.tail.tail.tail.tail.tail.tail.box ab_path sb_path rfl rfl ?_ rfl
      refine t_callx Try.call20 rfl (eqv_path _ _ _ _ (path_mkv (S.tail.sl)) (path_mkv (S.tail.tail.tail.tail.tail.tail.tail.sl)) (ok_path_big (by omega))) ?_ rfl rfl
      intro w243 x244
      have B := bx Hb B x244
      have S := S.below x244
      refine t_notb rfl ?_ rfl
      refine t_done ?_
      refine x_seq ?_
      refine w_no rfl ?_
      refine w_skip ?_
      refine x_seq ?_
      refine w_seq ?_
      refine w_seq ?_
      refine w_draw (.st .take 0 (.st .take 1 (.st .run 2 (.st .run 3 (.st .take 4 .done))))) mixed (by kernel_rfl) ?_
      intro w245 x246
      have B := bx Hb B x246
      have S := S.below x246
      refine t_bxn S.tail.tail.tail.tail.box ab_seg sb_seg rfl rfl ?_ rfl
      refine t_lda (by assumption) ab_l_seg sb_l_seg B rfl ?_ rfl
      intro v41 hv41
      obtain ⟨v41_2, rfl, hv41_2⟩ := seg_va hv41
      refine t_call Try.call46 rfl (va1 (by first | assumption | exact VA.below (by assumption) B) fun cs h => to_seg _ cs _ h (by omega)) ?_ rfl rfl
      rintro e w247 ⟨cs42, fp42, rfl, hO42, x248⟩
      refine ⟨_, rfl, x248, ?_⟩
      have S := S.add (o := tyO segT _ _) x248 hO42
      have B := bx Hb B x248
      obtain ⟨u42_2, heq, S2⟩ := S.segOpen
      subst heq
      have S := S2
      clear S2
      refine t_callx Try.call48 rfl (eqv_seg _ _ _ _ (seg_mkv (S.tail.tail.tail.tail.tail.tail.sl)) (seg_mkv (S.sl)) (ok_seg_sz (by omega))) ?_ rfl rfl
      intro w249 x250
      have B := bx Hb B x250
      have S := S.below x250
      refine t_notb rfl ?_ rfl
      refine t_done' ?_
      refine x_seq ?_
      refine w_no rfl ?_
      refine w_skip ?_
      refine x_seq ?_
      refine w_seq ?_
      refine w_seq ?_
      refine w_draw (.st .take 0 (.st .take 1 (.st .run 2 (.st .run 3 (.st .take 4 .done))))) mixed (by kernel_rfl) ?_
      intro w251 x252
      have B := bx Hb B x252
      have S := S.below x252
      refine t_bxn S.tail.tail.tail.box ab_seg sb_seg rfl rfl ?_ rfl
      refine t_lda (by assumption) ab_l_seg sb_l_seg B rfl ?_ rfl
      intro v46 hv46
      obtain ⟨v46_2, rfl, hv46_2⟩ := seg_va hv46
      refine t_call Try.call46 rfl (va1 (by first | assumption | exact VA.below (by assumption) B) fun cs h => to_seg _ cs _ h (by omega)) ?_ rfl rfl
      rintro e w253 ⟨cs47, fp47, rfl, hO47, x254⟩
      refine ⟨_, rfl, x254, ?_⟩
      have S := S.add (o := tyO segT _ _) x254 hO47
      have B := bx Hb B x254
      obtain ⟨u47_2, heq, S2⟩ := S.segOpen
      subst heq
      have S := S2
      clear S2
      refine t_callx Try.call48 rfl (eqv_seg _ _ _ _ (seg_mkv (S.tail.tail.tail.tail.tail.sl)) (seg_mkv (S.sl)) (ok_seg_sz (by omega))) ?_ rfl rfl
      intro w255 x256
      have B := bx Hb B x256
      have S := S.below x256
      refine t_notb rfl ?_ rfl
      refine t_done' ?_
      refine x_seq ?_
      refine w_no rfl ?_
      refine w_skip ?_
      refine x_seq ?_
      refine w_seq ?_
      refine w_region ?_
      refine t_assign rfl ?_ rfl
      refine t_done ?_
      refine x_seq ?_
      refine w_seq ?_
      refine w_region ?_
      refine t_bxn S.tail.tail.tail.tail.tail.tail.box ab_seg sb_seg rfl rfl ?_ rfl
      refine t_move rfl ?_ rfl
      have S := S.f7
      refine t_callf Try.call49 rfl (mark_segm _ _ _ _ _ _ S (by omega) (by omega)) ?_ rfl
      rintro e w257 ⟨rfl, S, x258⟩
      refine ⟨_, rfl, ?_⟩
      have B := B.trans x258
      refine t_assign rfl ?_ rfl
      refine t_done ?_
      refine x_seq ?_
      refine w_seq ?_
      refine w_region ?_
      refine t_bxn S.tail.tail.tail.tail.tail.box ab_seg sb_seg rfl rfl ?_ rfl
      refine t_move rfl ?_ rfl
      have S := S.f6
      refine t_callf Try.call49 rfl (mark_segm _ _ _ _ _ _ S (by omega) (by omega)) ?_ rfl
      rintro e w259 ⟨rfl, S, x260⟩
      refine ⟨_, rfl, ?_⟩
      have B := B.trans x260
      refine t_assign rfl ?_ rfl
      refine t_done ?_
      refine x_seq ?_
      refine w_seq ?_
      refine w_seq ?_
      refine w_region ?_
      refine t_move rfl ?_ rfl
      refine t_lss rfl rfl ?_ rfl
      refine t_move rfl ?_ rfl
      refine t_partp (t := 58) rfl (fun h => (by exfalso; omega)) ?_
      intro hc58
      refine t_on rfl rfl ?_
      refine t_bxn S.tail.tail.tail.tail.box ab_path sb_path rfl rfl ?_ rfl
      refine t_on rfl rfl ?_
      refine t_bxn S.tail.tail.tail.tail.tail.tail.tail.tail.box ab_path sb_path rfl rfl ?_ rfl
      refine t_on rfl rfl ?_
      refine t_callx Try.call20 rfl (eqv_path _ _ _ _ (path_mkv (S.tail.tail.tail.tail.tail.sl)) (path_mkv (S.tail.tail.tail.tail.tail.tail.tail.tail.tail.sl)) (ok_path_big (by omega))) ?_ rfl rfl
      intro w261 x262
      have B := bx Hb B x262
      have S := S.below x262
      refine t_on rfl rfl ?_
      refine t_notb rfl ?_ rfl
      refine t_pickf rfl rfl ?_ rfl
      refine t_done ?_
      refine x_seq ?_
      refine w_no rfl ?_
      refine w_skip ?_
      refine x_seq ?_
      refine w_seq ?_
      refine w_region ?_
      refine t_assign rfl ?_ rfl
      refine t_done ?_
      refine x_seq ?_
      refine w_seq ?_
      refine w_region ?_
      refine t_bxn S.tail.tail.tail.tail.box ab_path sb_path rfl rfl ?_ rfl
      refine t_move rfl ?_ rfl
      have S := S.f5
      refine t_callf Try.call21 rfl (mark_path _ _ _ _ _ _ S (by omega) (by omega)) ?_ rfl
      rintro e w263 ⟨rfl, S, x264⟩
      refine ⟨_, rfl, ?_⟩
      have B := B.trans x264
      refine t_assign rfl ?_ rfl
      refine t_done ?_
      refine x_seq ?_
      refine w_seq ?_
      refine w_region ?_
      refine t_assign rfl ?_ rfl
      refine t_done ?_
      refine x_seq ?_
      refine w_seq ?_
      refine w_region ?_
      refine t_bxn S.tail.tail.tail.tail.tail.box ab_path sb_path rfl rfl ?_ rfl
      refine t_move rfl ?_ rfl
      refine t_callx Try.call29 rfl (held_path _ _ _ _ (S.sl) (by omega) (by omega)) ?_ rfl rfl
      intro w265 x266
      have B := bx Hb B x266
      have S := S.below x266
      refine t_assign rfl ?_ rfl
      refine t_done ?_
      refine x_seq ?_
      refine w_seq ?_
      refine w_seq ?_
      refine w_region ?_
      refine t_move rfl ?_ rfl
      refine t_lss rfl rfl ?_ rfl
      refine t_done ?_
      refine x_seq ?_
      refine w_if rfl (fun h => (by exfalso; omega)) ?_
      intro hc71
      refine w_skip ?_
      refine x_seq ?_
      refine w_seq ?_
      refine w_seq ?_
      refine w_region ?_
      refine t_move rfl ?_ rfl
      refine t_move rfl ?_ rfl
      refine t_neq rfl rfl ?_ rfl
      refine t_done ?_
      refine x_seq ?_
      refine w_if rfl (fun h => absurd rfl h) ?_
      intro _
      refine w_skip ?_
      refine x_seq ?_
      refine w_seq ?_
      refine w_draw (.st .take 0 (.st .take 2 (.alt (.st .run 1 (.alt (.st .run 3 (.alt (.st .run 4 (.st .run 5 (.st .fin 6 .done))) (.st .run 5 (.st .run 4 (.st .fin 6 .done))))) (.st .run 5 (.st .run 3 (.st .run 4 (.st .fin 6 .done)))))) (.st .run 5 (.st .run 1 (.st .run 3 (.st .run 4 (.st .fin 6 .done)))))))) mixed (by kernel_rfl) ?_
      intro w267 x268
      have B := bx Hb B x268
      have S := S.below x268
      refine t_lda (by assumption) ab_l_seg sb_l_seg B rfl ?_ rfl
      intro v75 hv75
      obtain ⟨v75_2, rfl, hv75_2⟩ := seg_va hv75
      refine t_lda (by assumption) ab_l_seg sb_l_seg B rfl ?_ rfl
      intro v77 hv77
      obtain ⟨v77_2, rfl, hv77_2⟩ := seg_va hv77
      refine t_alt ?_ ?_
      · refine t_call Try.call46 rfl (va1 (by first | assumption | exact VA.below (by assumption) B) fun cs h => to_seg _ cs _ h (by omega)) ?_ rfl rfl
        rintro e w269 ⟨cs76, fp76, rfl, hO76, x270⟩
        refine ⟨_, rfl, x270, ?_⟩
        have S := S.add (o := tyO segT _ _) x270 hO76
        have B := bx Hb B x270
        obtain ⟨u76_2, heq, S2⟩ := S.segOpen
        subst heq
        have S := S2
        clear S2
        refine t_alt ?_ ?_
        · refine t_call Try.call46 rfl (va1 (by first | assumption | exact VA.below (by assumption) B) fun cs h => to_seg _ cs _ h (by omega)) ?_ rfl rfl
          rintro e w271 ⟨cs78, fp78, rfl, hO78, x272⟩
          refine ⟨_, rfl, x272, ?_⟩
          have S := S.add (o := tyO segT _ _) x272 hO78
          have B := bx Hb B x272
          obtain ⟨u78_2, heq, S2⟩ := S.segOpen
          subst heq
          have S := S2
          clear S2
          refine t_alt ?_ ?_
          · refine t_call Try.call51 rfl (impl_JoinUpDown _ _ _ _ _ (seg_mkv (S.tail.sl)) (seg_mkv (S.sl)) (by omega) (by omega)) ?_ rfl rfl
            rintro e w273 ⟨cs79, fp79, rfl, hO79, x274⟩
            refine ⟨_, rfl, x274, ?_⟩
            have S := S.add (o := tyO pathT _ _) x274 hO79
            have B := bx Hb B x274
            obtain ⟨u79_0, heq, S2⟩ := S.pathOpen
            subst heq
            have S := S2
            clear S2
            refine t_alloc S z_path rfl ?_ rfl rfl
            intro g13 w275 x276 S
            have B := bx Hb B x276
            refine t_stn S sb_path rfl rfl rfl rfl (by intro zz hu; have hu : zz ∈ ([u79_0] : List Value) := hu; simp only [List.mem_cons, List.not_mem_nil, or_false] at hu; rcases hu with rfl <;> first | rfl | exact (SlR.cells (by first | assumption | exact S.tail.sl | exact S.tail.tail.sl | exact S.tail.tail.tail.sl | exact S.tail.tail.tail.tail.sl | exact S.tail.tail.tail.tail.tail.sl | exact S.tail.tail.tail.tail.tail.tail.sl | exact S.tail.tail.tail.tail.tail.tail.tail.sl | exact S.tail.tail.tail.tail.tail.tail.tail.tail.sl)).2) ?_
            intro w277 b278 S
            have B := B.trans b278
            refine t_done' ?_
            refine x_seq ?_
            refine w_seq ?_
            refine w_seq ?_
            refine w_region ?_
            refine t_bxn S.box ab_path sb_path rfl rfl ?_ rfl
            refine t_bxn S.tail.tail.tail.tail.tail.tail.tail.tail.tail.tail.tail.tail.box ab_path sb_path rfl rfl ?_ rfl
            refine t_callx Try.call20 rfl (eqv_path _ _ _ _ (path_mkv (S.tail.sl)) (path_mkv (S.tail.tail.tail.tail.tail.tail.tail.tail.tail.tail.tail.tail.tail.sl)) (ok_path_big (by omega))) ?_ rfl rfl
            intro w279 x280
            have B := bx Hb B x280
            have S := S.below x280
            refine t_notb rfl ?_ rfl
            refine t_done ?_
            refine x_seq ?_
            refine w_no rfl ?_
            refine w_skip ?_
            refine x_seq ?_
            refine w_seq ?_
            refine w_region ?_
            refine t_assign rfl ?_ rfl
            refine t_done ?_
            refine x_seq ?_
            refine w_seq ?_
            refine w_region ?_
            refine t_bxn S.tail.tail.tail.tail.tail.tail.tail.tail.tail.box ab_path sb_path rfl rfl ?_ rfl
            refine t_move rfl ?_ rfl
            refine t_callx Try.call29 rfl (held_path _ _ _ _ (S.tail.tail.tail.tail.sl) (by omega) (by omega)) ?_ rfl rfl
            intro w281 x282
            have B := bx Hb B x282
            have S := S.below x282
            refine t_assign rfl ?_ rfl
            refine t_done ?_
            refine x_seq ?_
            refine w_seq ?_
            refine w_seq ?_
            refine w_region ?_
            refine t_move rfl ?_ rfl
            refine t_lss rfl rfl ?_ rfl
            refine t_done ?_
            refine x_seq ?_
            refine w_if rfl (fun h => (by exfalso; omega)) ?_
            intro hc88
            refine w_skip ?_
            refine x_seq ?_
            refine w_seq ?_
            refine w_seq ?_
            refine w_region ?_
            refine t_move rfl ?_ rfl
            refine t_move rfl ?_ rfl
            refine t_neq rfl rfl ?_ rfl
            refine t_done ?_
            refine x_seq ?_
            refine w_if rfl (fun h => absurd rfl h) ?_
            intro _
            refine w_skip ?_
            refine x_seq ?_
            refine w_seq ?_
            refine w_region ?_
            refine t_assign rfl ?_ rfl
            refine t_done ?_
            refine x_seq ?_
            refine w_ret ?_
            refine x_ret1 rfl rfl ?_
            exact ⟨rfl, ext_trans X0 B⟩
          · refine t_alloc S z_path rfl ?_ rfl rfl
            intro g13 w283 x284 S
            have B := bx Hb B x284
            refine t_call Try.call51 rfl (impl_JoinUpDown _ _ _ _ _ (seg_mkv (S.tail.tail.sl)) (seg_mkv (S.tail.sl)) (by omega) (by omega)) ?_ rfl rfl
            rintro e w285 ⟨cs79, fp79, rfl, hO79, x286⟩
            refine ⟨_, rfl, x286, ?_⟩
            have S := S.add (o := tyO pathT _ _) x286 hO79
            have B := bx Hb B x286
            obtain ⟨u79_0, heq, S2⟩ := S.pathOpen
            subst heq
            have S := S2
            clear S2
            have S := S.f1
            refine t_stn S sb_path rfl rfl rfl rfl (by intro zz hu; have hu : zz ∈ ([u79_0] : List Value) := hu; simp only [List.mem_cons, List.not_mem_nil, or_false] at hu; rcases hu with rfl <;> first | rfl | exact (SlR.cells (by first | assumption | exact S.tail.sl | exact S.tail.tail.sl | exact S.tail.tail.tail.sl | exact S.tail.tail.tail.tail.sl | exact S.tail.tail.tail.tail.tail.sl | exact S.tail.tail.tail.tail.tail.tail.sl | exact S.tail.tail.tail.tail.tail.tail.tail.sl | exact S.tail.tail.tail.tail.tail.tail.tail.tail.sl)).2) ?_
            intro w287 b288 S
            have B := B.trans b288
            refine t_done' ?_
            refine x_seq ?_
            refine w_seq ?_
            refine w_seq ?_
            refine w_region ?_
            refine t_bxn S.box ab_path sb_path rfl rfl ?_ rfl
            refine t_bxn S.tail.tail.tail.tail.tail.tail.tail.tail.tail.tail.tail.tail.box ab_path sb_path rfl rfl ?_ rfl
            refine t_callx Try.call20 rfl (eqv_path _ _ _ _ (path_mkv (S.tail.sl)) (path_mkv (S.tail.tail.tail.tail.tail.tail.tail.tail.tail.tail.tail.tail.tail.sl)) (ok_path_big (by omega))) ?_ rfl rfl
            intro w289 x290
            have B := bx Hb B x290
            have S := S.below x290
            refine t_notb rfl ?_ rfl
            refine t_done ?_
            refine x_seq ?_
            refine w_no rfl ?_
            refine w_skip ?_
            refine x_seq ?_
            refine w_seq ?_
            refine w_region ?_
            refine t_assign rfl ?_ rfl
            refine t_done ?_
            refine x_seq ?_
            refine w_seq ?_
            refine w_region ?_
            refine t_bxn S.tail.tail.tail.tail.tail.tail.tail.tail.tail.box ab_path sb_path rfl rfl ?_ rfl
            refine t_move rfl ?_ rfl
            refine t_callx Try.call29 rfl (held_path _ _ _ _ (S.tail.tail.tail.tail.sl) (by omega) (by omega)) ?_ rfl rfl
            intro w291 x292
            have B := bx Hb B x292
            have S := S.below x292
            refine t_assign rfl ?_ rfl
            refine t_done ?_
            refine x_seq ?_
            refine w_seq ?_
            refine w_seq ?_
            refine w_region ?_
            refine t_move rfl ?_ rfl
            refine t_lss rfl rfl ?_ rfl
            refine t_done ?_
            refine x_seq ?_
            refine w_if rfl (fun h => (by exfalso; omega)) ?_
            intro hc88
            refine w_skip ?_
            refine x_seq ?_
            refine w_seq ?_
            refine w_seq ?_
            refine w_region ?_
            refine t_move rfl ?_ rfl
            refine t_move rfl ?_ rfl
            refine t_neq rfl rfl ?_ rfl
            refine t_done ?_
            refine x_seq ?_
            refine w_if rfl (fun h => absurd rfl h) ?_
            intro _
            refine w_skip ?_
            refine x_seq ?_
            refine w_seq ?_
            refine w_region ?_
            refine t_assign rfl ?_ rfl
            refine t_done ?_
            refine x_seq ?_
            refine w_ret ?_
            refine x_ret1 rfl rfl ?_
            exact ⟨rfl, ext_trans X0 B⟩
        · refine t_alloc S z_path rfl ?_ rfl rfl
          intro g13 w293 x294 S
          have B := bx Hb B x294
          refine t_call Try.call46 rfl (va1 (by first | assumption | exact VA.below (by assumption) B) fun cs h => to_seg _ cs _ h (by omega)) ?_ rfl rfl
          rintro e w295 ⟨cs78, fp78, rfl, hO78, x296⟩
          refine ⟨_, rfl, x296, ?_⟩
          have S := S.add (o := tyO segT _ _) x296 hO78
          have B := bx Hb B x296
          obtain ⟨u78_2, heq, S2⟩ := S.segOpen
          subst heq
          have S := S2
          clear S2
          refine t_call Try.call51 rfl (impl_JoinUpDown _ _ _ _ _ (seg_mkv (S.tail.tail.sl)) (seg_mkv (S.sl)) (by omega) (by omega)) ?_ rfl rfl
          rintro e w297 ⟨cs79, fp79, rfl, hO79, x298⟩
          refine ⟨_, rfl, x298, ?_⟩
          have S := S.add (o := tyO pathT _ _) x298 hO79
          have B := bx Hb B x298
          obtain ⟨u79_0, heq, S2⟩ := S.pathOpen
          subst heq
          have S := S2
          clear S2
          have S := S.f2
          refine t_stn S sb_path rfl rfl rfl rfl (by intro zz hu; have hu : zz ∈ ([u79_0] : List Value) := hu; simp only [List.mem_cons, List.not_mem_nil, or_false] at hu; rcases hu with rfl <;> first | rfl | exact (SlR.cells (by first | assumption | exact S.tail.sl | exact S.tail.tail.sl | exact S.tail.tail.tail.sl | exact S.tail.tail.tail.tail.sl | exact S.tail.tail.tail.tail.tail.sl | exact S.tail.tail.tail.tail.tail.tail.sl | exact S.tail.tail.tail.tail.tail.tail.tail.sl | exact S.tail.tail.tail.tail.tail.tail.tail.tail.sl)).2) ?_
          intro w299 b300 S
          have B := B.trans b300
          refine t_done' ?_
          refine x_seq ?_
          refine w_seq ?_
          refine w_seq ?_
          refine w_region ?_
          refine t_bxn S.box ab_path sb_path rfl rfl ?_ rfl
          refine t_bxn S.tail.tail.tail.tail.tail.tail.tail.tail.tail.tail.tail.tail.box ab_path sb_path rfl rfl ?_ rfl
          refine t_callx Try.call20 rfl (eqv_path _ _ _ _ (path_mkv (S.tail.sl)) (path_mkv (S.tail.tail.tail.tail.tail.tail.tail.tail.tail.tail.tail.tail.tail.sl)) (ok_path_big (by omega))) ?_ rfl rfl
          intro w301 x302
          have B := bx Hb B x302
          have S := S.below x302
          refine t_notb rfl ?_ rfl
          refine t_done ?_
          refine x_seq ?_
          refine w_no rfl ?_
          refine w_skip ?_
          refine x_seq ?_
          refine w_seq ?_
          refine w_region ?_
          refine t_assign rfl ?_ rfl
          refine t_done ?_
          refine x_seq ?_
          refine w_seq ?_
          refine w_region ?_
          refine t_bxn S.tail.tail.tail.tail.tail.tail.tail.tail.tail.box ab_path sb_path rfl rfl ?_ rfl
          refine t_move rfl ?_ rfl
          refine t_callx Try.call29 rfl (held_path _ _ _ _ (S.tail.tail.tail.tail.sl) (by omega) (by omega)) ?_ rfl rfl
          intro w303 x304
          have B := bx Hb B x304
          have S := S.below x304
          refine t_assign rfl ?_ rfl
          refine t_done ?_
          refine x_seq ?_
          refine w_seq ?_
          refine w_seq ?_
          refine w_region ?_
          refine t_move rfl ?_ rfl
          refine t_lss rfl rfl ?_ rfl
          refine t_done ?_
          refine x_seq ?_
          refine w_if rfl (fun h => (by exfalso; omega)) ?_
          intro hc88
          refine w_skip ?_
          refine x_seq ?_
          refine w_seq ?_
          refine w_seq ?_
          refine w_region ?_
          refine t_move rfl ?_ rfl
          refine t_move rfl ?_ rfl
          refine t_neq rfl rfl ?_ rfl
          refine t_done ?_
          refine x_seq ?_
          refine w_if rfl (fun h => absurd rfl h) ?_
          intro _
          refine w_skip ?_
          refine x_seq ?_
          refine w_seq ?_
          refine w_region ?_
          refine t_assign rfl ?_ rfl
          refine t_done ?_
          refine x_seq ?_
          refine w_ret ?_
          refine x_ret1 rfl rfl ?_
          exact ⟨rfl, ext_trans X0 B⟩
      · refine t_alloc S z_path rfl ?_ rfl rfl
        intro g13 w305 x306 S
        have B := bx Hb B x306
        refine t_call Try.call46 rfl (va1 (by first | assumption | exact VA.below (by assumption) B) fun cs h => to_seg _ cs _ h (by omega)) ?_ rfl rfl
        rintro e w307 ⟨cs76, fp76, rfl, hO76, x308⟩
        refine ⟨_, rfl, x308, ?_⟩
        have S := S.add (o := tyO segT _ _) x308 hO76
        have B := bx Hb B x308
        obtain ⟨u76_2, heq, S2⟩ := S.segOpen
        subst heq
        have S := S2
        clear S2
        refine t_call Try.call46 rfl (va1 (by first | assumption | exact VA.below (by assumption) B) fun cs h => to_seg _ cs _ h (by omega)) ?_ rfl rfl
        rintro e w309 ⟨cs78, fp78, rfl, hO78, x310⟩
        refine ⟨_, rfl, x310, ?_⟩
        have S := S.add (o := tyO segT _ _) x310 hO78
        have B := bx Hb B x310
        obtain ⟨u78_2, heq, S2⟩ := S.segOpen
        subst heq
        have S := S2
        clear S2
        refine t_call Try.call51 rfl (impl_JoinUpDown _ _ _ _ _ (seg_mkv (S.tail.sl)) (seg_mkv (S.sl)) (by omega) (by omega)) ?_ rfl rfl
        rintro e w311 ⟨cs79, fp79, rfl, hO79, x312⟩
        refine ⟨_, rfl, x312, ?_⟩
        have S := S.add (o := tyO pathT _ _) x312 hO79
        have B := bx Hb B x312
        obtain ⟨u79_0, heq, S2⟩ := S.pathOpen
        subst heq
        have S := S2
        clear S2
        have S := S.f3
        refine t_stn S sb_path rfl rfl rfl rfl (by intro zz hu; have hu : zz ∈ ([u79_0] : List Value) := hu; simp only [List.mem_cons, List.not_mem_nil, or_false] at hu; rcases hu with rfl <;> first | rfl | exact (SlR.cells (by first | assumption | exact S.tail.sl | exact S.tail.tail.sl | exact S.tail.tail.tail.sl | exact S.tail.tail.tail.tail.sl | exact S.tail.tail.tail.tail.tail.sl | exact S.tail.tail.tail.tail.tail.tail.sl | exact S.tail.tail.tail.tail.tail.tail.tail.sl | exact S.tail.tail.tail.tail.tail.tail.tail.tail.sl)).2) ?_
        intro w313 b314 S
        have B := B.trans b314
        refine t_done' ?_
        refine x_seq ?_
        refine w_seq ?_
        refine w_seq ?_
        refine w_region ?_
        refine t_bxn S.box ab_path sb_path rfl rfl ?_ rfl
        refine t_bxn S.tail.tail.tail.tail.tail.tail.tail.tail.tail.tail.tail.tail.box ab_path sb_path rfl rfl ?_ rfl
        refine t_callx Try.call20 rfl (eqv_path _ _ _ _ (path_mkv (S.tail.sl)) (path_mkv (S.tail.tail.tail.tail.tail.tail.tail.tail.tail.tail.tail.tail.tail.sl)) (ok_path_big (by omega))) ?_ rfl rfl
        intro w315 x316
        have B := bx Hb B x316
        have S := S.below x316
        refine t_notb rfl ?_ rfl
        refine t_done ?_
        refine x_seq ?_
        refine w_no rfl ?_
        refine w_skip ?_
        refine x_seq ?_
        refine w_seq ?_
        refine w_region ?_
        refine t_assign rfl ?_ rfl
        refine t_done ?_
        refine x_seq ?_
        refine w_seq ?_
        refine w_region ?_
        refine t_bxn S.tail.tail.tail.tail.tail.tail.tail.tail.tail.box ab_path sb_path rfl rfl ?_ rfl
        refine t_move rfl ?_ rfl
        refine t_callx Try.call29 rfl (held_path _ _ _ _ (S.tail.tail.tail.tail.sl) (by omega) (by omega)) ?_ rfl rfl
        intro w317 x318
        have B := bx Hb B x318
        have S := S.below x318
        refine t_assign rfl ?_ rfl
        refine t_done ?_
        refine x_seq ?_
        refine w_seq ?_
        refine w_seq ?_
        refine w_region ?_
        refine t_move rfl ?_ rfl
        refine t_lss rfl rfl ?_ rfl
        refine t_done ?_
        refine x_seq ?_
        refine w_if rfl (fun h => (by exfalso; omega)) ?_
        intro hc88
        refine w_skip ?_
        refine x_seq ?_
        refine w_seq ?_
        refine w_seq ?_
        refine w_region ?_
        refine t_move rfl ?_ rfl
        refine t_move rfl ?_ rfl
        refine t_neq rfl rfl ?_ rfl
        refine t_done ?_
        refine x_seq ?_
        refine w_if rfl (fun h => absurd rfl h) ?_
        intro _
        refine w_skip ?_
        refine x_seq ?_
        refine w_seq ?_
        refine w_region ?_
        refine t_assign rfl ?_ rfl
        refine t_done ?_
        refine x_seq ?_
        refine w_ret ?_
        refine x_ret1 rfl rfl ?_
        exact ⟨rfl, ext_trans X0 B⟩
  · refine t_alloc S z_path rfl ?_ rfl rfl
    intro g6 w319 x320 S
    have B := bx Hb B x320
    refine t_call Try.call46 rfl (va1 (by first | assumption | exact VA.below (by assumption) B) fun cs h => to_seg _ cs _ h (by omega)) ?_ rfl rfl
    rintro e w321 ⟨cs25, fp25, rfl, hO25, x322⟩
    refine ⟨_, rfl, x322, ?_⟩
    have S := S.add (o := tyO segT _ _) x322 hO25
    have B := bx Hb B x322
    obtain ⟨u25_2, heq, S2⟩ := S.segOpen
    subst heq
    have S := S2
    clear S2
    refine t_call Try.call46 rfl (va1 (by first | assumption | exact VA.below (by assumption) B) fun cs h => to_seg _ cs _ h (by omega)) ?_ rfl rfl
    rintro e w323 ⟨cs27, fp27, rfl, hO27, x324⟩
    refine ⟨_, rfl, x324, ?_⟩
    have S := S.add (o := tyO segT _ _) x324 hO27
    have B := bx Hb B x324
    obtain ⟨u27_2, heq, S2⟩ := S.segOpen
    subst heq
    have S := S2
    clear S2
    refine t_call Try.call50 rfl (spec_JoinUpDown _ _ _ _ _ (seg_mkv (S.tail.sl)) (seg_mkv (S.sl)) (by omega) (by omega)) ?_ rfl rfl
    rintro e w325 ⟨cs28, fp28, rfl, hO28, x326⟩
    refine ⟨_, rfl, x326, ?_⟩
    have S := S.add (o := tyO pathT _ _) x326 hO28
    have B := bx Hb B x326
    obtain ⟨u28_0, heq, S2⟩ := S.pathOpen
    subst heq
    have S := S2
    clear S2
    have S := S.f3
    refine t_stn S sb_path rfl rfl rfl rfl (by intro zz hu; have hu : zz ∈ ([u28_0] : List Value) := hu; simp only [List.mem_cons, List.not_mem_nil, or_false] at hu; rcases hu with rfl <;> first | rfl | exact (SlR.cells (by first | assumption | exact S.tail.sl | exact S.tail.tail.sl | exact S.tail.tail.tail.sl | exact S.tail.tail.tail.tail.sl | exact S.tail.tail.tail.tail.tail.sl | exact S.tail.tail.tail.tail.tail.tail.sl | exact S.tail.tail.tail.tail.tail.tail.tail.sl | exact S.tail.tail.tail.tail.tail.tail.tail.tail.sl)).2) ?_
    intro w327 b328 S
    have B := B.trans b328
    refine t_done' ?_
    refine x_seq ?_
    refine w_seq ?_
    refine w_region ?_
    refine t_lda (by assumption) ab_l_seg sb_l_seg B rfl ?_ rfl
    intro v29 hv29
    obtain ⟨v29_2, rfl, hv29_2⟩ := seg_va hv29
    refine t_call Try.call46 rfl (va1 (by first | assumption | exact VA.below (by assumption) B) fun cs h => to_seg _ cs _ h (by omega)) ?_ rfl rfl
    rintro e w329 ⟨cs30, fp30, rfl, hO30, x330⟩
    refine ⟨_, rfl, x330, ?_⟩
    have S := S.add (o := tyO segT _ _) x330 hO30
    have B := bx Hb B x330
    obtain ⟨u30_2, heq, S2⟩ := S.segOpen
    subst heq
    have S := S2
    clear S2
    refine t_alloc S z_seg rfl ?_ rfl rfl
    intro g7 w331 x332 S
    have B := bx Hb B x332
    refine t_stn S sb_seg rfl rfl rfl rfl (by intro zz hu; have hu : zz ∈ ([I d0.ts, I d0.beta, u30_2] : List Value) := hu; simp only [List.mem_cons, List.not_mem_nil, or_false] at hu; rcases hu with rfl | rfl | rfl <;> first | rfl | exact (SlR.cells (by first | assumption | exact S.tail.sl | exact S.tail.tail.sl | exact S.tail.tail.tail.sl | exact S.tail.tail.tail.tail.sl | exact S.tail.tail.tail.tail.tail.sl | exact S.tail.tail.tail.tail.tail.tail.sl | exact S.tail.tail.tail.tail.tail.tail.tail.sl | exact S.tail.tail.tail.tail.tail.tail.tail.tail.sl)).2) ?_
    intro w333 b334 S
    have B := B.trans b334
    refine t_done ?_
    refine x_seq ?_
    refine w_seq ?_
    refine w_region ?_
    refine t_lda (by assumption) ab_l_seg sb_l_seg B rfl ?_ rfl
    intro v31 hv31
    obtain ⟨v31_2, rfl, hv31_2⟩ := seg_va hv31
    refine t_call Try.call46 rfl (va1 (by first | assumption | exact VA.below (by assumption) B) fun cs h => to_seg _ cs _ h (by omega)) ?_ rfl rfl
    rintro e w335 ⟨cs32, fp32, rfl, hO32, x336⟩
    refine ⟨_, rfl, x336, ?_⟩
    have S := S.add (o := tyO segT _ _) x336 hO32
    have B := bx Hb B x336
    obtain ⟨u32_2, heq, S2⟩ := S.segOpen
    subst heq
    have S := S2
    clear S2
    refine t_alloc S z_seg rfl ?_ rfl rfl
    intro g8 w337 x338 S
    have B := bx Hb B x338
    refine t_stn S sb_seg rfl rfl rfl rfl (by intro zz hu; have hu : zz ∈ ([I d1.ts, I d1.beta, u32_2] : List Value) := hu; simp only [List.mem_cons, List.not_mem_nil, or_false] at hu; rcases hu with rfl | rfl | rfl <;> first | rfl | exact (SlR.cells (by first | assumption | exact S.tail.sl | exact S.tail.tail.sl | exact S.tail.tail.tail.sl | exact S.tail.tail.tail.tail.sl | exact S.tail.tail.tail.tail.tail.sl | exact S.tail.tail.tail.tail.tail.tail.sl | exact S.tail.tail.tail.tail.tail.tail.tail.sl | exact S.tail.tail.tail.tail.tail.tail.tail.tail.sl)).2) ?_
    intro w339 b340 S
    have B := B.trans b340
    refine t_done ?_
    refine x_seq ?_
    refine w_seq ?_
    refine w_region ?_
    refine t_bxn S.tail.tail.box ab_seg sb_seg rfl rfl ?_ rfl
    refine t_bxn S.box ab_seg sb_seg rfl rfl ?_ rfl
    refine t_call Try.call51 rfl (impl_JoinUpDown _ _ _ _ _ (seg_mkv (S.tail.tail.tail.sl)) (seg_mkv (S.tail.sl)) (by omega) (by omega)) ?_ rfl rfl
    rintro e w341 ⟨cs35, fp35, rfl, hO35, x342⟩
    refine ⟨_, rfl, x342, ?_⟩
    have S := S.add (o := tyO pathT _ _) x342 hO35
    have B := bx Hb B x342
    obtain ⟨u35_0, heq, S2⟩ := S.pathOpen
    subst heq
    have S := S2
    clear S2
    refine t_alloc S z_path rfl ?_ rfl rfl
    intro g9 w343 x344 S
    have B := bx Hb B x344
    refine t_stn S sb_path rfl rfl rfl rfl (by intro zz hu; have hu : zz ∈ ([u35_0] : List Value) := hu; simp only [List.mem_cons, List.not_mem_nil, or_false] at hu; rcases hu with rfl <;> first | rfl | exact (SlR.cells (by first | assumption | exact S.tail.sl | exact S.tail.tail.sl | exact S.tail.tail.tail.sl | exact S.tail.tail.tail.tail.sl | exact S.tail.tail.tail.tail.tail.sl | exact S.tail.tail.tail.tail.tail.tail.sl | exact S.tail.tail.tail.tail.tail.tail.tail.sl | exact S.tail.tail.tail.tail.tail.tail.tail.tail.sl)).2) ?_
    intro w345 b346 S
    have B := B.trans b346
    refine t_done ?_
    refine x_seq ?_
    refine w_seq ?_
    refine w_seq ?_
    refine w_region ?_
    refine t_bxn S.box ab_path sb_path rfl rfl ?_ rfl
    refine t_bxn S.tail.tail.tail.tail.tail.tail.box ab_path sb_path rfl rfl ?_ rfl
    refine t_callx Try.call20 rfl (eqv_path _ _ _ _ (path_mkv (S.tail.sl)) (path_mkv (S.tail.tail.tail.tail.tail.tail.tail.sl)) (ok_path_big (by omega))) ?_ rfl rfl
    intro w347 x348
    have B := bx Hb B x348
    have S := S.below x348
    refine t_notb rfl ?_ rfl
    refine t_done ?_
    refine x_seq ?_
    refine w_no rfl ?_
    refine w_skip ?_
    refine x_seq ?_
    refine w_seq ?_
    refine w_seq ?_
    refine w_draw (.st .take 0 (.st .take 1 (.st .run 2 (.st .run 3 (.st .take 4 .done))))) mixed (by kernel_rfl) ?_
    intro w349 x350
    have B := bx Hb B x350
    have S := S.below x350
    refine t_bxn S.tail.tail.tail.tail.box ab_seg sb_seg rfl rfl ?_ rfl
    refine t_lda (by assumption) ab_l_seg sb_l_seg B rfl ?_ rfl
    intro v41 hv41
    obtain ⟨v41_2, rfl, hv41_2⟩ := seg_va hv41
    refine t_call Try.call46 rfl (va1 (by first | assumption | exact VA.below (by assumption) B) fun cs h => to_seg _ cs _ h (by omega)) ?_ rfl rfl
    rintro e w351 ⟨cs42, fp42, rfl, hO42, x352⟩
    refine ⟨_, rfl, x352, ?_⟩
    have S := S.add (o := tyO segT _ _) x352 hO42
    have B := bx Hb B x352
    obtain ⟨u42_2, heq, S2⟩ := S.segOpen
    subst heq
    have S := S2
    clear S2
    refine t_callx Try.call48 rfl (eqv_seg _ _ _ _ (seg_mkv (S.tail.tail.tail.tail.tail.tail.sl)) (seg_mkv (S.sl)) (ok_seg_sz (by omega))) ?_ rfl rfl
    intro w353 x354
    have B := bx Hb B x354
    have S := S.below x354
    refine t_notb rfl ?_ rfl
    refine t_done' ?_
    refine x_seq ?_
    refine w_no rfl ?_
    refine w_skip ?_
    refine x_seq ?_
    refine w_seq ?_
    refine w_seq ?_
    refine w_draw (.st .take 0 (.st .take 1 (.st .run 2 (.st .run 3 (.st .take 4 .done))))) mixed (by kernel_rfl) ?_
    intro w355 x356
    have B := bx Hb B x356
    have S := S.below x356
    refine t_bxn S.tail.tail.tail.box ab_seg sb_seg rfl rfl ?_ rfl
    refine t_lda (by assumption) ab_l_seg sb_l_seg B rfl ?_ rfl
    intro v46 hv46
    obtain ⟨v46_2, rfl, hv46_2⟩ := seg_va hv46
    refine t_call Try.call46 rfl (va1 (by first | assumption | exact VA.below (by assumption) B) fun cs h => to_seg _ cs _ h (by omega)) ?_ rfl rfl
    rintro e w357 ⟨cs47, fp47, rfl, hO47, x358⟩
    refine ⟨_, rfl, x358, ?_⟩
    have S := S.add (o := tyO segT _ _) x358 hO47
    have B := bx Hb B x358
    obtain ⟨u47_2, heq, S2⟩ := S.segOpen
    subst heq
    have S := S2
    clear S2
    refine t_callx Try.call48 rfl (eqv_seg _ _ _ _ (seg_mkv (S.tail.tail.tail.tail.tail.sl)) (seg_mkv (S.sl)) (ok_seg_sz (by omega))) ?_ rfl rfl
    intro w359 x360
    have B := bx Hb B x360
    have S := S.below x360
    refine t_notb rfl ?_ rfl
    refine t_done' ?_
    refine x_seq ?_
    refine w_no rfl ?_
    refine w_skip ?_
    refine x_seq ?_
    refine w_seq ?_
    refine w_region ?_
    refine t_assign rfl ?_ rfl
    refine t_done ?_
    refine x_seq ?_
    refine w_seq ?_
    refine w_region ?_
    refine t_bxn S.tail.tail.tail.tail.tail.tail.box ab_seg sb_seg rfl rfl ?_ rfl
    refine t_move rfl ?_ rfl
    have S := S.f7
    refine t_callf Try.call49 rfl (mark_segm _ _ _ _ _ _ S (by omega) (by omega)) ?_ rfl
    rintro e w361 ⟨rfl, S, x362⟩
    refine ⟨_, rfl, ?_⟩
    have B := B.trans x362
    refine t_assign rfl ?_ rfl
    refine t_done ?_
    refine x_seq ?_
    refine w_seq ?_
    refine w_region ?_
    refine t_bxn S.tail.tail.tail.tail.tail.box ab_seg sb_seg rfl rfl ?_ rfl
    refine t_move rfl ?_ rfl
    have S := S.f6
    refine t_callf Try.call49 rfl (mark_segm _ _ _ _ _ _ S (by omega) (by omega)) ?_ rfl
    rintro e w363 ⟨rfl, S, x364⟩
    refine ⟨_, rfl, ?_⟩
    have B := B.trans x364
    refine t_assign rfl ?_ rfl
    refine t_done ?_
    refine x_seq ?_
    refine w_seq ?_
    refine w_seq ?_
    refine w_region ?_
    refine t_move rfl ?_ rfl
    refine t_lss rfl rfl ?_ rfl
    refine t_move rfl ?_ rfl
    refine t_partp (t := 58) rfl (fun h => (by exfalso; omega)) ?_
    intro hc58
    refine t_on rfl rfl ?_
    refine t_bxn S.tail.tail.tail.tail.box ab_path sb_path rfl rfl ?_ rfl
    refine t_on rfl rfl ?_
    refine t_bxn S.tail.tail.tail.tail.tail.tail.tail.tail.box ab_path sb_path rfl rfl ?_ rfl
    refine t_on rfl rfl ?_
    refine t_callx Try.call20 rfl (eqv_path _ _ _ _ (path_mkv (S.tail.tail.tail.tail.tail.sl)) (path_mkv (S.tail.tail.tail.tail.tail.tail.tail.tail.tail.sl)) (ok_path_big (by omega))) ?_ rfl rfl
    intro w365 x366
    have B := bx Hb B x366
    have S := S.below x366
    refine t_on rfl rfl ?_
    refine t_notb rfl ?_ rfl
    refine t_pickf rfl rfl ?_ rfl
    refine t_done ?_
    refine x_seq ?_
    refine w_no rfl ?_
    refine w_skip ?_
    refine x_seq ?_
    refine w_seq ?_
    refine w_region ?_
    refine t_assign rfl ?_ rfl
    refine t_done ?_
    refine x_seq ?_
    refine w_seq ?_
    refine w_region ?_
    refine t_bxn S.tail.tail.tail.tail.box ab_path sb_path rfl rfl ?_ rfl
    refine t_move rfl ?_ rfl
    have S := S.f5
    refine t_callf Try.call21 rfl (mark_path _ _ _ _ _ _ S (by omega) (by omega)) ?_ rfl
    rintro e w367 ⟨rfl, S, x368⟩
    refine ⟨_, rfl, ?_⟩
    have B := B.trans x368
    refine t_assign rfl ?_ rfl
    refine t_done ?_
    refine x_seq ?_
    refine w_seq ?_
    refine w_region ?_
    refine t_assign rfl ?_ rfl
    refine t_done ?_
    refine x_seq ?_
    refine w_seq ?_
    refine w_region ?_
    refine t_bxn S.tail.tail.tail.tail.tail.box ab_path sb_path rfl rfl ?_ rfl
    refine t_move rfl ?_ rfl
    refine t_callx Try.call29 rfl (held_path _ _ _ _ (S.sl) (by omega) (by omega)) ?_ rfl rfl
    intro w369 x370
    have B := bx Hb B x370
    have S := S.below x370
    refine t_assign rfl ?_ rfl
    refine t_done ?_
    refine x_seq ?_
    refine w_seq ?_
    refine w_seq ?_
    refine w_region ?_
    refine t_move rfl ?_ rfl
    refine t_lss rfl rfl ?_ rfl
    refine t_done ?_
    refine x_seq ?_
    refine w_if rfl (fun h => (by exfalso; omega)) ?_
    intro hc71
    refine w_skip ?_
    refine x_seq ?_
    refine w_seq ?_
    refine w_seq ?_
    refine w_region ?_
    refine t_move rfl ?_ rfl
    refine t_move rfl ?_ rfl
    refine t_neq rfl rfl ?_ rfl
    refine t_done ?_
    refine x_seq ?_
    refine w_if rfl (fun h => absurd rfl h) ?_
    intro _
    refine w_skip ?_
    refine x_seq ?_
    refine w_seq ?_
    refine w_draw (.st .take 0 (.st .take 2 (.alt (.st .run 1 (.alt (.st .run 3 (.alt (.st .run 4 (.st .run 5 (.st .fin 6 .done))) (.st .run 5 (.st .run 4 (.st .fin 6 .done))))) (.st .run 5 (.st .run 3 (.st .run 4 (.st .fin 6 .done)))))) (.st .run 5 (.st .run 1 (.st .run 3 (.st .run 4 (.st .fin 6 .done)))))))) mixed (by kernel_rfl) ?_
    intro w371 x372
    have B := bx Hb B x372
    have S := S.below x372
    refine t_lda (by assumption) ab_l_seg sb_l_seg B rfl ?_ rfl
    intro v75 hv75
    obtain ⟨v75_2, rfl, hv75_2⟩ := seg_va hv75
    refine t_lda (by assumption) ab_l_seg sb_l_seg B rfl ?_ rfl
    intro v77 hv77
    obtain ⟨v77_2, rfl, hv77_2⟩ := seg_va hv77
    refine t_alt ?_ ?_
    · refine t_call Try.call46 rfl (va1 (by first | assumption | exact VA.below (by assumption) B) fun cs h => to_seg _ cs _ h (by omega)) ?_ rfl rfl
      rintro e w373 ⟨cs76, fp76, rfl, hO76, x374⟩
      refine ⟨_, rfl, x374, ?_⟩
      have S := S.add (o := tyO segT _ _) x374 hO76
      have B := bx Hb B x374
      obtain ⟨u76_2, heq, S2⟩ := S.segOpen
      subst heq
      have S := S2
      clear S2
      refine t_alt ?_ ?_
      · refine t_call Try.call46 rfl (va1 (by first | assumption | exact VA.below (by assumption) B) fun cs h => to_seg _ cs _ h (by omega)) ?_ rfl rfl
        rintro e w375 ⟨cs78, fp78, rfl, hO78, x376⟩
        refine ⟨_, rfl, x376, ?_⟩
        have S := S.add (o := tyO segT _ _) x376 hO78
        have B := bx Hb B x376
        obtain ⟨u78_2, heq, S2⟩ := S.segOpen
        subst heq
        have S := S2
        clear S2
        refine t_alt ?_ ?_
        · refine t_call Try.call51 rfl (impl_JoinUpDown _ _ _ _ _ (seg_mkv (S.tail.sl)) (seg_mkv (S.sl)) (by omega) (by omega)) ?_ rfl rfl
          rintro e w377 ⟨cs79, fp79, rfl, hO79, x378⟩
          refine ⟨_, rfl, x378, ?_⟩
          have S := S.add (o := tyO pathT _ _) x378 hO79
          have B := bx Hb B x378
          obtain ⟨u79_0, heq, S2⟩ := S.pathOpen
          subst heq
          have S := S2
          clear S2
          refine t_alloc S z_path rfl ?_ rfl rfl
          intro g13 w379 x380 S
          have B := bx Hb B x380
          refine t_stn S sb_path rfl rfl rfl rfl (by intro zz hu; have hu : zz ∈ ([u79_0] : List Value) := hu; simp only [List.mem_cons, List.not_mem_nil, or_false] at hu; rcases hu with rfl <;> first | rfl | exact (SlR.cells (by first | assumption | exact S.tail.sl | exact S.tail.tail.sl | exact S.tail.tail.tail.sl | exact S.tail.tail.tail.tail.sl | exact S.tail.tail.tail.tail.tail.sl | exact S.tail.tail.tail.tail.tail.tail.sl | exact S.tail.tail.tail.tail.tail.tail.tail.sl | exact S.tail.tail.tail.tail.tail.tail.tail.tail.sl)).2) ?_
          intro w381 b382 S
          have B := B.trans b382
          refine t_done' ?_
          refine x_seq ?_
          refine w_seq ?_
          refine w_seq ?_
          refine w_region ?_
          refine t_bxn S.box ab_path sb_path rfl rfl ?_ rfl
          refine t_bxn S.tail.tail.tail.tail.tail.tail.tail.tail.tail.tail.tail.tail.box ab_path sb_path rfl rfl ?_ rfl
          refine t_callx Try.call20 rfl (eqv_path _ _ _ _ (path_mkv (S.tail.sl)) (path_mkv (S.tail.tail.tail.tail.tail.tail.tail.tail.tail.tail.tail.tail.tail.sl)) (ok_path_big (by omega))) ?_ rfl rfl
          intro w383 x384
          have B := bx Hb B x384
          have S := S.below x384
          refine t_notb rfl ?_ rfl
          refine t_done ?_
          refine x_seq ?_
          refine w_no rfl ?_
          refine w_skip ?_
          refine x_seq ?_
          refine w_seq ?_
          refine w_region ?_
          refine t_assign rfl ?_ rfl
          refine t_done ?_
          refine x_seq ?_
          refine w_seq ?_
          refine w_region ?_
          refine t_bxn S.tail.tail.tail.tail.tail.tail.tail.tail.tail.box ab_path sb_path rfl rfl ?_ rfl
          refine t_move rfl ?_ rfl
          refine t_callx Try.call29 rfl (held_path _ _ _ _ (S.tail.tail.tail.tail.sl) (by omega) (by omega)) ?_ rfl rfl
          intro w385 x386
          have B := bx Hb B x386
          have S := S.below x386
          refine t_assign rfl ?_ rfl
          refine t_done ?_
          refine x_seq ?_
          refine w_seq ?_
          refine w_seq ?_
          refine w_region ?_
          refine t_move rfl ?_ rfl
          refine t_lss rfl rfl ?_ rfl
          refine t_done ?_
          refine x_seq ?_
          refine w_if rfl (fun h => (by exfalso; omega)) ?_
          intro hc88
          refine w_skip ?_
          refine x_seq ?_
          refine w_seq ?_
          refine w_seq ?_
          refine w_region ?_
          refine t_move rfl ?_ rfl
          refine t_move rfl ?_ rfl
          refine t_neq rfl rfl ?_ rfl
          refine t_done ?_
          refine x_seq ?_
          refine w_if rfl (fun h => absurd rfl h) ?_
          intro _
          refine w_skip ?_
          refine x_seq ?_
          refine w_seq ?_
          refine w_region ?_
          refine t_assign rfl ?_ rfl
          refine t_done ?_
          refine x_seq ?_
          refine w_ret ?_
          refine x_ret1 rfl rfl ?_
          exact ⟨rfl, ext_trans X0 B⟩
        · refine t_alloc S z_path rfl ?_ rfl rfl
          intro g13 w387 x388 S
          have B := bx Hb B x388
          refine t_call Try.call51 rfl (impl_JoinUpDown _ _ _ _ _ (seg_mkv (S.tail.tail.sl)) (seg_mkv (S.tail.sl)) (by omega) (by omega)) ?_ rfl rfl
          rintro e w389 ⟨cs79, fp79, rfl, hO79, x390⟩
          refine ⟨_, rfl, x390, ?_⟩
          have S := S.add (o := tyO pathT _ _) x390 hO79
          have B := bx Hb B x390
          obtain ⟨u79_0, heq, S2⟩ := S.pathOpen
          subst heq
          have S := S2
          clear S2
          have S := S.f1
          refine t_stn S sb_path rfl rfl rfl rfl (by intro zz hu; have hu : zz ∈ ([u79_0] : List Value) := hu; simp only [List.mem_cons, List.not_mem_nil, or_false] at hu; rcases hu with rfl <;> first | rfl | exact (SlR.cells (by first | assumption | exact S.tail.sl | exact S.tail.tail.sl | exact S.tail.tail.tail.sl | exact S.tail.tail.tail.tail.sl | exact S.tail.tail.tail.tail.tail.sl | exact S.tail.tail.tail.tail.tail.tail.sl | exact S.tail.tail.tail.tail.tail.tail.tail.sl | exact S.tail.tail.tail.tail.tail.tail.tail.tail.sl)).2) ?_
          intro w391 b392 S
          have B := B.trans b392
          refine t_done' ?_
          refine x_seq ?_
          refine w_seq ?_
          refine w_seq ?_
          refine w_region ?_
          refine t_bxn S.box ab_path sb_path rfl rfl ?_ rfl
          refine t_bxn S.tail.tail.tail.tail.tail.tail.tail.tail.tail.tail.tail.tail.box ab_path sb_path rfl rfl ?_ rfl
          refine t_callx Try.call20 rfl (eqv_path _ _ _ _ (path_mkv (S.tail.sl)) (path_mkv (S.tail.tail.tail.tail.tail.tail.tail.tail.tail.tail.tail.tail.tail.sl)) (ok_path_big (by omega))) ?_ rfl rfl
          intro w393 x394
          have B := bx Hb B x394
          have S := S.below x394
          refine t_notb rfl ?_ rfl
          refine t_done ?_
          refine x_seq ?_
          refine w_no rfl ?_
          refine w_skip ?_
          refine x_seq ?_
          refine w_seq ?_
          refine w_region ?_
          refine t_assign rfl ?_ rfl
          refine t_done ?_
          refine x_seq ?_
          refine w_seq ?_
          refine w_region ?_
          refine t_bxn S.tail.tail.tail.tail.tail.tail.tail.tail.tail.box ab_path sb_path rfl rfl ?_ rfl
          refine t_move rfl ?_ rfl
          refine t_callx Try.call29 rfl (held_path _ _ _ _ (S.tail.tail.tail.tail.sl) (by omega) (by omega)) ?_ rfl rfl
          intro w395 x396
          have B := bx Hb B x396
          have S := S.below x396
          refine t_assign rfl ?_ rfl
          refine t_done ?_
          refine x_seq ?_
          refine w_seq ?_
          refine w_seq ?_
          refine w_region ?_
          refine t_move rfl ?_ rfl
          refine t_lss rfl rfl ?_ rfl
          refine t_done ?_
          refine x_seq ?_
          refine w_if rfl (fun h => (by exfalso; omega)) ?_
          intro hc88
          refine w_skip ?_
          refine x_seq ?_
          refine w_seq ?_
          refine w_seq ?_
          refine w_region ?_
          refine t_move rfl ?_ rfl
          refine t_move rfl ?_ rfl
          refine t_neq rfl rfl ?_ rfl
          refine t_done ?_
          refine x_seq ?_
          refine w_if rfl (fun h => absurd rfl h) ?_
          intro _
          refine w_skip ?_
          refine x_seq ?_
          refine w_seq ?_
          refine w_region ?_
          refine t_assign rfl ?_ rfl
          refine t_done ?_
          refine x_seq ?_
          refine w_ret ?_
          refine x_ret1 rfl rfl ?_
          exact ⟨rfl, ext_trans X0 B⟩
      · refine t_alloc S z_path rfl ?_ rfl rfl
        intro g13 w397 x398 S
        have B := bx Hb B x398
        refine t_call Try.call46 rfl (va1 (by first | assumption | exact VA.below (by assumption) B) fun cs h => to_seg _ cs _ h (by omega)) ?_ rfl rfl
        rintro e w399 ⟨cs78, fp78, rfl, hO78, x400⟩
        refine ⟨_, rfl, x400, ?_⟩
        have S := S.add (o := tyO segT _ _) x400 hO78
        have B := bx Hb B x400
        obtain ⟨u78_2, heq, S2⟩ := S.segOpen
        subst heq
        have S := S2
        clear S2
        refine t_call Try.call51 rfl (impl_JoinUpDown _ _ _ _ _ (seg_mkv (S.tail.tail.sl)) (seg_mkv (S.sl)) (by omega) (by omega)) ?_ rfl rfl
        rintro e w401 ⟨cs79, fp79, rfl, hO79, x402⟩
        refine ⟨_, rfl, x402, ?_⟩
        have S := S.add (o := tyO pathT _ _) x402 hO79
        have B := bx Hb B x402
        obtain ⟨u79_0, heq, S2⟩ := S.pathOpen
        subst heq
        have S := S2
        clear S2
        have S := S.f2
        refine t_stn S sb_path rfl rfl rfl rfl (by intro zz hu; have hu : zz ∈ ([u79_0] : List Value) := hu; simp only [List.mem_cons, List.not_mem_nil, or_false] at hu; rcases hu with rfl <;> first | rfl | exact (SlR.cells (by first | assumption | exact S.tail.sl | exact S.tail.tail.sl | exact S.tail.tail.tail.sl | exact S.tail.tail.tail.tail.sl | exact S.tail.tail.tail.tail.tail.sl | exact S.tail.tail.tail.tail.tail.tail.sl | exact S.tail.tail.tail.tail.tail.tail.tail.sl | exact S.tail.tail.tail.tail.tail.tail.tail.tail.sl)).2) ?_
        intro w403 b404 S
        have B := B.trans b404
        refine t_done' ?_
        refine x_seq ?_
        refine w_seq ?_
        refine w_seq ?_
        refine w_region ?_
        refine t_bxn S.box ab_path sb_path rfl rfl ?_ rfl
        refine t_bxn S.tail.tail.tail.tail.tail.tail.tail.tail.tail.tail.tail.tail.box ab_path sb_path rfl rfl ?_ rfl
        refine t_callx Try.call20 rfl (eqv_path _ _ _ _ (path_mkv (S.tail.sl)) (path_mkv (S.tail.tail.tail.tail.tail.tail.tail.tail.tail.tail.tail.tail.tail.sl)) (ok_path_big (by omega))) ?_ rfl rfl
        intro w405 x406
        have B := bx Hb B x406
        have S := S.below x406
        refine t_notb rfl ?_ rfl
        refine t_done ?_
        refine x_seq ?_
        refine w_no rfl ?_
        refine w_skip ?_
        refine x_seq ?_
        refine w_seq ?_
        refine w_region ?_
        refine t_assign rfl ?_ rfl
        refine t_done ?_
        refine x_seq ?_
        refine w_seq ?_
        refine w_region ?_
        refine t_bxn S.tail.tail.tail.tail.tail.tail.tail.tail.tail.box ab_path sb_path rfl rfl ?_ rfl
        refine t_move rfl ?_ rfl
        refine t_callx Try.call29 rfl (held_path _ _ _ _ (S.tail.tail.tail.tail.sl) (by omega) (by omega)) ?_ rfl rfl
        intro w407 x408
        have B := bx Hb B x408
        have S := S.below x408
        refine t_assign rfl ?_ rfl
        refine t_done ?_
        refine x_seq ?_
        refine w_seq ?_
        refine w_seq ?_
        refine w_region ?_
        refine t_move rfl ?_ rfl
        refine t_lss rfl rfl ?_ rfl
        refine t_done ?_
        refine x_seq ?_
        refine w_if rfl (fun h => (by exfalso; omega)) ?_
        intro hc88
        refine w_skip ?_
        refine x_seq ?_
        refine w_seq ?_
        refine w_seq ?_
        refine w_region ?_
        refine t_move rfl ?_ rfl
        refine t_move rfl ?_ rfl
        refine t_neq rfl rfl ?_ rfl
        refine t_done ?_
        refine x_seq ?_
        refine w_if rfl (fun h => absurd rfl h) ?_
        intro _
        refine w_skip ?_
        refine x_seq ?_
        refine w_seq ?_
        refine w_region ?_
        refine t_assign rfl ?_ rfl
        refine t_done ?_
        refine x_seq ?_
        refine w_ret ?_
        refine x_ret1 rfl rfl ?_
        exact ⟨rfl, ext_trans X0 B⟩
    · refine t_alloc S z_path rfl ?_ rfl rfl
      intro g13 w409 x410 S
      have B := bx Hb B x410
      refine t_call Try.call46 rfl (va1 (by first | assumption | exact VA.below (by assumption) B) fun cs h => to_seg _ cs _ h (by omega)) ?_ rfl rfl
      rintro e w411 ⟨cs76, fp76, rfl, hO76, x412⟩
      refine ⟨_, rfl, x412, ?_⟩
      have S := S.add (o := tyO segT _ _) x412 hO76
      have B := bx Hb B x412
      obtain ⟨u76_2, heq, S2⟩ := S.segOpen
      subst heq
      have S := S2
      clear S2
      refine t_call Try.call46 rfl (va1 (by first | assumption | exact VA.below (by assumption) B) fun cs h => to_seg _ cs _ h (by omega)) ?_ rfl rfl
      rintro e w413 ⟨cs78, fp78, rfl, hO78, x414⟩
      refine ⟨_, rfl, x414, ?_⟩
      have S := S.add (o := tyO segT _ _) x414 hO78
      have B := bx Hb B x414
      obtain ⟨u78_2, heq, S2⟩ := S.segOpen
      subst heq
      have S := S2
      clear S2
      refine t_call Try.call51 rfl (impl_JoinUpDown _ _ _ _ _ (seg_mkv (S.tail.sl)) (seg_mkv (S.sl)) (by omega) (by omega)) ?_ rfl rfl
      rintro e w415 ⟨cs79, fp79, rfl, hO79, x416⟩
      refine ⟨_, rfl, x416, ?_⟩
      have S := S.add (o := tyO pathT _ _) x416 hO79
      have B := bx Hb B x416
      obtain ⟨u79_0, heq, S2⟩ := S.pathOpen
      subst heq
      have S := S2
      clear S2
      have S := S.f3
      refine t_stn S sb_path rfl rfl rfl rfl (by intro zz hu; have hu : zz ∈ ([u79_0] : List Value) := hu; simp only [List.mem_cons, List.not_mem_nil, or_false] at hu; rcases hu with rfl <;> first | rfl | exact (SlR.cells (by first | assumption | exact S.tail.sl | exact S.tail.tail.sl | exact S.tail.tail.tail.sl | exact S.tail.tail.tail.tail.sl | exact S.tail.tail.tail.tail.tail.sl | exact S.tail.tail.tail.tail.tail.tail.sl | exact S.tail.tail.tail.tail.tail.tail.tail.sl | exact S.tail.tail.tail.tail.tail.tail.tail.tail.sl)).2) ?_
      intro w417 b418 S
      have B := B.trans b418
      refine t_done' ?_
      refine x_seq ?_
      refine w_seq ?_
      refine w_seq ?_
      refine w_region ?_
      refine t_bxn S.box ab_path sb_path rfl rfl ?_ rfl
      refine t_bxn S.tail.tail.tail.tail.tail.tail.tail.tail.tail.tail.tail.tail.box ab_path sb_path rfl rfl ?_ rfl
      refine t_callx Try.call20 rfl (eqv_path _ _ _ _ (path_mkv (S.tail.sl)) (path_mkv (S.tail.tail.tail.tail.tail.tail.tail.tail.tail.tail.tail.tail.tail.sl)) (ok_path_big (by omega))) ?_ rfl rfl
      intro w419 x420
      have B := bx Hb B x420
      have S := S.below x420
      refine t_notb rfl ?_ rfl
      refine t_done ?_
      refine x_seq ?_
      refine w_no rfl ?_
      refine w_skip ?_
      refine x_seq ?_
      refine w_seq ?_
      refine w_region ?_
      refine t_assign rfl ?_ rfl
      refine t_done ?_
      refine x_seq ?_
      refine w_seq ?_
      refine w_region ?_
      refine t_bxn S.tail.tail.tail.tail.tail.tail.tail.tail.tail.box ab_path sb_path rfl rfl ?_ rfl
      refine t_move rfl ?_ rfl
      refine t_callx Try.call29 rfl (held_path _ _ _ _ (S.tail.tail.tail.tail.sl) (by omega) (by omega)) ?_ rfl rfl
      intro w421 x422
      have B := bx Hb B x422
      have S := S.below x422
      refine t_assign rfl ?_ rfl
      refine t_done ?_
      refine x_seq ?_
      refine w_seq ?_
      refine w_seq ?_
      refine w_region ?_
      refine t_move rfl ?_ rfl
      refine t_lss rfl rfl ?_ rfl
      refine t_done ?_
      refine x_seq ?_
      refine w_if rfl (fun h => (by exfalso; omega)) ?_
      intro hc88
      refine w_skip ?_
      refine x_seq ?_
      refine w_seq ?_
      refine w_seq ?_
      refine w_region ?_
      refine t_move rfl ?_ rfl
      refine t_move rfl ?_ rfl
      refine t_neq rfl rfl ?_ rfl
      refine t_done ?_
      refine x_seq ?_
      refine w_if rfl (fun h => absurd rfl h) ?_
      intro _
      refine w_skip ?_
      refine x_seq ?_
      refine w_seq ?_
      refine w_region ?_
      refine t_assign rfl ?_ rfl
      refine t_done ?_
      refine x_seq ?_
      refine w_ret ?_
      refine x_ret1 rfl rfl ?_
      exact ⟨rfl, ext_trans X0 B⟩

namespace fnExactJoinUpDown
open Go.ChangeShapes Go.WideShapes Go.ChangeAt

set_option maxRecDepth 100000 in
theorem lifted (os : Os) (started : os.Started) (H : Type) (enc : TypeId × Value → H) :
    ReturnsInHanded {} Try.checked os 11 .any (Rows.fnExactJoinUpDownSpec.pre6 enc Try.prog Try.f11 Rows.fnExactJoinUpDownRow.domain false) (Rows.fnExactJoinUpDownSpec.post enc Try.prog Try.f11 false true false false) := by
  refine returnsInHanded_of_change (C := Try.checked) knob started (by kernel_rfl) Try.func11
    (ChangeSpec.witness6 (enc := enc) (C := Try.checked) false ⟨#[], #[.agg #[I 0, I 0, .slice none 0 0], .agg #[I 0, I 0, .slice none 0 0]], []⟩ 8 (by kernel_rfl) (by kernel_rfl) (by kernel_rfl) (by kernel_rfl)) ?_
  intro W base args ds gs before hval0 hW hcnd _
  have hval : ∀ (j : Nat) t v, Try.f11.params[j]? = some t → args[j]? = some v → Value.okWide Try.prog W .any base t v := hval0
  have hW' := hW
  obtain ⟨p, q, hA0, hV, rfl, hfz, hnd⟩ := hW
  have hA : DataW.TrodAll enc Try.prog W 0 (fun _ => true) true Try.f11.params.toList args.toList ds p := hA0
  rw [Try.params11] at hA hval
  obtain ⟨v0, vs0, d0, ds0, p0, q0, hargs, rfl, rfl, h0, r0⟩ := trodAll_cons hA
  obtain ⟨v1, vs1, d1, ds1, p1, q1, rfl, rfl, rfl, h1, r1⟩ := trodAll_cons r0
  obtain ⟨rfl, rfl, rfl⟩ := trodAll_nil r1
  obtain rfl : args = #[v0, v1] := by cases args; simp_all
  obtain ⟨rfl, rfl⟩ := trodVars_none hV
  have k0 := h0
  have lt0 : ∀ x ∈ p0, x.block < W.heap.size := by obtain ⟨m, hm⟩ := k0; exact DataW.trod_lt m _ _ _ hm
  obtain ⟨cs0, x0, rfl, R0, L0, G0⟩ := open_seg (hval 0 62 v0 rfl rfl) h0
  have k1 := h1
  have lt1 : ∀ x ∈ p1, x.block < W.heap.size := by obtain ⟨m, hm⟩ := k1; exact DataW.trod_lt m _ _ _ hm
  obtain ⟨cs1, x1, rfl, R1, L1, G1⟩ := open_seg (hval 1 62 v1 rfl rfl) h1
  clear hA0 hval0
  refine (lawJoinUpDown x0 _ x1 _ W R0 L0 G0 R1 L1 G1).mono fun e W' ⟨he, bel⟩ => ?_
  subst he
  exact ⟨_, rfl, _, _, _, [], _, [], hW', trodAll_mk1 (shut_bool Try.underlying4 _), (trodAll_cons_mk (Below.trod laidOut (by kernel_rfl) (of_decide_eq_true (by kernel_rfl)) k0 bel lt0) (trodAll_cons_mk (Below.trod laidOut (by kernel_rfl) (of_decide_eq_true (by kernel_rfl)) k1 bel lt1) trodAll_mk0)), rfl, bel.frame _, fun h => by cases h⟩

theorem over : Rows.fnExactJoinUpDownRow.holds Try.pinned (OpenSpec.ofChange Rows.fnExactJoinUpDownSpec) :=
  OpenClaim.holds_of_wide 11 Try.f11 rfl rfl rfl rfl rfl rfl rfl ⟨rfl, rfl, rfl, rfl, rfl⟩ rfl rfl rfl rfl rfl (by kernel_rfl) Try.func11 (by kernel_rfl)
    (of_decide_eq_true (by kernel_rfl)) (by unfold Func.isWrapper; first | (rw [if_pos (by decide +kernel)]; kernel_rfl) | (rw [if_neg (by decide +kernel)]; exact ⟨rfl, rfl⟩))
    (fun os started H enc _ => lifted os started H enc)

theorem proved : Rows.FnExactJoinUpDownSaid := over
#print axioms proved
end fnExactJoinUpDown
end Go.Proofs.Ytaapaafagmbkoaa
