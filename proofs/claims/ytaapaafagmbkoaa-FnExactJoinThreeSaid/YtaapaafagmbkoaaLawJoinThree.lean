/- laws.FnExactJoinThree returns true, for all arguments: the walk of the law out of contracts, and the row. No condition. (Printed by law2.py.) -/
import Derived.Test.YtaapaafagmbkoaaWkL
import Derived.Test.YtaapaafagmbkoaaEqs
import Derived.Test.YtaapaafagmbkoaaHole
import Derived.Test.YtaapaafagmbkoaaMarks2
import Derived.Test.YtaapaafagmbkoaaSepN
import Derived.Test.YtaapaafagmbkoaaOkz
import Derived.Test.YtaapaafagmbkoaaFamSeg
import Derived.Test.YtaapaafagmbkoaaOpen
namespace Go.Proofs.Ytaapaafagmbkoaa
open Go.RowKit
set_option linter.unusedVariables false

set_option maxRecDepth 20000

theorem szI_pos {left : Int} {n : Nat} (h0 : 0 ≤ left) (h : ¬ szI left n < 0) : (n : Int) ≤ left ∧ szI left n = left - n := by
  unfold szI at *
  split at h
  · rename_i h1; exact ⟨h1, by rw [if_pos h1]⟩
  · omega

set_option maxHeartbeats 1000000 in
theorem lawJoinThree (d0 : Seg) (cs0 : List Value) (d1 : Seg) (cs1 : List Value) (d2 : Bool) (d3 : Seg) (cs3 : List Value) (w : World) (h0 : segT.R w cs0 d0) (l0 : lenOk_seg d0) (g0 : rng_seg d0) (h1 : segT.R w cs1 d1) (l1 : lenOk_seg d1) (g1 : rng_seg d1) (h3 : segT.R w cs3 d3) (l3 : lenOk_seg d3) (g3 : rng_seg d3) :
    Calls Try.prog 10 #[.agg cs0.toArray, .agg cs1.toArray, .bool d2, .agg cs3.toArray] w fun r w' => r = .returned (.bool true) ∧ Below w.heap.size w w' := by
  have f0 : VA segT w (.agg cs0.toArray) d0 := ⟨cs0, rfl, h0⟩
  generalize Value.agg cs0.toArray = v0 at f0 ⊢
  clear h0
  have z0 : sz_seg d0 = d0.hops.length := rfl
  have f1 : VA segT w (.agg cs1.toArray) d1 := ⟨cs1, rfl, h1⟩
  generalize Value.agg cs1.toArray = v1 at f1 ⊢
  clear h1
  have z1 : sz_seg d1 = d1.hops.length := rfl
  have f3 : VA segT w (.agg cs3.toArray) d3 := ⟨cs3, rfl, h3⟩
  generalize Value.agg cs3.toArray = v3 at f3 ⊢
  clear h3
  have z3 : sz_seg d3 = d3.hops.length := rfl
  have hr0 := joinT_sz d0 d1 d2 d3
  have hr1 : 0 ≤ cnt_parts (joinT d0 d1 d2 d3) ∧ cnt_parts (joinT d0 d1 d2 d3) ≤ 5 * (sz_path (joinT d0 d1 d2 d3) : Int) := cnt_parts_bd (joinT d0 d1 d2 d3)
  have X0 := Below.refl w.heap.size w
  refine enter Try.func10 rfl Try.ntmps10 rfl ?_
  refine w_seq ?_
  refine w_region ?_
  refine t_boxr (by assumption) rfl ?_ rfl rfl
  intro p4 w1 x2 hp4
  replace f0 := f0.below x2
  replace f1 := f1.below x2
  replace f3 := f3.below x2
  have X0 := ext_trans X0 x2
  refine t_boxr (by assumption) rfl ?_ rfl rfl
  intro p5 w3 x4 hp5
  replace f0 := f0.below x4
  replace f1 := f1.below x4
  replace f3 := f3.below x4
  replace hp4 := hp4.below x4
  have X0 := ext_trans X0 x4
  refine t_boxr (by assumption) rfl ?_ rfl rfl
  intro p7 w5 x6 hp7
  replace f0 := f0.below x6
  replace f1 := f1.below x6
  replace f3 := f3.below x6
  replace hp4 := hp4.below x6
  replace hp5 := hp5.below x6
  have X0 := ext_trans X0 x6
  have S := Sep.nil w5
  have B := Below.refl w5.heap.size w5
  have Hb := Nat.le_refl w5.heap.size
  refine t_assign rfl ?_ rfl
  refine t_done ?_
  refine x_seq ?_
  refine w_seq ?_
  refine w_region ?_
  refine t_assign rfl ?_ rfl
  refine t_done ?_
  refine x_seq ?_
  refine w_seq ?_
  refine w_region ?_
  refine t_lda (by assumption) ab_l_seg sb_l_seg B rfl ?_ rfl
  intro v19 hv19
  obtain ⟨v19_2, rfl, hv19_2⟩ := seg_va hv19
  refine t_move rfl ?_ rfl
  refine t_callx Try.call44 rfl (va1 (by first | assumption | exact VA.below (by assumption) B) fun cs h => szc_seg _ cs _ _ h (by omega) (by omega) (by assumption)) ?_ rfl rfl
  intro w7 x8
  have B := bx Hb B x8
  have S := S.below x8
  refine t_assign rfl ?_ rfl
  refine t_done ?_
  refine x_seq ?_
  refine w_seq ?_
  refine w_seq ?_
  refine w_region ?_
  refine t_move rfl ?_ rfl
  refine t_lss rfl rfl ?_ rfl
  refine t_done ?_
  refine x_seq ?_
  refine w_if rfl ?_ ?_
  · intro _
    refine w_seq ?_
    refine w_region ?_
    refine t_assign rfl ?_ rfl
    refine t_done ?_
    refine x_seq ?_
    refine w_ret ?_
    refine x_then_ret ?_
    refine x_ret1 rfl rfl ?_
    exact ⟨rfl, ext_trans X0 B⟩
  intro hz9
  have hz9 := szI_pos (by omega) hz9
  refine w_skip ?_
  refine x_seq ?_
  refine w_seq ?_
  refine w_region ?_
  refine t_lda (by assumption) ab_l_seg sb_l_seg B rfl ?_ rfl
  intro v24 hv24
  obtain ⟨v24_2, rfl, hv24_2⟩ := seg_va hv24
  refine t_move rfl ?_ rfl
  refine t_callx Try.call44 rfl (va1 (by first | assumption | exact VA.below (by assumption) B) fun cs h => szc_seg _ cs _ _ h (by omega) (by omega) (by assumption)) ?_ rfl rfl
  intro w10 x11
  have B := bx Hb B x11
  have S := S.below x11
  refine t_assign rfl ?_ rfl
  refine t_done ?_
  refine x_seq ?_
  refine w_seq ?_
  refine w_seq ?_
  refine w_region ?_
  refine t_move rfl ?_ rfl
  refine t_lss rfl rfl ?_ rfl
  refine t_done ?_
  refine x_seq ?_
  refine w_if rfl ?_ ?_
  · intro _
    refine w_seq ?_
    refine w_region ?_
    refine t_assign rfl ?_ rfl
    refine t_done ?_
    refine x_seq ?_
    refine w_ret ?_
    refine x_then_ret ?_
    refine x_ret1 rfl rfl ?_
    exact ⟨rfl, ext_trans X0 B⟩
  intro hz12
  have hz12 := szI_pos (by omega) hz12
  refine w_skip ?_
  refine x_seq ?_
  refine w_seq ?_
  refine w_region ?_
  refine t_lda (by assumption) ab_l_seg sb_l_seg B rfl ?_ rfl
  intro v29 hv29
  obtain ⟨v29_2, rfl, hv29_2⟩ := seg_va hv29
  refine t_move rfl ?_ rfl
  refine t_callx Try.call44 rfl (va1 (by first | assumption | exact VA.below (by assumption) B) fun cs h => szc_seg _ cs _ _ h (by omega) (by omega) (by assumption)) ?_ rfl rfl
  intro w13 x14
  have B := bx Hb B x14
  have S := S.below x14
  refine t_assign rfl ?_ rfl
  refine t_done ?_
  refine x_seq ?_
  refine w_seq ?_
  refine w_seq ?_
  refine w_region ?_
  refine t_move rfl ?_ rfl
  refine t_lss rfl rfl ?_ rfl
  refine t_done ?_
  refine x_seq ?_
  refine w_if rfl ?_ ?_
  · intro _
    refine w_seq ?_
    refine w_region ?_
    refine t_assign rfl ?_ rfl
    refine t_done ?_
    refine x_seq ?_
    refine w_ret ?_
    refine x_then_ret ?_
    refine x_ret1 rfl rfl ?_
    exact ⟨rfl, ext_trans X0 B⟩
  intro hz15
  have hz15 := szI_pos (by omega) hz15
  refine w_skip ?_
  refine x_seq ?_
  refine w_seq ?_
  refine w_draw (.st .take 0 (.st .take 2 (.st .take 4 (.st .take 5 (.alt (.st .run 1 (.alt (.st .run 3 (.alt (.st .run 6 (.alt (.st .run 7 (.st .run 8 (.st .fin 9 .done))) (.st .run 8 (.st .run 7 (.st .fin 9 .done))))) (.st .run 8 (.st .run 6 (.st .run 7 (.st .fin 9 .done)))))) (.st .run 8 (.st .run 3 (.st .run 6 (.st .run 7 (.st .fin 9 .done))))))) (.st .run 8 (.st .run 1 (.st .run 3 (.st .run 6 (.st .run 7 (.st .fin 9 .done))))))))))) mixed (by kernel_rfl) ?_
  intro w16 x17
  have B := bx Hb B x17
  have S := S.below x17
  refine t_lda (by assumption) ab_l_seg sb_l_seg B rfl ?_ rfl
  intro v34 hv34
  obtain ⟨v34_2, rfl, hv34_2⟩ := seg_va hv34
  refine t_lda (by assumption) ab_l_seg sb_l_seg B rfl ?_ rfl
  intro v36 hv36
  obtain ⟨v36_2, rfl, hv36_2⟩ := seg_va hv36
  refine t_move rfl ?_ rfl
  refine t_lda (by assumption) ab_l_seg sb_l_seg B rfl ?_ rfl
  intro v39 hv39
  obtain ⟨v39_2, rfl, hv39_2⟩ := seg_va hv39
  refine t_alt ?_ ?_
  · refine t_call Try.call46 rfl (va1 (by first | assumption | exact VA.below (by assumption) B) fun cs h => to_seg _ cs _ h (by omega)) ?_ rfl rfl
    rintro e w18 ⟨cs35, fp35, rfl, hO35, x19⟩
    refine ⟨_, rfl, x19, ?_⟩
    have S := S.add (o := tyO segT _ _) x19 hO35
    have B := bx Hb B x19
    obtain ⟨u35_2, heq, S2⟩ := S.segOpen
    subst heq
    have S := S2
    clear S2
    refine t_alt ?_ ?_
    · refine t_call Try.call46 rfl (va1 (by first | assumption | exact VA.below (by assumption) B) fun cs h => to_seg _ cs _ h (by omega)) ?_ rfl rfl
      rintro e w20 ⟨cs37, fp37, rfl, hO37, x21⟩
      refine ⟨_, rfl, x21, ?_⟩
      have S := S.add (o := tyO segT _ _) x21 hO37
      have B := bx Hb B x21
      obtain ⟨u37_2, heq, S2⟩ := S.segOpen
      subst heq
      have S := S2
      clear S2
      refine t_alt ?_ ?_
      · refine t_call Try.call46 rfl (va1 (by first | assumption | exact VA.below (by assumption) B) fun cs h => to_seg _ cs _ h (by omega)) ?_ rfl rfl
        rintro e w22 ⟨cs40, fp40, rfl, hO40, x23⟩
        refine ⟨_, rfl, x23, ?_⟩
        have S := S.add (o := tyO segT _ _) x23 hO40
        have B := bx Hb B x23
        obtain ⟨u40_2, heq, S2⟩ := S.segOpen
        subst heq
        have S := S2
        clear S2
        refine t_alt ?_ ?_
        · refine t_call Try.call45 rfl (spec_JoinThree _ _ _ _ _ _ _ _ (seg_mkv (S.tail.tail.sl)) (seg_mkv (S.tail.sl)) (seg_mkv (S.sl)) (by omega) (by omega) (by omega)) ?_ rfl rfl
          rintro e w24 ⟨cs41, fp41, rfl, hO41, x25⟩
          refine ⟨_, rfl, x25, ?_⟩
          have S := S.add (o := tyO pathT _ _) x25 hO41
          have B := bx Hb B x25
          obtain ⟨u41_0, heq, S2⟩ := S.pathOpen
          subst heq
          have S := S2
          clear S2
          refine t_alloc S z_path rfl ?_ rfl rfl
          intro g10 w26 x27 S
          have B := bx Hb B x27
          refine t_stn S sb_path rfl rfl rfl rfl (by intro zz hu; have hu : zz ∈ ([u41_0] : List Value) := hu; simp only [List.mem_cons, List.not_mem_nil, or_false] at hu; rcases hu with rfl <;> first | rfl | exact (SlR.cells (by first | assumption | exact S.tail.sl | exact S.tail.tail.sl | exact S.tail.tail.tail.sl | exact S.tail.tail.tail.tail.sl | exact S.tail.tail.tail.tail.tail.sl | exact S.tail.tail.tail.tail.tail.tail.sl | exact S.tail.tail.tail.tail.tail.tail.tail.sl | exact S.tail.tail.tail.tail.tail.tail.tail.tail.sl)).2) ?_
          intro w28 b29 S
          have B := B.trans b29
          refine t_done' ?_
          refine x_seq ?_
          refine w_seq ?_
          refine w_region ?_
          refine t_lda (by assumption) ab_l_seg sb_l_seg B rfl ?_ rfl
          intro v42 hv42
          obtain ⟨v42_2, rfl, hv42_2⟩ := seg_va hv42
          refine t_call Try.call46 rfl (va1 (by first | assumption | exact VA.below (by assumption) B) fun cs h => to_seg _ cs _ h (by omega)) ?_ rfl rfl
          rintro e w30 ⟨cs43, fp43, rfl, hO43, x31⟩
          refine ⟨_, rfl, x31, ?_⟩
          have S := S.add (o := tyO segT _ _) x31 hO43
          have B := bx Hb B x31
          obtain ⟨u43_2, heq, S2⟩ := S.segOpen
          subst heq
          have S := S2
          clear S2
          refine t_alloc S z_seg rfl ?_ rfl rfl
          intro g11 w32 x33 S
          have B := bx Hb B x33
          refine t_stn S sb_seg rfl rfl rfl rfl (by intro zz hu; have hu : zz ∈ ([I d0.ts, I d0.beta, u43_2] : List Value) := hu; simp only [List.mem_cons, List.not_mem_nil, or_false] at hu; rcases hu with rfl | rfl | rfl <;> first | rfl | exact (SlR.cells (by first | assumption | exact S.tail.sl | exact S.tail.tail.sl | exact S.tail.tail.tail.sl | exact S.tail.tail.tail.tail.sl | exact S.tail.tail.tail.tail.tail.sl | exact S.tail.tail.tail.tail.tail.tail.sl | exact S.tail.tail.tail.tail.tail.tail.tail.sl | exact S.tail.tail.tail.tail.tail.tail.tail.tail.sl)).2) ?_
          intro w34 b35 S
          have B := B.trans b35
          refine t_done ?_
          refine x_seq ?_
          refine w_seq ?_
          refine w_region ?_
          refine t_lda (by assumption) ab_l_seg sb_l_seg B rfl ?_ rfl
          intro v44 hv44
          obtain ⟨v44_2, rfl, hv44_2⟩ := seg_va hv44
          refine t_call Try.call46 rfl (va1 (by first | assumption | exact VA.below (by assumption) B) fun cs h => to_seg _ cs _ h (by omega)) ?_ rfl rfl
          rintro e w36 ⟨cs45, fp45, rfl, hO45, x37⟩
          refine ⟨_, rfl, x37, ?_⟩
          have S := S.add (o := tyO segT _ _) x37 hO45
          have B := bx Hb B x37
          obtain ⟨u45_2, heq, S2⟩ := S.segOpen
          subst heq
          have S := S2
          clear S2
          refine t_alloc S z_seg rfl ?_ rfl rfl
          intro g12 w38 x39 S
          have B := bx Hb B x39
          refine t_stn S sb_seg rfl rfl rfl rfl (by intro zz hu; have hu : zz ∈ ([I d1.ts, I d1.beta, u45_2] : List Value) := hu; simp only [List.mem_cons, List.not_mem_nil, or_false] at hu; rcases hu with rfl | rfl | rfl <;> first | rfl | exact (SlR.cells (by first | assumption | exact S.tail.sl | exact S.tail.tail.sl | exact S.tail.tail.tail.sl | exact S.tail.tail.tail.tail.sl | exact S.tail.tail.tail.tail.tail.sl | exact S.tail.tail.tail.tail.tail.tail.sl | exact S.tail.tail.tail.tail.tail.tail.tail.sl | exact S.tail.tail.tail.tail.tail.tail.tail.tail.sl)).2) ?_
          intro w40 b41 S
          have B := B.trans b41
          refine t_done ?_
          refine x_seq ?_
          refine w_seq ?_
          refine w_region ?_
          refine t_lda (by assumption) ab_l_seg sb_l_seg B rfl ?_ rfl
          intro v46 hv46
          obtain ⟨v46_2, rfl, hv46_2⟩ := seg_va hv46
          refine t_call Try.call46 rfl (va1 (by first | assumption | exact VA.below (by assumption) B) fun cs h => to_seg _ cs _ h (by omega)) ?_ rfl rfl
          rintro e w42 ⟨cs47, fp47, rfl, hO47, x43⟩
          refine ⟨_, rfl, x43, ?_⟩
          have S := S.add (o := tyO segT _ _) x43 hO47
          have B := bx Hb B x43
          obtain ⟨u47_2, heq, S2⟩ := S.segOpen
          subst heq
          have S := S2
          clear S2
          refine t_alloc S z_seg rfl ?_ rfl rfl
          intro g13 w44 x45 S
          have B := bx Hb B x45
          refine t_stn S sb_seg rfl rfl rfl rfl (by intro zz hu; have hu : zz ∈ ([I d3.ts, I d3.beta, u47_2] : List Value) := hu; simp only [List.mem_cons, List.not_mem_nil, or_false] at hu; rcases hu with rfl | rfl | rfl <;> first | rfl | exact (SlR.cells (by first | assumption | exact S.tail.sl | exact S.tail.tail.sl | exact S.tail.tail.tail.sl | exact S.tail.tail.tail.tail.sl | exact S.tail.tail.tail.tail.tail.sl | exact S.tail.tail.tail.tail.tail.tail.sl | exact S.tail.tail.tail.tail.tail.tail.tail.sl | exact S.tail.tail.tail.tail.tail.tail.tail.tail.sl)).2) ?_
          intro w46 b47 S
          have B := B.trans b47
          refine t_done ?_
          refine x_seq ?_
          refine w_seq ?_
          refine w_region ?_
          refine t_bxn S.tail.tail.tail.tail.box ab_seg sb_seg rfl rfl ?_ rfl
          refine t_bxn S.tail.tail.box ab_seg sb_seg rfl rfl ?_ rfl
          refine t_move rfl ?_ rfl
          refine t_bxn S.box ab_seg sb_seg rfl rfl ?_ rfl
          refine t_call Try.call47 rfl (impl_JoinThree _ _ _ _ _ _ _ _ (seg_mkv (S.tail.tail.tail.tail.tail.sl)) (seg_mkv (S.tail.tail.tail.sl)) (seg_mkv (S.tail.sl)) (by omega) (by omega) (by omega)) ?_ rfl rfl
          rintro e w48 ⟨cs52, fp52, rfl, hO52, x49⟩
          refine ⟨_, rfl, x49, ?_⟩
          have S := S.add (o := tyO pathT _ _) x49 hO52
          have B := bx Hb B x49
          obtain ⟨u52_0, heq, S2⟩ := S.pathOpen
          subst heq
          have S := S2
          clear S2
          refine t_alloc S z_path rfl ?_ rfl rfl
          intro g14 w50 x51 S
          have B := bx Hb B x51
          refine t_stn S sb_path rfl rfl rfl rfl (by intro zz hu; have hu : zz ∈ ([u52_0] : List Value) := hu; simp only [List.mem_cons, List.not_mem_nil, or_false] at hu; rcases hu with rfl <;> first | rfl | exact (SlR.cells (by first | assumption | exact S.tail.sl | exact S.tail.tail.sl | exact S.tail.tail.tail.sl | exact S.tail.tail.tail.tail.sl | exact S.tail.tail.tail.tail.tail.sl | exact S.tail.tail.tail.tail.tail.tail.sl | exact S.tail.tail.tail.tail.tail.tail.tail.sl | exact S.tail.tail.tail.tail.tail.tail.tail.tail.sl)).2) ?_
          intro w52 b53 S
          have B := B.trans b53
          refine t_done ?_
          refine x_seq ?_
          refine w_seq ?_
          refine w_seq ?_
          refine w_region ?_
          refine t_bxn S.box ab_path sb_path rfl rfl ?_ rfl
          refine t_bxn S.tail.tail.tail.tail.tail.tail.tail.tail.box ab_path sb_path rfl rfl ?_ rfl
          refine t_callx Try.call20 rfl (eqv_path _ _ _ _ (path_mkv (S.tail.sl)) (path_mkv (S.tail.tail.tail.tail.tail.tail.tail.tail.tail.sl)) (ok_path_big (by omega))) ?_ rfl rfl
          intro w54 x55
          have B := bx Hb B x55
          have S := S.below x55
          refine t_notb rfl ?_ rfl
          refine t_done ?_
          refine x_seq ?_
          refine w_no rfl ?_
          refine w_skip ?_
          refine x_seq ?_
          refine w_seq ?_
          refine w_seq ?_
          refine w_draw (.st .take 0 (.st .take 1 (.st .run 2 (.st .run 3 (.st .take 4 .done))))) mixed (by kernel_rfl) ?_
          intro w56 x57
          have B := bx Hb B x57
          have S := S.below x57
          refine t_bxn S.tail.tail.tail.tail.tail.tail.box ab_seg sb_seg rfl rfl ?_ rfl
          refine t_lda (by assumption) ab_l_seg sb_l_seg B rfl ?_ rfl
          intro v58 hv58
          obtain ⟨v58_2, rfl, hv58_2⟩ := seg_va hv58
          refine t_call Try.call46 rfl (va1 (by first | assumption | exact VA.below (by assumption) B) fun cs h => to_seg _ cs _ h (by omega)) ?_ rfl rfl
          rintro e w58 ⟨cs59, fp59, rfl, hO59, x59⟩
          refine ⟨_, rfl, x59, ?_⟩
          have S := S.add (o := tyO segT _ _) x59 hO59
          have B := bx Hb B x59
          obtain ⟨u59_2, heq, S2⟩ := S.segOpen
          subst heq
          have S := S2
          clear S2
          refine t_callx Try.call48 rfl (eqv_seg _ _ _ _ (seg_mkv (S.tail.tail.tail.tail.tail.tail.tail.tail.sl)) (seg_mkv (S.sl)) (ok_seg_sz (by omega))) ?_ rfl rfl
          intro w60 x61
          have B := bx Hb B x61
          have S := S.below x61
          refine t_notb rfl ?_ rfl
          refine t_done' ?_
          refine x_seq ?_
          refine w_no rfl ?_
          refine w_skip ?_
          refine x_seq ?_
          refine w_seq ?_
          refine w_seq ?_
          refine w_draw (.st .take 0 (.st .take 1 (.st .run 2 (.st .run 3 (.st .take 4 .done))))) mixed (by kernel_rfl) ?_
          intro w62 x63
          have B := bx Hb B x63
          have S := S.below x63
          refine t_bxn S.tail.tail.tail.tail.tail.box ab_seg sb_seg rfl rfl ?_ rfl
          refine t_lda (by assumption) ab_l_seg sb_l_seg B rfl ?_ rfl
          intro v63 hv63
          obtain ⟨v63_2, rfl, hv63_2⟩ := seg_va hv63
          refine t_call Try.call46 rfl (va1 (by first | assumption | exact VA.below (by assumption) B) fun cs h => to_seg _ cs _ h (by omega)) ?_ rfl rfl
          rintro e w64 ⟨cs64, fp64, rfl, hO64, x65⟩
          refine ⟨_, rfl, x65, ?_⟩
          have S := S.add (o := tyO segT _ _) x65 hO64
          have B := bx Hb B x65
          obtain ⟨u64_2, heq, S2⟩ := S.segOpen
          subst heq
          have S := S2
          clear S2
          refine t_callx Try.call48 rfl (eqv_seg _ _ _ _ (seg_mkv (S.tail.tail.tail.tail.tail.tail.tail.sl)) (seg_mkv (S.sl)) (ok_seg_sz (by omega))) ?_ rfl rfl
          intro w66 x67
          have B := bx Hb B x67
          have S := S.below x67
          refine t_notb rfl ?_ rfl
          refine t_done' ?_
          refine x_seq ?_
          refine w_no rfl ?_
          refine w_skip ?_
          refine x_seq ?_
          refine w_seq ?_
          refine w_seq ?_
          refine w_draw (.st .take 0 (.st .take 1 (.st .run 2 (.st .run 3 (.st .take 4 .done))))) mixed (by kernel_rfl) ?_
          intro w68 x69
          have B := bx Hb B x69
          have S := S.below x69
          refine t_bxn S.tail.tail.tail.tail.box ab_seg sb_seg rfl rfl ?_ rfl
          refine t_lda (by assumption) ab_l_seg sb_l_seg B rfl ?_ rfl
          intro v68 hv68
          obtain ⟨v68_2, rfl, hv68_2⟩ := seg_va hv68
          refine t_call Try.call46 rfl (va1 (by first | assumption | exact VA.below (by assumption) B) fun cs h => to_seg _ cs _ h (by omega)) ?_ rfl rfl
          rintro e w70 ⟨cs69, fp69, rfl, hO69, x71⟩
          refine ⟨_, rfl, x71, ?_⟩
          have S := S.add (o := tyO segT _ _) x71 hO69
          have B := bx Hb B x71
          obtain ⟨u69_2, heq, S2⟩ := S.segOpen
          subst heq
          have S := S2
          clear S2
          refine t_callx Try.call48 rfl (eqv_seg _ _ _ _ (seg_mkv (S.tail.tail.tail.tail.tail.tail.sl)) (seg_mkv (S.sl)) (ok_seg_sz (by omega))) ?_ rfl rfl
          intro w72 x73
          have B := bx Hb B x73
          have S := S.below x73
          refine t_notb rfl ?_ rfl
          refine t_done' ?_
          refine x_seq ?_
          refine w_no rfl ?_
          refine w_skip ?_
          refine x_seq ?_
          refine w_seq ?_
          refine w_region ?_
          refine t_assign rfl ?_ rfl
          refine t_done ?_
          refine x_seq ?_
          refine w_seq ?_
          refine w_region ?_
          refine t_bxn S.tail.tail.tail.tail.tail.tail.tail.tail.tail.box ab_seg sb_seg rfl rfl ?_ rfl
          refine t_move rfl ?_ rfl
          have S := S.f10
          refine t_callf Try.call49 rfl (mark_segm _ _ _ _ _ _ S (by omega) (by omega)) ?_ rfl
          rintro e w74 ⟨rfl, S, x75⟩
          refine ⟨_, rfl, ?_⟩
          have B := B.trans x75
          refine t_assign rfl ?_ rfl
          refine t_done ?_
          refine x_seq ?_
          refine w_seq ?_
          refine w_region ?_
          refine t_bxn S.tail.tail.tail.tail.tail.tail.tail.tail.box ab_seg sb_seg rfl rfl ?_ rfl
          refine t_move rfl ?_ rfl
          have S := S.f9
          refine t_callf Try.call49 rfl (mark_segm _ _ _ _ _ _ S (by omega) (by omega)) ?_ rfl
          rintro e w76 ⟨rfl, S, x77⟩
          refine ⟨_, rfl, ?_⟩
          have B := B.trans x77
          refine t_assign rfl ?_ rfl
          refine t_done ?_
          refine x_seq ?_
          refine w_seq ?_
          refine w_region ?_
          refine t_bxn S.tail.tail.tail.tail.tail.tail.tail.box ab_seg sb_seg rfl rfl ?_ rfl
          refine t_move rfl ?_ rfl
          have S := S.f8
          refine t_callf Try.call49 rfl (mark_segm _ _ _ _ _ _ S (by omega) (by omega)) ?_ rfl
          rintro e w78 ⟨rfl, S, x79⟩
          refine ⟨_, rfl, ?_⟩
          have B := B.trans x79
          refine t_assign rfl ?_ rfl
          refine t_done ?_
          refine x_seq ?_
          refine w_seq ?_
          refine w_seq ?_
          refine w_region ?_
          refine t_move rfl ?_ rfl
          refine t_lss rfl rfl ?_ rfl
          refine t_move rfl ?_ rfl
          refine t_partp (t := 83) rfl (fun h => (by exfalso; omega)) ?_
          intro hc83
          refine t_on rfl rfl ?_
          refine t_bxn S.tail.tail.tail.tail.tail.tail.box ab_path sb_path rfl rfl ?_ rfl
          refine t_on rfl rfl ?_
          refine t_bxn S.tail.tail.tail.tail.tail.tail.tail.tail.tail.tail.tail.box ab_path sb_path rfl rfl ?_ rfl
          refine t_on rfl rfl ?_
          refine t_callx Try.call20 rfl (eqv_path _ _ _ _ (path_mkv (S.tail.tail.tail.tail.tail.tail.tail.sl)) (path_mkv (S.tail.tail.tail.tail.tail.tail.tail.tail.tail.tail.tail.tail.sl)) (ok_path_big (by omega))) ?_ rfl rfl
          intro w80 x81
          have B := bx Hb B x81
          have S := S.below x81
          refine t_on rfl rfl ?_
          refine t_notb rfl ?_ rfl
          refine t_pickf rfl rfl ?_ rfl
          refine t_done ?_
          refine x_seq ?_
          refine w_no rfl ?_
          refine w_skip ?_
          refine x_seq ?_
          refine w_seq ?_
          refine w_region ?_
          refine t_assign rfl ?_ rfl
          refine t_done ?_
          refine x_seq ?_
          refine w_seq ?_
          refine w_region ?_
          refine t_bxn S.tail.tail.tail.tail.tail.tail.box ab_path sb_path rfl rfl ?_ rfl
          refine t_move rfl ?_ rfl
          have S := S.f7
          refine t_callf Try.call21 rfl (mark_path _ _ _ _ _ _ S (by omega) (by omega)) ?_ rfl
          rintro e w82 ⟨rfl, S, x83⟩
          refine ⟨_, rfl, ?_⟩
          have B := B.trans x83
          refine t_assign rfl ?_ rfl
          refine t_done ?_
          refine x_seq ?_
          refine w_seq ?_
          refine w_region ?_
          refine t_assign rfl ?_ rfl
          refine t_done ?_
          refine x_seq ?_
          refine w_seq ?_
          refine w_region ?_
          refine t_bxn S.tail.tail.tail.tail.tail.tail.tail.box ab_path sb_path rfl rfl ?_ rfl
          refine t_move rfl ?_ rfl
          refine t_callx Try.call29 rfl (held_path _ _ _ _ (S.sl) (by omega) (by omega)) ?_ rfl rfl
          intro w84 x85
          have B := bx Hb B x85
          have S := S.below x85
          refine t_assign rfl ?_ rfl
          refine t_done ?_
          refine x_seq ?_
          refine w_seq ?_
          refine w_seq ?_
          refine w_region ?_
          refine t_move rfl ?_ rfl
          refine t_lss rfl rfl ?_ rfl
          refine t_done ?_
          refine x_seq ?_
          refine w_if rfl (fun h => (by exfalso; omega)) ?_
          intro hc96
          refine w_skip ?_
          refine x_seq ?_
          refine w_seq ?_
          refine w_seq ?_
          refine w_region ?_
          refine t_move rfl ?_ rfl
          refine t_move rfl ?_ rfl
          refine t_neq rfl rfl ?_ rfl
          refine t_done ?_
          refine x_seq ?_
          refine w_if rfl (fun h => absurd rfl h) ?_
          intro _
          refine w_skip ?_
          refine x_seq ?_
          refine w_seq ?_
          refine w_draw (.st .take 0 (.st .take 2 (.st .take 4 (.st .take 5 (.alt (.st .run 1 (.alt (.st .run 3 (.alt (.st .run 6 (.alt (.st .run 7 (.st .run 8 (.st .fin 9 .done))) (.st .run 8 (.st .run 7 (.st .fin 9 .done))))) (.st .run 8 (.st .run 6 (.st .run 7 (.st .fin 9 .done)))))) (.st .run 8 (.st .run 3 (.st .run 6 (.st .run 7 (.st .fin 9 .done))))))) (.st .run 8 (.st .run 1 (.st .run 3 (.st .run 6 (.st .run 7 (.st .fin 9 .done))))))))))) mixed (by kernel_rfl) ?_
          intro w86 x87
          have B := bx Hb B x87
          have S := S.below x87
          refine t_lda (by assumption) ab_l_seg sb_l_seg B rfl ?_ rfl
          intro v100 hv100
          obtain ⟨v100_2, rfl, hv100_2⟩ := seg_va hv100
          refine t_lda (by assumption) ab_l_seg sb_l_seg B rfl ?_ rfl
          intro v102 hv102
          obtain ⟨v102_2, rfl, hv102_2⟩ := seg_va hv102
          refine t_move rfl ?_ rfl
          refine t_lda (by assumption) ab_l_seg sb_l_seg B rfl ?_ rfl
          intro v105 hv105
          obtain ⟨v105_2, rfl, hv105_2⟩ := seg_va hv105
          refine t_alt ?_ ?_
          · refine t_call Try.call46 rfl (va1 (by first | assumption | exact VA.below (by assumption) B) fun cs h => to_seg _ cs _ h (by omega)) ?_ rfl rfl
            rintro e w88 ⟨cs101, fp101, rfl, hO101, x89⟩
            refine ⟨_, rfl, x89, ?_⟩
            have S := S.add (o := tyO segT _ _) x89 hO101
            have B := bx Hb B x89
            obtain ⟨u101_2, heq, S2⟩ := S.segOpen
            subst heq
            have S := S2
            clear S2
            refine t_alt ?_ ?_
            · refine t_call Try.call46 rfl (va1 (by first | assumption | exact VA.below (by assumption) B) fun cs h => to_seg _ cs _ h (by omega)) ?_ rfl rfl
              rintro e w90 ⟨cs103, fp103, rfl, hO103, x91⟩
              refine ⟨_, rfl, x91, ?_⟩
              have S := S.add (o := tyO segT _ _) x91 hO103
              have B := bx Hb B x91
              obtain ⟨u103_2, heq, S2⟩ := S.segOpen
              subst heq
              have S := S2
              clear S2
              refine t_alt ?_ ?_
              · refine t_call Try.call46 rfl (va1 (by first | assumption | exact VA.below (by assumption) B) fun cs h => to_seg _ cs _ h (by omega)) ?_ rfl rfl
                rintro e w92 ⟨cs106, fp106, rfl, hO106, x93⟩
                refine ⟨_, rfl, x93, ?_⟩
                have S := S.add (o := tyO segT _ _) x93 hO106
                have B := bx Hb B x93
                obtain ⟨u106_2, heq, S2⟩ := S.segOpen
                subst heq
                have S := S2
                clear S2
                refine t_alt ?_ ?_
                · refine t_call Try.call47 rfl (impl_JoinThree _ _ _ _ _ _ _ _ (seg_mkv (S.tail.tail.sl)) (seg_mkv (S.tail.sl)) (seg_mkv (S.sl)) (by omega) (by omega) (by omega)) ?_ rfl rfl
                  rintro e w94 ⟨cs107, fp107, rfl, hO107, x95⟩
                  refine ⟨_, rfl, x95, ?_⟩
                  have S := S.add (o := tyO pathT _ _) x95 hO107
                  have B := bx Hb B x95
                  obtain ⟨u107_0, heq, S2⟩ := S.pathOpen
                  subst heq
                  have S := S2
                  clear S2
                  refine t_alloc S z_path rfl ?_ rfl rfl
                  intro g18 w96 x97 S
                  have B := bx Hb B x97
                  refine t_stn S sb_path rfl rfl rfl rfl (by intro zz hu; have hu : zz ∈ ([u107_0] : List Value) := hu; simp only [List.mem_cons, List.not_mem_nil, or_false] at hu; rcases hu with rfl <;> first | rfl | exact (SlR.cells (by first | assumption | exact S.tail.sl | exact S.tail.tail.sl | exact S.tail.tail.tail.sl | exact S.tail.tail.tail.tail.sl | exact S.tail.tail.tail.tail.tail.sl | exact S.tail.tail.tail.tail.tail.tail.sl | exact S.tail.tail.tail.tail.tail.tail.tail.sl | exact S.tail.tail.tail.tail.tail.tail.tail.tail.sl)).2) ?_
                  intro w98 b99 S
                  have B := B.trans b99
                  refine t_done' ?_
                  refine x_seq ?_
                  refine w_seq ?_
                  refine w_seq ?_
                  refine w_region ?_
                  refine t_bxn S.box ab_path sb_path rfl rfl ?_ rfl
                  refine t_bxn S.tail.tail.tail.tail.tail.tail.tail.tail.tail.tail.tail.tail.tail.tail.tail.tail.box ab_path sb_path rfl rfl ?_ rfl
                  refine t_callx Try.call20 rfl (eqv_path _ _ _ _ (path_mkv (S.tail.sl)) (path_mkv (S.tail.tail.tail.tail.tail.tail.tail.tail.tail.tail.tail.tail.tail.tail.tail.tail.tail.sl)) (ok_path_big (by omega))) ?_ rfl rfl
                  intro w100 x101
                  have B := bx Hb B x101
                  have S := S.below x101
                  refine t_notb rfl ?_ rfl
                  refine t_done ?_
                  refine x_seq ?_
                  refine w_no rfl ?_
                  refine w_skip ?_
                  refine x_seq ?_
                  refine w_seq ?_
                  refine w_region ?_
                  refine t_assign rfl ?_ rfl
                  refine t_done ?_
                  refine x_seq ?_
                  refine w_seq ?_
                  refine w_region ?_
                  refine t_bxn S.tail.tail.tail.tail.tail.tail.tail.tail.tail.tail.tail.tail.box ab_path sb_path rfl rfl ?_ rfl
                  refine t_move rfl ?_ rfl
                  refine t_callx Try.call29 rfl (held_path _ _ _ _ (S.tail.tail.tail.tail.tail.sl) (by omega) (by omega)) ?_ rfl rfl
                  intro w102 x103
                  have B := bx Hb B x103
                  have S := S.below x103
                  refine t_assign rfl ?_ rfl
                  refine t_done ?_
                  refine x_seq ?_
                  refine w_seq ?_
                  refine w_seq ?_
                  refine w_region ?_
                  refine t_move rfl ?_ rfl
                  refine t_lss rfl rfl ?_ rfl
                  refine t_done ?_
                  refine x_seq ?_
                  refine w_if rfl (fun h => (by exfalso; omega)) ?_
                  intro hc116
                  refine w_skip ?_
                  refine x_seq ?_
                  refine w_seq ?_
                  refine w_seq ?_
                  refine w_region ?_
                  refine t_move rfl ?_ rfl
                  refine t_move rfl ?_ rfl
                  refine t_neq rfl rfl ?_ rfl
                  refine t_done ?_
                  refine x_seq ?_
                  refine w_if rfl (fun h => absurd rfl h) ?_
                  intro _
                  refine w_skip ?_
                  refine x_seq ?_
                  refine w_seq ?_
                  refine w_region ?_
                  refine t_assign rfl ?_ rfl
                  refine t_done ?_
                  refine x_seq ?_
                  refine w_ret ?_
                  refine x_ret1 rfl rfl ?_
                  exact ⟨rfl, ext_trans X0 B⟩
                · refine t_alloc S z_path rfl ?_ rfl rfl
                  intro g18 w104 x105 S
                  have B := bx Hb B x105
                  refine t_call Try.call47 rfl (impl_JoinThree _ _ _ _ _ _ _ _ (seg_mkv (S.tail.tail.tail.sl)) (seg_mkv (S.tail.tail.sl)) (seg_mkv (S.tail.sl)) (by omega) (by omega) (by omega)) ?_ rfl rfl
                  rintro e w106 ⟨cs107, fp107, rfl, hO107, x107⟩
                  refine ⟨_, rfl, x107, ?_⟩
                  have S := S.add (o := tyO pathT _ _) x107 hO107
                  have B := bx Hb B x107
                  obtain ⟨u107_0, heq, S2⟩ := S.pathOpen
                  subst heq
                  have S := S2
                  clear S2
                  have S := S.f1
                  refine t_stn S sb_path rfl rfl rfl rfl (by intro zz hu; have hu : zz ∈ ([u107_0] : List Value) := hu; simp only [List.mem_cons, List.not_mem_nil, or_false] at hu; rcases hu with rfl <;> first | rfl | exact (SlR.cells (by first | assumption | exact S.tail.sl | exact S.tail.tail.sl | exact S.tail.tail.tail.sl | exact S.tail.tail.tail.tail.sl | exact S.tail.tail.tail.tail.tail.sl | exact S.tail.tail.tail.tail.tail.tail.sl | exact S.tail.tail.tail.tail.tail.tail.tail.sl | exact S.tail.tail.tail.tail.tail.tail.tail.tail.sl)).2) ?_
                  intro w108 b109 S
                  have B := B.trans b109
                  refine t_done' ?_
                  refine x_seq ?_
                  refine w_seq ?_
                  refine w_seq ?_
                  refine w_region ?_
                  refine t_bxn S.box ab_path sb_path rfl rfl ?_ rfl
                  refine t_bxn S.tail.tail.tail.tail.tail.tail.tail.tail.tail.tail.tail.tail.tail.tail.tail.tail.box ab_path sb_path rfl rfl ?_ rfl
                  refine t_callx Try.call20 rfl (eqv_path _ _ _ _ (path_mkv (S.tail.sl)) (path_mkv (S.tail.tail.tail.tail.tail.tail.tail.tail.tail.tail.tail.tail.tail.tail.tail.tail.tail.sl)) (ok_path_big (by omega))) ?_ rfl rfl
                  intro w110 x111
                  have B := bx Hb B x111
                  have S := S.below x111
                  refine t_notb rfl ?_ rfl
                  refine t_done ?_
                  refine x_seq ?_
                  refine w_no rfl ?_
                  refine w_skip ?_
                  refine x_seq ?_
                  refine w_seq ?_
                  refine w_region ?_
                  refine t_assign rfl ?_ rfl
                  refine t_done ?_
                  refine x_seq ?_
                  refine w_seq ?_
                  refine w_region ?_
                  refine t_bxn S.tail.tail.tail.tail.tail.tail.tail.tail.tail.tail.tail.tail.box ab_path sb_path rfl rfl ?_ rfl
                  refine t_move rfl ?_ rfl
                  refine t_callx Try.call29 rfl (held_path _ _ _ _ (S.tail.tail.tail.tail.tail.sl) (by omega) (by omega)) ?_ rfl rfl
                  intro w112 x113
                  have B := bx Hb B x113
                  have S := S.below x113
                  refine t_assign rfl ?_ rfl
                  refine t_done ?_
                  refine x_seq ?_
                  refine w_seq ?_
                  refine w_seq ?_
                  refine w_region ?_
                  refine t_move rfl ?_ rfl
                  refine t_lss rfl rfl ?_ rfl
                  refine t_done ?_
                  refine x_seq ?_
                  refine w_if rfl (fun h => (by exfalso; omega)) ?_
                  intro hc116
                  refine w_skip ?_
                  refine x_seq ?_
                  refine w_seq ?_
                  refine w_seq ?_
                  refine w_region ?_
                  refine t_move rfl ?_ rfl
                  refine t_move rfl ?_ rfl
                  refine t_neq rfl rfl ?_ rfl
                  refine t_done ?_
                  refine x_seq ?_
                  refine w_if rfl (fun h => absurd rfl h) ?_
                  intro _
                  refine w_skip ?_
                  refine x_seq ?_
                  refine w_seq ?_
                  refine w_region ?_
                  refine t_assign rfl ?_ rfl
                  refine t_done ?_
                  refine x_seq ?_
                  refine w_ret ?_
                  refine x_ret1 rfl rfl ?_
                  exact ⟨rfl, ext_trans X0 B⟩
              · refine t_alloc S z_path rfl ?_ rfl rfl
                intro g18 w114 x115 S
                have B := bx Hb B x115
                refine t_call Try.call46 rfl (va1 (by first | assumption | exact VA.below (by assumption) B) fun cs h => to_seg _ cs _ h (by omega)) ?_ rfl rfl
                rintro e w116 ⟨cs106, fp106, rfl, hO106, x117⟩
                refine ⟨_, rfl, x117, ?_⟩
                have S := S.add (o := tyO segT _ _) x117 hO106
                have B := bx Hb B x117
                obtain ⟨u106_2, heq, S2⟩ := S.segOpen
                subst heq
                have S := S2
                clear S2
                refine t_call Try.call47 rfl (impl_JoinThree _ _ _ _ _ _ _ _ (seg_mkv (S.tail.tail.tail.sl)) (seg_mkv (S.tail.tail.sl)) (seg_mkv (S.sl)) (by omega) (by omega) (by omega)) ?_ rfl rfl
                rintro e w118 ⟨cs107, fp107, rfl, hO107, x119⟩
                refine ⟨_, rfl, x119, ?_⟩
                have S := S.add (o := tyO pathT _ _) x119 hO107
                have B := bx Hb B x119
                obtain ⟨u107_0, heq, S2⟩ := S.pathOpen
                subst heq
                have S := S2
                clear S2
                have S := S.f2
                refine t_stn S sb_path rfl rfl rfl rfl (by intro zz hu; have hu : zz ∈ ([u107_0] : List Value) := hu; simp only [List.mem_cons, List.not_mem_nil, or_false] at hu; rcases hu with rfl <;> first | rfl | exact (SlR.cells (by first | assumption | exact S.tail.sl | exact S.tail.tail.sl | exact S.tail.tail.tail.sl | exact S.tail.tail.tail.tail.sl | exact S.tail.tail.tail.tail.tail.sl | exact S.tail.tail.tail.tail.tail.tail.sl | exact S.tail.tail.tail.tail.tail.tail.tail.sl | exact S.tail.tail.tail.tail.tail.tail.tail.tail.sl)).2) ?_
                intro w120 b121 S
                have B := B.trans b121
                refine t_done' ?_
                refine x_seq ?_
                refine w_seq ?_
                refine w_seq ?_
                refine w_region ?_
                refine t_bxn S.box ab_path sb_path rfl rfl ?_ rfl
                refine t_bxn S.tail.tail.tail.tail.tail.tail.tail.tail.tail.tail.tail.tail.tail.tail.tail.tail.box ab_path sb_path rfl rfl ?_ rfl
                refine t_callx Try.call20 rfl (eqv_path _ _ _ _ (path_mkv (S.tail.sl)) (path_mkv (S.tail.tail.tail.tail.tail.tail.tail.tail.tail.tail.tail.tail.tail.tail.tail.tail.tail.sl)) (ok_path_big (by omega))) ?_ rfl rfl
                intro w122 x123
                have B := bx Hb B x123
                have S := S.below x123
                refine t_notb rfl ?_ rfl
                refine t_done ?_
                refine x_seq ?_
                refine w_no rfl ?_
                refine w_skip ?_
                refine x_seq ?_
                refine w_seq ?_
                refine w_region ?_
                refine t_assign rfl ?_ rfl
                refine t_done ?_
                refine x_seq ?_
                refine w_seq ?_
                refine w_region ?_
                refine t_bxn S.tail.tail.tail.tail.tail.tail.tail.tail.tail.tail.tail.tail.box ab_path sb_path rfl rfl ?_ rfl
                refine t_move rfl ?_ rfl
                refine t_callx Try.call29 rfl (held_path _ _ _ _ (S.tail.tail.tail.tail.tail.sl) (by omega) (by omega)) ?_ rfl rfl
                intro w124 x125
                have B := bx Hb B x125
                have S := S.below x125
                refine t_assign rfl ?_ rfl
                refine t_done ?_
                refine x_seq ?_
                refine w_seq ?_
                refine w_seq ?_
                refine w_region ?_
                refine t_move rfl ?_ rfl
                refine t_lss rfl rfl ?_ rfl
                refine t_done ?_
                refine x_seq ?_
                refine w_if rfl (fun h => (by exfalso; omega)) ?_
                intro hc116
                refine w_skip ?_
                refine x_seq ?_
                refine w_seq ?_
                refine w_seq ?_
                refine w_region ?_
                refine t_move rfl ?_ rfl
                refine t_move rfl ?_ rfl
                refine t_neq rfl rfl ?_ rfl
                refine t_done ?_
                refine x_seq ?_
                refine w_if rfl (fun h => absurd rfl h) ?_
                intro _
                refine w_skip ?_
                refine x_seq ?_
                refine w_seq ?_
                refine w_region ?_
                refine t_assign rfl ?_ rfl
                refine t_done ?_
                refine x_seq ?_
                refine w_ret ?_
                refine x_ret1 rfl rfl ?_
                exact ⟨rfl, ext_trans X0 B⟩
            · refine t_alloc S z_path rfl ?_ rfl rfl
              intro g18 w126 x127 S
              have B := bx Hb B x127
              refine t_call Try.call46 rfl (va1 (by first | assumption | exact VA.below (by assumption) B) fun cs h => to_seg _ cs _ h (by omega)) ?_ rfl rfl
              rintro e w128 ⟨cs103, fp103, rfl, hO103, x129⟩
              refine ⟨_, rfl, x129, ?_⟩
              have S := S.add (o := tyO segT _ _) x129 hO103
              have B := bx Hb B x129
              obtain ⟨u103_2, heq, S2⟩ := S.segOpen
              subst heq
              have S := S2
              clear S2
              refine t_call Try.call46 rfl (va1 (by first | assumption | exact VA.below (by assumption) B) fun cs h => to_seg _ cs _ h (by omega)) ?_ rfl rfl
              rintro e w130 ⟨cs106, fp106, rfl, hO106, x131⟩
              refine ⟨_, rfl, x131, ?_⟩
              have S := S.add (o := tyO segT _ _) x131 hO106
              have B := bx Hb B x131
              obtain ⟨u106_2, heq, S2⟩ := S.segOpen
              subst heq
              have S := S2
              clear S2
              refine t_call Try.call47 rfl (impl_JoinThree _ _ _ _ _ _ _ _ (seg_mkv (S.tail.tail.tail.sl)) (seg_mkv (S.tail.sl)) (seg_mkv (S.sl)) (by omega) (by omega) (by omega)) ?_ rfl rfl
              rintro e w132 ⟨cs107, fp107, rfl, hO107, x133⟩
              refine ⟨_, rfl, x133, ?_⟩
              have S := S.add (o := tyO pathT _ _) x133 hO107
              have B := bx Hb B x133
              obtain ⟨u107_0, heq, S2⟩ := S.pathOpen
              subst heq
              have S := S2
              clear S2
              have S := S.f3
              refine t_stn S sb_path rfl rfl rfl rfl (by intro zz hu; have hu : zz ∈ ([u107_0] : List Value) := hu; simp only [List.mem_cons, List.not_mem_nil, or_false] at hu; rcases hu with rfl <;> first | rfl | exact (SlR.cells (by first | assumption | exact S.tail.sl | exact S.tail.tail.sl | exact S.tail.tail.tail.sl | exact S.tail.tail.tail.tail.sl | exact S.tail.tail.tail.tail.tail.sl | exact S.tail.tail.tail.tail.tail.tail.sl | exact S.tail.tail.tail.tail.tail.tail.tail.sl | exact S.tail.tail.tail.tail.tail.tail.tail.tail.sl)).2) ?_
              intro w134 b135 S
              have B := B.trans b135
              refine t_done' ?_
              refine x_seq ?_
              refine w_seq ?_
              refine w_seq ?_
              refine w_region ?_
              refine t_bxn S.box ab_path sb_path rfl rfl ?_ rfl
              refine t_bxn S.tail.tail.tail.tail.tail.tail.tail.tail.tail.tail.tail.tail.tail.tail.tail.tail.box ab_path sb_path rfl rfl ?_ rfl
              refine t_callx Try.call20 rfl (eqv_path _ _ _ _ (path_mkv (S.tail.sl)) (path_mkv (S.tail.tail.tail.tail.tail.tail.tail.tail.tail.tail.tail.tail.tail.tail.tail.tail.tail.sl)) (ok_path_big (by omega))) ?_ rfl rfl
              intro w136 x137
              have B := bx Hb B x137
              have S := S.below x137
              refine t_notb rfl ?_ rfl
              refine t_done ?_
              refine x_seq ?_
              refine w_no rfl ?_
              refine w_skip ?_
              refine x_seq ?_
              refine w_seq ?_
              refine w_region ?_
              refine t_assign rfl ?_ rfl
              refine t_done ?_
              refine x_seq ?_
              refine w_seq ?_
              refine w_region ?_
              refine t_bxn S.tail.tail.tail.tail.tail.tail.tail.tail.tail.tail.tail.tail.box ab_path sb_path rfl rfl ?_ rfl
              refine t_move rfl ?_ rfl
              refine t_callx Try.call29 rfl (held_path _ _ _ _ (S.tail.tail.tail.tail.tail.sl) (by omega) (by omega)) ?_ rfl rfl
              intro w138 x139
              have B := bx Hb B x139
              have S := S.below x139
              refine t_assign rfl ?_ rfl
              refine t_done ?_
              refine x_seq ?_
              refine w_seq ?_
              refine w_seq ?_
              refine w_region ?_
              refine t_move rfl ?_ rfl
              refine t_lss rfl rfl ?_ rfl
              refine t_done ?_
              refine x_seq ?_
              refine w_if rfl (fun h => (by exfalso; omega)) ?_
              intro hc116
              refine w_skip ?_
              refine x_seq ?_
              refine w_seq ?_
              refine w_seq ?_
              refine w_region ?_
              refine t_move rfl ?_ rfl
              refine t_move rfl ?_ rfl
              refine t_neq rfl rfl ?_ rfl
              refine t_done ?_
              refine x_seq ?_
              refine w_if rfl (fun h => absurd rfl h) ?_
              intro _
              refine w_skip ?_
              refine x_seq ?_
              refine w_seq ?_
              refine w_region ?_
              refine t_assign rfl ?_ rfl
              refine t_done ?_
              refine x_seq ?_
              refine w_ret ?_
              refine x_ret1 rfl rfl ?_
              exact ⟨rfl, ext_trans X0 B⟩
          · refine t_alloc S z_path rfl ?_ rfl rfl
            intro g18 w140 x141 S
            have B := bx Hb B x141
            refine t_call Try.call46 rfl (va1 (by first | assumption | exact VA.below (by assumption) B) fun cs h => to_seg _ cs _ h (by omega)) ?_ rfl rfl
            rintro e w142 ⟨cs101, fp101, rfl, hO101, x143⟩
            refine ⟨_, rfl, x143, ?_⟩
            have S := S.add (o := tyO segT _ _) x143 hO101
            have B := bx Hb B x143
            obtain ⟨u101_2, heq, S2⟩ := S.segOpen
            subst heq
            have S := S2
            clear S2
            refine t_call Try.call46 rfl (va1 (by first | assumption | exact VA.below (by assumption) B) fun cs h => to_seg _ cs _ h (by omega)) ?_ rfl rfl
            rintro e w144 ⟨cs103, fp103, rfl, hO103, x145⟩
            refine ⟨_, rfl, x145, ?_⟩
            have S := S.add (o := tyO segT _ _) x145 hO103
            have B := bx Hb B x145
            obtain ⟨u103_2, heq, S2⟩ := S.segOpen
            subst heq
            have S := S2
            clear S2
            refine t_call Try.call46 rfl (va1 (by first | assumption | exact VA.below (by assumption) B) fun cs h => to_seg _ cs _ h (by omega)) ?_ rfl rfl
            rintro e w146 ⟨cs106, fp106, rfl, hO106, x147⟩
            refine ⟨_, rfl, x147, ?_⟩
            have S := S.add (o := tyO segT _ _) x147 hO106
            have B := bx Hb B x147
            obtain ⟨u106_2, heq, S2⟩ := S.segOpen
            subst heq
            have S := S2
            clear S2
            refine t_call Try.call47 rfl (impl_JoinThree _ _ _ _ _ _ _ _ (seg_mkv (S.tail.tail.sl)) (seg_mkv (S.tail.sl)) (seg_mkv (S.sl)) (by omega) (by omega) (by omega)) ?_ rfl rfl
            rintro e w148 ⟨cs107, fp107, rfl, hO107, x149⟩
            refine ⟨_, rfl, x149, ?_⟩
            have S := S.add (o := tyO pathT _ _) x149 hO107
            have B := bx Hb B x149
            obtain ⟨u107_0, heq, S2⟩ := S.pathOpen
            subst heq
            have S := S2
            clear S2
            have S := S.f4
            refine t_stn S sb_path rfl rfl rfl rfl (by intro zz hu; have hu : zz ∈ ([u107_0] : List Value) := hu; simp only [List.mem_cons, List.not_mem_nil, or_false] at hu; rcases hu with rfl <;> first | rfl | exact (SlR.cells (by first | assumption | exact S.tail.sl | exact S.tail.tail.sl | exact S.tail.tail.tail.sl | exact S.tail.tail.tail.tail.sl | exact S.tail.tail.tail.tail.tail.sl | exact S.tail.tail.tail.tail.tail.tail.sl | exact S.tail.tail.tail.tail.tail.tail.tail.sl | exact S.tail.tail.tail.tail.tail.tail.tail.tail.sl)).2) ?_
            intro w150 b151 S
            have B := B.trans b151
            refine t_done' ?_
            refine x_seq ?_
            refine w_seq ?_
            refine w_seq ?_
            refine w_region ?_
            refine t_bxn S.box ab_path sb_path rfl rfl ?_ rfl
            refine t_bxn S.tail.tail.tail.tail.tail.tail.tail.tail.tail.tail.tail.tail.tail.tail.tail.tail.box ab_path sb_path rfl rfl ?_ rfl
            refine t_callx Try.call20 rfl (eqv_path _ _ _ _ (path_mkv (S.tail.sl)) (path_mkv (S.tail.tail.tail.tail.tail.tail.tail.tail.tail.tail.tail.tail.tail.tail.tail.tail.tail.sl)) (ok_path_big (by omega))) ?_ rfl rfl
            intro w152 x153
            have B := bx Hb B x153
            have S := S.below x153
            refine t_notb rfl ?_ rfl
            refine t_done ?_
            refine x_seq ?_
            refine w_no rfl ?_
            refine w_skip ?_
            refine x_seq ?_
            refine w_seq ?_
            refine w_region ?_
            refine t_assign rfl ?_ rfl
            refine t_done ?_
            refine x_seq ?_
            refine w_seq ?_
            refine w_region ?_
            refine t_bxn S.tail.tail.tail.tail.tail.tail.tail.tail.tail.tail.tail.tail.box ab_path sb_path rfl rfl ?_ rfl
            refine t_move rfl ?_ rfl
            refine t_callx Try.call29 rfl (held_path _ _ _ _ (S.tail.tail.tail.tail.tail.sl) (by omega) (by omega)) ?_ rfl rfl
            intro w154 x155
            have B := bx Hb B x155
            have S := S.below x155
            refine t_assign rfl ?_ rfl
            refine t_done ?_
            refine x_seq ?_
            refine w_seq ?_
            refine w_seq ?_
            refine w_region ?_
            refine t_move rfl ?_ rfl
            refine t_lss rfl rfl ?_ rfl
            refine t_done ?_
            refine x_seq ?_
            refine w_if rfl (fun h => (by exfalso; omega)) ?_
            intro hc116
            refine w_skip ?_
            refine x_seq ?_
            refine w_seq ?_
            refine w_seq ?_
            refine w_region ?_
            refine t_move rfl ?_ rfl
            refine t_move rfl ?_ rfl
            refine t_neq rfl rfl ?_ rfl
            refine t_done ?_
            refine x_seq ?_
            refine w_if rfl (fun h => absurd rfl h) ?_
            intro _
            refine w_skip ?_
            refine x_seq ?_
            refine w_seq ?_
            refine w_region ?_
            refine t_assign rfl ?_ rfl
            refine t_done ?_
            refine x_seq ?_
            refine w_ret ?_
            refine x_ret1 rfl rfl ?_
            exact ⟨rfl, ext_trans X0 B⟩
        · refine t_alloc S z_path rfl ?_ rfl rfl
          intro g10 w156 x157 S
          have B := bx Hb B x157
          refine t_call Try.call45 rfl (spec_JoinThree _ _ _ _ _ _ _ _ (seg_mkv (S.tail.tail.tail.sl)) (seg_mkv (S.tail.tail.sl)) (seg_mkv (S.tail.sl)) (by omega) (by omega) (by omega)) ?_ rfl rfl
          rintro e w158 ⟨cs41, fp41, rfl, hO41, x159⟩
          refine ⟨_, rfl, x159, ?_⟩
          have S := S.add (o := tyO pathT _ _) x159 hO41
          have B := bx Hb B x159
          obtain ⟨u41_0, heq, S2⟩ := S.pathOpen
          subst heq
          have S := S2
          clear S2
          have S := S.f1
          refine t_stn S sb_path rfl rfl rfl rfl (by intro zz hu; have hu : zz ∈ ([u41_0] : List Value) := hu; simp only [List.mem_cons, List.not_mem_nil, or_false] at hu; rcases hu with rfl <;> first | rfl | exact (SlR.cells (by first | assumption | exact S.tail.sl | exact S.tail.tail.sl | exact S.tail.tail.tail.sl | exact S.tail.tail.tail.tail.sl | exact S.tail.tail.tail.tail.tail.sl | exact S.tail.tail.tail.tail.tail.tail.sl | exact S.tail.tail.tail.tail.tail.tail.tail.sl | exact S.tail.tail.tail.tail.tail.tail.tail.tail.sl)).2) ?_
          intro w160 b161 S
          have B := B.trans b161
          refine t_done' ?_
          refine x_seq ?_
          refine w_seq ?_
          refine w_region ?_
          refine t_lda (by assumption) ab_l_seg sb_l_seg B rfl ?_ rfl
          intro v42 hv42
          obtain ⟨v42_2, rfl, hv42_2⟩ := seg_va hv42
          refine t_call Try.call46 rfl (va1 (by first | assumption | exact VA.below (by assumption) B) fun cs h => to_seg _ cs _ h (by omega)) ?_ rfl rfl
          rintro e w162 ⟨cs43, fp43, rfl, hO43, x163⟩
          refine ⟨_, rfl, x163, ?_⟩
          have S := S.add (o := tyO segT _ _) x163 hO43
          have B := bx Hb B x163
          obtain ⟨u43_2, heq, S2⟩ := S.segOpen
          subst heq
          have S := S2
          clear S2
          refine t_alloc S z_seg rfl ?_ rfl rfl
          intro g11 w164 x165 S
          have B := bx Hb B x165
          refine t_stn S sb_seg rfl rfl rfl rfl (by intro zz hu; have hu : zz ∈ ([I d0.ts, I d0.beta, u43_2] : List Value) := hu; simp only [List.mem_cons, List.not_mem_nil, or_false] at hu; rcases hu with rfl | rfl | rfl <;> first | rfl | exact (SlR.cells (by first | assumption | exact S.tail.sl | exact S.tail.tail.sl | exact S.tail.tail.tail.sl | exact S.tail.tail.tail.tail.sl | exact S.tail.tail.tail.tail.tail.sl | exact S.tail.tail.tail.tail.tail.tail.sl | exact S.tail.tail.tail.tail.tail.tail.tail.sl | exact S.tail.tail.tail.tail.tail.tail.tail.tail.sl)).2) ?_
          intro w166 b167 S
          have B := B.trans b167
          refine t_done ?_
          refine x_seq ?_
          refine w_seq ?_
          refine w_region ?_
          refine t_lda (by assumption) ab_l_seg sb_l_seg B rfl ?_ rfl
          intro v44 hv44
          obtain ⟨v44_2, rfl, hv44_2⟩ := seg_va hv44
          refine t_call Try.call46 rfl (va1 (by first | assumption | exact VA.below (by assumption) B) fun cs h => to_seg _ cs _ h (by omega)) ?_ rfl rfl
          rintro e w168 ⟨cs45, fp45, rfl, hO45, x169⟩
          refine ⟨_, rfl, x169, ?_⟩
          have S := S.add (o := tyO segT _ _) x169 hO45
          have B := bx Hb B x169
          obtain ⟨u45_2, heq, S2⟩ := S.segOpen
          subst heq
          have S := S2
          clear S2
          refine t_alloc S z_seg rfl ?_ rfl rfl
          intro g12 w170 x171 S
          have B := bx Hb B x171
          refine t_stn S sb_seg rfl rfl rfl rfl (by intro zz hu; have hu : zz ∈ ([I d1.ts, I d1.beta, u45_2] : List Value) := hu; simp only [List.mem_cons, List.not_mem_nil, or_false] at hu; rcases hu with rfl | rfl | rfl <;> first | rfl | exact (SlR.cells (by first | assumption | exact S.tail.sl | exact S.tail.tail.sl | exact S.tail.tail.tail.sl | exact S.tail.tail.tail.tail.sl | exact S.tail.tail.tail.tail.tail.sl | exact S.tail.tail.tail.tail.tail.tail.sl | exact S.tail.tail.tail.tail.tail.tail.tail.sl | exact S.tail.tail.tail.tail.tail.tail.tail.tail.sl)).2) ?_
          intro w172 b173 S
          have B := B.trans b173
          refine t_done ?_
          refine x_seq ?_
          refine w_seq ?_
          refine w_region ?_
          refine t_lda (by assumption) ab_l_seg sb_l_seg B rfl ?_ rfl
          intro v46 hv46
          obtain ⟨v46_2, rfl, hv46_2⟩ := seg_va hv46
          refine t_call Try.call46 rfl (va1 (by first | assumption | exact VA.below (by assumption) B) fun cs h => to_seg _ cs _ h (by omega)) ?_ rfl rfl
          rintro e w174 ⟨cs47, fp47, rfl, hO47, x175⟩
          refine ⟨_, rfl, x175, ?_⟩
          have S := S.add (o := tyO segT _ _) x175 hO47
          have B := bx Hb B x175
          obtain ⟨u47_2, heq, S2⟩ := S.segOpen
          subst heq
          have S := S2
          clear S2
          refine t_alloc S z_seg rfl ?_ rfl rfl
          intro g13 w176 x177 S
          have B := bx Hb B x177
          refine t_stn S sb_seg rfl rfl rfl rfl (by intro zz hu; have hu : zz ∈ ([I d3.ts, I d3.beta, u47_2] : List Value) := hu; simp only [List.mem_cons, List.not_mem_nil, or_false] at hu; rcases hu with rfl | rfl | rfl <;> first | rfl | exact (SlR.cells (by first | assumption | exact S.tail.sl | exact S.tail.tail.sl | exact S.tail.tail.tail.sl | exact S.tail.tail.tail.tail.sl | exact S.tail.tail.tail.tail.tail.sl | exact S.tail.tail.tail.tail.tail.tail.sl | exact S.tail.tail.tail.tail.tail.tail.tail.sl | exact S.tail.tail.tail.tail.tail.tail.tail.tail.sl)).2) ?_
          intro w178 b179 S
          have B := B.trans b179
          refine t_done ?_
          refine x_seq ?_
          refine w_seq ?_
          refine w_region ?_
          refine t_bxn S.tail.tail.tail.tail.box ab_seg sb_seg rfl rfl ?_ rfl
          refine t_bxn S.tail.tail.box ab_seg sb_seg rfl rfl ?_ rfl
          refine t_move rfl ?_ rfl
          refine t_bxn S.box ab_seg sb_seg rfl rfl ?_ rfl
          refine t_call Try.call47 rfl (impl_JoinThree _ _ _ _ _ _ _ _ (seg_mkv (S.tail.tail.tail.tail.tail.sl)) (seg_mkv (S.tail.tail.tail.sl)) (seg_mkv (S.tail.sl)) (by omega) (by omega) (by omega)) ?_ rfl rfl
          rintro e w180 ⟨cs52, fp52, rfl, hO52, x181⟩
          refine ⟨_, rfl, x181, ?_⟩
          have S := S.add (o := tyO pathT _ _) x181 hO52
          have B := bx Hb B x181
          obtain ⟨u52_0, heq, S2⟩ := S.pathOpen
          subst heq
          have S := S2
          clear S2
          refine t_alloc S z_path rfl ?_ rfl rfl
          intro g14 w182 x183 S
          have B := bx Hb B x183
          refine t_stn S sb_path rfl rfl rfl rfl (by intro zz hu; have hu : zz ∈ ([u52_0] : List Value) := hu; simp only [List.mem_cons, List.not_mem_nil, or_false] at hu; rcases hu with rfl <;> first | rfl | exact (SlR.cells (by first | assumption | exact S.tail.sl | exact S.tail.tail.sl | exact S.tail.tail.tail.sl | exact S.tail.tail.tail.tail.sl | exact S.tail.tail.tail.tail.tail.sl | exact S.tail.tail.tail.tail.tail.tail.sl | exact S.tail.tail.tail.tail.tail.tail.tail.sl | exact S.tail.tail.tail.tail.tail.tail.tail.tail.sl)).2) ?_
          intro w184 b185 S
          have B := B.trans b185
          refine t_done ?_
          refine x_seq ?_
          refine w_seq ?_
          refine w_seq ?_
          refine w_region ?_
          refine t_bxn S.box ab_path sb_path rfl rfl ?_ rfl
          refine t_bxn S.tail.tail.tail.tail.tail.tail.tail.tail.box ab_path sb_path rfl rfl ?_ rfl
          refine t_callx Try.call20 rfl (eqv_path _ _ _ _ (path_mkv (S.tail.sl)) (path_mkv (S.tail.tail.tail.tail.tail.tail.tail.tail.tail.sl)) (ok_path_big (by omega))) ?_ rfl rfl
          intro w186 x187
          have B := bx Hb B x187
          have S := S.below x187
          refine t_notb rfl ?_ rfl
          refine t_done ?_
          refine x_seq ?_
          refine w_no rfl ?_
          refine w_skip ?_
          refine x_seq ?_
          refine w_seq ?_
          refine w_seq ?_
          refine w_draw (.st .take 0 (.st .take 1 (.st .run 2 (.st .run 3 (.st .take 4 .done))))) mixed (by kernel_rfl) ?_
          intro w188 x189
          have B := bx Hb B x189
          have S := S.below x189
          refine t_bxn S.tail.tail.tail.tail.tail.tail.box ab_seg sb_seg rfl rfl ?_ rfl
          refine t_lda (by assumption) ab_l_seg sb_l_seg B rfl ?_ rfl
          intro v58 hv58
          obtain ⟨v58_2, rfl, hv58_2⟩ := seg_va hv58
          refine t_call Try.call46 rfl (va1 (by first | assumption | exact VA.below (by assumption) B) fun cs h => to_seg _ cs _ h (by omega)) ?_ rfl rfl
          rintro e w190 ⟨cs59, fp59, rfl, hO59, x191⟩
          refine ⟨_, rfl, x191, ?_⟩
          have S := S.add (o := tyO segT _ _) x191 hO59
          have B := bx Hb B x191
          obtain ⟨u59_2, heq, S2⟩ := S.segOpen
          subst heq
          have S := S2
          clear S2
          refine t_callx Try.call48 rfl (eqv_seg _ _ _ _ (seg_mkv (S.tail.tail.tail.tail.tail.tail.tail.tail.sl)) (seg_mkv (S.sl)) (ok_seg_sz (by omega))) ?_ rfl rfl
          intro w192 x193
          have B := bx Hb B x193
          have S := S.below x193
          refine t_notb rfl ?_ rfl
          refine t_done' ?_
          refine x_seq ?_
          refine w_no rfl ?_
          refine w_skip ?_
          refine x_seq ?_
          refine w_seq ?_
          refine w_seq ?_
          refine w_draw (.st .take 0 (.st .take 1 (.st .run 2 (.st .run 3 (.st .take 4 .done))))) mixed (by kernel_rfl) ?_
          intro w194 x195
          have B := bx Hb B x195
          have S := S.below x195
          refine t_bxn S.tail.tail.tail.tail.tail.box ab_seg sb_seg rfl rfl ?_ rfl
          refine t_lda (by assumption) ab_l_seg sb_l_seg B rfl ?_ rfl
          intro v63 hv63
          obtain ⟨v63_2, rfl, hv63_2⟩ := seg_va hv63
          refine t_call Try.call46 rfl (va1 (by first | assumption | exact VA.below (by assumption) B) fun cs h => to_seg _ cs _ h (by omega)) ?_ rfl rfl
          rintro e w196 ⟨cs64, fp64, rfl, hO64, x197⟩
          refine ⟨_, rfl, x197, ?_⟩
          have S := S.add (o := tyO segT _ _) x197 hO64
          have B := bx Hb B x197
          obtain ⟨u64_2, heq, S2⟩ := S.segOpen
          subst heq
          have S := S2
          clear S2
          refine t_callx Try.call48 rfl (eqv_seg _ _ _ _ (seg_mkv (S.tail.tail.tail.tail.tail.tail.tail.sl)) (seg_mkv (S.sl)) (ok_seg_sz (by omega))) ?_ rfl rfl
          intro w198 x199
          have B := bx Hb B x199
          have S := S.below x199
          refine t_notb rfl ?_ rfl
          refine t_done' ?_
          refine x_seq ?_
          refine w_no rfl ?_
          refine w_skip ?_
          refine x_seq ?_
          refine w_seq ?_
          refine w_seq ?_
          refine w_draw (.st .take 0 (.st .take 1 (.st .run 2 (.st .run 3 (.st .take 4 .done))))) mixed (by kernel_rfl) ?_
          intro w200 x201
          have B := bx Hb B x201
          have S := S.below x201
          refine t_bxn S.tail.tail.tail.tail.box ab_seg sb_seg rfl rfl ?_ rfl
          refine t_lda (by assumption) ab_l_seg sb_l_seg B rfl ?_ rfl
          intro v68 hv68
          obtain ⟨v68_2, rfl, hv68_2⟩ := seg_va hv68
          refine t_call Try.call46 rfl (va1 (by first | assumption | exact VA.below (by assumption) B) fun cs h => to_seg _ cs _ h (by omega)) ?_ rfl rfl
          rintro e w202 ⟨cs69, fp69, rfl, hO69, x203⟩
          refine ⟨_, rfl, x203, ?_⟩
          have S := S.add (o := tyO segT _ _) x203 hO69
          have B := bx Hb B x203
          obtain ⟨u69_2, heq, S2⟩ := S.segOpen
          subst heq
          have S := S2
          clear S2
          refine t_callx Try.call48 rfl (eqv_seg _ _ _ _ (seg_mkv (S.tail.tail.tail.tail.tail.tail.sl)) (seg_mkv (S.sl)) (ok_seg_sz (by omega))) ?_ rfl rfl
          intro w204 x205
          have B := bx Hb B x205
          have S := S.below x205
          refine t_notb rfl ?_ rfl
          refine t_done' ?_
          refine x_seq ?_
          refine w_no rfl ?_
          refine w_skip ?_
          refine x_seq ?_
          refine w_seq ?_
          refine w_region ?_
          refine t_assign rfl ?_ rfl
          refine t_done ?_
          refine x_seq ?_
          refine w_seq ?_
          refine w_region ?_
          refine t_bxn S.tail.tail.tail.tail.tail.tail.tail.tail.tail.box ab_seg sb_seg rfl rfl ?_ rfl
          refine t_move rfl ?_ rfl
          have S := S.f10
          refine t_callf Try.call49 rfl (mark_segm _ _ _ _ _ _ S (by omega) (by omega)) ?_ rfl
          rintro e w206 ⟨rfl, S, x207⟩
          refine ⟨_, rfl, ?_⟩
          have B := B.trans x207
          refine t_assign rfl ?_ rfl
          refine t_done ?_
          refine x_seq ?_
          refine w_seq ?_
          refine w_region ?_
          refine t_bxn S.tail.tail.tail.tail.tail.tail.tail.tail.box ab_seg sb_seg rfl rfl ?_ rfl
          refine t_move rfl ?_ rfl
          have S := S.f9
          refine t_callf Try.call49 rfl (mark_segm _ _ _ _ _ _ S (by omega) (by omega)) ?_ rfl
          rintro e w208 ⟨rfl, S, x209⟩
          refine ⟨_, rfl, ?_⟩
          have B := B.trans x209
          refine t_assign rfl ?_ rfl
          refine t_done ?_
          refine x_seq ?_
          refine w_seq ?_
          refine w_region ?_
          refine t_bxn S.tail.tail.tail.tail.tail.tail.tail.box ab_seg sb_seg rfl rfl ?_ rfl
          refine t_move rfl ?_ rfl
          have S := S.f8
          refine t_callf Try.call49 rfl (mark_segm _ _ _ _ _ _ S (by omega) (by omega)) ?_ rfl
          rintro e w210 ⟨rfl, S, x211⟩
          refine ⟨_, rfl, ?_⟩
          have B := B.trans x211
          refine t_assign rfl ?_ rfl
          refine t_done ?_
          refine x_seq ?_
          refine w_seq ?_
          refine w_seq ?_
          refine w_region ?_
          refine t_move rfl ?_ rfl
          refine t_lss rfl rfl ?_ rfl
          refine t_move rfl ?_ rfl
          refine t_partp (t := 83) rfl (fun h => (by exfalso; omega)) ?_
          intro hc83
          refine t_on rfl rfl ?_
          refine t_bxn S.tail.tail.tail.tail.tail.tail.box ab_path sb_path rfl rfl ?_ rfl
          refine t_on rfl rfl ?_
          refine t_bxn S.tail.tail.tail.tail.tail.tail.tail.tail.tail.tail.tail.box ab_path sb_path rfl rfl ?_ rfl
          refine t_on rfl rfl ?_
          refine t_callx Try.call20 rfl (eqv_path _ _ _ _ (path_mkv (S.tail.tail.tail.tail.tail.tail.tail.sl)) (path_mkv (S.tail.tail.tail.tail.tail.tail.tail.tail.tail.tail.tail.tail.sl)) (ok_path_big (by omega))) ?_ rfl rfl
          intro w212 x213
          have B := bx Hb B x213
          have S := S.below x213
          refine t_on rfl rfl ?_
          refine t_notb rfl ?_ rfl
          refine t_pickf rfl rfl ?_ rfl
          refine t_done ?_
          refine x_seq ?_
          refine w_no rfl ?_
          refine w_skip ?_
          refine x_seq ?_
          refine w_seq ?_
          refine w_region ?_
          refine t_assign rfl ?_ rfl
          refine t_done ?_
          refine x_seq ?_
          refine w_seq ?_
          refine w_region ?_
          refine t_bxn S.tail.tail.tail.tail.tail.tail.box ab_path sb_path rfl rfl ?_ rfl
          refine t_move rfl ?_ rfl
          have S := S.f7
          refine t_callf Try.call21 rfl (mark_path _ _ _ _ _ _ S (by omega) (by omega)) ?_ rfl
          rintro e w214 ⟨rfl, S, x215⟩
          refine ⟨_, rfl, ?_⟩
          have B := B.trans x215
          refine t_assign rfl ?_ rfl
          refine t_done ?_
          refine x_seq ?_
          refine w_seq ?_
          refine w_region ?_
          refine t_assign rfl ?_ rfl
          refine t_done ?_
          refine x_seq ?_
          refine w_seq ?_
          refine w_region ?_
          refine t_bxn S.tail.tail.tail.tail.tail.tail.tail.box ab_path sb_path rfl rfl ?_ rfl
          refine t_move rfl ?_ rfl
          refine t_callx Try.call29 rfl (held_path _ _ _ _ (S.sl) (by omega) (by omega)) ?_ rfl rfl
          intro w216 x217
          have B := bx Hb B x217
          have S := S.below x217
          refine t_assign rfl ?_ rfl
          refine t_done ?_
          refine x_seq ?_
          refine w_seq ?_
          refine w_seq ?_
          refine w_region ?_
          refine t_move rfl ?_ rfl
          refine t_lss rfl rfl ?_ rfl
          refine t_done ?_
          refine x_seq ?_
          refine w_if rfl (fun h => (by exfalso; omega)) ?_
          intro hc96
          refine w_skip ?_
          refine x_seq ?_
          refine w_seq ?_
          refine w_seq ?_
          refine w_region ?_
          refine t_move rfl ?_ rfl
          refine t_move rfl ?_ rfl
          refine t_neq rfl rfl ?_ rfl
          refine t_done ?_
          refine x_seq ?_
          refine w_if rfl (fun h => absurd rfl h) ?_
          intro _
          refine w_skip ?_
          refine x_seq ?_
          refine w_seq ?_
          refine w_draw (.st .take 0 (.st .take 2 (.st .take 4 (.st .take 5 (.alt (.st .run 1 (.alt (.st .run 3 (.alt (.st .run 6 (.alt (.st .run 7 (.st .run 8 (.st .fin 9 .done))) (.st .run 8 (.st .run 7 (.st .fin 9 .done))))) (.st .run 8 (.st .run 6 (.st .run 7 (.st .fin 9 .done)))))) (.st .run 8 (.st .run 3 (.st .run 6 (.st .run 7 (.st .fin 9 .done))))))) (.st .run 8 (.st .run 1 (.st .run 3 (.st .run 6 (.st .run 7 (.st .fin 9 .done))))))))))) mixed (by kernel_rfl) ?_
          intro w218 x219
          have B := bx Hb B x219
          have S := S.below x219
          refine t_lda (by assumption) ab_l_seg sb_l_seg B rfl ?_ rfl
          intro v100 hv100
          obtain ⟨v100_2, rfl, hv100_2⟩ := seg_va hv100
          refine t_lda (by assumption) ab_l_seg sb_l_seg B rfl ?_ rfl
          intro v102 hv102
          obtain ⟨v102_2, rfl, hv102_2⟩ := seg_va hv102
          refine t_move rfl ?_ rfl
          refine t_lda (by assumption) ab_l_seg sb_l_seg B rfl ?_ rfl
          intro v105 hv105
          obtain ⟨v105_2, rfl, hv105_2⟩ := seg_va hv105
          refine t_alt ?_ ?_
          · refine t_call Try.call46 rfl (va1 (by first | assumption | exact VA.below (by assumption) B) fun cs h => to_seg _ cs _ h (by omega)) ?_ rfl rfl
            rintro e w220 ⟨cs101, fp101, rfl, hO101, x221⟩
            refine ⟨_, rfl, x221, ?_⟩
            have S := S.add (o := tyO segT _ _) x221 hO101
            have B := bx Hb B x221
            obtain ⟨u101_2, heq, S2⟩ := S.segOpen
            subst heq
            have S := S2
            clear S2
            refine t_alt ?_ ?_
            · refine t_call Try.call46 rfl (va1 (by first | assumption | exact VA.below (by assumption) B) fun cs h => to_seg _ cs _ h (by omega)) ?_ rfl rfl
              rintro e w222 ⟨cs103, fp103, rfl, hO103, x223⟩
              refine ⟨_, rfl, x223, ?_⟩
              have S := S.add (o := tyO segT _ _) x223 hO103
              have B := bx Hb B x223
              obtain ⟨u103_2, heq, S2⟩ := S.segOpen
              subst heq
              have S := S2
              clear S2
              refine t_alt ?_ ?_
              · refine t_call Try.call46 rfl (va1 (by first | assumption | exact VA.below (by assumption) B) fun cs h => to_seg _ cs _ h (by omega)) ?_ rfl rfl
                rintro e w224 ⟨cs106, fp106, rfl, hO106, x225⟩
                refine ⟨_, rfl, x225, ?_⟩
                have S := S.add (o := tyO segT _ _) x225 hO106
                have B := bx Hb B x225
                obtain ⟨u106_2, heq, S2⟩ := S.segOpen
                subst heq
                have S := S2
                clear S2
                refine t_alt ?_ ?_
                · refine t_call Try.call47 rfl (impl_JoinThree _ _ _ _ _ _ _ _ (seg_mkv (S.tail.tail.sl)) (seg_mkv (S.tail.sl)) (seg_mkv (S.sl)) (by omega) (by omega) (by omega)) ?_ rfl rfl
                  rintro e w226 ⟨cs107, fp107, rfl, hO107, x227⟩
                  refine ⟨_, rfl, x227, ?_⟩
                  have S := S.add (o := tyO pathT _ _) x227 hO107
                  have B := bx Hb B x227
                  obtain ⟨u107_0, heq, S2⟩ := S.pathOpen
                  subst heq
                  have S := S2
                  clear S2
                  refine t_alloc S z_path rfl ?_ rfl rfl
                  intro g18 w228 x229 S
                  have B := bx Hb B x229
                  refine t_stn S sb_path rfl rfl rfl rfl (by intro zz hu; have hu : zz ∈ ([u107_0] : List Value) := hu; simp only [List.mem_cons, List.not_mem_nil, or_false] at hu; rcases hu with rfl <;> first | rfl | exact (SlR.cells (by first | assumption | exact S.tail.sl | exact S.tail.tail.sl | exact S.tail.tail.tail.sl | exact S.tail.tail.tail.tail.sl | exact S.tail.tail.tail.tail.tail.sl | exact S.tail.tail.tail.tail.tail.tail.sl | exact S.tail.tail.tail.tail.tail.tail.tail.sl | exact S.tail.tail.tail.tail.tail.tail.tail.tail.sl)).2) ?_
                  intro w230 b231 S
                  have B := B.trans b231
                  refine t_done' ?_
                  refine x_seq ?_
                  refine w_seq ?_
                  refine w_seq ?_
                  refine w_region ?_
                  refine t_bxn S.box ab_path sb_path rfl rfl ?_ rfl
                  refine t_bxn S.tail.tail.tail.tail.tail.tail.tail.tail.tail.tail.tail.tail.tail.tail.tail.tail.box ab_path sb_path rfl rfl ?_ rfl
                  refine t_callx Try.call20 rfl (eqv_path _ _ _ _ (path_mkv (S.tail.sl)) (path_mkv (S.tail.tail.tail.tail.tail.tail.tail.tail.tail.tail.tail.tail.tail.tail.tail.tail.tail.sl)) (ok_path_big (by omega))) ?_ rfl rfl
                  intro w232 x233
                  have B := bx Hb B x233
                  have S := S.below x233
                  refine t_notb rfl ?_ rfl
                  refine t_done ?_
                  refine x_seq ?_
                  refine w_no rfl ?_
                  refine w_skip ?_
                  refine x_seq ?_
                  refine w_seq ?_
                  refine w_region ?_
                  refine t_assign rfl ?_ rfl
                  refine t_done ?_
                  refine x_seq ?_
                  refine w_seq ?_
                  refine w_region ?_
                  refine t_bxn S.tail.tail.tail.tail.tail.tail.tail.tail.tail.tail.tail.tail.box ab_path sb_path rfl rfl ?_ rfl
                  refine t_move rfl ?_ rfl
                  refine t_callx Try.call29 rfl (held_path _ _ _ _ (S.tail.tail.tail.tail.tail.sl) (by omega) (by omega)) ?_ rfl rfl
                  intro w234 x235
                  have B := bx Hb B x235
                  have S := S.below x235
                  refine t_assign rfl ?_ rfl
                  refine t_done ?_
                  refine x_seq ?_
                  refine w_seq ?_
                  refine w_seq ?_
                  refine w_region ?_
                  refine t_move rfl ?_ rfl
                  refine t_lss rfl rfl ?_ rfl
                  refine t_done ?_
                  refine x_seq ?_
                  refine w_if rfl (fun h => (by exfalso; omega)) ?_
                  intro hc116
                  refine w_skip ?_
                  refine x_seq ?_
                  refine w_seq ?_
                  refine w_seq ?_
                  refine w_region ?_
                  refine t_move rfl ?_ rfl
                  refine t_move rfl ?_ rfl
                  refine t_neq rfl rfl ?_ rfl
                  refine t_done ?_
                  refine x_seq ?_
                  refine w_if rfl (fun h => absurd rfl h) ?_
                  intro _
                  refine w_skip ?_
                  refine x_seq ?_
                  refine w_seq ?_
                  refine w_region ?_
                  refine t_assign rfl ?_ rfl
                  refine t_done ?_
                  refine x_seq ?_
                  refine w_ret ?_
                  refine x_ret1 rfl rfl ?_
                  exact ⟨rfl, ext_trans X0 B⟩
                · refine t_alloc S z_path rfl ?_ rfl rfl
                  intro g18 w236 x237 S
                  have B := bx Hb B x237
                  refine t_call Try.call47 rfl (impl_JoinThree _ _ _ _ _ _ _ _ (seg_mkv (S.tail.tail.tail.sl)) (seg_mkv (S.tail.tail.sl)) (seg_mkv (S.tail.sl)) (by omega) (by omega) (by omega)) ?_ rfl rfl
                  rintro e w238 ⟨cs107, fp107, rfl, hO107, x239⟩
                  refine ⟨_, rfl, x239, ?_⟩
                  have S := S.add (o := tyO pathT _ _) x239 hO107
                  have B := bx Hb B x239
                  obtain ⟨u107_0, heq, S2⟩ := S.pathOpen
                  subst heq
                  have S := S2
                  clear S2
                  have S := S.f1
                  refine t_stn S sb_path rfl rfl rfl rfl (by intro zz hu; have hu : zz ∈ ([u107_0] : List Value) := hu; simp only [List.mem_cons, List.not_mem_nil, or_false] at hu; rcases hu with rfl <;> first | rfl | exact (SlR.cells (by first | assumption | exact S.tail.sl | exact S.tail.tail.sl | exact S.tail.tail.tail.sl | exact S.tail.tail.tail.tail.sl | exact S.tail.tail.tail.tail.tail.sl | exact S.tail.tail.tail.tail.tail.tail.sl | exact S.tail.tail.tail.tail.tail.tail.tail.sl | exact S.tail.tail.tail.tail.tail.tail.tail.tail.sl)).2) ?_
                  intro w240 b241 S
                  have B := B.trans b241
                  refine t_done' ?_
                  refine x_seq ?_
                  refine w_seq ?_
                  refine w_seq ?_
                  refine w_region ?_
                  refine t_bxn S.box ab_path sb_path rfl rfl ?_ rfl
                  refine t_bxn S.tail.tail.tail.tail.tail.tail.tail.tail.tail.tail.tail.tail.tail.tail.tail.tail.box ab_path sb_path rfl rfl ?_ rfl
                  refine t_callx Try.call20 rfl (eqv_path _ _ _ _ (path_mkv (S.tail.sl)) (path_mkv (S.tail.tail.tail.tail.tail.tail.tail.tail.tail.tail.tail.tail.tail.tail.tail.tail.tail.sl)) (ok_path_big (by omega))) ?_ rfl rfl
                  intro w242 x243
                  have B := bx Hb B x243
                  have S := S.below x243
                  refine t_notb rfl ?_ rfl
                  refine t_done ?_
                  refine x_seq ?_
                  refine w_no rfl ?_
                  refine w_skip ?_
                  refine x_seq ?_
                  refine w_seq ?_
                  refine w_region ?_
                  refine t_assign rfl ?_ rfl
                  refine t_done ?_
                  refine x_seq ?_
                  refine w_seq ?_
                  refine w_region ?_
                  refine t_bxn S.tail.tail.tail.tail.tail.tail.tail.tail.tail.tail.tail.tail.box ab_path sb_path rfl rfl ?_ rfl
                  refine t_move rfl ?_ rfl
                  refine t_callx Try.call29 rfl (held_path _ _ _ _ (S.tail.tail.tail.tail.tail.sl) (by omega) (by omega)) ?_ rfl rfl
                  intro w244 x245
                  have B := bx Hb B x245
                  have S := S.below x245
                  refine t_assign rfl ?_ rfl
                  refine t_done ?_
                  refine x_seq ?_
                  refine w_seq ?_
                  refine w_seq ?_
                  refine w_region ?_
                  refine t_move rfl ?_ rfl
                  refine t_lss rfl rfl ?_ rfl
                  refine t_done ?_
                  refine x_seq ?_
                  refine w_if rfl (fun h => (by exfalso; omega)) ?_
                  intro hc116
                  refine w_skip ?_
                  refine x_seq ?_
                  refine w_seq ?_
                  refine w_seq ?_
                  refine w_region ?_
                  refine t_move rfl ?_ rfl
                  refine t_move rfl ?_ rfl
                  refine t_neq rfl rfl ?_ rfl
                  refine t_done ?_
                  refine x_seq ?_
                  refine w_if rfl (fun h => absurd rfl h) ?_
                  intro _
                  refine w_skip ?_
                  refine x_seq ?_
                  refine w_seq ?_
                  refine w_region ?_
                  refine t_assign rfl ?_ rfl
                  refine t_done ?_
                  refine x_seq ?_
                  refine w_ret ?_
                  refine x_ret1 rfl rfl ?_
                  exact ⟨rfl, ext_trans X0 B⟩
              · refine t_alloc S z_path rfl ?_ rfl rfl
                intro g18 w246 x247 S
                have B := bx Hb B x247
                refine t_call Try.call46 rfl (va1 (by first | assumption | exact VA.below (by assumption) B) fun cs h => to_seg _ cs _ h (by omega)) ?_ rfl rfl
                rintro e w248 ⟨cs106, fp106, rfl, hO106, x249⟩
                refine ⟨_, rfl, x249, ?_⟩
                have S := S.add (o := tyO segT _ _) x249 hO106
                have B := bx Hb B x249
                obtain ⟨u106_2, heq, S2⟩ := S.segOpen
                subst heq
                have S := S2
                clear S2
                refine t_call Try.call47 rfl (impl_JoinThree _ _ _ _ _ _ _ _ (seg_mkv (S.tail.tail.tail.sl)) (seg_mkv (S.tail.tail.sl)) (seg_mkv (S.sl)) (by omega) (by omega) (by omega)) ?_ rfl rfl
                rintro e w250 ⟨cs107, fp107, rfl, hO107, x251⟩
                refine ⟨_, rfl, x251, ?_⟩
                have S := S.add (o := tyO pathT _ _) x251 hO107
                have B := bx Hb B x251
                obtain ⟨u107_0, heq, S2⟩ := S.pathOpen
                subst heq
                have S := S2
                clear S2
                have S := S.f2
                refine t_stn S sb_path rfl rfl rfl rfl (by intro zz hu; have hu : zz ∈ ([u107_0] : List Value) := hu; simp only [List.mem_cons, List.not_mem_nil, or_false] at hu; rcases hu with rfl <;> first | rfl | exact (SlR.cells (by first | assumption | exact S.tail.sl | exact S.tail.tail.sl | exact S.tail.tail.tail.sl | exact S.tail.tail.tail.tail.sl | exact S.tail.tail.tail.tail.tail.sl | exact S.tail.tail.tail.tail.tail.tail.sl | exact S.tail.tail.tail.tail.tail.tail.tail.sl | exact S.tail.tail.tail.tail.tail.tail.tail.tail.sl)).2) ?_
                intro w252 b253 S
                have B := B.trans b253
                refine t_done' ?_
                refine x_seq ?_
                refine w_seq ?_
                refine w_seq ?_
                refine w_region ?_
                refine t_bxn S.box ab_path sb_path rfl rfl ?_ rfl
                refine t_bxn S.tail.tail.tail.tail.tail.tail.tail.tail.tail.tail.tail.tail.tail.tail.tail.tail.box ab_path sb_path rfl rfl ?_ rfl
                refine t_callx Try.call20 rfl (eqv_path _ _ _ _ (path_mkv (S.tail.sl)) (path_mkv (S.tail.tail.tail.tail.tail.tail.tail.tail.tail.tail.tail.tail.tail.tail.tail.tail.tail.sl)) (ok_path_big (by omega))) ?_ rfl rfl
                intro w254 x255
                have B := bx Hb B x255
                have S := S.below x255
                refine t_notb rfl ?_ rfl
                refine t_done ?_
                refine x_seq ?_
                refine w_no rfl ?_
                refine w_skip ?_
                refine x_seq ?_
                refine w_seq ?_
                refine w_region ?_
                refine t_assign rfl ?_ rfl
                refine t_done ?_
                refine x_seq ?_
                refine w_seq ?_
                refine w_region ?_
                refine t_bxn S.tail.tail.tail.tail.tail.tail.tail.tail.tail.tail.tail.tail.box ab_path sb_path rfl rfl ?_ rfl
                refine t_move rfl ?_ rfl
                refine t_callx Try.call29 rfl (held_path _ _ _ _ (S.tail.tail.tail.tail.tail.sl) (by omega) (by omega)) ?_ rfl rfl
                intro w256 x257
                have B := bx Hb B x257
                have S := S.below x257
                refine t_assign rfl ?_ rfl
                refine t_done ?_
                refine x_seq ?_
                refine w_seq ?_
                refine w_seq ?_
                refine w_region ?_
                refine t_move rfl ?_ rfl
                refine t_lss rfl rfl ?_ rfl
                refine t_done ?_
                refine x_seq ?_
                refine w_if rfl (fun h => (by exfalso; omega)) ?_
                intro hc116
                refine w_skip ?_
                refine x_seq ?_
                refine w_seq ?_
                refine w_seq ?_
                refine w_region ?_
                refine t_move rfl ?_ rfl
                refine t_move rfl ?_ rfl
                refine t_neq rfl rfl ?_ rfl
                refine t_done ?_
                refine x_seq ?_
                refine w_if rfl (fun h => absurd rfl h) ?_
                intro _
                refine w_skip ?_
                refine x_seq ?_
                refine w_seq ?_
                refine w_region ?_
                refine t_assign rfl ?_ rfl
                refine t_done ?_
                refine x_seq ?_
                refine w_ret ?_
                refine x_ret1 rfl rfl ?_
                exact ⟨rfl, ext_trans X0 B⟩
            · refine t_alloc S z_path rfl ?_ rfl rfl
              intro g18 w258 x259 S
              have B := bx Hb B x259
              refine t_call Try.call46 rfl (va1 (by first | assumption | exact VA.below (by assumption) B) fun cs h => to_seg _ cs _ h (by omega)) ?_ rfl rfl
              rintro e w260 ⟨cs103, fp103, rfl, hO103, x261⟩
              refine ⟨_, rfl, x261, ?_⟩
              have S := S.add (o := tyO segT _ _) x261 hO103
              have B := bx Hb B x261
              obtain ⟨u103_2, heq, S2⟩ := S.segOpen
              subst heq
              have S := S2
              clear S2
              refine t_call Try.call46 rfl (va1 (by first | assumption | exact VA.below (by assumption) B) fun cs h => to_seg _ cs _ h (by omega)) ?_ rfl rfl
              rintro e w262 ⟨cs106, fp106, rfl, hO106, x263⟩
              refine ⟨_, rfl, x263, ?_⟩
              have S := S.add (o := tyO segT _ _) x263 hO106
              have B := bx Hb B x263
              obtain ⟨u106_2, heq, S2⟩ := S.segOpen
              subst heq
              have S := S2
              clear S2
              refine t_call Try.call47 rfl (impl_JoinThree _ _ _ _ _ _ _ _ (seg_mkv (S.tail.tail.tail.sl)) (seg_mkv (S.tail.sl)) (seg_mkv (S.sl)) (by omega) (by omega) (by omega)) ?_ rfl rfl
              rintro e w264 ⟨cs107, fp107, rfl, hO107, x265⟩
              refine ⟨_, rfl, x265, ?_⟩
              have S := S.add (o := tyO pathT _ _) x265 hO107
              have B := bx Hb B x265
              obtain ⟨u107_0, heq, S2⟩ := S.pathOpen
              subst heq
              have S := S2
              clear S2
              have S := S.f3
              refine t_stn S sb_path rfl rfl rfl rfl (by intro zz hu; have hu : zz ∈ ([u107_0] : List Value) := hu; simp only [List.mem_cons, List.not_mem_nil, or_false] at hu; rcases hu with rfl <;> first | rfl | exact (SlR.cells (by first | assumption | exact S.tail.sl | exact S.tail.tail.sl | exact S.tail.tail.tail.sl | exact S.tail.tail.tail.tail.sl | exact S.tail.tail.tail.tail.tail.sl | exact S.tail.tail.tail.tail.tail.tail.sl | exact S.tail.tail.tail.tail.tail.tail.tail.sl | exact S.tail.tail.tail.tail.tail.tail.tail.tail.sl)).2) ?_
              intro w266 b267 S
              have B := B.trans b267
              refine t_done' ?_
              refine x_seq ?_
              refine w_seq ?_
              refine w_seq ?_
              refine w_region ?_
              refine t_bxn S.box ab_path sb_path rfl rfl ?_ rfl
              refine t_bxn S.tail.tail.tail.tail.tail.tail.tail.tail.tail.tail.tail.tail.tail.tail.tail.tail.box ab_path sb_path rfl rfl ?_ rfl
              refine t_callx Try.call20 rfl (eqv_path _ _ _ _ (path_mkv (S.tail.sl)) (path_mkv (S.tail.tail.tail.tail.tail.tail.tail.tail.tail.tail.tail.tail.tail.tail.tail.tail.tail.sl)) (ok_path_big (by omega))) ?_ rfl rfl
              intro w268 x269
              have B := bx Hb B x269
              have S := S.below x269
              refine t_notb rfl ?_ rfl
              refine t_done ?_
              refine x_seq ?_
              refine w_no rfl ?_
              refine w_skip ?_
              refine x_seq ?_
              refine w_seq ?_
              refine w_region ?_
              refine t_assign rfl ?_ rfl
              refine t_done ?_
              refine x_seq ?_
              refine w_seq ?_
              refine w_region ?_
              refine t_bxn S.tail.tail.tail.tail.tail.tail.tail.tail.tail.tail.tail.tail.box ab_path sb_path rfl rfl ?_ rfl
              refine t_move rfl ?_ rfl
              refine t_callx Try.call29 rfl (held_path _ _ _ _ (S.tail.tail.tail.tail.tail.sl) (by omega) (by omega)) ?_ rfl rfl
              intro w270 x271
              have B := bx Hb B x271
              have S := S.below x271
              refine t_assign rfl ?_ rfl
              refine t_done ?_
              refine x_seq ?_
              refine w_seq ?_
              refine w_seq ?_
              refine w_region ?_
              refine t_move rfl ?_ rfl
              refine t_lss rfl rfl ?_ rfl
              refine t_done ?_
              refine x_seq ?_
              refine w_if rfl (fun h => (by exfalso; omega)) ?_
              intro hc116
              refine w_skip ?_
              refine x_seq ?_
              refine w_seq ?_
              refine w_seq ?_
              refine w_region ?_
              refine t_move rfl ?_ rfl
              refine t_move rfl ?_ rfl
              refine t_neq rfl rfl ?_ rfl
              refine t_done ?_
              refine x_seq ?_
              refine w_if rfl (fun h => absurd rfl h) ?_
              intro _
              refine w_skip ?_
              refine x_seq ?_
              refine w_seq ?_
              refine w_region ?_
              refine t_assign rfl ?_ rfl
              refine t_done ?_
              refine x_seq ?_
              refine w_ret ?_
              refine x_ret1 rfl rfl ?_
              exact ⟨rfl, ext_trans X0 B⟩
          · refine t_alloc S z_path rfl ?_ rfl rfl
            intro g18 w272 x273 S
            have B := bx Hb B x273
            refine t_call Try.call46 rfl (va1 (by first | assumption | exact VA.below (by assumption) B) fun cs h => to_seg _ cs _ h (by omega)) ?_ rfl rfl
            rintro e w274 ⟨cs101, fp101, rfl, hO101, x275⟩
            refine ⟨_, rfl, x275, ?_⟩
            have S := S.add (o := tyO segT _ _) x275 hO101
            have B := bx Hb B x275
            obtain ⟨u101_2, heq, S2⟩ := S.segOpen
            subst heq
            have S := S2
            clear S2
            refine t_call Try.call46 rfl (va1 (by first | assumption | exact VA.below (by assumption) B) fun cs h => to_seg _ cs _ h (by omega)) ?_ rfl rfl
            rintro e w276 ⟨cs103, fp103, rfl, hO103, x277⟩
            refine ⟨_, rfl, x277, ?_⟩
            have S := S.add (o := tyO segT _ _) x277 hO103
            have B := bx Hb B x277
            obtain ⟨u103_2, heq, S2⟩ := S.segOpen
            subst heq
            have S := S2
            clear S2
            refine t_call Try.call46 rfl (va1 (by first | assumption | exact VA.below (by assumption) B) fun cs h => to_seg _ cs _ h (by omega)) ?_ rfl rfl
            rintro e w278 ⟨cs106, fp106, rfl, hO106, x279⟩
            refine ⟨_, rfl, x279, ?_⟩
            have S := S.add (o := tyO segT _ _) x279 hO106
            have B := bx Hb B x279
            obtain ⟨u106_2, heq, S2⟩ := S.segOpen
            subst heq
            have S := S2
            clear S2
            refine t_call Try.call47 rfl (impl_JoinThree _ _ _ _ _ _ _ _ (seg_mkv (S.tail.tail.sl)) (seg_mkv (S.tail.sl)) (seg_mkv (S.sl)) (by omega) (by omega) (by omega)) ?_ rfl rfl
            rintro e w280 ⟨cs107, fp107, rfl, hO107, x281⟩
            refine ⟨_, rfl, x281, ?_⟩
            have S := S.add (o := tyO pathT _ _) x281 hO107
            have B := bx Hb B x281
            obtain ⟨u107_0, heq, S2⟩ := S.pathOpen
            subst heq
            have S := S2
            clear S2
            have S := S.f4
            refine t_stn S sb_path rfl rfl rfl rfl (by intro zz hu; have hu : zz ∈ ([u107_0] : List Value) := hu; simp only [List.mem_cons, List.not_mem_nil, or_false] at hu; rcases hu with rfl <;> first | rfl | exact (SlR.cells (by first | assumption | exact S.tail.sl | exact S.tail.tail.sl | exact S.tail.tail.tail.sl | exact S.tail.tail.tail.tail.sl | exact S.tail.tail.tail.tail.tail.sl | exact S.tail.tail.tail.tail.tail.tail.sl | exact S.tail.tail.tail.tail.tail.tail.tail.sl | exact S.tail.tail.tail.tail.tail.tail.tail.tail.sl)).2) ?_
            intro w282 b283 S
            have B := B.trans b283
            refine t_done' ?_
            refine x_seq ?_
            refine w_seq ?_
            refine w_seq ?_
            refine w_region ?_
            refine t_bxn S.box ab_path sb_path rfl rfl ?_ rfl
            refine t_bxn S.tail.tail.tail.tail.tail.tail.tail.tail.tail.tail.tail.tail.tail.tail.tail.tail.box ab_path sb_path rfl rfl ?_ rfl
            refine t_callx Try.call20 rfl (eqv_path _ _ _ _ (path_mkv (S.tail.sl)) (path_mkv (S.tail.tail.tail.tail.tail.tail.tail.tail.tail.tail.tail.tail.tail.tail.tail.tail.tail.sl)) (ok_path_big (by omega))) ?_ rfl rfl
            intro w284 x285
            have B := bx Hb B x285
            have S := S.below x285
            refine t_notb rfl ?_ rfl
            refine t_done ?_
            refine x_seq ?_
            refine w_no rfl ?_
            refine w_skip ?_
            refine x_seq ?_
            refine w_seq ?_
            refine w_region ?_
            refine t_assign rfl ?_ rfl
            refine t_done ?_
            refine x_seq ?_
            refine w_seq ?_
            refine w_region ?_
            refine t_bxn S.tail.tail.tail.tail.tail.tail.tail.tail.tail.tail.tail.tail.box ab_path sb_path rfl rfl ?_ rfl
            refine t_move rfl ?_ rfl
            refine t_callx Try.call29 rfl (held_path _ _ _ _ (S.tail.tail.tail.tail.tail.sl) (by omega) (by omega)) ?_ rfl rfl
            intro w286 x287
            have B := bx Hb B x287
            have S := S.below x287
            refine t_assign rfl ?_ rfl
            refine t_done ?_
            refine x_seq ?_
            refine w_seq ?_
            refine w_seq ?_
            refine w_region ?_
            refine t_move rfl ?_ rfl
            refine t_lss rfl rfl ?_ rfl
            refine t_done ?_
            refine x_seq ?_
            refine w_if rfl (fun h => (by exfalso; omega)) ?_
            intro hc116
            refine w_skip ?_
            refine x_seq ?_
            refine w_seq ?_
            refine w_seq ?_
            refine w_region ?_
            refine t_move rfl ?_ rfl
            refine t_move rfl ?_ rfl
            refine t_neq rfl rfl ?_ rfl
            refine t_done ?_
            refine x_seq ?_
            refine w_if rfl (fun h => absurd rfl h) ?_
            intro _
            refine w_skip ?_
            refine x_seq ?_
            refine w_seq ?_
            refine w_region ?_
            refine t_assign rfl ?_ rfl
            refine t_done ?_
            refine x_seq ?_
            refine w_ret ?_
            refine x_ret1 rfl rfl ?_
            exact ⟨rfl, ext_trans X0 B⟩
      · refine t_alloc S z_path rfl ?_ rfl rfl
        intro g10 w288 x289 S
        have B := bx Hb B x289
        refine t_call Try.call46 rfl (va1 (by first | assumption | exact VA.below (by assumption) B) fun cs h => to_seg _ cs _ h (by omega)) ?_ rfl rfl
        rintro e w290 ⟨cs40, fp40, rfl, hO40, x291⟩
        refine ⟨_, rfl, x291, ?_⟩
        have S := S.add (o := tyO segT _ _) x291 hO40
        have B := bx Hb B x291
        obtain ⟨u40_2, heq, S2⟩ := S.segOpen
        subst heq
        have S := S2
        clear S2
        refine t_call Try.call45 rfl (spec_JoinThree _ _ _ _ _ _ _ _ (seg_mkv (S.tail.tail.tail.sl)) (seg_mkv (S.tail.tail.sl)) (seg_mkv (S.sl)) (by omega) (by omega) (by omega)) ?_ rfl rfl
        rintro e w292 ⟨cs41, fp41, rfl, hO41, x293⟩
        refine ⟨_, rfl, x293, ?_⟩
        have S := S.add (o := tyO pathT _ _) x293 hO41
        have B := bx Hb B x293
        obtain ⟨u41_0, heq, S2⟩ := S.pathOpen
        subst heq
        have S := S2
        clear S2
        have S := S.f2
        refine t_stn S sb_path rfl rfl rfl rfl (by intro zz hu; have hu : zz ∈ ([u41_0] : List Value) := hu; simp only [List.mem_cons, List.not_mem_nil, or_false] at hu; rcases hu with rfl <;> first | rfl | exact (SlR.cells (by first | assumption | exact S.tail.sl | exact S.tail.tail.sl | exact S.tail.tail.tail.sl | exact S.tail.tail.tail.tail.sl | exact S.tail.tail.tail.tail.tail.sl | exact S.tail.tail.tail.tail.tail.tail.sl | exact S.tail.tail.tail.tail.tail.tail.tail.sl | exact S.tail.tail.tail.tail.tail.tail.tail.tail.sl)).2) ?_
        intro w294 b295 S
        have B := B.trans b295
        refine t_done' ?_
        refine x_seq ?_
        refine w_seq ?_
        refine w_region ?_
        refine t_lda (by assumption) ab_l_seg sb_l_seg B rfl ?_ rfl
        intro v42 hv42
        obtain ⟨v42_2, rfl, hv42_2⟩ := seg_va hv42
        refine t_call Try.call46 rfl (va1 (by first | assumption | exact VA.below (by assumption) B) fun cs h => to_seg _ cs _ h (by omega)) ?_ rfl rfl
        rintro e w296 ⟨cs43, fp43, rfl, hO43, x297⟩
        refine ⟨_, rfl, x297, ?_⟩
        have S := S.add (o := tyO segT _ _) x297 hO43
        have B := bx Hb B x297
        obtain ⟨u43_2, heq, S2⟩ := S.segOpen
        subst heq
        have S := S2
        clear S2
        refine t_alloc S z_seg rfl ?_ rfl rfl
        intro g11 w298 x299 S
        have B := bx Hb B x299
        refine t_stn S sb_seg rfl rfl rfl rfl (by intro zz hu; have hu : zz ∈ ([I d0.ts, I d0.beta, u43_2] : List Value) := hu; simp only [List.mem_cons, List.not_mem_nil, or_false] at hu; rcases hu with rfl | rfl | rfl <;> first | rfl | exact (SlR.cells (by first | assumption | exact S.tail.sl | exact S.tail.tail.sl | exact S.tail.tail.tail.sl | exact S.tail.tail.tail.tail.sl | exact S.tail.tail.tail.tail.tail.sl | exact S.tail.tail.tail.tail.tail.tail.sl | exact S.tail.tail.tail.tail.tail.tail.tail.sl | exact S.tail.tail.tail.tail.tail.tail.tail.tail.sl)).2) ?_
        intro w300 b301 S
        have B := B.trans b301
        refine t_done ?_
        refine x_seq ?_
        refine w_seq ?_
        refine w_region ?_
        refine t_lda (by assumption) ab_l_seg sb_l_seg B rfl ?_ rfl
        intro v44 hv44
        obtain ⟨v44_2, rfl, hv44_2⟩ := seg_va hv44
        refine t_call Try.call46 rfl (va1 (by first | assumption | exact VA.below (by assumption) B) fun cs h => to_seg _ cs _ h (by omega)) ?_ rfl rfl
        rintro e w302 ⟨cs45, fp45, rfl, hO45, x303⟩
        refine ⟨_, rfl, x303, ?_⟩
        have S := S.add (o := tyO segT _ _) x303 hO45
        have B := bx Hb B x303
        obtain ⟨u45_2, heq, S2⟩ := S.segOpen
        subst heq
        have S := S2
        clear S2
        refine t_alloc S z_seg rfl ?_ rfl rfl
        intro g12 w304 x305 S
        have B := bx Hb B x305
        refine t_stn S sb_seg rfl rfl rfl rfl (by intro zz hu; have hu : zz ∈ ([I d1.ts, I d1.beta, u45_2] : List Value) := hu; simp only [List.mem_cons, List.not_mem_nil, or_false] at hu; rcases hu with rfl | rfl | rfl <;> first | rfl | exact (SlR.cells (by first | assumption | exact S.tail.sl | exact S.tail.tail.sl | exact S.tail.tail.tail.sl | exact S.tail.tail.tail.tail.sl | exact S.tail.tail.tail.tail.tail.sl | exact S.tail.tail.tail.tail.tail.tail.sl | exact S.tail.tail.tail.tail.tail.tail.tail.sl | exact S.tail.tail.tail.tail.tail.tail.tail.tail.sl)).2) ?_
        intro w306 b307 S
        have B := B.trans b307
        refine t_done ?_
        refine x_seq ?_
        refine w_seq ?_
        refine w_region ?_
        refine t_lda (by assumption) ab_l_seg sb_l_seg B rfl ?_ rfl
        intro v46 hv46
        obtain ⟨v46_2, rfl, hv46_2⟩ := seg_va hv46
        refine t_call Try.call46 rfl (va1 (by first | assumption | exact VA.below (by assumption) B) fun cs h => to_seg _ cs _ h (by omega)) ?_ rfl rfl
        rintro e w308 ⟨cs47, fp47, rfl, hO47, x309⟩
        refine ⟨_, rfl, x309, ?_⟩
        have S := S.add (o := tyO segT _ _) x309 hO47
        have B := bx Hb B x309
        obtain ⟨u47_2, heq, S2⟩ := S.segOpen
        subst heq
        have S := S2
        clear S2
        refine t_alloc S z_seg rfl ?_ rfl rfl
        intro g13 w310 x311 S
        have B := bx Hb B x311
        refine t_stn S sb_seg rfl rfl rfl rfl (by intro zz hu; have hu : zz ∈ ([I d3.ts, I d3.beta, u47_2] : List Value) := hu; simp only [List.mem_cons, List.not_mem_nil, or_false] at hu; rcases hu with rfl | rfl | rfl <;> first | rfl | exact (SlR.cells (by first | assumption | exact S.tail.sl | exact S.tail.tail.sl | exact S.tail.tail.tail.sl | exact S.tail.tail.tail.tail.sl | exact S.tail.tail.tail.tail.tail.sl | exact S.tail.tail.tail.tail.tail.tail.sl | exact S.tail.tail.tail.tail.tail.tail.tail.sl | exact S.tail.tail.tail.tail.tail.tail.tail.tail.sl)).2) ?_
        intro w312 b313 S
        have B := B.trans b313
        refine t_done ?_
        refine x_seq ?_
        refine w_seq ?_
        refine w_region ?_
        refine t_bxn S.tail.tail.tail.tail.box ab_seg sb_seg rfl rfl ?_ rfl
        refine t_bxn S.tail.tail.box ab_seg sb_seg rfl rfl ?_ rfl
        refine t_move rfl ?_ rfl
        refine t_bxn S.box ab_seg sb_seg rfl rfl ?_ rfl
        refine t_call Try.call47 rfl (impl_JoinThree _ _ _ _ _ _ _ _ (seg_mkv (S.tail.tail.tail.tail.tail.sl)) (seg_mkv (S.tail.tail.tail.sl)) (seg_mkv (S.tail.sl)) (by omega) (by omega) (by omega)) ?_ rfl rfl
        rintro e w314 ⟨cs52, fp52, rfl, hO52, x315⟩
        refine ⟨_, rfl, x315, ?_⟩
        have S := S.add (o := tyO pathT _ _) x315 hO52
        have B := bx Hb B x315
        obtain ⟨u52_0, heq, S2⟩ := S.pathOpen
        subst heq
        have S := S2
        clear S2
        refine t_alloc S z_path rfl ?_ rfl rfl
        intro g14 w316 x317 S
        have B := bx Hb B x317
        refine t_stn S sb_path rfl rfl rfl rfl (by intro zz hu; have hu : zz ∈ ([u52_0] : List Value) := hu; simp only [List.mem_cons, List.not_mem_nil, or_false] at hu; rcases hu with rfl <;> first | rfl | exact (SlR.cells (by first | assumption | exact S.tail.sl | exact S.tail.tail.sl | exact S.tail.tail.tail.sl | exact S.tail.tail.tail.tail.sl | exact S.tail.tail.tail.tail.tail.sl | exact S.tail.tail.tail.tail.tail.tail.sl | exact S.tail.tail.tail.tail.tail.tail.tail.sl | exact S.tail.tail.tail.tail.tail.tail.tail.tail.sl)).2) ?_
        intro w318 b319 S
        have B := B.trans b319
        refine t_done ?_
        refine x_seq ?_
        refine w_seq ?_
        refine w_seq ?_
        refine w_region ?_
        refine t_bxn S.box ab_path sb_path rfl rfl ?_ rfl
        refine t_bxn S.tail.tail.tail.tail.tail.tail.tail.tail.box ab_path sb_path rfl rfl ?_ rfl
        refine t_callx Try.call20 rfl (eqv_path _ _ _ _ (path_mkv (S.tail.sl)) (path_mkv (S.tail.tail.tail.tail.tail.tail.tail.tail.tail.sl)) (ok_path_big (by omega))) ?_ rfl rfl
        intro w320 x321
        have B := bx Hb B x321
        have S := S.below x321
        refine t_notb rfl ?_ rfl
        refine t_done ?_
        refine x_seq ?_
        refine w_no rfl ?_
        refine w_skip ?_
        refine x_seq ?_
        refine w_seq ?_
        refine w_seq ?_
        refine w_draw (.st .take 0 (.st .take 1 (.st .run 2 (.st .run 3 (.st .take 4 .done))))) mixed (by kernel_rfl) ?_
        intro w322 x323
        have B := bx Hb B x323
        have S := S.below x323
        refine t_bxn S.tail.tail.tail.tail.tail.tail.box ab_seg sb_seg rfl rfl ?_ rfl
        refine t_lda (by assumption) ab_l_seg sb_l_seg B rfl ?_ rfl
        intro v58 hv58
        obtain ⟨v58_2, rfl, hv58_2⟩ := seg_va hv58
        refine t_call Try.call46 rfl (va1 (by first | assumption | exact VA.below (by assumption) B) fun cs h => to_seg _ cs _ h (by omega)) ?_ rfl rfl
        rintro e w324 ⟨cs59, fp59, rfl, hO59, x325⟩
        refine ⟨_, rfl, x325, ?_⟩
        have S := S.add (o := tyO segT _ _) x325 hO59
        have B := bx Hb B x325
        obtain ⟨u59_2, heq, S2⟩ := S.segOpen
        subst heq
        have S := S2
        clear S2
        refine t_callx Try.call48 rfl (eqv_seg _ _ _ _ (seg_mkv (S.tail.tail.tail.tail.tail.tail.tail.tail.sl)) (seg_mkv (S.sl)) (ok_seg_sz (by omega))) ?_ rfl rfl
        intro w326 x327
        have B := bx Hb B x327
        have S := S.below x327
        refine t_notb rfl ?_ rfl
        refine t_done' ?_
        refine x_seq ?_
        refine w_no rfl ?_
        refine w_skip ?_
        refine x_seq ?_
        refine w_seq ?_
        refine w_seq ?_
        refine w_draw (.st .take 0 (.st .take 1 (.st .run 2 (.st .run 3 (.st .take 4 .done))))) mixed (by kernel_rfl) ?_
        intro w328 x329
        have B := bx Hb B x329
        have S := S.below x329
        refine t_bxn S.tail.tail.tail.tail.tail.box ab_seg sb_seg rfl rfl ?_ rfl
        refine t_lda (by assumption) ab_l_seg sb_l_seg B rfl ?_ rfl
        intro v63 hv63
        obtain ⟨v63_2, rfl, hv63_2⟩ := seg_va hv63
        refine t_call Try.call46 rfl (va1 (by first | assumption | exact VA.below (by assumption) B) fun cs h => to_seg _ cs _ h (by omega)) ?_ rfl rfl
        rintro e w330 ⟨cs64, fp64, rfl, hO64, x331⟩
        refine ⟨_, rfl, x331, ?_⟩
        have S := S.add (o := tyO segT _ _) x331 hO64
        have B := bx Hb B x331
        obtain ⟨u64_2, heq, S2⟩ := S.segOpen
        subst heq
        have S := S2
        clear S2
        refine t_callx Try.call48 rfl (eqv_seg _ _ _ _ (seg_mkv (S.tail.tail.tail.tail.tail.tail.tail.sl)) (seg_mkv (S.sl)) (ok_seg_sz (by omega))) ?_ rfl rfl
        intro w332 x333
        have B := bx Hb B x333
        have S := S.below x333
        refine t_notb rfl ?_ rfl
        refine t_done' ?_
        refine x_seq ?_
        refine w_no rfl ?_
        refine w_skip ?_
        refine x_seq ?_
        refine w_seq ?_
        refine w_seq ?_
        refine w_draw (.st .take 0 (.st .take 1 (.st .run 2 (.st .run 3 (.st .take 4 .done))))) mixed (by kernel_rfl) ?_
        intro w334 x335
        have B := bx Hb B x335
        have S := S.below x335
        refine t_bxn S.tail.tail.tail.tail.box ab_seg sb_seg rfl rfl ?_ rfl
        refine t_lda (by assumption) ab_l_seg sb_l_seg B rfl ?_ rfl
        intro v68 hv68
        obtain ⟨v68_2, rfl, hv68_2⟩ := seg_va hv68
        refine t_call Try.call46 rfl (va1 (by first | assumption | exact VA.below (by assumption) B) fun cs h => to_seg _ cs _ h (by omega)) ?_ rfl rfl
        rintro e w336 ⟨cs69, fp69, rfl, hO69, x337⟩
        refine ⟨_, rfl, x337, ?_⟩
        have S := S.add (o := tyO segT _ _) x337 hO69
        have B := bx Hb B x337
        obtain ⟨u69_2, heq, S2⟩ := S.segOpen
        subst heq
        have S := S2
        clear S2
        refine t_callx Try.call48 rfl (eqv_seg _ _ _ _ (seg_mkv (S.tail.tail.tail.tail.tail.tail.sl)) (seg_mkv (S.sl)) (ok_seg_sz (by omega))) ?_ rfl rfl
        intro w338 x339
        have B := bx Hb B x339
        have S := S.below x339
        refine t_notb rfl ?_ rfl
        refine t_done' ?_
        refine x_seq ?_
        refine w_no rfl ?_
        refine w_skip ?_
        refine x_seq ?_
        refine w_seq ?_
        refine w_region ?_
        refine t_assign rfl ?_ rfl
        refine t_done ?_
        refine x_seq ?_
        refine w_seq ?_
        refine w_region ?_
        refine t_bxn S.tail.tail.tail.tail.tail.tail.tail.tail.tail.box ab_seg sb_seg rfl rfl ?_ rfl
        refine t_move rfl ?_ rfl
        have S := S.f10
        refine t_callf Try.call49 rfl (mark_segm _ _ _ _ _ _ S (by omega) (by omega)) ?_ rfl
        rintro e w340 ⟨rfl, S, x341⟩
        refine ⟨_, rfl, ?_⟩
        have B := B.trans x341
        refine t_assign rfl ?_ rfl
        refine t_done ?_
        refine x_seq ?_
        refine w_seq ?_
        refine w_region ?_
        refine t_bxn S.tail.tail.tail.tail.tail.tail.tail.tail.box ab_seg sb_seg rfl rfl ?_ rfl
        refine t_move rfl ?_ rfl
        have S := S.f9
        refine t_callf Try.call49 rfl (mark_segm _ _ _ _ _ _ S (by omega) (by omega)) ?_ rfl
        rintro e w342 ⟨rfl, S, x343⟩
        refine ⟨_, rfl, ?_⟩
        have B := B.trans x343
        refine t_assign rfl ?_ rfl
        refine t_done ?_
        refine x_seq ?_
        refine w_seq ?_
        refine w_region ?_
        refine t_bxn S.tail.tail.tail.tail.tail.tail.tail.box ab_seg sb_seg rfl rfl ?_ rfl
        refine t_move rfl ?_ rfl
        have S := S.f8
        refine t_callf Try.call49 rfl (mark_segm _ _ _ _ _ _ S (by omega) (by omega)) ?_ rfl
        rintro e w344 ⟨rfl, S, x345⟩
        refine ⟨_, rfl, ?_⟩
        have B := B.trans x345
        refine t_assign rfl ?_ rfl
        refine t_done ?_
        refine x_seq ?_
        refine w_seq ?_
        refine w_seq ?_
        refine w_region ?_
        refine t_move rfl ?_ rfl
        refine t_lss rfl rfl ?_ rfl
        refine t_move rfl ?_ rfl
        refine t_partp (t := 83) rfl (fun h => (by exfalso; omega)) ?_
        intro hc83
        refine t_on rfl rfl ?_
        refine t_bxn S.tail.tail.tail.tail.tail.tail.box ab_path sb_path rfl rfl ?_ rfl
        refine t_on rfl rfl ?_
        refine t_bxn S.tail.tail.tail.tail.tail.tail.tail.tail.tail.tail.tail.box ab_path sb_path rfl rfl ?_ rfl
        refine t_on rfl rfl ?_
        refine t_callx Try.call20 rfl (eqv_path _ _ _ _ (path_mkv (S.tail.tail.tail.tail.tail.tail.tail.sl)) (path_mkv (S.tail.tail.tail.tail.tail.tail.tail.tail.tail.tail.tail.tail.sl)) (ok_path_big (by omega))) ?_ rfl rfl
        intro w346 x347
        have B := bx Hb B x347
        have S := S.below x347
        refine t_on rfl rfl ?_
        refine t_notb rfl ?_ rfl
        refine t_pickf rfl rfl ?_ rfl
        refine t_done ?_
        refine x_seq ?_
        refine w_no rfl ?_
        refine w_skip ?_
        refine x_seq ?_
        refine w_seq ?_
        refine w_region ?_
        refine t_assign rfl ?_ rfl
        refine t_done ?_
        refine x_seq ?_
        refine w_seq ?_
        refine w_region ?_
        refine t_bxn S.tail.tail.tail.tail.tail.tail.box ab_path sb_path rfl rfl ?_ rfl
        refine t_move rfl ?_ rfl
        have S := S.f7
        refine t_callf Try.call21 rfl (mark_path _ _ _ _ _ _ S (by omega) (by omega)) ?_ rfl
        rintro e w348 ⟨rfl, S, x349⟩
        refine ⟨_, rfl, ?_⟩
        have B := B.trans x349
        refine t_assign rfl ?_ rfl
        refine t_done ?_
        refine x_seq ?_
        refine w_seq ?_
        refine w_region ?_
        refine t_assign rfl ?_ rfl
        refine t_done ?_
        refine x_seq ?_
        refine w_seq ?_
        refine w_region ?_
        refine t_bxn S.tail.tail.tail.tail.tail.tail.tail.box ab_path sb_path rfl rfl ?_ rfl
        refine t_move rfl ?_ rfl
        refine t_callx Try.call29 rfl (held_path _ _ _ _ (S.sl) (by omega) (by omega)) ?_ rfl rfl
        intro w350 x351
        have B := bx Hb B x351
        have S := S.below x351
        refine t_assign rfl ?_ rfl
        refine t_done ?_
        refine x_seq ?_
        refine w_seq ?_
        refine w_seq ?_
        refine w_region ?_
        refine t_move rfl ?_ rfl
        refine t_lss rfl rfl ?_ rfl
        refine t_done ?_
        refine x_seq ?_
        refine w_if rfl (fun h => (by exfalso; omega)) ?_
        intro hc96
        refine w_skip ?_
        refine x_seq ?_
        refine w_seq ?_
        refine w_seq ?_
        refine w_region ?_
        refine t_move rfl ?_ rfl
        refine t_move rfl ?_ rfl
        refine t_neq rfl rfl ?_ rfl
        refine t_done ?_
        refine x_seq ?_
        refine w_if rfl (fun h => absurd rfl h) ?_
        intro _
        refine w_skip ?_
        refine x_seq ?_
        refine w_seq ?_
        refine w_draw (.st .take 0 (.st .take 2 (.st .take 4 (.st .take 5 (.alt (.st .run 1 (.alt (.st .run 3 (.alt (.st .run 6 (.alt (.st .run 7 (.st .run 8 (.st .fin 9 .done))) (.st .run 8 (.st .run 7 (.st .fin 9 .done))))) (.st .run 8 (.st .run 6 (.st .run 7 (.st .fin 9 .done)))))) (.st .run 8 (.st .run 3 (.st .run 6 (.st .run 7 (.st .fin 9 .done))))))) (.st .run 8 (.st .run 1 (.st .run 3 (.st .run 6 (.st .run 7 (.st .fin 9 .done))))))))))) mixed (by kernel_rfl) ?_
        intro w352 x353
        have B := bx Hb B x353
        have S := S.below x353
        refine t_lda (by assumption) ab_l_seg sb_l_seg B rfl ?_ rfl
        intro v100 hv100
        obtain ⟨v100_2, rfl, hv100_2⟩ := seg_va hv100
        refine t_lda (by assumption) ab_l_seg sb_l_seg B rfl ?_ rfl
        intro v102 hv102
        obtain ⟨v102_2, rfl, hv102_2⟩ := seg_va hv102
        refine t_move rfl ?_ rfl
        refine t_lda (by assumption) ab_l_seg sb_l_seg B rfl ?_ rfl
        intro v105 hv105
        obtain ⟨v105_2, rfl, hv105_2⟩ := seg_va hv105
        refine t_alt ?_ ?_
        · refine t_call Try.call46 rfl (va1 (by first | assumption | exact VA.below (by assumption) B) fun cs h => to_seg _ cs _ h (by omega)) ?_ rfl rfl
          rintro e w354 ⟨cs101, fp101, rfl, hO101, x355⟩
          refine ⟨_, rfl, x355, ?_⟩
          have S := S.add (o := tyO segT _ _) x355 hO101
          have B := bx Hb B x355
          obtain ⟨u101_2, heq, S2⟩ := S.segOpen
          subst heq
          have S := S2
          clear S2
          refine t_alt ?_ ?_
          · refine t_call Try.call46 rfl (va1 (by first | assumption | exact VA.below (by assumption) B) fun cs h => to_seg _ cs _ h (by omega)) ?_ rfl rfl
            rintro e w356 ⟨cs103, fp103, rfl, hO103, x357⟩
            refine ⟨_, rfl, x357, ?_⟩
            have S := S.add (o := tyO segT _ _) x357 hO103
            have B := bx Hb B x357
            obtain ⟨u103_2, heq, S2⟩ := S.segOpen
            subst heq
            have S := S2
            clear S2
            refine t_alt ?_ ?_
            · refine t_call Try.call46 rfl (va1 (by first | assumption | exact VA.below (by assumption) B) fun cs h => to_seg _ cs _ h (by omega)) ?_ rfl rfl
              rintro e w358 ⟨cs106, fp106, rfl, hO106, x359⟩
              refine ⟨_, rfl, x359, ?_⟩
              have S := S.add (o := tyO segT _ _) x359 hO106
              have B := bx Hb B x359
              obtain ⟨u106_2, heq, S2⟩ := S.segOpen
              subst heq
              have S := S2
              clear S2
              refine t_alt ?_ ?_
              · refine t_call Try.call47 rfl (impl_JoinThree _ _ _ _ _ _ _ _ (seg_mkv (S.tail.tail.sl)) (seg_mkv (S.tail.sl)) (seg_mkv (S.sl)) (by omega) (by omega) (by omega)) ?_ rfl rfl
                rintro e w360 ⟨cs107, fp107, rfl, hO107, x361⟩
                refine ⟨_, rfl, x361, ?_⟩
                have S := S.add (o := tyO pathT _ _) x361 hO107
                have B := bx Hb B x361
                obtain ⟨u107_0, heq, S2⟩ := S.pathOpen
                subst heq
                have S := S2
                clear S2
                refine t_alloc S z_path rfl ?_ rfl rfl
                intro g18 w362 x363 S
                have B := bx Hb B x363
                refine t_stn S sb_path rfl rfl rfl rfl (by intro zz hu; have hu : zz ∈ ([u107_0] : List Value) := hu; simp only [List.mem_cons, List.not_mem_nil, or_false] at hu; rcases hu with rfl <;> first | rfl | exact (SlR.cells (by first | assumption | exact S.tail.sl | exact S.tail.tail.sl | exact S.tail.tail.tail.sl | exact S.tail.tail.tail.tail.sl | exact S.tail.tail.tail.tail.tail.sl | exact S.tail.tail.tail.tail.tail.tail.sl | exact S.tail.tail.tail.tail.tail.tail.tail.sl | exact S.tail.tail.tail.tail.tail.tail.tail.tail.sl)).2) ?_
                intro w364 b365 S
                have B := B.trans b365
                refine t_done' ?_
                refine x_seq ?_
                refine w_seq ?_
                refine w_seq ?_
                refine w_region ?_
                refine t_bxn S.box ab_path sb_path rfl rfl ?_ rfl
                refine t_bxn S.tail.tail.tail.tail.tail.tail.tail.tail.tail.tail.tail.tail.tail.tail.tail.tail.box ab_path sb_path rfl rfl ?_ rfl
                refine t_callx Try.call20 rfl (eqv_path _ _ _ _ (path_mkv (S.tail.sl)) (path_mkv (S.tail.tail.tail.tail.tail.tail.tail.tail.tail.tail.tail.tail.tail.tail.tail.tail.tail.sl)) (ok_path_big (by omega))) ?_ rfl rfl
                intro w366 x367
                have B := bx Hb B x367
                have S := S.below x367
                refine t_notb rfl ?_ rfl
                refine t_done ?_
                refine x_seq ?_
                refine w_no rfl ?_
                refine w_skip ?_
                refine x_seq ?_
                refine w_seq ?_
                refine w_region ?_
                refine t_assign rfl ?_ rfl
                refine t_done ?_
                refine x_seq ?_
                refine w_seq ?_
                refine w_region ?_
                refine t_bxn S.tail.tail.tail.tail.tail.tail.tail.tail.tail.tail.tail.tail.box ab_path sb_path rfl rfl ?_ rfl
                refine t_move rfl ?_ rfl
                refine t_callx Try.call29 rfl (held_path _ _ _ _ (S.tail.tail.tail.tail.tail.sl) (by omega) (by omega)) ?_ rfl rfl
                intro w368 x369
                have B := bx Hb B x369
                have S := S.below x369
                refine t_assign rfl ?_ rfl
                refine t_done ?_
                refine x_seq ?_
                refine w_seq ?_
                refine w_seq ?_
                refine w_region ?_
                refine t_move rfl ?_ rfl
                refine t_lss rfl rfl ?_ rfl
                refine t_done ?_
                refine x_seq ?_
                refine w_if rfl (fun h => (by exfalso; omega)) ?_
                intro hc116
                refine w_skip ?_
                refine x_seq ?_
                refine w_seq ?_
                refine w_seq ?_
                refine w_region ?_
                refine t_move rfl ?_ rfl
                refine t_move rfl ?_ rfl
                refine t_neq rfl rfl ?_ rfl
                refine t_done ?_
                refine x_seq ?_
                refine w_if rfl (fun h => absurd rfl h) ?_
                intro _
                refine w_skip ?_
                refine x_seq ?_
                refine w_seq ?_
                refine w_region ?_
                refine t_assign rfl ?_ rfl
                refine t_done ?_
                refine x_seq ?_
                refine w_ret ?_
                refine x_ret1 rfl rfl ?_
                exact ⟨rfl, ext_trans X0 B⟩
              · refine t_alloc S z_path rfl ?_ rfl rfl
                intro g18 w370 x371 S
                have B := bx Hb B x371
                refine t_call Try.call47 rfl (impl_JoinThree _ _ _ _ _ _ _ _ (seg_mkv (S.tail.tail.tail.sl)) (seg_mkv (S.tail.tail.sl)) (seg_mkv (S.tail.sl)) (by omega) (by omega) (by omega)) ?_ rfl rfl
                rintro e w372 ⟨cs107, fp107, rfl, hO107, x373⟩
                refine ⟨_, rfl, x373, ?_⟩
                have S := S.add (o := tyO pathT _ _) x373 hO107
                have B := bx Hb B x373
                obtain ⟨u107_0, heq, S2⟩ := S.pathOpen
                subst heq
                have S := S2
                clear S2
                have S := S.f1
                refine t_stn S sb_path rfl rfl rfl rfl (by intro zz hu; have hu : zz ∈ ([u107_0] : List Value) := hu; simp only [List.mem_cons, List.not_mem_nil, or_false] at hu; rcases hu with rfl <;> first | rfl | exact (SlR.cells (by first | assumption | exact S.tail.sl | exact S.tail.tail.sl | exact S.tail.tail.tail.sl | exact S.tail.tail.tail.tail.sl | exact S.tail.tail.tail.tail.tail.sl | exact S.tail.tail.tail.tail.tail.tail.sl | exact S.tail.tail.tail.tail.tail.tail.tail.sl | exact S.tail.tail.tail.tail.tail.tail.tail.tail.sl)).2) ?_
                intro w374 b375 S
                have B := B.trans b375
                refine t_done' ?_
                refine x_seq ?_
                refine w_seq ?_
                refine w_seq ?_
                refine w_region ?_
                refine t_bxn S.box ab_path sb_path rfl rfl ?_ rfl
                refine t_bxn S.tail.tail.tail.tail.tail.tail.tail.tail.tail.tail.tail.tail.tail.tail.tail.tail.box ab_path sb_path rfl rfl ?_ rfl
                refine t_callx Try.call20 rfl (eqv_path _ _ _ _ (path_mkv (S.tail.sl)) (path_mkv (S.tail.tail.tail.tail.tail.tail.tail.tail.tail.tail.tail.tail.tail.tail.tail.tail.tail.sl)) (ok_path_big (by omega))) ?_ rfl rfl
                intro w376 x377
                have B := bx Hb B x377
                have S := S.below x377
                refine t_notb rfl ?_ rfl
                refine t_done ?_
                refine x_seq ?_
                refine w_no rfl ?_
                refine w_skip ?_
                refine x_seq ?_
                refine w_seq ?_
                refine w_region ?_
                refine t_assign rfl ?_ rfl
                refine t_done ?_
                refine x_seq ?_
                refine w_seq ?_
                refine w_region ?_
                refine t_bxn S.tail.tail.tail.tail.tail.tail.tail.tail.tail.tail.tail.tail.box ab_path sb_path rfl rfl ?_ rfl
                refine t_move rfl ?_ rfl
                refine t_callx Try.call29 rfl (held_path _ _ _ _ (S.tail.tail.tail.tail.tail.sl) (by omega) (by omega)) ?_ rfl rfl
                intro w378 x379
                have B := bx Hb B x379
                have S := S.below x379
                refine t_assign rfl ?_ rfl
                refine t_done ?_
                refine x_seq ?_
                refine w_seq ?_
                refine w_seq ?_
                refine w_region ?_
                refine t_move rfl ?_ rfl
                refine t_lss rfl rfl ?_ rfl
                refine t_done ?_
                refine x_seq ?_
                refine w_if rfl (fun h => (by exfalso; omega)) ?_
                intro hc116
                refine w_skip ?_
                refine x_seq ?_
                refine w_seq ?_
                refine w_seq ?_
                refine w_region ?_
                refine t_move rfl ?_ rfl
                refine t_move rfl ?_ rfl
                refine t_neq rfl rfl ?_ rfl
                refine t_done ?_
                refine x_seq ?_
                refine w_if rfl (fun h => absurd rfl h) ?_
                intro _
                refine w_skip ?_
                refine x_seq ?_
                refine w_seq ?_
                refine w_region ?_
                refine t_assign rfl ?_ rfl
                refine t_done ?_
                refine x_seq ?_
                refine w_ret ?_
                refine x_ret1 rfl rfl ?_
                exact ⟨rfl, ext_trans X0 B⟩
            · refine t_alloc S z_path rfl ?_ rfl rfl
              intro g18 w380 x381 S
              have B := bx Hb B x381
              refine t_call Try.call46 rfl (va1 (by first | assumption | exact VA.below (by assumption) B) fun cs h => to_seg _ cs _ h (by omega)) ?_ rfl rfl
              rintro e w382 ⟨cs106, fp106, rfl, hO106, x383⟩
              refine ⟨_, rfl, x383, ?_⟩
              have S := S.add (o := tyO segT _ _) x383 hO106
              have B := bx Hb B x383
              obtain ⟨u106_2, heq, S2⟩ := S.segOpen
              subst heq
              have S := S2
              clear S2
              refine t_call Try.call47 rfl (impl_JoinThree _ _ _ _ _ _ _ _ (seg_mkv (S.tail.tail.tail.sl)) (seg_mkv (S.tail.tail.sl)) (seg_mkv (S.sl)) (by omega) (by omega) (by omega)) ?_ rfl rfl
              rintro e w384 ⟨cs107, fp107, rfl, hO107, x385⟩
              refine ⟨_, rfl, x385, ?_⟩
              have S := S.add (o := tyO pathT _ _) x385 hO107
              have B := bx Hb B x385
              obtain ⟨u107_0, heq, S2⟩ := S.pathOpen
              subst heq
              have S := S2
              clear S2
              have S := S.f2
              refine t_stn S sb_path rfl rfl rfl rfl (by intro zz hu; have hu : zz ∈ ([u107_0] : List Value) := hu; simp only [List.mem_cons, List.not_mem_nil, or_false] at hu; rcases hu with rfl <;> first | rfl | exact (SlR.cells (by first | assumption | exact S.tail.sl | exact S.tail.tail.sl | exact S.tail.tail.tail.sl | exact S.tail.tail.tail.tail.sl | exact S.tail.tail.tail.tail.tail.sl | exact S.tail.tail.tail.tail.tail.tail.sl | exact S.tail.tail.tail.tail.tail.tail.tail.sl | exact S.tail.tail.tail.tail.tail.tail.tail.tail.sl)).2) ?_
              intro w386 b387 S
              have B := B.trans b387
              refine t_done' ?_
              refine x_seq ?_
              refine w_seq ?_
              refine w_seq ?_
              refine w_region ?_
              refine t_bxn S.box ab_path sb_path rfl rfl ?_ rfl
              refine t_bxn S.tail.tail.tail.tail.tail.tail.tail.tail.tail.tail.tail.tail.tail.tail.tail.tail.box ab_path sb_path rfl rfl ?_ rfl
              refine t_callx Try.call20 rfl (eqv_path _ _ _ _ (path_mkv (S.tail.sl)) (path_mkv (S.tail.tail.tail.tail.tail.tail.tail.tail.tail.tail.tail.tail.tail.tail.tail.tail.tail.sl)) (ok_path_big (by omega))) ?_ rfl rfl
              intro w388 x389
              have B := bx Hb B x389
              have S := S.below x389
              refine t_notb rfl ?_ rfl
              refine t_done ?_
              refine x_seq ?_
              refine w_no rfl ?_
              refine w_skip ?_
              refine x_seq ?_
              refine w_seq ?_
              refine w_region ?_
              refine t_assign rfl ?_ rfl
              refine t_done ?_
              refine x_seq ?_
              refine w_seq ?_
              refine w_region ?_
              refine t_bxn S.tail.tail.tail.tail.tail.tail.tail.tail.tail.tail.tail.tail.box ab_path sb_path rfl rfl ?_ rfl
              refine t_move rfl ?_ rfl
              refine t_callx Try.call29 rfl (held_path _ _ _ _ (S.tail.tail.tail.tail.tail.sl) (by omega) (by omega)) ?_ rfl rfl
              intro w390 x391
              have B := bx Hb B x391
              have S := S.below x391
              refine t_assign rfl ?_ rfl
              refine t_done ?_
              refine x_seq ?_
              refine w_seq ?_
              refine w_seq ?_
              refine w_region ?_
              refine t_move rfl ?_ rfl
              refine t_lss rfl rfl ?_ rfl
              refine t_done ?_
              refine x_seq ?_
              refine w_if rfl (fun h => (by exfalso; omega)) ?_
              intro hc116
              refine w_skip ?_
              refine x_seq ?_
              refine w_seq ?_
              refine w_seq ?_
              refine w_region ?_
              refine t_move rfl ?_ rfl
              refine t_move rfl ?_ rfl
              refine t_neq rfl rfl ?_ rfl
              refine t_done ?_
              refine x_seq ?_
              refine w_if rfl (fun h => absurd rfl h) ?_
              intro _
              refine w_skip ?_
              refine x_seq ?_
              refine w_seq ?_
              refine w_region ?_
              refine t_assign rfl ?_ rfl
              refine t_done ?_
              refine x_seq ?_
              refine w_ret ?_
              refine x_ret1 rfl rfl ?_
              exact ⟨rfl, ext_trans X0 B⟩
          · refine t_alloc S z_path rfl ?_ rfl rfl
            intro g18 w392 x393 S
            have B := bx Hb B x393
            refine t_call Try.call46 rfl (va1 (by first | assumption | exact VA.below (by assumption) B) fun cs h => to_seg _ cs _ h (by omega)) ?_ rfl rfl
            rintro e w394 ⟨cs103, fp103, rfl, hO103, x395⟩
            refine ⟨_, rfl, x395, ?_⟩
            have S := S.add (o := tyO segT _ _) x395 hO103
            have B := bx Hb B x395
            obtain ⟨u103_2, heq, S2⟩ := S.segOpen
            subst heq
            have S := S2
            clear S2
            refine t_call Try.call46 rfl (va1 (by first | assumption | exact VA.below (by assumption) B) fun cs h => to_seg _ cs _ h (by omega)) ?_ rfl rfl
            rintro e w396 ⟨cs106, fp106, rfl, hO106, x397⟩
            refine ⟨_, rfl, x397, ?_⟩
            have S := S.add (o := tyO segT _ _) x397 hO106
            have B := bx Hb B x397
            obtain ⟨u106_2, heq, S2⟩ := S.segOpen
            subst heq
            have S := S2
            clear S2
            refine t_call Try.call47 rfl (impl_JoinThree _ _ _ _ _ _ _ _ (seg_mkv (S.tail.tail.tail.sl)) (seg_mkv (S.tail.sl)) (seg_mkv (S.sl)) (by omega) (by omega) (by omega)) ?_ rfl rfl
            rintro e w398 ⟨cs107, fp107, rfl, hO107, x399⟩
            refine ⟨_, rfl, x399, ?_⟩
            have S := S.add (o := tyO pathT _ _) x399 hO107
            have B := bx Hb B x399
            obtain ⟨u107_0, heq, S2⟩ := S.pathOpen
            subst heq
            have S := S2
            clear S2
            have S := S.f3
            refine t_stn S sb_path rfl rfl rfl rfl (by intro zz hu; have hu : zz ∈ ([u107_0] : List Value) := hu; simp only [List.mem_cons, List.not_mem_nil, or_false] at hu; rcases hu with rfl <;> first | rfl | exact (SlR.cells (by first | assumption | exact S.tail.sl | exact S.tail.tail.sl | exact S.tail.tail.tail.sl | exact S.tail.tail.tail.tail.sl | exact S.tail.tail.tail.tail.tail.sl | exact S.tail.tail.tail.tail.tail.tail.sl | exact S.tail.tail.tail.tail.tail.tail.tail.sl | exact S.tail.tail.tail.tail.tail.tail.tail.tail.sl)).2) ?_
            intro w400 b401 S
            have B := B.trans b401
            refine t_done' ?_
            refine x_seq ?_
            refine w_seq ?_
            refine w_seq ?_
            refine w_region ?_
            refine t_bxn S.box ab_path sb_path rfl rfl ?_ rfl
            refine t_bxn S.tail.tail.tail.tail.tail.tail.tail.tail.tail.tail.tail.tail.tail.tail.tail.tail.box ab_path sb_path rfl rfl ?_ rfl
            refine t_callx Try.call20 rfl (eqv_path _ _ _ _ (path_mkv (S.tail.sl)) (path_mkv (S.tail.tail.tail.tail.tail.tail.tail.tail.tail.tail.tail.tail.tail.tail.tail.tail.tail.sl)) (ok_path_big (by omega))) ?_ rfl rfl
            intro w402 x403
            have B := bx Hb B x403
            have S := S.below x403
            refine t_notb rfl ?_ rfl
            refine t_done ?_
            refine x_seq ?_
            refine w_no rfl ?_
            refine w_skip ?_
            refine x_seq ?_
            refine w_seq ?_
            refine w_region ?_
            refine t_assign rfl ?_ rfl
            refine t_done ?_
            refine x_seq ?_
            refine w_seq ?_
            refine w_region ?_
            refine t_bxn S.tail.tail.tail.tail.tail.tail.tail.tail.tail.tail.tail.tail.box ab_path sb_path rfl rfl ?_ rfl
            refine t_move rfl ?_ rfl
            refine t_callx Try.call29 rfl (held_path _ _ _ _ (S.tail.tail.tail.tail.tail.sl) (by omega) (by omega)) ?_ rfl rfl
            intro w404 x405
            have B := bx Hb B x405
            have S := S.below x405
            refine t_assign rfl ?_ rfl
            refine t_done ?_
            refine x_seq ?_
            refine w_seq ?_
            refine w_seq ?_
            refine w_region ?_
            refine t_move rfl ?_ rfl
            refine t_lss rfl rfl ?_ rfl
            refine t_done ?_
            refine x_seq ?_
            refine w_if rfl (fun h => (by exfalso; omega)) ?_
            intro hc116
            refine w_skip ?_
            refine x_seq ?_
            refine w_seq ?_
            refine w_seq ?_
            refine w_region ?_
            refine t_move rfl ?_ rfl
            refine t_move rfl ?_ rfl
            refine t_neq rfl rfl ?_ rfl
            refine t_done ?_
            refine x_seq ?_
            refine w_if rfl (fun h => absurd rfl h) ?_
            intro _
            refine w_skip ?_
            refine x_seq ?_
            refine w_seq ?_
            refine w_region ?_
            refine t_assign rfl ?_ rfl
            refine t_done ?_
            refine x_seq ?_
            refine w_ret ?_
            refine x_ret1 rfl rfl ?_
            exact ⟨rfl, ext_trans X0 B⟩
        · refine t_alloc S z_path rfl ?_ rfl rfl
          intro g18 w406 x407 S
          have B := bx Hb B x407
          refine t_call Try.call46 rfl (va1 (by first | assumption | exact VA.below (by assumption) B) fun cs h => to_seg _ cs _ h (by omega)) ?_ rfl rfl
          rintro e w408 ⟨cs101, fp101, rfl, hO101, x409⟩
          refine ⟨_, rfl, x409, ?_⟩
          have S := S.add (o := tyO segT _ _) x409 hO101
          have B := bx Hb B x409
          obtain ⟨u101_2, heq, S2⟩ := S.segOpen
          subst heq
          have S := S2
          clear S2
          refine t_call Try.call46 rfl (va1 (by first | assumption | exact VA.below (by assumption) B) fun cs h => to_seg _ cs _ h (by omega)) ?_ rfl rfl
          rintro e w410 ⟨cs103, fp103, rfl, hO103, x411⟩
          refine ⟨_, rfl, x411, ?_⟩
          have S := S.add (o := tyO segT _ _) x411 hO103
          have B := bx Hb B x411
          obtain ⟨u103_2, heq, S2⟩ := S.segOpen
          subst heq
          have S := S2
          clear S2
          refine t_call Try.call46 rfl (va1 (by first | assumption | exact VA.below (by assumption) B) fun cs h => to_seg _ cs _ h (by omega)) ?_ rfl rfl
          rintro e w412 ⟨cs106, fp106, rfl, hO106, x413⟩
          refine ⟨_, rfl, x413, ?_⟩
          have S := S.add (o := tyO segT _ _) x413 hO106
          have B := bx Hb B x413
          obtain ⟨u106_2, heq, S2⟩ := S.segOpen
          subst heq
          have S := S2
          clear S2
          refine t_call Try.call47 rfl (impl_JoinThree _ _ _ _ _ _ _ _ (seg_mkv (S.tail.tail.sl)) (seg_mkv (S.tail.sl)) (seg_mkv (S.sl)) (by omega) (by omega) (by omega)) ?_ rfl rfl
          rintro e w414 ⟨cs107, fp107, rfl, hO107, x415⟩
          refine ⟨_, rfl, x415, ?_⟩
          have S := S.add (o := tyO pathT _ _) x415 hO107
          have B := bx Hb B x415
          obtain ⟨u107_0, heq, S2⟩ := S.pathOpen
          subst heq
          have S := S2
          clear S2
          have S := S.f4
          refine t_stn S sb_path rfl rfl rfl rfl (by intro zz hu; have hu : zz ∈ ([u107_0] : List Value) := hu; simp only [List.mem_cons, List.not_mem_nil, or_false] at hu; rcases hu with rfl <;> first | rfl | exact (SlR.cells (by first | assumption | exact S.tail.sl | exact S.tail.tail.sl | exact S.tail.tail.tail.sl | exact S.tail.tail.tail.tail.sl | exact S.tail.tail.tail.tail.tail.sl | exact S.tail.tail.tail.tail.tail.tail.sl | exact S.tail.tail.tail.tail.tail.tail.tail.sl | exact S.tail.tail.tail.tail.tail.tail.tail.tail.sl)).2) ?_
          intro w416 b417 S
          have B := B.trans b417
          refine t_done' ?_
          refine x_seq ?_
          refine w_seq ?_
          refine w_seq ?_
          refine w_region ?_
          refine t_bxn S.box ab_path sb_path rfl rfl ?_ rfl
          refine t_bxn S.tail.tail.tail.tail.tail.tail.tail.tail.tail.tail.tail.tail.tail.tail.tail.tail.box ab_path sb_path rfl rfl ?_ rfl
          refine t_callx Try.call20 rfl (eqv_path _ _ _ _ (path_mkv (S.tail.sl)) (path_mkv (S.tail.tail.tail.tail.tail.tail.tail.tail.tail.tail.tail.tail.tail.tail.tail.tail.tail.sl)) (ok_path_big (by omega))) ?_ rfl rfl
          intro w418 x419
          have B := bx Hb B x419
          have S := S.below x419
          refine t_notb rfl ?_ rfl
          refine t_done ?_
          refine x_seq ?_
          refine w_no rfl ?_
          refine w_skip ?_
          refine x_seq ?_
          refine w_seq ?_
          refine w_region ?_
          refine t_assign rfl ?_ rfl
          refine t_done ?_
          refine x_seq ?_
          refine w_seq ?_
          refine w_region ?_
          refine t_bxn S.tail.tail.tail.tail.tail.tail.tail.tail.tail.tail.tail.tail.box ab_path sb_path rfl rfl ?_ rfl
          refine t_move rfl ?_ rfl
          refine t_callx Try.call29 rfl (held_path _ _ _ _ (S.tail.tail.tail.tail.tail.sl) (by omega) (by omega)) ?_ rfl rfl
          intro w420 x421
          have B := bx Hb B x421
          have S := S.below x421
          refine t_assign rfl ?_ rfl
          refine t_done ?_
          refine x_seq ?_
          refine w_seq ?_
          refine w_seq ?_
          refine w_region ?_
          refine t_move rfl ?_ rfl
          refine t_lss rfl rfl ?_ rfl
          refine t_done ?_
          refine x_seq ?_
          refine w_if rfl (fun h => (by exfalso; omega)) ?_
          intro hc116
          refine w_skip ?_
          refine x_seq ?_
          refine w_seq ?_
          refine w_seq ?_
          refine w_region ?_
          refine t_move rfl ?_ rfl
          refine t_move rfl ?_ rfl
          refine t_neq rfl rfl ?_ rfl
          refine t_done ?_
          refine x_seq ?_
          refine w_if rfl (fun h => absurd rfl h) ?_
          intro _
          refine w_skip ?_
          refine x_seq ?_
          refine w_seq ?_
          refine w_region ?_
          refine t_assign rfl ?_ rfl
          refine t_done ?_
          refine x_seq ?_
          refine w_ret ?_
          refine x_ret1 rfl rfl ?_
          exact ⟨rfl, ext_trans X0 B⟩
    · refine t_alloc S z_path rfl ?_ rfl rfl
      intro g10 w422 x423 S
      have B := bx Hb B x423
      refine t_call Try.call46 rfl (va1 (by first | assumption | exact VA.below (by assumption) B) fun cs h => to_seg _ cs _ h (by omega)) ?_ rfl rfl
      rintro e w424 ⟨cs37, fp37, rfl, hO37, x425⟩
      refine ⟨_, rfl, x425, ?_⟩
      have S := S.add (o := tyO segT _ _) x425 hO37
      have B := bx Hb B x425
      obtain ⟨u37_2, heq, S2⟩ := S.segOpen
      subst heq
      have S := S2
      clear S2
      refine t_call Try.call46 rfl (va1 (by first | assumption | exact VA.below (by assumption) B) fun cs h => to_seg _ cs _ h (by omega)) ?_ rfl rfl
      rintro e w426 ⟨cs40, fp40, rfl, hO40, x427⟩
      refine ⟨_, rfl, x427, ?_⟩
      have S := S.add (o := tyO segT _ _) x427 hO40
      have B := bx Hb B x427
      obtain ⟨u40_2, heq, S2⟩ := S.segOpen
      subst heq
      have S := S2
      clear S2
      refine t_call Try.call45 rfl (spec_JoinThree _ _ _ _ _ _ _ _ (seg_mkv (S.tail.tail.tail.sl)) (seg_mkv (S.tail.sl)) (seg_mkv (S.sl)) (by omega) (by omega) (by omega)) ?_ rfl rfl
      rintro e w428 ⟨cs41, fp41, rfl, hO41, x429⟩
      refine ⟨_, rfl, x429, ?_⟩
      have S := S.add (o := tyO pathT _ _) x429 hO41
      have B := bx Hb B x429
      obtain ⟨u41_0, heq, S2⟩ := S.pathOpen
      subst heq
      have S := S2
      clear S2
      have S := S.f3
      refine t_stn S sb_path rfl rfl rfl rfl (by intro zz hu; have hu : zz ∈ ([u41_0] : List Value) := hu; simp only [List.mem_cons, List.not_mem_nil, or_false] at hu; rcases hu with rfl <;> first | rfl | exact (SlR.cells (by first | assumption | exact S.tail.sl | exact S.tail.tail.sl | exact S.tail.tail.tail.sl | exact S.tail.tail.tail.tail.sl | exact S.tail.tail.tail.tail.tail.sl | exact S.tail.tail.tail.tail.tail.tail.sl | exact S.tail.tail.tail.tail.tail.tail.tail.sl | exact S.tail.tail.tail.tail.tail.tail.tail.tail.sl)).2) ?_
      intro w430 b431 S
      have B := B.trans b431
      refine t_done' ?_
      refine x_seq ?_
      refine w_seq ?_
      refine w_region ?_
      refine t_lda (by assumption) ab_l_seg sb_l_seg B rfl ?_ rfl
      intro v42 hv42
      obtain ⟨v42_2, rfl, hv42_2⟩ := seg_va hv42
      refine t_call Try.call46 rfl (va1 (by first | assumption | exact VA.below (by assumption) B) fun cs h => to_seg _ cs _ h (by omega)) ?_ rfl rfl
      rintro e w432 ⟨cs43, fp43, rfl, hO43, x433⟩
      refine ⟨_, rfl, x433, ?_⟩
      have S := S.add (o := tyO segT _ _) x433 hO43
      have B := bx Hb B x433
      obtain ⟨u43_2, heq, S2⟩ := S.segOpen
      subst heq
      have S := S2
      clear S2
      refine t_alloc S z_seg rfl ?_ rfl rfl
      intro g11 w434 x435 S
      have B := bx Hb B x435
      refine t_stn S sb_seg rfl rfl rfl rfl (by intro zz hu; have hu : zz ∈ ([I d0.ts, I d0.beta, u43_2] : List Value) := hu; simp only [List.mem_cons, List.not_mem_nil, or_false] at hu; rcases hu with rfl | rfl | rfl <;> first | rfl | exact (SlR.cells (by first | assumption | exact S.tail.sl | exact S.tail.tail.sl | exact S.tail.tail.tail.sl | exact S.tail.tail.tail.tail.sl | exact S.tail.tail.tail.tail.tail.sl | exact S.tail.tail.tail.tail.tail.tail.sl | exact S.tail.tail.tail.tail.tail.tail.tail.sl | exact S.tail.tail.tail.tail.tail.tail.tail.tail.sl)).2) ?_
      intro w436 b437 S
      have B := B.trans b437
      refine t_done ?_
      refine x_seq ?_
      refine w_seq ?_
      refine w_region ?_
      refine t_lda (by assumption) ab_l_seg sb_l_seg B rfl ?_ rfl
      intro v44 hv44
      obtain ⟨v44_2, rfl, hv44_2⟩ := seg_va hv44
      refine t_call Try.call46 rfl (va1 (by first | assumption | exact VA.below (by assumption) B) fun cs h => to_seg _ cs _ h (by omega)) ?_ rfl rfl
      rintro e w438 ⟨cs45, fp45, rfl, hO45, x439⟩
      refine ⟨_, rfl, x439, ?_⟩
      have S := S.add (o := tyO segT _ _) x439 hO45
      have B := bx Hb B x439
      obtain ⟨u45_2, heq, S2⟩ := S.segOpen
      subst heq
      have S := S2
      clear S2
      refine t_alloc S z_seg rfl ?_ rfl rfl
      intro g12 w440 x441 S
      have B := bx Hb B x441
      refine t_stn S sb_seg rfl rfl rfl rfl (by intro zz hu; have hu : zz ∈ ([I d1.ts, I d1.beta, u45_2] : List Value) := hu; simp only [List.mem_cons, List.not_mem_nil, or_false] at hu; rcases hu with rfl | rfl | rfl <;> first | rfl | exact (SlR.cells (by first | assumption | exact S.tail.sl | exact S.tail.tail.sl | exact S.tail.tail.tail.sl | exact S.tail.tail.tail.tail.sl | exact S.tail.tail.tail.tail.tail.sl | exact S.tail.tail.tail.tail.tail.tail.sl | exact S.tail.tail.tail.tail.tail.tail.tail.sl | exact S.tail.tail.tail.tail.tail.tail.tail.tail.sl)).2) ?_
      intro w442 b443 S
      have B := B.trans b443
      refine t_done ?_
      refine x_seq ?_
      refine w_seq ?_
      refine w_region ?_
      refine t_lda (by assumption) ab_l_seg sb_l_seg B rfl ?_ rfl
      intro v46 hv46
      obtain ⟨v46_2, rfl, hv46_2⟩ := seg_va hv46
      refine t_call Try.call46 rfl (va1 (by first | assumption | exact VA.below (by assumption) B) fun cs h => to_seg _ cs _ h (by omega)) ?_ rfl rfl
      rintro e w444 ⟨cs47, fp47, rfl, hO47, x445⟩
      refine ⟨_, rfl, x445, ?_⟩
      have S := S.add (o := tyO segT _ _) x445 hO47
      have B := bx Hb B x445
      obtain ⟨u47_2, heq, S2⟩ := S.segOpen
      subst heq
      have S := S2
      clear S2
      refine t_alloc S z_seg rfl ?_ rfl rfl
      intro g13 w446 x447 S
      have B := bx Hb B x447
      refine t_stn S sb_seg rfl rfl rfl rfl (by intro zz hu; have hu : zz ∈ ([I d3.ts, I d3.beta, u47_2] : List Value) := hu; simp only [List.mem_cons, List.not_mem_nil, or_false] at hu; rcases hu with rfl | rfl | rfl <;> first | rfl | exact (SlR.cells (by first | assumption | exact S.tail.sl | exact S.tail.tail.sl | exact S.tail.tail.tail.sl | exact S.tail.tail.tail.tail.sl | exact S.tail.tail.tail.tail.tail.sl | exact S.tail.tail.tail.tail.tail.tail.sl | exact S.tail.tail.tail.tail.tail.tail.tail.sl | exact S.tail.tail.tail.tail.tail.tail.tail.tail.sl)).2) ?_
      intro w448 b449 S
      have B := B.trans b449
      refine t_done ?_
      refine x_seq ?_
      refine w_seq ?_
      refine w_region ?_
      refine t_bxn S.tail.tail.tail.tail.box ab_seg sb_seg rfl rfl ?_ rfl
      refine t_bxn S.tail.tail.box ab_seg sb_seg rfl rfl ?_ rfl
      refine t_move rfl ?_ rfl
      refine t_bxn S.box ab_seg sb_seg rfl rfl ?_ rfl
      refine t_call Try.call47 rfl (impl_JoinThree _ _ _ _ _ _ _ _ (seg_mkv (S.tail.tail.tail.tail.tail.sl)) (seg_mkv (S.tail.tail.tail.sl)) (seg_mkv (S.tail.sl)) (by omega) (by omega) (by omega)) ?_ rfl rfl
      rintro e w450 ⟨cs52, fp52, rfl, hO52, x451⟩
      refine ⟨_, rfl, x451, ?_⟩
      have S := S.add (o := tyO pathT _ _) x451 hO52
      have B := bx Hb B x451
      obtain ⟨u52_0, heq, S2⟩ := S.pathOpen
      subst heq
      have S := S2
      clear S2
      refine t_alloc S z_path rfl ?_ rfl rfl
      intro g14 w452 x453 S
      have B := bx Hb B x453
      refine t_stn S sb_path rfl rfl rfl rfl (by intro zz hu; have hu : zz ∈ ([u52_0] : List Value) := hu; simp only [List.mem_cons, List.not_mem_nil, or_false] at hu; rcases hu with rfl <;> first | rfl | exact (SlR.cells (by first | assumption | exact S.tail.sl | exact S.tail.tail.sl | exact S.tail.tail.tail.sl | exact S.tail.tail.tail.tail.sl | exact S.tail.tail.tail.tail.tail.sl | exact S.tail.tail.tail.tail.tail.tail.sl | exact S.tail.tail.tail.tail.tail.tail.tail.sl | exact S.tail.tail.tail.tail.tail.tail.tail.tail.sl)).2) ?_
      intro w454 b455 S
      have B := B.trans b455
      refine t_done ?_
      refine x_seq ?_
      refine w_seq ?_
      refine w_seq ?_
      refine w_region ?_
      refine t_bxn S.box ab_path sb_path rfl rfl ?_ rfl
      refine t_bxn S.tail.tail.tail.tail.tail.tail.tail.tail.box ab_path sb_path rfl rfl ?_ rfl
      refine t_callx Try.call20 rfl (eqv_path _ _ _ _ (path_mkv (S.tail.sl)) (path_mkv (S.tail.tail.tail.tail.tail.tail.tail.tail.tail.sl)) (ok_path_big (by omega))) ?_ rfl rfl
      intro w456 x457
      have B := bx Hb B x457
      have S := S.below x457
      refine t_notb rfl ?_ rfl
      refine t_done ?_
      refine x_seq ?_
      refine w_no rfl ?_
      refine w_skip ?_
      refine x_seq ?_
      refine w_seq ?_
      refine w_seq ?_
      refine w_draw (.st .take 0 (.st .take 1 (.st .run 2 (.st .run 3 (.st .take 4 .done))))) mixed (by kernel_rfl) ?_
      intro w458 x459
      have B := bx Hb B x459
      have S := S.below x459
      refine t_bxn S.tail.tail.tail.tail.tail.tail.box ab_seg sb_seg rfl rfl ?_ rfl
      refine t_lda (by assumption) ab_l_seg sb_l_seg B rfl ?_ rfl
      intro v58 hv58
      obtain ⟨v58_2, rfl, hv58_2⟩ := seg_va hv58
      refine t_call Try.call46 rfl (va1 (by first | assumption | exact VA.below (by assumption) B) fun cs h => to_seg _ cs _ h (by omega)) ?_ rfl rfl
      rintro e w460 ⟨cs59, fp59, rfl, hO59, x461⟩
      refine ⟨_, rfl, x461, ?_⟩
      have S := S.add (o := tyO segT _ _) x461 hO59
      have B := bx Hb B x461
      obtain ⟨u59_2, heq, S2⟩ := S.segOpen
      subst heq
      have S := S2
      clear S2
      refine t_callx Try.call48 rfl (eqv_seg _ _ _ _ (seg_mkv (S.tail.tail.tail.tail.tail.tail.tail.tail.sl)) (seg_mkv (S.sl)) (ok_seg_sz (by omega))) ?_ rfl rfl
      intro w462 x463
      have B := bx Hb B x463
      have S := S.below x463
      refine t_notb rfl ?_ rfl
      refine t_done' ?_
      refine x_seq ?_
      refine w_no rfl ?_
      refine w_skip ?_
      refine x_seq ?_
      refine w_seq ?_
      refine w_seq ?_
      refine w_draw (.st .take 0 (.st .take 1 (.st .run 2 (.st .run 3 (.st .take 4 .done))))) mixed (by kernel_rfl) ?_
      intro w464 x465
      have B := bx Hb B x465
      have S := S.below x465
      refine t_bxn S.tail.tail.tail.tail.tail.box ab_seg sb_seg rfl rfl ?_ rfl
      refine t_lda (by assumption) ab_l_seg sb_l_seg B rfl ?_ rfl
      intro v63 hv63
      obtain ⟨v63_2, rfl, hv63_2⟩ := seg_va hv63
      refine t_call Try.call46 rfl (va1 (by first | assumption | exact VA.below (by assumption) B) fun cs h => to_seg _ cs _ h (by omega)) ?_ rfl rfl
      rintro e w466 ⟨cs64, fp64, rfl, hO64, x467⟩
      refine ⟨_, rfl, x467, ?_⟩
      have S := S.add (o := tyO segT _ _) x467 hO64
      have B := bx Hb B x467
      obtain ⟨u64_2, heq, S2⟩ := S.segOpen
      subst heq
      have S := S2
      clear S2
      refine t_callx Try.call48 rfl (eqv_seg _ _ _ _ (seg_mkv (S.tail.tail.tail.tail.tail.tail.tail.sl)) (seg_mkv (S.sl)) (ok_seg_sz (by omega))) ?_ rfl rfl
      intro w468 x469
      have B := bx Hb B x469
      have S := S.below x469
      refine t_notb rfl ?_ rfl
      refine t_done' ?_
      refine x_seq ?_
      refine w_no rfl ?_
      refine w_skip ?_
      refine x_seq ?_
      refine w_seq ?_
      refine w_seq ?_
      refine w_draw (.st .take 0 (.st .take 1 (.st .run 2 (.st .run 3 (.st .take 4 .done))))) mixed (by kernel_rfl) ?_
      intro w470 x471
      have B := bx Hb B x471
      have S := S.below x471
      refine t_bxn S.tail.tail.tail.tail.box ab_seg sb_seg rfl rfl ?_ rfl
      refine t_lda (by assumption) ab_l_seg sb_l_seg B rfl ?_ rfl
      intro v68 hv68
      obtain ⟨v68_2, rfl, hv68_2⟩ := seg_va hv68
      refine t_call Try.call46 rfl (va1 (by first | assumption | exact VA.below (by assumption) B) fun cs h => to_seg _ cs _ h (by omega)) ?_ rfl rfl
      rintro e w472 ⟨cs69, fp69, rfl, hO69, x473⟩
      refine ⟨_, rfl, x473, ?_⟩
      have S := S.add (o := tyO segT _ _) x473 hO69
      have B := bx Hb B x473
      obtain ⟨u69_2, heq, S2⟩ := S.segOpen
      subst heq
      have S := S2
      clear S2
      refine t_callx Try.call48 rfl (eqv_seg _ _ _ _ (seg_mkv (S.tail.tail.tail.tail.tail.tail.sl)) (seg_mkv (S.sl)) (ok_seg_sz (by omega))) ?_ rfl rfl
      intro w474 x475
      have B := bx Hb B x475
      have S := S.below x475
      refine t_notb rfl ?_ rfl
      refine t_done' ?_
      refine x_seq ?_
      refine w_no rfl ?_
      refine w_skip ?_
      refine x_seq ?_
      refine w_seq ?_
      refine w_region ?_
      refine t_assign rfl ?_ rfl
      refine t_done ?_
      refine x_seq ?_
      refine w_seq ?_
      refine w_region ?_
      refine t_bxn S.tail.tail.tail.tail.tail.tail.tail.tail.tail.box ab_seg sb_seg rfl rfl ?_ rfl
      refine t_move rfl ?_ rfl
      have S := S.f10
      refine t_callf Try.call49 rfl (mark_segm _ _ _ _ _ _ S (by omega) (by omega)) ?_ rfl
      rintro e w476 ⟨rfl, S, x477⟩
      refine ⟨_, rfl, ?_⟩
      have B := B.trans x477
      refine t_assign rfl ?_ rfl
      refine t_done ?_
      refine x_seq ?_
      refine w_seq ?_
      refine w_region ?_
      refine t_bxn S.tail.tail.tail.tail.tail.tail.tail.tail.box ab_seg sb_seg rfl rfl ?_ rfl
      refine t_move rfl ?_ rfl
      have S := S.f9
      refine t_callf Try.call49 rfl (mark_segm _ _ _ _ _ _ S (by omega) (by omega)) ?_ rfl
      rintro e w478 ⟨rfl, S, x479⟩
      refine ⟨_, rfl, ?_⟩
      have B := B.trans x479
      refine t_assign rfl ?_ rfl
      refine t_done ?_
      refine x_seq ?_
      refine w_seq ?_
      refine w_region ?_
      refine t_bxn S.tail.tail.tail.tail.tail.tail.tail.box ab_seg sb_seg rfl rfl ?_ rfl
      refine t_move rfl ?_ rfl
      have S := S.f8
      refine t_callf Try.call49 rfl (mark_segm _ _ _ _ _ _ S (by omega) (by omega)) ?_ rfl
      rintro e w480 ⟨rfl, S, x481⟩
      refine ⟨_, rfl, ?_⟩
      have B := B.trans x481
      refine t_assign rfl ?_ rfl
      refine t_done ?_
      refine x_seq ?_
      refine w_seq ?_
      refine w_seq ?_
      refine w_region ?_
      refine t_move rfl ?_ rfl
      refine t_lss rfl rfl ?_ rfl
      refine t_move rfl ?_ rfl
      refine t_partp (t := 83) rfl (fun h => (by exfalso; omega)) ?_
      intro hc83
      refine t_on rfl rfl ?_
      refine t_bxn S.tail.tail.tail.tail.tail.tail.box ab_path sb_path rfl rfl ?_ rfl
      refine t_on rfl rfl ?_
      refine t_bxn S.tail.tail.tail.tail.tail.tail.tail.tail.tail.tail.tail.box ab_path sb_path rfl rfl ?_ rfl
      refine t_on rfl rfl ?_
      refine t_callx Try.call20 rfl (eqv_path _ _ _ _ (path_mkv (S.tail.tail.tail.tail.tail.tail.tail.sl)) (path_mkv (S.tail.tail.tail.tail.tail.tail.tail.tail.tail.tail.tail.tail.sl)) (ok_path_big (by omega))) ?_ rfl rfl
      intro w482 x483
      have B := bx Hb B x483
      have S := S.below x483
      refine t_on rfl rfl ?_
      refine t_notb rfl ?_ rfl
      refine t_pickf rfl rfl ?_ rfl
      refine t_done ?_
      refine x_seq ?_
      refine w_no rfl ?_
      refine w_skip ?_
      refine x_seq ?_
      refine w_seq ?_
      refine w_region ?_
      refine t_assign rfl ?_ rfl
      refine t_done ?_
      refine x_seq ?_
      refine w_seq ?_
      refine w_region ?_
      refine t_bxn S.tail.tail.tail.tail.tail.tail.box ab_path sb_path rfl rfl ?_ rfl
      refine t_move rfl ?_ rfl
      have S := S.f7
      refine t_callf Try.call21 rfl (mark_path _ _ _ _ _ _ S (by omega) (by omega)) ?_ rfl
      rintro e w484 ⟨rfl, S, x485⟩
      refine ⟨_, rfl, ?_⟩
      have B := B.trans x485
      refine t_assign rfl ?_ rfl
      refine t_done ?_
      refine x_seq ?_
      refine w_seq ?_
      refine w_region ?_
      refine t_assign rfl ?_ rfl
      refine t_done ?_
      refine x_seq ?_
      refine w_seq ?_
      refine w_region ?_
      refine t_bxn S.tail.tail.tail.tail.tail.tail.tail.box ab_path sb_path rfl rfl ?_ rfl
      refine t_move rfl ?_ rfl
      refine t_callx Try.call29 rfl (held_path _ _ _ _ (S.sl) (by omega) (by omega)) ?_ rfl rfl
      intro w486 x487
      have B := bx Hb B x487
      have S := S.below x487
      refine t_assign rfl ?_ rfl
      refine t_done ?_
      refine x_seq ?_
      refine w_seq ?_
      refine w_seq ?_
      refine w_region ?_
      refine t_move rfl ?_ rfl
      refine t_lss rfl rfl ?_ rfl
      refine t_done ?_
      refine x_seq ?_
      refine w_if rfl (fun h => (by exfalso; omega)) ?_
      intro hc96
      refine w_skip ?_
      refine x_seq ?_
      refine w_seq ?_
      refine w_seq ?_
      refine w_region ?_
      refine t_move rfl ?_ rfl
      refine t_move rfl ?_ rfl
      refine t_neq rfl rfl ?_ rfl
      refine t_done ?_
      refine x_seq ?_
      refine w_if rfl (fun h => absurd rfl h) ?_
      intro _
      refine w_skip ?_
      refine x_seq ?_
      refine w_seq ?_
      refine w_draw (.st .take 0 (.st .take 2 (.st .take 4 (.st .take 5 (.alt (.st .run 1 (.alt (.st .run 3 (.alt (.st .run 6 (.alt (.st .run 7 (.st .run 8 (.st .fin 9 .done))) (.st .run 8 (.st .run 7 (.st .fin 9 .done))))) (.st .run 8 (.st .run 6 (.st .run 7 (.st .fin 9 .done)))))) (.st .run 8 (.st .run 3 (.st .run 6 (.st .run 7 (.st .fin 9 .done))))))) (.st .run 8 (.st .run 1 (.st .run 3 (.st .run 6 (.st .run 7 (.st .fin 9 .done))))))))))) mixed (by kernel_rfl) ?_
      intro w488 x489
      have B := bx Hb B x489
      have S := S.below x489
      refine t_lda (by assumption) ab_l_seg sb_l_seg B rfl ?_ rfl
      intro v100 hv100
      obtain ⟨v100_2, rfl, hv100_2⟩ := seg_va hv100
      refine t_lda (by assumption) ab_l_seg sb_l_seg B rfl ?_ rfl
      intro v102 hv102
      obtain ⟨v102_2, rfl, hv102_2⟩ := seg_va hv102
      refine t_move rfl ?_ rfl
      refine t_lda (by assumption) ab_l_seg sb_l_seg B rfl ?_ rfl
      intro v105 hv105
      obtain ⟨v105_2, rfl, hv105_2⟩ := seg_va hv105
      refine t_alt ?_ ?_
      · refine t_call Try.call46 rfl (va1 (by first | assumption | exact VA.below (by assumption) B) fun cs h => to_seg _ cs _ h (by omega)) ?_ rfl rfl
        rintro e w490 ⟨cs101, fp101, rfl, hO101, x491⟩
        refine ⟨_, rfl, x491, ?_⟩
        have S := S.add (o := tyO segT _ _) x491 hO101
        have B := bx Hb B x491
        obtain ⟨u101_2, heq, S2⟩ := S.segOpen
        subst heq
        have S := S2
        clear S2
        refine t_alt ?_ ?_
        · refine t_call Try.call46 rfl (va1 (by first | assumption | exact VA.below (by assumption) B) fun cs h => to_seg _ cs _ h (by omega)) ?_ rfl rfl
          rintro e w492 ⟨cs103, fp103, rfl, hO103, x493⟩
          refine ⟨_, rfl, x493, ?_⟩
          have S := S.add (o := tyO segT _ _) x493 hO103
          have B := bx Hb B x493
          obtain ⟨u103_2, heq, S2⟩ := S.segOpen
          subst heq
          have S := S2
          clear S2
          refine t_alt ?_ ?_
          · refine t_call Try.call46 rfl (va1 (by first | assumption | exact VA.below (by assumption) B) fun cs h => to_seg _ cs _ h (by omega)) ?_ rfl rfl
            rintro e w494 ⟨cs106, fp106, rfl, hO106, x495⟩
            refine ⟨_, rfl, x495, ?_⟩
            have S := S.add (o := tyO segT _ _) x495 hO106
            have B := bx Hb B x495
            obtain ⟨u106_2, heq, S2⟩ := S.segOpen
            subst heq
            have S := S2
            clear S2
            refine t_alt ?_ ?_
            · refine t_call Try.call47 rfl (impl_JoinThree _ _ _ _ _ _ _ _ (seg_mkv (S.tail.tail.sl)) (seg_mkv (S.tail.sl)) (seg_mkv (S.sl)) (by omega) (by omega) (by omega)) ?_ rfl rfl
              rintro e w496 ⟨cs107, fp107, rfl, hO107, x497⟩
              refine ⟨_, rfl, x497, ?_⟩
              have S := S.add (o := tyO pathT _ _) x497 hO107
              have B := bx Hb B x497
              obtain ⟨u107_0, heq, S2⟩ := S.pathOpen
              subst heq
              have S := S2
              clear S2
              refine t_alloc S z_path rfl ?_ rfl rfl
              intro g18 w498 x499 S
              have B := bx Hb B x499
              refine t_stn S sb_path rfl rfl rfl rfl (by intro zz hu; have hu : zz ∈ ([u107_0] : List Value) := hu; simp only [List.mem_cons, List.not_mem_nil, or_false] at hu; rcases hu with rfl <;> first | rfl | exact (SlR.cells (by first | assumption | exact S.tail.sl | exact S.tail.tail.sl | exact S.tail.tail.tail.sl | exact S.tail.tail.tail.tail.sl | exact S.tail.tail.tail.tail.tail.sl | exact S.tail.tail.tail.tail.tail.tail.sl | exact S.tail.tail.tail.tail.tail.tail.tail.sl | exact S.tail.tail.tail.tail.tail.tail.tail.tail.sl)).2) ?_
              intro w500 b501 S
              have B := B.trans b501
              refine t_done' ?_
              refine x_seq ?_
              refine w_seq ?_
              refine w_seq ?_
              refine w_region ?_
              refine t_bxn S.box ab_path sb_path rfl rfl ?_ rfl
              refine t_bxn S.tail.tail.tail.tail.tail.tail.tail.tail.tail.tail.tail.tail.tail.tail.tail.tail.box ab_path sb_path rfl rfl ?_ rfl
              refine t_callx Try.call20 rfl (eqv_path _ _ _ _ (path_mkv (S.tail.sl)) (path_mkv (S.tail.tail.tail.tail.tail.tail.tail.tail.tail.tail.tail.tail.tail.tail.tail.tail.tail.sl)) (ok_path_big (by omega))) ?_ rfl rfl
              intro w502 x503
              have B := bx Hb B x503
              have S := S.below x503
              refine t_notb rfl ?_ rfl
              refine t_done ?_
              refine x_seq ?_
              refine w_no rfl ?_
              refine w_skip ?_
              refine x_seq ?_
              refine w_seq ?_
              refine w_region ?_
              refine t_assign rfl ?_ rfl
              refine t_done ?_
              refine x_seq ?_
              refine w_seq ?_
              refine w_region ?_
              refine t_bxn S.tail.tail.tail.tail.tail.tail.tail.tail.tail.tail.tail.tail.box ab_path sb_path rfl rfl ?_ rfl
              refine t_move rfl ?_ rfl
              refine t_callx Try.call29 rfl (held_path _ _ _ _ (S.tail.tail.tail.tail.tail.sl) (by omega) (by omega)) ?_ rfl rfl
              intro w504 x505
              have B := bx Hb B x505
              have S := S.below x505
              refine t_assign rfl ?_ rfl
              refine t_done ?_
              refine x_seq ?_
              refine w_seq ?_
              refine w_seq ?_
              refine w_region ?_
              refine t_move rfl ?_ rfl
              refine t_lss rfl rfl ?_ rfl
              refine t_done ?_
              refine x_seq ?_
              refine w_if rfl (fun h => (by exfalso; omega)) ?_
              intro hc116
              refine w_skip ?_
              refine x_seq ?_
              refine w_seq ?_
              refine w_seq ?_
              refine w_region ?_
              refine t_move rfl ?_ rfl
              refine t_move rfl ?_ rfl
              refine t_neq rfl rfl ?_ rfl
              refine t_done ?_
              refine x_seq ?_
              refine w_if rfl (fun h => absurd rfl h) ?_
              intro _
              refine w_skip ?_
              refine x_seq ?_
              refine w_seq ?_
              refine w_region ?_
              refine t_assign rfl ?_ rfl
              refine t_done ?_
              refine x_seq ?_
              refine w_ret ?_
              refine x_ret1 rfl rfl ?_
              exact ⟨rfl, ext_trans X0 B⟩
            · refine t_alloc S z_path rfl ?_ rfl rfl
              intro g18 w506 x507 S
              have B := bx Hb B x507
              refine t_call Try.call47 rfl (impl_JoinThree _ _ _ _ _ _ _ _ (seg_mkv (S.tail.tail.tail.sl)) (seg_mkv (S.tail.tail.sl)) (seg_mkv (S.tail.sl)) (by omega) (by omega) (by omega)) ?_ rfl rfl
              rintro e w508 ⟨cs107, fp107, rfl, hO107, x509⟩
              refine ⟨_, rfl, x509, ?_⟩
              have S := S.add (o := tyO pathT _ _) x509 hO107
              have B := bx Hb B x509
              obtain ⟨u107_0, heq, S2⟩ := S.pathOpen
              subst heq
              have S := S2
              clear S2
              have S := S.f1
              refine t_stn S sb_path rfl rfl rfl rfl (by intro zz hu; have hu : zz ∈ ([u107_0] : List Value) := hu; simp only [List.mem_cons, List.not_mem_nil, or_false] at hu; rcases hu with rfl <;> first | rfl | exact (SlR.cells (by first | assumption | exact S.tail.sl | exact S.tail.tail.sl | exact S.tail.tail.tail.sl | exact S.tail.tail.tail.tail.sl | exact S.tail.tail.tail.tail.tail.sl | exact S.tail.tail.tail.tail.tail.tail.sl | exact S.tail.tail.tail.tail.tail.tail.tail.sl | exact S.tail.tail.tail.tail.tail.tail.tail.tail.sl)).2) ?_
              intro w510 b511 S
              have B := B.trans b511
              refine t_done' ?_
              refine x_seq ?_
              refine w_seq ?_
              refine w_seq ?_
              refine w_region ?_
              refine t_bxn S.box ab_path sb_path rfl rfl ?_ rfl
              refine t_bxn S.tail.tail.tail.tail.tail.tail.tail.tail.tail.tail.tail.tail.tail.tail.tail.tail.box ab_path sb_path rfl rfl ?_ rfl
              refine t_callx Try.call20 rfl (eqv_path _ _ _ _ (path_mkv (S.tail.sl)) (path_mkv (S.tail.tail.tail.tail.tail.tail.tail.tail.tail.tail.tail.tail.tail.tail.tail.tail.tail.sl)) (ok_path_big (by omega))) ?_ rfl rfl
              intro w512 x513
              have B := bx Hb B x513
              have S := S.below x513
              refine t_notb rfl ?_ rfl
              refine t_done ?_
              refine x_seq ?_
              refine w_no rfl ?_
              refine w_skip ?_
              refine x_seq ?_
              refine w_seq ?_
              refine w_region ?_
              refine t_assign rfl ?_ rfl
              refine t_done ?_
              refine x_seq ?_
              refine w_seq ?_
              refine w_region ?_
              refine t_bxn S.tail.tail.tail.tail.tail.tail.tail.tail.tail.tail.tail.tail.box ab_path sb_path rfl rfl ?_ rfl
              refine t_move rfl ?_ rfl
              refine t_callx Try.call29 rfl (held_path _ _ _ _ (S.tail.tail.tail.tail.tail.sl) (by omega) (by omega)) ?_ rfl rfl
              intro w514 x515
              have B := bx Hb B x515
              have S := S.below x515
              refine t_assign rfl ?_ rfl
              refine t_done ?_
              refine x_seq ?_
              refine w_seq ?_
              refine w_seq ?_
              refine w_region ?_
              refine t_move rfl ?_ rfl
              refine t_lss rfl rfl ?_ rfl
              refine t_done ?_
              refine x_seq ?_
              refine w_if rfl (fun h => (by exfalso; omega)) ?_
              intro hc116
              refine w_skip ?_
              refine x_seq ?_
              refine w_seq ?_
              refine w_seq ?_
              refine w_region ?_
              refine t_move rfl ?_ rfl
              refine t_move rfl ?_ rfl
              refine t_neq rfl rfl ?_ rfl
              refine t_done ?_
              refine x_seq ?_
              refine w_if rfl (fun h => absurd rfl h) ?_
              intro _
              refine w_skip ?_
              refine x_seq ?_
              refine w_seq ?_
              refine w_region ?_
              refine t_assign rfl ?_ rfl
              refine t_done ?_
              refine x_seq ?_
              refine w_ret ?_
              refine x_ret1 rfl rfl ?_
              exact ⟨rfl, ext_trans X0 B⟩
          · refine t_alloc S z_path rfl ?_ rfl rfl
            intro g18 w516 x517 S
            have B := bx Hb B x517
            refine t_call Try.call46 rfl (va1 (by first | assumption | exact VA.below (by assumption) B) fun cs h => to_seg _ cs _ h (by omega)) ?_ rfl rfl
            rintro e w518 ⟨cs106, fp106, rfl, hO106, x519⟩
            refine ⟨_, rfl, x519, ?_⟩
            have S := S.add (o := tyO segT _ _) x519 hO106
            have B := bx Hb B x519
            obtain ⟨u106_2, heq, S2⟩ := S.segOpen
            subst heq
            have S := S2
            clear S2
            refine t_call Try.call47 rfl (impl_JoinThree _ _ _ _ _ _ _ _ (seg_mkv (S.tail.tail.tail.sl)) (seg_mkv (S.tail.tail.sl)) (seg_mkv (S.sl)) (by omega) (by omega) (by omega)) ?_ rfl rfl
            rintro e w520 ⟨cs107, fp107, rfl, hO107, x521⟩
            refine ⟨_, rfl, x521, ?_⟩
            have S := S.add (o := tyO pathT _ _) x521 hO107
            have B := bx Hb B x521
            obtain ⟨u107_0, heq, S2⟩ := S.pathOpen
            subst heq
            have S := S2
            clear S2
            have S := S.f2
            refine t_stn S sb_path rfl rfl rfl rfl (by intro zz hu; have hu : zz ∈ ([u107_0] : List Value) := hu; simp only [List.mem_cons, List.not_mem_nil, or_false] at hu; rcases hu with rfl <;> first | rfl | exact (SlR.cells (by first | assumption | exact S.tail.sl | exact S.tail.tail.sl | exact S.tail.tail.tail.sl | exact S.tail.tail.tail.tail.sl | exact S.tail.tail.tail.tail.tail.sl | exact S.tail.tail.tail.tail.tail.tail.sl | exact S.tail.tail.tail.tail.tail.tail.tail.sl | exact S.tail.tail.tail.tail.tail.tail.tail.tail.sl)).2) ?_
            intro w522 b523 S
            have B := B.trans b523
            refine t_done' ?_
            refine x_seq ?_
            refine w_seq ?_
            refine w_seq ?_
            refine w_region ?_
            refine t_bxn S.box ab_path sb_path rfl rfl ?_ rfl
            refine t_bxn S.tail.tail.tail.tail.tail.tail.tail.tail.tail.tail.tail.tail.tail.tail.tail.tail.box ab_path sb_path rfl rfl ?_ rfl
            refine t_callx Try.call20 rfl (eqv_path _ _ _ _ (path_mkv (S.tail.sl)) (path_mkv (S.tail.tail.tail.tail.tail.tail.tail.tail.tail.tail.tail.tail.tail.tail.tail.tail.tail.sl)) (ok_path_big (by omega))) ?_ rfl rfl
            intro w524 x525
            have B := bx Hb B x525
            have S := S.below x525
            refine t_notb rfl ?_ rfl
            refine t_done ?_
            refine x_seq ?_
            refine w_no rfl ?_
            refine w_skip ?_
            refine x_seq ?_
            refine w_seq ?_
            refine w_region ?_
            refine t_assign rfl ?_ rfl
            refine t_done ?_
            refine x_seq ?_
            refine w_seq ?_
            refine w_region ?_
            refine t_bxn S.tail.tail.tail.tail.tail.tail.tail.tail.tail.tail.tail.tail.box ab_path sb_path rfl rfl ?_ rfl
            refine t_move rfl ?_ rfl
            refine t_callx Try.call29 rfl (held_path _ _ _ _ (S.tail.tail.tail.tail.tail.sl) (by omega) (by omega)) ?_ rfl rfl
            intro w526 x527
            have B := bx Hb B x527
            have S := S.below x527
            refine t_assign rfl ?_ rfl
            refine t_done ?_
            refine x_seq ?_
            refine w_seq ?_
            refine w_seq ?_
            refine w_region ?_
            refine t_move rfl ?_ rfl
            refine t_lss rfl rfl ?_ rfl
            refine t_done ?_
            refine x_seq ?_
            refine w_if rfl (fun h => (by exfalso; omega)) ?_
            intro hc116
            refine w_skip ?_
            refine x_seq ?_
            refine w_seq ?_
            refine w_seq ?_
            refine w_region ?_
            refine t_move rfl ?_ rfl
            refine t_move rfl ?_ rfl
            refine t_neq rfl rfl ?_ rfl
            refine t_done ?_
            refine x_seq ?_
            refine w_if rfl (fun h => absurd rfl h) ?_
            intro _
            refine w_skip ?_
            refine x_seq ?_
            refine w_seq ?_
            refine w_region ?_
            refine t_assign rfl ?_ rfl
            refine t_done ?_
            refine x_seq ?_
            refine w_ret ?_
            refine x_ret1 rfl rfl ?_
            exact ⟨rfl, ext_trans X0 B⟩
        · refine t_alloc S z_path rfl ?_ rfl rfl
          intro g18 w528 x529 S
          have B := bx Hb B x529
          refine t_call Try.call46 rfl (va1 (by first | assumption | exact VA.below (by assumption) B) fun cs h => to_seg _ cs _ h (by omega)) ?_ rfl rfl
          rintro e w530 ⟨cs103, fp103, rfl, hO103, x531⟩
          refine ⟨_, rfl, x531, ?_⟩
          have S := S.add (o := tyO segT _ _) x531 hO103
          have B := bx Hb B x531
          obtain ⟨u103_2, heq, S2⟩ := S.segOpen
          subst heq
          have S := S2
          clear S2
          refine t_call Try.call46 rfl (va1 (by first | assumption | exact VA.below (by assumption) B) fun cs h => to_seg _ cs _ h (by omega)) ?_ rfl rfl
          rintro e w532 ⟨cs106, fp106, rfl, hO106, x533⟩
          refine ⟨_, rfl, x533, ?_⟩
          have S := S.add (o := tyO segT _ _) x533 hO106
          have B := bx Hb B x533
          obtain ⟨u106_2, heq, S2⟩ := S.segOpen
          subst heq
          have S := S2
          clear S2
          refine t_call Try.call47 rfl (impl_JoinThree _ _ _ _ _ _ _ _ (seg_mkv (S.tail.tail.tail.sl)) (seg_mkv (S.tail.sl)) (seg_mkv (S.sl)) (by omega) (by omega) (by omega)) ?_ rfl rfl
          rintro e w534 ⟨cs107, fp107, rfl, hO107, x535⟩
          refine ⟨_, rfl, x535, ?_⟩
          have S := S.add (o := tyO pathT _ _) x535 hO107
          have B := bx Hb B x535
          obtain ⟨u107_0, heq, S2⟩ := S.pathOpen
          subst heq
          have S := S2
          clear S2
          have S := S.f3
          refine t_stn S sb_path rfl rfl rfl rfl (by intro zz hu; have hu : zz ∈ ([u107_0] : List Value) := hu; simp only [List.mem_cons, List.not_mem_nil, or_false] at hu; rcases hu with rfl <;> first | rfl | exact (SlR.cells (by first | assumption | exact S.tail.sl | exact S.tail.tail.sl | exact S.tail.tail.tail.sl | exact S.tail.tail.tail.tail.sl | exact S.tail.tail.tail.tail.tail.sl | exact S.tail.tail.tail.tail.tail.tail.sl | exact S.tail.tail.tail.tail.tail.tail.tail.sl | exact S.tail.tail.tail.tail.tail.tail.tail.tail.sl)).2) ?_
          intro w536 b537 S
          have B := B.trans b537
          refine t_done' ?_
          refine x_seq ?_
          refine w_seq ?_
          refine w_seq ?_
          refine w_region ?_
          refine t_bxn S.box ab_path sb_path rfl rfl ?_ rfl
          refine t_bxn S.tail.tail.tail.tail.tail.tail.tail.tail.tail.tail.tail.tail.tail.tail.tail.tail.box ab_path sb_path rfl rfl ?_ rfl
          refine t_callx Try.call20 rfl (eqv_path _ _ _ _ (path_mkv (S.tail.sl)) (path_mkv (S.tail.tail.tail.tail.tail.tail.tail.tail.tail.tail.tail.tail.tail.tail.tail.tail.tail.sl)) (ok_path_big (by omega))) ?_ rfl rfl
          intro w538 x539
          have B := bx Hb B x539
          have S := S.below x539
          refine t_notb rfl ?_ rfl
          refine t_done ?_
          refine x_seq ?_
          refine w_no rfl ?_
          refine w_skip ?_
          refine x_seq ?_
          refine w_seq ?_
          refine w_region ?_
          refine t_assign rfl ?_ rfl
          refine t_done ?_
          refine x_seq ?_
          refine w_seq ?_
          refine w_region ?_
          refine t_bxn S.tail.tail.tail.tail.tail.tail.tail.tail.tail.tail.tail.tail.box ab_path sb_path rfl rfl ?_ rfl
          refine t_move rfl ?_ rfl
          refine t_callx Try.call29 rfl (held_path _ _ _ _ (S.tail.tail.tail.tail.tail.sl) (by omega) (by omega)) ?_ rfl rfl
          intro w540 x541
          have B := bx Hb B x541
          have S := S.below x541
          refine t_assign rfl ?_ rfl
          refine t_done ?_
          refine x_seq ?_
          refine w_seq ?_
          refine w_seq ?_
          refine w_region ?_
          refine t_move rfl ?_ rfl
          refine t_lss rfl rfl ?_ rfl
          refine t_done ?_
          refine x_seq ?_
          refine w_if rfl (fun h => (by exfalso; omega)) ?_
          intro hc116
          refine w_skip ?_
          refine x_seq ?_
          refine w_seq ?_
          refine w_seq ?_
          refine w_region ?_
          refine t_move rfl ?_ rfl
          refine t_move rfl ?_ rfl
          refine t_neq rfl rfl ?_ rfl
          refine t_done ?_
          refine x_seq ?_
          refine w_if rfl (fun h => absurd rfl h) ?_
          intro _
          refine w_skip ?_
          refine x_seq ?_
          refine w_seq ?_
          refine w_region ?_
          refine t_assign rfl ?_ rfl
          refine t_done ?_
          refine x_seq ?_
          refine w_ret ?_
          refine x_ret1 rfl rfl ?_
          exact ⟨rfl, ext_trans X0 B⟩
      · refine t_alloc S z_path rfl ?_ rfl rfl
        intro g18 w542 x543 S
        have B := bx Hb B x543
        refine t_call Try.call46 rfl (va1 (by first | assumption | exact VA.below (by assumption) B) fun cs h => to_seg _ cs _ h (by omega)) ?_ rfl rfl
        rintro e w544 ⟨cs101, fp101, rfl, hO101, x545⟩
        refine ⟨_, rfl, x545, ?_⟩
        have S := S.add (o := tyO segT _ _) x545 hO101
        have B := bx Hb B x545
        obtain ⟨u101_2, heq, S2⟩ := S.segOpen
        subst heq
        have S := S2
        clear S2
        refine t_call Try.call46 rfl (va1 (by first | assumption | exact VA.below (by assumption) B) fun cs h => to_seg _ cs _ h (by omega)) ?_ rfl rfl
        rintro e w546 ⟨cs103, fp103, rfl, hO103, x547⟩
        refine ⟨_, rfl, x547, ?_⟩
        have S := S.add (o := tyO segT _ _) x547 hO103
        have B := bx Hb B x547
        obtain ⟨u103_2, heq, S2⟩ := S.segOpen
        subst heq
        have S := S2
        clear S2
        refine t_call Try.call46 rfl (va1 (by first | assumption | exact VA.below (by assumption) B) fun cs h => to_seg _ cs _ h (by omega)) ?_ rfl rfl
        rintro e w548 ⟨cs106, fp106, rfl, hO106, x549⟩
        refine ⟨_, rfl, x549, ?_⟩
        have S := S.add (o := tyO segT _ _) x549 hO106
        have B := bx Hb B x549
        obtain ⟨u106_2, heq, S2⟩ := S.segOpen
        subst heq
        have S := S2
        clear S2
        refine t_call Try.call47 rfl (impl_JoinThree _ _ _ _ _ _ _ _ (seg_mkv (S.tail.tail.sl)) (seg_mkv (S.tail.sl)) (seg_mkv (S.sl)) (by omega) (by omega) (by omega)) ?_ rfl rfl
        rintro e w550 ⟨cs107, fp107, rfl, hO107, x551⟩
        refine ⟨_, rfl, x551, ?_⟩
        have S := S.add (o := tyO pathT _ _) x551 hO107
        have B := bx Hb B x551
        obtain ⟨u107_0, heq, S2⟩ := S.pathOpen
        subst heq
        have S := S2
        clear S2
        have S := S.f4
        refine t_stn S sb_path rfl rfl rfl rfl (by intro zz hu; have hu : zz ∈ ([u107_0] : List Value) := hu; simp only [List.mem_cons, List.not_mem_nil, or_false] at hu; rcases hu with rfl <;> first | rfl | exact (SlR.cells (by first | assumption | exact S.tail.sl | exact S.tail.tail.sl | exact S.tail.tail.tail.sl | exact S.tail.tail.tail.tail.sl | exact S.tail.tail.tail.tail.tail.sl | exact S.tail.tail.tail.tail.tail.tail.sl | exact S.tail.tail.tail.tail.tail.tail.tail.sl | exact S.tail.tail.tail.tail.tail.tail.tail.tail.sl)).2) ?_
        intro w552 b553 S
        have B := B.trans b553
        refine t_done' ?_
        refine x_seq ?_
        refine w_seq ?_
        refine w_seq ?_
        refine w_region ?_
        refine t_bxn S.box ab_path sb_path rfl rfl ?_ rfl
        refine t_bxn S.tail.tail.tail.tail.tail.tail.tail.tail.tail.tail.tail.tail.tail.tail.tail.tail.box ab_path sb_path rfl rfl ?_ rfl
        refine t_callx Try.call20 rfl (eqv_path _ _ _ _ (path_mkv (S.tail.sl)) (path_mkv (S.tail.tail.tail.tail.tail.tail.tail.tail.tail.tail.tail.tail.tail.tail.tail.tail.tail.sl)) (ok_path_big (by omega))) ?_ rfl rfl
        intro w554 x555
        have B := bx Hb B x555
        have S := S.below x555
        refine t_notb rfl ?_ rfl
        refine t_done ?_
        refine x_seq ?_
        refine w_no rfl ?_
        refine w_skip ?_
        refine x_seq ?_
        refine w_seq ?_
        refine w_region ?_
        refine t_assign rfl ?_ rfl
        refine t_done ?_
        refine x_seq ?_
        refine w_seq ?_
        refine w_region ?_
        refine t_bxn S.tail.tail.tail.tail.tail.tail.tail.tail.tail.tail.tail.tail.box ab_path sb_path rfl rfl ?_ rfl
        refine t_move rfl ?_ rfl
        refine t_callx Try.call29 rfl (held_path _ _ _ _ (S.tail.tail.tail.tail.tail.sl) (by omega) (by omega)) ?_ rfl rfl
        intro w556 x557
        have B := bx Hb B x557
        have S := S.below x557
        refine t_assign rfl ?_ rfl
        refine t_done ?_
        refine x_seq ?_
        refine w_seq ?_
        refine w_seq ?_
        refine w_region ?_
        refine t_move rfl ?_ rfl
        refine t_lss rfl rfl ?_ rfl
        refine t_done ?_
        refine x_seq ?_
        refine w_if rfl (fun h => (by exfalso; omega)) ?_
        intro hc116
        refine w_skip ?_
        refine x_seq ?_
        refine w_seq ?_
        refine w_seq ?_
        refine w_region ?_
        refine t_move rfl ?_ rfl
        refine t_move rfl ?_ rfl
        refine t_neq rfl rfl ?_ rfl
        refine t_done ?_
        refine x_seq ?_
        refine w_if rfl (fun h => absurd rfl h) ?_
        intro _
        refine w_skip ?_
        refine x_seq ?_
        refine w_seq ?_
        refine w_region ?_
        refine t_assign rfl ?_ rfl
        refine t_done ?_
        refine x_seq ?_
        refine w_ret ?_
        refine x_ret1 rfl rfl ?_
        exact ⟨rfl, ext_trans X0 B⟩
  · refine t_alloc S z_path rfl ?_ rfl rfl
    intro g10 w558 x559 S
    have B := bx Hb B x559
    refine t_call Try.call46 rfl (va1 (by first | assumption | exact VA.below (by assumption) B) fun cs h => to_seg _ cs _ h (by omega)) ?_ rfl rfl
    rintro e w560 ⟨cs35, fp35, rfl, hO35, x561⟩
    refine ⟨_, rfl, x561, ?_⟩
    have S := S.add (o := tyO segT _ _) x561 hO35
    have B := bx Hb B x561
    obtain ⟨u35_2, heq, S2⟩ := S.segOpen
    subst heq
    have S := S2
    clear S2
    refine t_call Try.call46 rfl (va1 (by first | assumption | exact VA.below (by assumption) B) fun cs h => to_seg _ cs _ h (by omega)) ?_ rfl rfl
    rintro e w562 ⟨cs37, fp37, rfl, hO37, x563⟩
    refine ⟨_, rfl, x563, ?_⟩
    have S := S.add (o := tyO segT _ _) x563 hO37
    have B := bx Hb B x563
    obtain ⟨u37_2, heq, S2⟩ := S.segOpen
    subst heq
    have S := S2
    clear S2
    refine t_call Try.call46 rfl (va1 (by first | assumption | exact VA.below (by assumption) B) fun cs h => to_seg _ cs _ h (by omega)) ?_ rfl rfl
    rintro e w564 ⟨cs40, fp40, rfl, hO40, x565⟩
    refine ⟨_, rfl, x565, ?_⟩
    have S := S.add (o := tyO segT _ _) x565 hO40
    have B := bx Hb B x565
    obtain ⟨u40_2, heq, S2⟩ := S.segOpen
    subst heq
    have S := S2
    clear S2
    refine t_call Try.call45 rfl (spec_JoinThree _ _ _ _ _ _ _ _ (seg_mkv (S.tail.tail.sl)) (seg_mkv (S.tail.sl)) (seg_mkv (S.sl)) (by omega) (by omega) (by omega)) ?_ rfl rfl
    rintro e w566 ⟨cs41, fp41, rfl, hO41, x567⟩
    refine ⟨_, rfl, x567, ?_⟩
    have S := S.add (o := tyO pathT _ _) x567 hO41
    have B := bx Hb B x567
    obtain ⟨u41_0, heq, S2⟩ := S.pathOpen
    subst heq
    have S := S2
    clear S2
    have S := S.f4
    refine t_stn S sb_path rfl rfl rfl rfl (by intro zz hu; have hu : zz ∈ ([u41_0] : List Value) := hu; simp only [List.mem_cons, List.not_mem_nil, or_false] at hu; rcases hu with rfl <;> first | rfl | exact (SlR.cells (by first | assumption | exact S.tail.sl | exact S.tail.tail.sl | exact S.tail.tail.tail.sl | exact S.tail.tail.tail.tail.sl | exact S.tail.tail.tail.tail.tail.sl | exact S.tail.tail.tail.tail.tail.tail.sl | exact S.tail.tail.tail.tail.tail.tail.tail.sl | exact S.tail.tail.tail.tail.tail.tail.tail.tail.sl)).2) ?_
    intro w568 b569 S
    have B := B.trans b569
    refine t_done' ?_
    refine x_seq ?_
    refine w_seq ?_
    refine w_region ?_
    refine t_lda (by assumption) ab_l_seg sb_l_seg B rfl ?_ rfl
    intro v42 hv42
    obtain ⟨v42_2, rfl, hv42_2⟩ := seg_va hv42
    refine t_call Try.call46 rfl (va1 (by first | assumption | exact VA.below (by assumption) B) fun cs h => to_seg _ cs _ h (by omega)) ?_ rfl rfl
    rintro e w570 ⟨cs43, fp43, rfl, hO43, x571⟩
    refine ⟨_, rfl, x571, ?_⟩
    have S := S.add (o := tyO segT _ _) x571 hO43
    have B := bx Hb B x571
    obtain ⟨u43_2, heq, S2⟩ := S.segOpen
    subst heq
    have S := S2
    clear S2
    refine t_alloc S z_seg rfl ?_ rfl rfl
    intro g11 w572 x573 S
    have B := bx Hb B x573
    refine t_stn S sb_seg rfl rfl rfl rfl (by intro zz hu; have hu : zz ∈ ([I d0.ts, I d0.beta, u43_2] : List Value) := hu; simp only [List.mem_cons, List.not_mem_nil, or_false] at hu; rcases hu with rfl | rfl | rfl <;> first | rfl | exact (SlR.cells (by first | assumption | exact S.tail.sl | exact S.tail.tail.sl | exact S.tail.tail.tail.sl | exact S.tail.tail.tail.tail.sl | exact S.tail.tail.tail.tail.tail.sl | exact S.tail.tail.tail.tail.tail.tail.sl | exact S.tail.tail.tail.tail.tail.tail.tail.sl | exact S.tail.tail.tail.tail.tail.tail.tail.tail.sl)).2) ?_
    intro w574 b575 S
    have B := B.trans b575
    refine t_done ?_
    refine x_seq ?_
    refine w_seq ?_
    refine w_region ?_
    refine t_lda (by assumption) ab_l_seg sb_l_seg B rfl ?_ rfl
    intro v44 hv44
    obtain ⟨v44_2, rfl, hv44_2⟩ := seg_va hv44
    refine t_call Try.call46 rfl (va1 (by first | assumption | exact VA.below (by assumption) B) fun cs h => to_seg _ cs _ h (by omega)) ?_ rfl rfl
    rintro e w576 ⟨cs45, fp45, rfl, hO45, x577⟩
    refine ⟨_, rfl, x577, ?_⟩
    have S := S.add (o := tyO segT _ _) x577 hO45
    have B := bx Hb B x577
    obtain ⟨u45_2, heq, S2⟩ := S.segOpen
    subst heq
    have S := S2
    clear S2
    refine t_alloc S z_seg rfl ?_ rfl rfl
    intro g12 w578 x579 S
    have B := bx Hb B x579
    refine t_stn S sb_seg rfl rfl rfl rfl (by intro zz hu; have hu : zz ∈ ([I d1.ts, I d1.beta, u45_2] : List Value) := hu; simp only [List.mem_cons, List.not_mem_nil, or_false] at hu; rcases hu with rfl | rfl | rfl <;> first | rfl | exact (SlR.cells (by first | assumption | exact S.tail.sl | exact S.tail.tail.sl | exact S.tail.tail.tail.sl | exact S.tail.tail.tail.tail.sl | exact S.tail.tail.tail.tail.tail.sl | exact S.tail.tail.tail.tail.tail.tail.sl | exact S.tail.tail.tail.tail.tail.tail.tail.sl | exact S.tail.tail.tail.tail.tail.tail.tail.tail.sl)).2) ?_
    intro w580 b581 S
    have B := B.trans b581
    refine t_done ?_
    refine x_seq ?_
    refine w_seq ?_
    refine w_region ?_
    refine t_lda (by assumption) ab_l_seg sb_l_seg B rfl ?_ rfl
    intro v46 hv46
    obtain ⟨v46_2, rfl, hv46_2⟩ := seg_va hv46
    refine t_call Try.call46 rfl (va1 (by first | assumption | exact VA.below (by assumption) B) fun cs h => to_seg _ cs _ h (by omega)) ?_ rfl rfl
    rintro e w582 ⟨cs47, fp47, rfl, hO47, x583⟩
    refine ⟨_, rfl, x583, ?_⟩
    have S := S.add (o := tyO segT _ _) x583 hO47
    have B := bx Hb B x583
    obtain ⟨u47_2, heq, S2⟩ := S.segOpen
    subst heq
    have S := S2
    clear S2
    refine t_alloc S z_seg rfl ?_ rfl rfl
    intro g13 w584 x585 S
    have B := bx Hb B x585
    refine t_stn S sb_seg rfl rfl rfl rfl (by intro zz hu; have hu : zz ∈ ([I d3.ts, I d3.beta, u47_2] : List Value) := hu; simp only [List.mem_cons, List.not_mem_nil, or_false] at hu; rcases hu with rfl | rfl | rfl <;> first | rfl | exact (SlR.cells (by first | assumption | exact S.tail.sl | exact S.tail.tail.sl | exact S.tail.tail.tail.sl | exact S.tail.tail.tail.tail.sl | exact S.tail.tail.tail.tail.tail.sl | exact S.tail.tail.tail.tail.tail.tail.sl | exact S.tail.tail.tail.tail.tail.tail.tail.sl | exact S.tail.tail.tail.tail.tail.tail.tail.tail.sl)).2) ?_
    intro w586 b587 S
    have B := B.trans b587
    refine t_done ?_
    refine x_seq ?_
    refine w_seq ?_
    refine w_region ?_
    refine t_bxn S.tail.tail.tail.tail.box ab_seg sb_seg rfl rfl ?_ rfl
    refine t_bxn S.tail.tail.box ab_seg sb_seg rfl rfl ?_ rfl
    refine t_move rfl ?_ rfl
    refine t_bxn S.box ab_seg sb_seg rfl rfl ?_ rfl
    refine t_call Try.call47 rfl (impl_JoinThree _ _ _ _ _ _ _ _ (seg_mkv (S.tail.tail.tail.tail.tail.sl)) (seg_mkv (S.tail.tail.tail.sl)) (seg_mkv (S.tail.sl)) (by omega) (by omega) (by omega)) ?_ rfl rfl
    rintro e w588 ⟨cs52, fp52, rfl, hO52, x589⟩
    refine ⟨_, rfl, x589, ?_⟩
    have S := S.add (o := tyO pathT _ _) x589 hO52
    have B := bx Hb B x589
    obtain ⟨u52_0, heq, S2⟩ := S.pathOpen
    subst heq
    have S := S2
    clear S2
    refine t_alloc S z_path rfl ?_ rfl rfl
    intro g14 w590 x591 S
    have B := bx Hb B x591
    refine t_stn S sb_path rfl rfl rfl rfl (by intro zz hu; have hu : zz ∈ ([u52_0] : List Value) := hu; simp only [List.mem_cons, List.not_mem_nil, or_false] at hu; rcases hu with rfl <;> first | rfl | exact (SlR.cells (by first | assumption | exact S.tail.sl | exact S.tail.tail.sl | exact S.tail.tail.tail.sl | exact S.tail.tail.tail.tail.sl | exact S.tail.tail.tail.tail.tail.sl | exact S.tail.tail.tail.tail.tail.tail.sl | exact S.tail.tail.tail.tail.tail.tail.tail.sl | exact S.tail.tail.tail.tail.tail.tail.tail.tail.sl)).2) ?_
    intro w592 b593 S
    have B := B.trans b593
    refine t_done ?_
    refine x_seq ?_
    refine w_seq ?_
    refine w_seq ?_
    refine w_region ?_
    refine t_bxn S.box ab_path sb_path rfl rfl ?_ rfl
    refine t_bxn S.tail.tail.tail.tail.tail.tail.tail.tail.box ab_path sb_path rfl rfl ?_ rfl
    refine t_callx Try.call20 rfl (eqv_path _ _ _ _ (path_mkv (S.tail.sl)) (path_mkv (S.tail.tail.tail.tail.tail.tail.tail.tail.tail.sl)) (ok_path_big (by omega))) ?_ rfl rfl
    intro w594 x595
    have B := bx Hb B x595
    have S := S.below x595
    refine t_notb rfl ?_ rfl
    refine t_done ?_
    refine x_seq ?_
    refine w_no rfl ?_
    refine w_skip ?_
    refine x_seq ?_
    refine w_seq ?_
    refine w_seq ?_
    refine w_draw (.st .take 0 (.st .take 1 (.st .run 2 (.st .run 3 (.st .take 4 .done))))) mixed (by kernel_rfl) ?_
    intro w596 x597
    have B := bx Hb B x597
    have S := S.below x597
    refine t_bxn S.tail.tail.tail.tail.tail.tail.box ab_seg sb_seg rfl rfl ?_ rfl
    refine t_lda (by assumption) ab_l_seg sb_l_seg B rfl ?_ rfl
    intro v58 hv58
    obtain ⟨v58_2, rfl, hv58_2⟩ := seg_va hv58
    refine t_call Try.call46 rfl (va1 (by first | assumption | exact VA.below (by assumption) B) fun cs h => to_seg _ cs _ h (by omega)) ?_ rfl rfl
    rintro e w598 ⟨cs59, fp59, rfl, hO59, x599⟩
    refine ⟨_, rfl, x599, ?_⟩
    have S := S.add (o := tyO segT _ _) x599 hO59
    have B := bx Hb B x599
    obtain ⟨u59_2, heq, S2⟩ := S.segOpen
    subst heq
    have S := S2
    clear S2
    refine t_callx Try.call48 rfl (eqv_seg _ _ _ _ (seg_mkv (S.tail.tail.tail.tail.tail.tail.tail.tail.sl)) (seg_mkv (S.sl)) (ok_seg_sz (by omega))) ?_ rfl rfl
    intro w600 x601
    have B := bx Hb B x601
    have S := S.below x601
    refine t_notb rfl ?_ rfl
    refine t_done' ?_
    refine x_seq ?_
    refine w_no rfl ?_
    refine w_skip ?_
    refine x_seq ?_
    refine w_seq ?_
    refine w_seq ?_
    refine w_draw (.st .take 0 (.st .take 1 (.st .run 2 (.st .run 3 (.st .take 4 .done))))) mixed (by kernel_rfl) ?_
    intro w602 x603
    have B := bx Hb B x603
    have S := S.below x603
    refine t_bxn S.tail.tail.tail.tail.tail.box ab_seg sb_seg rfl rfl ?_ rfl
    refine t_lda (by assumption) ab_l_seg sb_l_seg B rfl ?_ rfl
    intro v63 hv63
    obtain ⟨v63_2, rfl, hv63_2⟩ := seg_va hv63
    refine t_call Try.call46 rfl (va1 (by first | assumption | exact VA.below (by assumption) B) fun cs h => to_seg _ cs _ h (by omega)) ?_ rfl rfl
    rintro e w604 ⟨cs64, fp64, rfl, hO64, x605⟩
    refine ⟨_, rfl, x605, ?_⟩
    have S := S.add (o := tyO segT _ _) x605 hO64
    have B := bx Hb B x605
    obtain ⟨u64_2, heq, S2⟩ := S.segOpen
    subst heq
    have S := S2
    clear S2
    refine t_callx Try.call48 rfl (eqv_seg _ _ _ _ (seg_mkv (S.tail.tail.tail.tail.tail.tail.tail.sl)) (seg_mkv (S.sl)) (ok_seg_sz (by omega))) ?_ rfl rfl
    intro w606 x607
    have B := bx Hb B x607
    have S := S.below x607
    refine t_notb rfl ?_ rfl
    refine t_done' ?_
    refine x_seq ?_
    refine w_no rfl ?_
    refine w_skip ?_
    refine x_seq ?_
    refine w_seq ?_
    refine w_seq ?_
    refine w_draw (.st .take 0 (.st .take 1 (.st .run 2 (.st .run 3 (.st .take 4 .done))))) mixed (by kernel_rfl) ?_
    intro w608 x609
    have B := bx Hb B x609
    have S := S.below x609
    refine t_bxn S.tail.tail.tail.tail.box ab_seg sb_seg rfl rfl ?_ rfl
    refine t_lda (by assumption) ab_l_seg sb_l_seg B rfl ?_ rfl
    intro v68 hv68
    obtain ⟨v68_2, rfl, hv68_2⟩ := seg_va hv68
    refine t_call Try.call46 rfl (va1 (by first | assumption | exact VA.below (by assumption) B) fun cs h => to_seg _ cs _ h (by omega)) ?_ rfl rfl
    rintro e w610 ⟨cs69, fp69, rfl, hO69, x611⟩
    refine ⟨_, rfl, x611, ?_⟩
    have S := S.add (o := tyO segT _ _) x611 hO69
    have B := bx Hb B x611
    obtain ⟨u69_2, heq, S2⟩ := S.segOpen
    subst heq
    have S := S2
    clear S2
    refine t_callx Try.call48 rfl (eqv_seg _ _ _ _ (seg_mkv (S.tail.tail.tail.tail.tail.tail.sl)) (seg_mkv (S.sl)) (ok_seg_sz (by omega))) ?_ rfl rfl
    intro w612 x613
    have B := bx Hb B x613
    have S := S.below x613
    refine t_notb rfl ?_ rfl
    refine t_done' ?_
    refine x_seq ?_
    refine w_no rfl ?_
    refine w_skip ?_
    refine x_seq ?_
    refine w_seq ?_
    refine w_region ?_
    refine t_assign rfl ?_ rfl
    refine t_done ?_
    refine x_seq ?_
    refine w_seq ?_
    refine w_region ?_
    refine t_bxn S.tail.tail.tail.tail.tail.tail.tail.tail.tail.box ab_seg sb_seg rfl rfl ?_ rfl
    refine t_move rfl ?_ rfl
    have S := S.f10
    refine t_callf Try.call49 rfl (mark_segm _ _ _ _ _ _ S (by omega) (by omega)) ?_ rfl
    rintro e w614 ⟨rfl, S, x615⟩
    refine ⟨_, rfl, ?_⟩
    have B := B.trans x615
    refine t_assign rfl ?_ rfl
    refine t_done ?_
    refine x_seq ?_
    refine w_seq ?_
    refine w_region ?_
    refine t_bxn S.tail.tail.tail.tail.tail.tail.tail.tail.box ab_seg sb_seg rfl rfl ?_ rfl
    refine t_move rfl ?_ rfl
    have S := S.f9
    refine t_callf Try.call49 rfl (mark_segm _ _ _ _ _ _ S (by omega) (by omega)) ?_ rfl
    rintro e w616 ⟨rfl, S, x617⟩
    refine ⟨_, rfl, ?_⟩
    have B := B.trans x617
    refine t_assign rfl ?_ rfl
    refine t_done ?_
    refine x_seq ?_
    refine w_seq ?_
    refine w_region ?_
    refine t_bxn S.tail.tail.tail.tail.tail.tail.tail.box ab_seg sb_seg rfl rfl ?_ rfl
    refine t_move rfl ?_ rfl
    have S := S.f8
    refine t_callf Try.call49 rfl (mark_segm _ _ _ _ _ _ S (by omega) (by omega)) ?_ rfl
    rintro e w618 ⟨rfl, S, x619⟩
    refine ⟨_, rfl, ?_⟩
    have B := B.trans x619
    refine t_assign rfl ?_ rfl
    refine t_done ?_
    refine x_seq ?_
    refine w_seq ?_
    refine w_seq ?_
    refine w_region ?_
    refine t_move rfl ?_ rfl
    refine t_lss rfl rfl ?_ rfl
    refine t_move rfl ?_ rfl
    refine t_partp (t := 83) rfl (fun h => (by exfalso; omega)) ?_
    intro hc83
    refine t_on rfl rfl ?_
    refine t_bxn S.tail.tail.tail.tail.tail.tail.box ab_path sb_path rfl rfl ?_ rfl
    refine t_on rfl rfl ?_
    refine t_bxn S.tail.tail.tail.tail.tail.tail.tail.tail.tail.tail.tail.box ab_path sb_path rfl rfl ?_ rfl
    refine t_on rfl rfl ?_
    refine t_callx Try.call20 rfl (eqv_path _ _ _ _ (path_mkv (S.tail.tail.tail.tail.tail.tail.tail.sl)) (path_mkv (S.tail.tail.tail.tail.tail.tail.tail.tail.tail.tail.tail.tail.sl)) (ok_path_big (by omega))) ?_ rfl rfl
    intro w620 x621
    have B := bx Hb B x621
    have S := S.below x621
    refine t_on rfl rfl ?_
    refine t_notb rfl ?_ rfl
    refine t_pickf rfl rfl ?_ rfl
    refine t_done ?_
    refine x_seq ?_
    refine w_no rfl ?_
    refine w_skip ?_
    refine x_seq ?_
    refine w_seq ?_
    refine w_region ?_
    refine t_assign rfl ?_ rfl
    refine t_done ?_
    refine x_seq ?_
    refine w_seq ?_
    refine w_region ?_
    refine t_bxn S.tail.tail.tail.tail.tail.tail.box ab_path sb_path rfl rfl ?_ rfl
    refine t_move rfl ?_ rfl
    have S := S.f7
    refine t_callf Try.call21 rfl (mark_path _ _ _ _ _ _ S (by omega) (by omega)) ?_ rfl
    rintro e w622 ⟨rfl, S, x623⟩
    refine ⟨_, rfl, ?_⟩
    have B := B.trans x623
    refine t_assign rfl ?_ rfl
    refine t_done ?_
    refine x_seq ?_
    refine w_seq ?_
    refine w_region ?_
    refine t_assign rfl ?_ rfl
    refine t_done ?_
    refine x_seq ?_
    refine w_seq ?_
    refine w_region ?_
    refine t_bxn S.tail.tail.tail.tail.tail.tail.tail.box ab_path sb_path rfl rfl ?_ rfl
    refine t_move rfl ?_ rfl
    refine t_callx Try.call29 rfl (held_path _ _ _ _ (S.sl) (by omega) (by omega)) ?_ rfl rfl
    intro w624 x625
    have B := bx Hb B x625
    have S := S.below x625
    refine t_assign rfl ?_ rfl
    refine t_done ?_
    refine x_seq ?_
    refine w_seq ?_
    refine w_seq ?_
    refine w_region ?_
    refine t_move rfl ?_ rfl
    refine t_lss rfl rfl ?_ rfl
    refine t_done ?_
    refine x_seq ?_
    refine w_if rfl (fun h => (by exfalso; omega)) ?_
    intro hc96
    refine w_skip ?_
    refine x_seq ?_
    refine w_seq ?_
    refine w_seq ?_
    refine w_region ?_
    refine t_move rfl ?_ rfl
    refine t_move rfl ?_ rfl
    refine t_neq rfl rfl ?_ rfl
    refine t_done ?_
    refine x_seq ?_
    refine w_if rfl (fun h => absurd rfl h) ?_
    intro _
    refine w_skip ?_
    refine x_seq ?_
    refine w_seq ?_
    refine w_draw (.st .take 0 (.st .take 2 (.st .take 4 (.st .take 5 (.alt (.st .run 1 (.alt (.st .run 3 (.alt (.st .run 6 (.alt (.st .run 7 (.st .run 8 (.st .fin 9 .done))) (.st .run 8 (.st .run 7 (.st .fin 9 .done))))) (.st .run 8 (.st .run 6 (.st .run 7 (.st .fin 9 .done)))))) (.st .run 8 (.st .run 3 (.st .run 6 (.st .run 7 (.st .fin 9 .done))))))) (.st .run 8 (.st .run 1 (.st .run 3 (.st .run 6 (.st .run 7 (.st .fin 9 .done))))))))))) mixed (by kernel_rfl) ?_
    intro w626 x627
    have B := bx Hb B x627
    have S := S.below x627
    refine t_lda (by assumption) ab_l_seg sb_l_seg B rfl ?_ rfl
    intro v100 hv100
    obtain ⟨v100_2, rfl, hv100_2⟩ := seg_va hv100
    refine t_lda (by assumption) ab_l_seg sb_l_seg B rfl ?_ rfl
    intro v102 hv102
    obtain ⟨v102_2, rfl, hv102_2⟩ := seg_va hv102
    refine t_move rfl ?_ rfl
    refine t_lda (by assumption) ab_l_seg sb_l_seg B rfl ?_ rfl
    intro v105 hv105
    obtain ⟨v105_2, rfl, hv105_2⟩ := seg_va hv105
    refine t_alt ?_ ?_
    · refine t_call Try.call46 rfl (va1 (by first | assumption | exact VA.below (by assumption) B) fun cs h => to_seg _ cs _ h (by omega)) ?_ rfl rfl
      rintro e w628 ⟨cs101, fp101, rfl, hO101, x629⟩
      refine ⟨_, rfl, x629, ?_⟩
      have S := S.add (o := tyO segT _ _) x629 hO101
      have B := bx Hb B x629
      obtain ⟨u101_2, heq, S2⟩ := S.segOpen
      subst heq
      have S := S2
      clear S2
      refine t_alt ?_ ?_
      · refine t_call Try.call46 rfl (va1 (by first | assumption | exact VA.below (by assumption) B) fun cs h => to_seg _ cs _ h (by omega)) ?_ rfl rfl
        rintro e w630 ⟨cs103, fp103, rfl, hO103, x631⟩
        refine ⟨_, rfl, x631, ?_⟩
        have S := S.add (o := tyO segT _ _) x631 hO103
        have B := bx Hb B x631
        obtain ⟨u103_2, heq, S2⟩ := S.segOpen
        subst heq
        have S := S2
        clear S2
        refine t_alt ?_ ?_
        · refine t_call Try.call46 rfl (va1 (by first | assumption | exact VA.below (by assumption) B) fun cs h => to_seg _ cs _ h (by omega)) ?_ rfl rfl
          rintro e w632 ⟨cs106, fp106, rfl, hO106, x633⟩
          refine ⟨_, rfl, x633, ?_⟩
          have S := S.add (o := tyO segT _ _) x633 hO106
          have B := bx Hb B x633
          obtain ⟨u106_2, heq, S2⟩ := S.segOpen
          subst heq
          have S := S2
          clear S2
          refine t_alt ?_ ?_
          · refine t_call Try.call47 rfl (impl_JoinThree _ _ _ _ _ _ _ _ (seg_mkv (S.tail.tail.sl)) (seg_mkv (S.tail.sl)) (seg_mkv (S.sl)) (by omega) (by omega) (by omega)) ?_ rfl rfl
            rintro e w634 ⟨cs107, fp107, rfl, hO107, x635⟩
            refine ⟨_, rfl, x635, ?_⟩
            have S := S.add (o := tyO pathT _ _) x635 hO107
            have B := bx Hb B x635
            obtain ⟨u107_0, heq, S2⟩ := S.pathOpen
            subst heq
            have S := S2
            clear S2
            refine t_alloc S z_path rfl ?_ rfl rfl
            intro g18 w636 x637 S
            have B := bx Hb B x637
            refine t_stn S sb_path rfl rfl rfl rfl (by intro zz hu; have hu : zz ∈ ([u107_0] : List Value) := hu; simp only [List.mem_cons, List.not_mem_nil, or_false] at hu; rcases hu with rfl <;> first | rfl | exact (SlR.cells (by first | assumption | exact S.tail.sl | exact S.tail.tail.sl | exact S.tail.tail.tail.sl | exact S.tail.tail.tail.tail.sl | exact S.tail.tail.tail.tail.tail.sl | exact S.tail.tail.tail.tail.tail.tail.sl | exact S.tail.tail.tail.tail.tail.tail.tail.sl | exact S.tail.tail.tail.tail.tail.tail.tail.tail.sl)).2) ?_
            intro w638 b639 S
            have B := B.trans b639
            refine t_done' ?_
            refine x_seq ?_
            refine w_seq ?_
            refine w_seq ?_
            refine w_region ?_
            refine t_bxn S.box ab_path sb_path rfl rfl ?_ rfl
            refine t_bxn S.tail.tail.tail.tail.tail.tail.tail.tail.tail.tail.tail.tail.tail.tail.tail.tail.box ab_path sb_path rfl rfl ?_ rfl
            refine t_callx Try.call20 rfl (eqv_path _ _ _ _ (path_mkv (S.tail.sl)) (path_mkv (S.tail.tail.tail.tail.tail.tail.tail.tail.tail.tail.tail.tail.tail.tail.tail.tail.tail.sl)) (ok_path_big (by omega))) ?_ rfl rfl
            intro w640 x641
            have B := bx Hb B x641
            have S := S.below x641
            refine t_notb rfl ?_ rfl
            refine t_done ?_
            refine x_seq ?_
            refine w_no rfl ?_
            refine w_skip ?_
            refine x_seq ?_
            refine w_seq ?_
            refine w_region ?_
            refine t_assign rfl ?_ rfl
            refine t_done ?_
            refine x_seq ?_
            refine w_seq ?_
            refine w_region ?_
            refine t_bxn S.tail.tail.tail.tail.tail.tail.tail.tail.tail.tail.tail.tail.box ab_path sb_path rfl rfl ?_ rfl
            refine t_move rfl ?_ rfl
            refine t_callx Try.call29 rfl (held_path _ _ _ _ (S.tail.tail.tail.tail.tail.sl) (by omega) (by omega)) ?_ rfl rfl
            intro w642 x643
            have B := bx Hb B x643
            have S := S.below x643
            refine t_assign rfl ?_ rfl
            refine t_done ?_
            refine x_seq ?_
            refine w_seq ?_
            refine w_seq ?_
            refine w_region ?_
            refine t_move rfl ?_ rfl
            refine t_lss rfl rfl ?_ rfl
            refine t_done ?_
            refine x_seq ?_
            refine w_if rfl (fun h => (by exfalso; omega)) ?_
            intro hc116
            refine w_skip ?_
            refine x_seq ?_
            refine w_seq ?_
            refine w_seq ?_
            refine w_region ?_
            refine t_move rfl ?_ rfl
            refine t_move rfl ?_ rfl
            refine t_neq rfl rfl ?_ rfl
            refine t_done ?_
            refine x_seq ?_
            refine w_if rfl (fun h => absurd rfl h) ?_
            intro _
            refine w_skip ?_
            refine x_seq ?_
            refine w_seq ?_
            refine w_region ?_
            refine t_assign rfl ?_ rfl
            refine t_done ?_
            refine x_seq ?_
            refine w_ret ?_
            refine x_ret1 rfl rfl ?_
            exact ⟨rfl, ext_trans X0 B⟩
          · refine t_alloc S z_path rfl ?_ rfl rfl
            intro g18 w644 x645 S
            have B := bx Hb B x645
            refine t_call Try.call47 rfl (impl_JoinThree _ _ _ _ _ _ _ _ (seg_mkv (S.tail.tail.tail.sl)) (seg_mkv (S.tail.tail.sl)) (seg_mkv (S.tail.sl)) (by omega) (by omega) (by omega)) ?_ rfl rfl
            rintro e w646 ⟨cs107, fp107, rfl, hO107, x647⟩
            refine ⟨_, rfl, x647, ?_⟩
            have S := S.add (o := tyO pathT _ _) x647 hO107
            have B := bx Hb B x647
            obtain ⟨u107_0, heq, S2⟩ := S.pathOpen
            subst heq
            have S := S2
            clear S2
            have S := S.f1
            refine t_stn S sb_path rfl rfl rfl rfl (by intro zz hu; have hu : zz ∈ ([u107_0] : List Value) := hu; simp only [List.mem_cons, List.not_mem_nil, or_false] at hu; rcases hu with rfl <;> first | rfl | exact (SlR.cells (by first | assumption | exact S.tail.sl | exact S.tail.tail.sl | exact S.tail.tail.tail.sl | exact S.tail.tail.tail.tail.sl | exact S.tail.tail.tail.tail.tail.sl | exact S.tail.tail.tail.tail.tail.tail.sl | exact S.tail.tail.tail.tail.tail.tail.tail.sl | exact S.tail.tail.tail.tail.tail.tail.tail.tail.sl)).2) ?_
            intro w648 b649 S
            have B := B.trans b649
            refine t_done' ?_
            refine x_seq ?_
            refine w_seq ?_
            refine w_seq ?_
            refine w_region ?_
            refine t_bxn S.box ab_path sb_path rfl rfl ?_ rfl
            refine t_bxn S.tail.tail.tail.tail.tail.tail.tail.tail.tail.tail.tail.tail.tail.tail.tail.tail.box ab_path sb_path rfl rfl ?_ rfl
            refine t_callx Try.call20 rfl (eqv_path _ _ _ _ (path_mkv (S.tail.sl)) (path_mkv (S.tail.tail.tail.tail.tail.tail.tail.tail.tail.tail.tail.tail.tail.tail.tail.tail.tail.sl)) (ok_path_big (by omega))) ?_ rfl rfl
            intro w650 x651
            have B := bx Hb B x651
            have S := S.below x651
            refine t_notb rfl ?_ rfl
            refine t_done ?_
            refine x_seq ?_
            refine w_no rfl ?_
            refine w_skip ?_
            refine x_seq ?_
            refine w_seq ?_
            refine w_region ?_
            refine t_assign rfl ?_ rfl
            refine t_done ?_
            refine x_seq ?_
            refine w_seq ?_
            refine w_region ?_
            refine t_bxn S.tail.tail.tail.tail.tail.tail.tail.tail.tail.tail.tail.tail.box ab_path sb_path rfl rfl ?_ rfl
            refine t_move rfl ?_ rfl
            refine t_callx Try.call29 rfl (held_path _ _ _ _ (S.tail.tail.tail.tail.tail.sl) (by omega) (by omega)) ?_ rfl rfl
            intro w652 x653
            have B := bx Hb B x653
            have S := S.below x653
            refine t_assign rfl ?_ rfl
            refine t_done ?_
            refine x_seq ?_
            refine w_seq ?_
            refine w_seq ?_
            refine w_region ?_
            refine t_move rfl ?_ rfl
            refine t_lss rfl rfl ?_ rfl
            refine t_done ?_
            refine x_seq ?_
            refine w_if rfl (fun h => (by exfalso; omega)) ?_
            intro hc116
            refine w_skip ?_
            refine x_seq ?_
            refine w_seq ?_
            refine w_seq ?_
            refine w_region ?_
            refine t_move rfl ?_ rfl
            refine t_move rfl ?_ rfl
            refine t_neq rfl rfl ?_ rfl
            refine t_done ?_
            refine x_seq ?_
            refine w_if rfl (fun h => absurd rfl h) ?_
            intro _
            refine w_skip ?_
            refine x_seq ?_
            refine w_seq ?_
            refine w_region ?_
            refine t_assign rfl ?_ rfl
            refine t_done ?_
            refine x_seq ?_
            refine w_ret ?_
            refine x_ret1 rfl rfl ?_
            exact ⟨rfl, ext_trans X0 B⟩
        · refine t_alloc S z_path rfl ?_ rfl rfl
          intro g18 w654 x655 S
          have B := bx Hb B x655
          refine t_call Try.call46 rfl (va1 (by first | assumption | exact VA.below (by assumption) B) fun cs h => to_seg _ cs _ h (by omega)) ?_ rfl rfl
          rintro e w656 ⟨cs106, fp106, rfl, hO106, x657⟩
          refine ⟨_, rfl, x657, ?_⟩
          have S := S.add (o := tyO segT _ _) x657 hO106
          have B := bx Hb B x657
          obtain ⟨u106_2, heq, S2⟩ := S.segOpen
          subst heq
          have S := S2
          clear S2
          refine t_call Try.call47 rfl (impl_JoinThree _ _ _ _ _ _ _ _ (seg_mkv (S.tail.tail.tail.sl)) (seg_mkv (S.tail.tail.sl)) (seg_mkv (S.sl)) (by omega) (by omega) (by omega)) ?_ rfl rfl
          rintro e w658 ⟨cs107, fp107, rfl, hO107, x659⟩
          refine ⟨_, rfl, x659, ?_⟩
          have S := S.add (o := tyO pathT _ _) x659 hO107
          have B := bx Hb B x659
          obtain ⟨u107_0, heq, S2⟩ := S.pathOpen
          subst heq
          have S := S2
          clear S2
          have S := S.f2
          refine t_stn S sb_path rfl rfl rfl rfl (by intro zz hu; have hu : zz ∈ ([u107_0] : List Value) := hu; simp only [List.mem_cons, List.not_mem_nil, or_false] at hu; rcases hu with rfl <;> first | rfl | exact (SlR.cells (by first | assumption | exact S.tail.sl | exact S.tail.tail.sl | exact S.tail.tail.tail.sl | exact S.tail.tail.tail.tail.sl | exact S.tail.tail.tail.tail.tail.sl | exact S.tail.tail.tail.tail.tail.tail.sl | exact S.tail.tail.tail.tail.tail.tail.tail.sl | exact S.tail.tail.tail.tail.tail.tail.tail.tail.sl)).2) ?_
          intro w660 b661 S
          have B := B.trans b661
          refine t_done' ?_
          refine x_seq ?_
          refine w_seq ?_
          refine w_seq ?_
          refine w_region ?_
          refine t_bxn S.box ab_path sb_path rfl rfl ?_ rfl
          refine t_bxn S.tail.tail.tail.tail.tail.tail.tail.tail.tail.tail.tail.tail.tail.tail.tail.tail.box ab_path sb_path rfl rfl ?_ rfl
          refine t_callx Try.call20 rfl (eqv_path _ _ _ _ (path_mkv (S.tail.sl)) (path_mkv (S.tail.tail.tail.tail.tail.tail.tail.tail.tail.tail.tail.tail.tail.tail.tail.tail.tail.sl)) (ok_path_big (by omega))) ?_ rfl rfl
          intro w662 x663
          have B := bx Hb B x663
          have S := S.below x663
          refine t_notb rfl ?_ rfl
          refine t_done ?_
          refine x_seq ?_
          refine w_no rfl ?_
          refine w_skip ?_
          refine x_seq ?_
          refine w_seq ?_
          refine w_region ?_
          refine t_assign rfl ?_ rfl
          refine t_done ?_
          refine x_seq ?_
          refine w_seq ?_
          refine w_region ?_
          refine t_bxn S.tail.tail.tail.tail.tail.tail.tail.tail.tail.tail.tail.tail.box ab_path sb_path rfl rfl ?_ rfl
          refine t_move rfl ?_ rfl
          refine t_callx Try.call29 rfl (held_path _ _ _ _ (S.tail.tail.tail.tail.tail.sl) (by omega) (by omega)) ?_ rfl rfl
          intro w664 x665
          have B := bx Hb B x665
          have S := S.below x665
          refine t_assign rfl ?_ rfl
          refine t_done ?_
          refine x_seq ?_
          refine w_seq ?_
          refine w_seq ?_
          refine w_region ?_
          refine t_move rfl ?_ rfl
          refine t_lss rfl rfl ?_ rfl
          refine t_done ?_
          refine x_seq ?_
          refine w_if rfl (fun h => (by exfalso; omega)) ?_
          intro hc116
          refine w_skip ?_
          refine x_seq ?_
          refine w_seq ?_
          refine w_seq ?_
          refine w_region ?_
          refine t_move rfl ?_ rfl
          refine t_move rfl ?_ rfl
          refine t_neq rfl rfl ?_ rfl
          refine t_done ?_
          refine x_seq ?_
          refine w_if rfl (fun h => absurd rfl h) ?_
          intro _
          refine w_skip ?_
          refine x_seq ?_
          refine w_seq ?_
          refine w_region ?_
          refine t_assign rfl ?_ rfl
          refine t_done ?_
          refine x_seq ?_
          refine w_ret ?_
          refine x_ret1 rfl rfl ?_
          exact ⟨rfl, ext_trans X0 B⟩
      · refine t_alloc S z_path rfl ?_ rfl rfl
        intro g18 w666 x667 S
        have B := bx Hb B x667
        refine t_call Try.call46 rfl (va1 (by first | assumption | exact VA.below (by assumption) B) fun cs h => to_seg _ cs _ h (by omega)) ?_ rfl rfl
        rintro e w668 ⟨cs103, fp103, rfl, hO103, x669⟩
        refine ⟨_, rfl, x669, ?_⟩
        have S := S.add (o := tyO segT _ _) x669 hO103
        have B := bx Hb B x669
        obtain ⟨u103_2, heq, S2⟩ := S.segOpen
        subst heq
        have S := S2
        clear S2
        refine t_call Try.call46 rfl (va1 (by first | assumption | exact VA.below (by assumption) B) fun cs h => to_seg _ cs _ h (by omega)) ?_ rfl rfl
        rintro e w670 ⟨cs106, fp106, rfl, hO106, x671⟩
        refine ⟨_, rfl, x671, ?_⟩
        have S := S.add (o := tyO segT _ _) x671 hO106
        have B := bx Hb B x671
        obtain ⟨u106_2, heq, S2⟩ := S.segOpen
        subst heq
        have S := S2
        clear S2
        refine t_call Try.call47 rfl (impl_JoinThree _ _ _ _ _ _ _ _ (seg_mkv (S.tail.tail.tail.sl)) (seg_mkv (S.tail.sl)) (seg_mkv (S.sl)) (by omega) (by omega) (by omega)) ?_ rfl rfl
        rintro e w672 ⟨cs107, fp107, rfl, hO107, x673⟩
        refine ⟨_, rfl, x673, ?_⟩
        have S := S.add (o := tyO pathT _ _) x673 hO107
        have B := bx Hb B x673
        obtain ⟨u107_0, heq, S2⟩ := S.pathOpen
        subst heq
        have S := S2
        clear S2
        have S := S.f3
        refine t_stn S sb_path rfl rfl rfl rfl (by intro zz hu; have hu : zz ∈ ([u107_0] : List Value) := hu; simp only [List.mem_cons, List.not_mem_nil, or_false] at hu; rcases hu with rfl <;> first | rfl | exact (SlR.cells (by first | assumption | exact S.tail.sl | exact S.tail.tail.sl | exact S.tail.tail.tail.sl | exact S.tail.tail.tail.tail.sl | exact S.tail.tail.tail.tail.tail.sl | exact S.tail.tail.tail.tail.tail.tail.sl | exact S.tail.tail.tail.tail.tail.tail.tail.sl | exact S.tail.tail.tail.tail.tail.tail.tail.tail.sl)).2) ?_
        intro w674 b675 S
        have B := B.trans b675
        refine t_done' ?_
        refine x_seq ?_
        refine w_seq ?_
        refine w_seq ?_
        refine w_region ?_
        refine t_bxn S.box ab_path sb_path rfl rfl ?_ rfl
        refine t_bxn S.tail.tail.tail.tail.tail.tail.tail.tail.tail.tail.tail.tail.tail.tail.tail.tail.box ab_path sb_path rfl rfl ?_ rfl
        refine t_callx Try.call20 rfl (eqv_path _ _ _ _ (path_mkv (S.tail.sl)) (path_mkv (S.tail.tail.tail.tail.tail.tail.tail.tail.tail.tail.tail.tail.tail.tail.tail.tail.tail.sl)) (ok_path_big (by omega))) ?_ rfl rfl
        intro w676 x677
        have B := bx Hb B x677
        have S := S.below x677
        refine t_notb rfl ?_ rfl
        refine t_done ?_
        refine x_seq ?_
        refine w_no rfl ?_
        refine w_skip ?_
        refine x_seq ?_
        refine w_seq ?_
        refine w_region ?_
        refine t_assign rfl ?_ rfl
        refine t_done ?_
        refine x_seq ?_
        refine w_seq ?_
        refine w_region ?_
        refine t_bxn S.tail.tail.tail.tail.tail.tail.tail.tail.tail.tail.tail.tail.box ab_path sb_path rfl rfl ?_ rfl
        refine t_move rfl ?_ rfl
        refine t_callx Try.call29 rfl (held_path _ _ _ _ (S.tail.tail.tail.tail.tail.sl) (by omega) (by omega)) ?_ rfl rfl
        intro w678 x679
        have B := bx Hb B x679
        have S := S.below x679
        refine t_assign rfl ?_ rfl
        refine t_done ?_
        refine x_seq ?_
        refine w_seq ?_
        refine w_seq ?_
        refine w_region ?_
        refine t_move rfl ?_ rfl
        refine t_lss rfl rfl ?_ rfl
        refine t_done ?_
        refine x_seq ?_
        refine w_if rfl (fun h => (by exfalso; omega)) ?_
        intro hc116
        refine w_skip ?_
        refine x_seq ?_
        refine w_seq ?_
        refine w_seq ?_
        refine w_region ?_
        refine t_move rfl ?_ rfl
        refine t_move rfl ?_ rfl
        refine t_neq rfl rfl ?_ rfl
        refine t_done ?_
        refine x_seq ?_
        refine w_if rfl (fun h => absurd rfl h) ?_
        intro _
        refine w_skip ?_
        refine x_seq ?_
        refine w_seq ?_
        refine w_region ?_
        refine t_assign rfl ?_ rfl
        refine t_done ?_
        refine x_seq ?_
        refine w_ret ?_
        refine x_ret1 rfl rfl ?_
        exact ⟨rfl, ext_trans X0 B⟩
    · refine t_alloc S z_path rfl ?_ rfl rfl
      intro g18 w680 x681 S
      have B := bx Hb B x681
      refine t_call Try.call46 rfl (va1 (by first | assumption | exact VA.below (by assumption) B) fun cs h => to_seg _ cs _ h (by omega)) ?_ rfl rfl
      rintro e w682 ⟨cs101, fp101, rfl, hO101, x683⟩
      refine ⟨_, rfl, x683, ?_⟩
      have S := S.add (o := tyO segT _ _) x683 hO101
      have B := bx Hb B x683
      obtain ⟨u101_2, heq, S2⟩ := S.segOpen
      subst heq
      have S := S2
      clear S2
      refine t_call Try.call46 rfl (va1 (by first | assumption | exact VA.below (by assumption) B) fun cs h => to_seg _ cs _ h (by omega)) ?_ rfl rfl
      rintro e w684 ⟨cs103, fp103, rfl, hO103, x685⟩
      refine ⟨_, rfl, x685, ?_⟩
      have S := S.add (o := tyO segT _ _) x685 hO103
      have B := bx Hb B x685
      obtain ⟨u103_2, heq, S2⟩ := S.segOpen
      subst heq
      have S := S2
      clear S2
      refine t_call Try.call46 rfl (va1 (by first | assumption | exact VA.below (by assumption) B) fun cs h => to_seg _ cs _ h (by omega)) ?_ rfl rfl
      rintro e w686 ⟨cs106, fp106, rfl, hO106, x687⟩
      refine ⟨_, rfl, x687, ?_⟩
      have S := S.add (o := tyO segT _ _) x687 hO106
      have B := bx Hb B x687
      obtain ⟨u106_2, heq, S2⟩ := S.segOpen
      subst heq
      have S := S2
      clear S2
      refine t_call Try.call47 rfl (impl_JoinThree _ _ _ _ _ _ _ _ (seg_mkv (S.tail.tail.sl)) (seg_mkv (S.tail.sl)) (seg_mkv (S.sl)) (by omega) (by omega) (by omega)) ?_ rfl rfl
      rintro e w688 ⟨cs107, fp107, rfl, hO107, x689⟩
      refine ⟨_, rfl, x689, ?_⟩
      have S := S.add (o := tyO pathT _ _) x689 hO107
      have B := bx Hb B x689
      obtain ⟨u107_0, heq, S2⟩ := S.pathOpen
      subst heq
      have S := S2
      clear S2
      have S := S.f4
      refine t_stn S sb_path rfl rfl rfl rfl (by intro zz hu; have hu : zz ∈ ([u107_0] : List Value) := hu; simp only [List.mem_cons, List.not_mem_nil, or_false] at hu; rcases hu with rfl <;> first | rfl | exact (SlR.cells (by first | assumption | exact S.tail.sl | exact S.tail.tail.sl | exact S.tail.tail.tail.sl | exact S.tail.tail.tail.tail.sl | exact S.tail.tail.tail.tail.tail.sl | exact S.tail.tail.tail.tail.tail.tail.sl | exact S.tail.tail.tail.tail.tail.tail.tail.sl | exact S.tail.tail.tail.tail.tail.tail.tail.tail.sl)).2) ?_
      intro w690 b691 S
      have B := B.trans b691
      refine t_done' ?_
      refine x_seq ?_
      refine w_seq ?_
      refine w_seq ?_
      refine w_region ?_
      refine t_bxn S.box ab_path sb_path rfl rfl ?_ rfl
      refine t_bxn S.tail.tail.tail.tail.tail.tail.tail.tail.tail.tail.tail.tail.tail.tail.tail.tail.box ab_path sb_path rfl rfl ?_ rfl
      refine t_callx Try.call20 rfl (eqv_path _ _ _ _ (path_mkv (S.tail.sl)) (path_mkv (S.tail.tail.tail.tail.tail.tail.tail.tail.tail.tail.tail.tail.tail.tail.tail.tail.tail.sl)) (ok_path_big (by omega))) ?_ rfl rfl
      intro w692 x693
      have B := bx Hb B x693
      have S := S.below x693
      refine t_notb rfl ?_ rfl
      refine t_done ?_
      refine x_seq ?_
      refine w_no rfl ?_
      refine w_skip ?_
      refine x_seq ?_
      refine w_seq ?_
      refine w_region ?_
      refine t_assign rfl ?_ rfl
      refine t_done ?_
      refine x_seq ?_
      refine w_seq ?_
      refine w_region ?_
      refine t_bxn S.tail.tail.tail.tail.tail.tail.tail.tail.tail.tail.tail.tail.box ab_path sb_path rfl rfl ?_ rfl
      refine t_move rfl ?_ rfl
      refine t_callx Try.call29 rfl (held_path _ _ _ _ (S.tail.tail.tail.tail.tail.sl) (by omega) (by omega)) ?_ rfl rfl
      intro w694 x695
      have B := bx Hb B x695
      have S := S.below x695
      refine t_assign rfl ?_ rfl
      refine t_done ?_
      refine x_seq ?_
      refine w_seq ?_
      refine w_seq ?_
      refine w_region ?_
      refine t_move rfl ?_ rfl
      refine t_lss rfl rfl ?_ rfl
      refine t_done ?_
      refine x_seq ?_
      refine w_if rfl (fun h => (by exfalso; omega)) ?_
      intro hc116
      refine w_skip ?_
      refine x_seq ?_
      refine w_seq ?_
      refine w_seq ?_
      refine w_region ?_
      refine t_move rfl ?_ rfl
      refine t_move rfl ?_ rfl
      refine t_neq rfl rfl ?_ rfl
      refine t_done ?_
      refine x_seq ?_
      refine w_if rfl (fun h => absurd rfl h) ?_
      intro _
      refine w_skip ?_
      refine x_seq ?_
      refine w_seq ?_
      refine w_region ?_
      refine t_assign rfl ?_ rfl
      refine t_done ?_
      refine x_seq ?_
      refine w_ret ?_
      refine x_ret1 rfl rfl ?_
      exact ⟨rfl, ext_trans X0 B⟩

namespace fnExactJoinThree
open Go.ChangeShapes Go.WideShapes Go.ChangeAt

set_option maxRecDepth 100000 in
theorem lifted (os : Os) (started : os.Started) (H : Type) (enc : TypeId × Value → H) :
    ReturnsInHanded {} Try.checked os 10 .any (Rows.fnExactJoinThreeSpec.pre6 enc Try.prog Try.f10 Rows.fnExactJoinThreeRow.domain false) (Rows.fnExactJoinThreeSpec.post enc Try.prog Try.f10 false true false false) := by
  refine returnsInHanded_of_change (C := Try.checked) knob started (by kernel_rfl) Try.func10
    (ChangeSpec.witness6 (enc := enc) (C := Try.checked) false ⟨#[], #[.agg #[I 0, I 0, .slice none 0 0], .agg #[I 0, I 0, .slice none 0 0], .bool false, .agg #[I 0, I 0, .slice none 0 0]], []⟩ 8 (by kernel_rfl) (by kernel_rfl) (by kernel_rfl) (by kernel_rfl)) ?_
  intro W base args ds gs before hval0 hW hcnd _
  have hval : ∀ (j : Nat) t v, Try.f10.params[j]? = some t → args[j]? = some v → Value.okWide Try.prog W .any base t v := hval0
  have hW' := hW
  obtain ⟨p, q, hA0, hV, rfl, hfz, hnd⟩ := hW
  have hA : DataW.TrodAll enc Try.prog W 0 (fun _ => true) true Try.f10.params.toList args.toList ds p := hA0
  rw [Try.params10] at hA hval
  obtain ⟨v0, vs0, d0, ds0, p0, q0, hargs, rfl, rfl, h0, r0⟩ := trodAll_cons hA
  obtain ⟨v1, vs1, d1, ds1, p1, q1, rfl, rfl, rfl, h1, r1⟩ := trodAll_cons r0
  obtain ⟨v2, vs2, d2, ds2, p2, q2, rfl, rfl, rfl, h2, r2⟩ := trodAll_cons r1
  obtain ⟨v3, vs3, d3, ds3, p3, q3, rfl, rfl, rfl, h3, r3⟩ := trodAll_cons r2
  obtain ⟨rfl, rfl, rfl⟩ := trodAll_nil r3
  obtain rfl : args = #[v0, v1, v2, v3] := by cases args; simp_all
  obtain ⟨rfl, rfl⟩ := trodVars_none hV
  have k0 := h0
  have lt0 : ∀ x ∈ p0, x.block < W.heap.size := by obtain ⟨m, hm⟩ := k0; exact DataW.trod_lt m _ _ _ hm
  obtain ⟨cs0, x0, rfl, R0, L0, G0⟩ := open_seg (hval 0 62 v0 rfl rfl) h0
  have k1 := h1
  have lt1 : ∀ x ∈ p1, x.block < W.heap.size := by obtain ⟨m, hm⟩ := k1; exact DataW.trod_lt m _ _ _ hm
  obtain ⟨cs1, x1, rfl, R1, L1, G1⟩ := open_seg (hval 1 62 v1 rfl rfl) h1
  have k2 := h2
  have lt2 : ∀ x ∈ p2, x.block < W.heap.size := by obtain ⟨m, hm⟩ := k2; exact DataW.trod_lt m _ _ _ hm
  obtain ⟨x2, rfl⟩ := open_bl (hval 2 4 v2 rfl rfl) h2
  have k3 := h3
  have lt3 : ∀ x ∈ p3, x.block < W.heap.size := by obtain ⟨m, hm⟩ := k3; exact DataW.trod_lt m _ _ _ hm
  obtain ⟨cs3, x3, rfl, R3, L3, G3⟩ := open_seg (hval 3 62 v3 rfl rfl) h3
  clear hA0 hval0
  refine (lawJoinThree x0 _ x1 _ x2 x3 _ W R0 L0 G0 R1 L1 G1 R3 L3 G3).mono fun e W' ⟨he, bel⟩ => ?_
  subst he
  exact ⟨_, rfl, _, _, _, [], _, [], hW', trodAll_mk1 (shut_bool Try.underlying4 _), (trodAll_cons_mk (Below.trod laidOut (by kernel_rfl) (of_decide_eq_true (by kernel_rfl)) k0 bel lt0) (trodAll_cons_mk (Below.trod laidOut (by kernel_rfl) (of_decide_eq_true (by kernel_rfl)) k1 bel lt1) (trodAll_cons_mk (Below.trod laidOut (by kernel_rfl) (of_decide_eq_true (by kernel_rfl)) k2 bel lt2) (trodAll_cons_mk (Below.trod laidOut (by kernel_rfl) (of_decide_eq_true (by kernel_rfl)) k3 bel lt3) trodAll_mk0)))), rfl, bel.frame _, fun h => by cases h⟩

theorem over : Rows.fnExactJoinThreeRow.holds Try.pinned (OpenSpec.ofChange Rows.fnExactJoinThreeSpec) :=
  OpenClaim.holds_of_wide 10 Try.f10 rfl rfl rfl rfl rfl rfl rfl ⟨rfl, rfl, rfl, rfl, rfl⟩ rfl rfl rfl rfl rfl (by kernel_rfl) Try.func10 (by kernel_rfl)
    (of_decide_eq_true (by kernel_rfl)) (by unfold Func.isWrapper; first | (rw [if_pos (by decide +kernel)]; kernel_rfl) | (rw [if_neg (by decide +kernel)]; exact ⟨rfl, rfl⟩))
    (fun os started H enc _ => lifted os started H enc)

theorem proved : Rows.FnExactJoinThreeSaid := over
#print axioms proved
end fnExactJoinThree
end Go.Proofs.Ytaapaafagmbkoaa
