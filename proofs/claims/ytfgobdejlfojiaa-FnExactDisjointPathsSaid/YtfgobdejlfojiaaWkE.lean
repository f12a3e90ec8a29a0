/- BetterPath, of the program and of the reference. -/
import Derived.Test.YtfgobdejlfojiaaRun
import Derived.Test.YtfgobdejlfojiaaLengths
import Derived.Test.YtfgobdejlfojiaaPathExpiry
import Derived.Test.YtfgobdejlfojiaaPathInts
namespace Go.Proofs.Ytfgobdejlfojiaa
open Go.RowKit
set_option linter.unusedVariables false
set_option maxRecDepth 20000

theorem ret_bool' {a b : Bool} (h : b = a) : Ending.returned (.bool a) = .returned (.bool b) := by rw [h]

def better (a b : Path) : Bool := if ((pathSteps a).length : Int) ≠ (pathSteps b).length then decide (((pathSteps a).length : Int) < (pathSteps b).length)
  else if leastE (hopsOf a) ≠ leastE (hopsOf b) then decide (leastE (hopsOf b) < leastE (hopsOf a)) else decide (pathDigest a < pathDigest b)
theorem impl_BetterPath (a b : Path) (v u : Value) (w : World) (h : VA pathT w v a) (k : VA pathT w u b) (hz : sz_path a ≤ 1048576) (hl : lenOk_path a) (hg : rng_path a) (hz' : sz_path b ≤ 1048576) (hl' : lenOk_path b) (hg' : rng_path b) : Calls Try.prog 117 #[v, u] w fun e w' => e = .returned (.bool (better a b)) ∧ Below w.heap.size w w' := by
  have X0 := Below.refl w.heap.size w
  refine enter Try.func117 rfl Try.ntmps117 rfl ?_
  refine w_seq ?_
  refine w_region ?_
  refine t_boxr (by assumption) rfl ?_ rfl rfl
  intro p2 w1 x2 hp2
  replace h := h.below x2
  replace k := k.below x2
  have X0 := ext_trans X0 x2
  refine t_boxr (by assumption) rfl ?_ rfl rfl
  intro p3 w3 x4 hp3
  replace h := h.below x4
  replace k := k.below x4
  replace hp2 := hp2.below x4
  have X0 := ext_trans X0 x4
  have S := Sep.nil w3
  have B := Below.refl w3.heap.size w3
  have Hb := Nat.le_refl w3.heap.size
  refine t_assign rfl ?_ rfl
  refine t_done ?_
  refine x_seq ?_
  refine w_seq ?_
  refine w_seq ?_
  refine w_draw (.st .take 0 (.st .take 2 (.st .run 1 (.st .run 3 (.st .take 4 (.st .take 5 .done)))))) mixed (by kernel_rfl) ?_
  intro w5 x6
  have B := bx Hb B x6
  have S := S.below x6
  refine t_lda (by assumption) ab_path sb_path B rfl ?_ rfl
  intro v9 hv9
  obtain ⟨v9_0, rfl, hv9_0⟩ := path_va hv9
  refine t_lda (by assumption) ab_path sb_path B rfl ?_ rfl
  intro v11 hv11
  obtain ⟨v11_0, rfl, hv11_0⟩ := path_va hv11
  refine t_callx Try.call165 rfl (va1 (by first | assumption | exact VA.below (by assumption) B) fun cs h => impl_PathLength _ cs _ h (by omega) (by assumption) (by assumption)) ?_ rfl rfl
  intro w7 x8
  have B := bx Hb B x8
  have S := S.below x8
  refine t_callx Try.call165 rfl (va1 (by first | assumption | exact VA.below (by assumption) B) fun cs h => impl_PathLength _ cs _ h (by omega) (by assumption) (by assumption)) ?_ rfl rfl
  intro w9 x10
  have B := bx Hb B x10
  have S := S.below x10
  refine t_assign rfl ?_ rfl
  refine t_assign rfl ?_ rfl
  refine t_done' ?_
  refine x_seq ?_
  refine w_seq ?_
  refine w_region ?_
  refine t_move rfl ?_ rfl
  refine t_move rfl ?_ rfl
  refine t_neq rfl rfl ?_ rfl
  refine t_done ?_
  refine x_seq ?_
  refine w_if rfl ?_ ?_
  · intro h1
    refine w_seq ?_
    refine w_region ?_
    refine t_move rfl ?_ rfl
    refine t_move rfl ?_ rfl
    refine t_lss rfl rfl ?_ rfl
    refine t_assign rfl ?_ rfl
    refine t_done ?_
    refine x_seq ?_
    refine w_ret ?_
    refine x_then_ret ?_
    refine x_ret1 rfl rfl ?_
    exact ⟨ret_bool' (by rw [better, if_pos h1]), ext_trans X0 B⟩
  · intro h1
    refine w_skip ?_
    refine x_seq ?_
    refine w_seq ?_
    refine w_seq ?_
    refine w_draw (.st .take 0 (.st .take 2 (.st .run 1 (.st .run 3 (.st .take 4 (.st .take 5 .done)))))) mixed (by kernel_rfl) ?_
    intro w11 x12
    have B := bx Hb B x12
    have S := S.below x12
    refine t_lda (by assumption) ab_path sb_path B rfl ?_ rfl
    intro v19 hv19
    obtain ⟨v19_0, rfl, hv19_0⟩ := path_va hv19
    refine t_lda (by assumption) ab_path sb_path B rfl ?_ rfl
    intro v21 hv21
    obtain ⟨v21_0, rfl, hv21_0⟩ := path_va hv21
    refine t_callx Try.call166 rfl (va1 (by first | assumption | exact VA.below (by assumption) B) fun cs h => impl_PathExpiry _ cs _ h (by omega) (by assumption) (by assumption)) ?_ rfl rfl
    intro w13 x14
    have B := bx Hb B x14
    have S := S.below x14
    refine t_callx Try.call166 rfl (va1 (by first | assumption | exact VA.below (by assumption) B) fun cs h => impl_PathExpiry _ cs _ h (by omega) (by assumption) (by assumption)) ?_ rfl rfl
    intro w15 x16
    have B := bx Hb B x16
    have S := S.below x16
    refine t_assign rfl ?_ rfl
    refine t_assign rfl ?_ rfl
    refine t_done' ?_
    refine x_seq ?_
    refine w_seq ?_
    refine w_region ?_
    refine t_move rfl ?_ rfl
    refine t_move rfl ?_ rfl
    refine t_neq rfl rfl ?_ rfl
    refine t_done ?_
    refine x_seq ?_
    refine w_if rfl ?_ ?_
    · intro h2
      refine w_seq ?_
      refine w_region ?_
      refine t_move rfl ?_ rfl
      refine t_move rfl ?_ rfl
      refine t_gtr rfl rfl ?_ rfl
      refine t_assign rfl ?_ rfl
      refine t_done ?_
      refine x_seq ?_
      refine w_ret ?_
      refine x_then_ret ?_
      refine x_ret1 rfl rfl ?_
      exact ⟨ret_bool' (by rw [better, if_neg h1, if_pos h2]), ext_trans X0 B⟩
    · intro h2
      refine w_skip ?_
      refine x_seq ?_
      refine w_seq ?_
      refine w_draw (.st .take 0 (.st .take 2 (.st .run 1 (.st .run 3 (.st .take 4 (.st .take 5 .done)))))) mixed (by kernel_rfl) ?_
      intro w17 x18
      have B := bx Hb B x18
      have S := S.below x18
      refine t_lda (by assumption) ab_path sb_path B rfl ?_ rfl
      intro v29 hv29
      obtain ⟨v29_0, rfl, hv29_0⟩ := path_va hv29
      refine t_lda (by assumption) ab_path sb_path B rfl ?_ rfl
      intro v31 hv31
      obtain ⟨v31_0, rfl, hv31_0⟩ := path_va hv31
      refine t_callx Try.call167 rfl (va1 (by first | assumption | exact VA.below (by assumption) B) fun cs h => impl_PathDigest _ cs _ h (by omega) (by assumption) (by assumption)) ?_ rfl rfl
      intro w19 x20
      have B := bx Hb B x20
      have S := S.below x20
      refine t_callx Try.call167 rfl (va1 (by first | assumption | exact VA.below (by assumption) B) fun cs h => impl_PathDigest _ cs _ h (by omega) (by assumption) (by assumption)) ?_ rfl rfl
      intro w21 x22
      have B := bx Hb B x22
      have S := S.below x22
      refine t_lss rfl rfl ?_ rfl
      refine t_assign rfl ?_ rfl
      refine t_done' ?_
      refine x_seq ?_
      refine w_ret ?_
      refine x_ret1 rfl rfl ?_
      exact ⟨ret_bool' (by rw [better, if_neg h1, if_neg h2]), ext_trans X0 B⟩
theorem spec_BetterPath (a b : Path) (v u : Value) (w : World) (h : VA pathT w v a) (k : VA pathT w u b) (hz : sz_path a ≤ 1048576) (hl : lenOk_path a) (hg : rng_path a) (hz' : sz_path b ≤ 1048576) (hl' : lenOk_path b) (hg' : rng_path b) : Calls Try.prog 116 #[v, u] w fun e w' => e = .returned (.bool (better a b)) ∧ Below w.heap.size w w' := by
  have X0 := Below.refl w.heap.size w
  refine enter Try.func116 rfl Try.ntmps116 rfl ?_
  refine w_seq ?_
  refine w_region ?_
  refine t_boxr (by assumption) rfl ?_ rfl rfl
  intro p2 w23 x24 hp2
  replace h := h.below x24
  replace k := k.below x24
  have X0 := ext_trans X0 x24
  refine t_boxr (by assumption) rfl ?_ rfl rfl
  intro p3 w25 x26 hp3
  replace h := h.below x26
  replace k := k.below x26
  replace hp2 := hp2.below x26
  have X0 := ext_trans X0 x26
  have S := Sep.nil w25
  have B := Below.refl w25.heap.size w25
  have Hb := Nat.le_refl w25.heap.size
  refine t_assign rfl ?_ rfl
  refine t_done ?_
  refine x_seq ?_
  refine w_seq ?_
  refine w_block ?_
  refine w_seq ?_
  refine w_draw (.st .take 0 (.st .take 2 (.st .run 1 (.st .run 3 (.st .take 4 (.st .take 5 .done)))))) mixed (by kernel_rfl) ?_
  intro w27 x28
  have B := bx Hb B x28
  have S := S.below x28
  refine t_lda (by assumption) ab_path sb_path B rfl ?_ rfl
  intro v6 hv6
  obtain ⟨v6_0, rfl, hv6_0⟩ := path_va hv6
  refine t_lda (by assumption) ab_path sb_path B rfl ?_ rfl
  intro v8 hv8
  obtain ⟨v8_0, rfl, hv8_0⟩ := path_va hv8
  refine t_callx Try.call162 rfl (va1 (by first | assumption | exact VA.below (by assumption) B) fun cs h => spec_PathLength _ cs _ h (by omega) (by assumption) (by assumption)) ?_ rfl rfl
  intro w29 x30
  have B := bx Hb B x30
  have S := S.below x30
  refine t_callx Try.call162 rfl (va1 (by first | assumption | exact VA.below (by assumption) B) fun cs h => spec_PathLength _ cs _ h (by omega) (by assumption) (by assumption)) ?_ rfl rfl
  intro w31 x32
  have B := bx Hb B x32
  have S := S.below x32
  refine t_neq rfl rfl ?_ rfl
  refine t_assign rfl ?_ rfl
  refine t_done' ?_
  refine x_seq ?_
  refine w_if rfl ?_ ?_
  · intro h1
    refine w_seq ?_
    refine w_draw (.st .take 0 (.st .take 2 (.st .run 1 (.st .run 3 (.st .take 4 (.st .take 5 .done)))))) mixed (by kernel_rfl) ?_
    intro w33 x34
    have B := bx Hb B x34
    have S := S.below x34
    refine t_lda (by assumption) ab_path sb_path B rfl ?_ rfl
    intro v11 hv11
    obtain ⟨v11_0, rfl, hv11_0⟩ := path_va hv11
    refine t_lda (by assumption) ab_path sb_path B rfl ?_ rfl
    intro v13 hv13
    obtain ⟨v13_0, rfl, hv13_0⟩ := path_va hv13
    refine t_callx Try.call162 rfl (va1 (by first | assumption | exact VA.below (by assumption) B) fun cs h => spec_PathLength _ cs _ h (by omega) (by assumption) (by assumption)) ?_ rfl rfl
    intro w35 x36
    have B := bx Hb B x36
    have S := S.below x36
    refine t_callx Try.call162 rfl (va1 (by first | assumption | exact VA.below (by assumption) B) fun cs h => spec_PathLength _ cs _ h (by omega) (by assumption) (by assumption)) ?_ rfl rfl
    intro w37 x38
    have B := bx Hb B x38
    have S := S.below x38
    refine t_lss rfl rfl ?_ rfl
    refine t_assign rfl ?_ rfl
    refine t_done' ?_
    refine x_seq ?_
    refine w_ret ?_
    refine x_block_ret ?_
    refine x_then_ret ?_
    refine x_ret1 rfl rfl ?_
    exact ⟨ret_bool' (by rw [better, if_pos h1]), ext_trans X0 B⟩
  · intro h1
    refine w_seq ?_
    refine w_draw (.st .take 0 (.st .take 2 (.st .run 1 (.st .run 3 (.st .take 4 (.st .take 5 .done)))))) mixed (by kernel_rfl) ?_
    intro w39 x40
    have B := bx Hb B x40
    have S := S.below x40
    refine t_lda (by assumption) ab_path sb_path B rfl ?_ rfl
    intro v17 hv17
    obtain ⟨v17_0, rfl, hv17_0⟩ := path_va hv17
    refine t_lda (by assumption) ab_path sb_path B rfl ?_ rfl
    intro v19 hv19
    obtain ⟨v19_0, rfl, hv19_0⟩ := path_va hv19
    refine t_callx Try.call163 rfl (va1 (by first | assumption | exact VA.below (by assumption) B) fun cs h => spec_PathExpiry _ cs _ h (by omega) (by assumption) (by assumption)) ?_ rfl rfl
    intro w41 x42
    have B := bx Hb B x42
    have S := S.below x42
    refine t_callx Try.call163 rfl (va1 (by first | assumption | exact VA.below (by assumption) B) fun cs h => spec_PathExpiry _ cs _ h (by omega) (by assumption) (by assumption)) ?_ rfl rfl
    intro w43 x44
    have B := bx Hb B x44
    have S := S.below x44
    refine t_neq rfl rfl ?_ rfl
    refine t_assign rfl ?_ rfl
    refine t_done' ?_
    refine x_seq ?_
    refine w_if rfl ?_ ?_
    · intro h2
      refine w_seq ?_
      refine w_draw (.st .take 0 (.st .take 2 (.st .run 1 (.st .run 3 (.st .take 4 (.st .take 5 .done)))))) mixed (by kernel_rfl) ?_
      intro w45 x46
      have B := bx Hb B x46
      have S := S.below x46
      refine t_lda (by assumption) ab_path sb_path B rfl ?_ rfl
      intro v22 hv22
      obtain ⟨v22_0, rfl, hv22_0⟩ := path_va hv22
      refine t_lda (by assumption) ab_path sb_path B rfl ?_ rfl
      intro v24 hv24
      obtain ⟨v24_0, rfl, hv24_0⟩ := path_va hv24
      refine t_callx Try.call163 rfl (va1 (by first | assumption | exact VA.below (by assumption) B) fun cs h => spec_PathExpiry _ cs _ h (by omega) (by assumption) (by assumption)) ?_ rfl rfl
      intro w47 x48
      have B := bx Hb B x48
      have S := S.below x48
      refine t_callx Try.call163 rfl (va1 (by first | assumption | exact VA.below (by assumption) B) fun cs h => spec_PathExpiry _ cs _ h (by omega) (by assumption) (by assumption)) ?_ rfl rfl
      intro w49 x50
      have B := bx Hb B x50
      have S := S.below x50
      refine t_gtr rfl rfl ?_ rfl
      refine t_assign rfl ?_ rfl
      refine t_done' ?_
      refine x_seq ?_
      refine w_ret ?_
      refine x_block_ret ?_
      refine x_then_ret ?_
      refine x_ret1 rfl rfl ?_
      exact ⟨ret_bool' (by rw [better, if_neg h1, if_pos h2]), ext_trans X0 B⟩
    · intro h2
      refine w_skip ?_
      refine x_block_normal ?_
      refine x_seq ?_
      refine w_seq ?_
      refine w_draw (.st .take 0 (.st .take 2 (.st .run 1 (.st .run 3 (.st .take 4 (.st .take 5 .done)))))) mixed (by kernel_rfl) ?_
      intro w51 x52
      have B := bx Hb B x52
      have S := S.below x52
      refine t_lda (by assumption) ab_path sb_path B rfl ?_ rfl
      intro v27 hv27
      obtain ⟨v27_0, rfl, hv27_0⟩ := path_va hv27
      refine t_lda (by assumption) ab_path sb_path B rfl ?_ rfl
      intro v29 hv29
      obtain ⟨v29_0, rfl, hv29_0⟩ := path_va hv29
      refine t_callx Try.call164 rfl (va1 (by first | assumption | exact VA.below (by assumption) B) fun cs h => spec_PathDigest _ cs _ h (by omega) (by assumption) (by assumption)) ?_ rfl rfl
      intro w53 x54
      have B := bx Hb B x54
      have S := S.below x54
      refine t_callx Try.call164 rfl (va1 (by first | assumption | exact VA.below (by assumption) B) fun cs h => spec_PathDigest _ cs _ h (by omega) (by assumption) (by assumption)) ?_ rfl rfl
      intro w55 x56
      have B := bx Hb B x56
      have S := S.below x56
      refine t_lss rfl rfl ?_ rfl
      refine t_assign rfl ?_ rfl
      refine t_done' ?_
      refine x_seq ?_
      refine w_ret ?_
      refine x_ret1 rfl rfl ?_
      exact ⟨ret_bool' (by rw [better, if_neg h1, if_neg h2]), ext_trans X0 B⟩
end Go.Proofs.Ytfgobdejlfojiaa
