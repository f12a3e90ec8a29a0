/- laws.FnPasses returns true, for all arguments: the walk of the law out of contracts of the draws and of what it calls, and the row. No condition. (The row: printed by law3.py.) -/
import Derived.Test.YtdaecknfahgddaaSLawFnPasses7
namespace Go.Proofs.Ytdaecknfahgddaa
open Go.RowKit
set_option linter.unusedVariables false
set_option maxRecDepth 20000
theorem laws_big (l : List UInt8) (v : Value) (w : World) (h : SlR byteT w v l) : Calls Try.prog 6 #[v] w fun e w' => e = .returned (.bool (decide ((1048576 : Int) < (l.length : Int)))) ∧ w = w' := by
  have X0 := Below.refl w.heap.size w
  refine enter Try.func6 rfl Try.ntmps6 rfl ?_
  refine w_seq ?_
  refine w_region ?_
  have S := Sep.nil w
  have B := Below.refl w.heap.size w
  have Hb := Nat.le_refl w.heap.size
  refine t_assign rfl ?_ rfl
  refine t_done ?_
  refine x_seq ?_
  refine w_seq ?_
  refine w_region ?_
  refine t_move rfl ?_ rfl
  refine t_len e_byte (by assumption) rfl rfl ?_ rfl
  refine t_gtr rfl rfl ?_ rfl
  refine t_assign rfl ?_ rfl
  refine t_done ?_
  refine x_seq ?_
  refine w_ret ?_
  refine x_ret1 rfl rfl ?_
  exact ⟨rfl, rfl⟩
theorem noUp {a : Int} : ¬ (((a = 3 ∨ a = 1) ∧ transit a 3 = true) ∨ (a = 3 ∧ transit a 1 = true) ∨ transit a 4 = true ∨ transit a 0 = true) := by
  rintro (⟨rfl | rfl, h⟩ | ⟨rfl, h⟩ | h | h)
  · exact absurd h (by decide)
  · exact absurd h (by decide)
  · exact absurd h (by decide)
  all_goals
    rcases kinds a with rfl | rfl | rfl | rfl | ⟨h1, h2, h3, h4⟩
    · exact absurd h (by decide)
    · exact absurd h (by decide)
    · exact absurd h (by decide)
    · exact absurd h (by decide)
    · simp only [beq_eq_false_iff_ne, ne_eq] at h1 h2 h3 h4
      simp [transit, h1, h2, h3, h4] at h
theorem cnt3 (t : Topo) (l : List Stp) : cntK t 3 l + cntK t 2 l + cntK t 1 l ≤ l.length := by
  unfold cntK
  induction l with
  | nil => simp
  | cons a l ih =>
    simp only [List.filter_cons, List.length_cons]
    by_cases h1 : ifKind t a.ia a.eg = 3
    · simp [h1]; omega
    · by_cases h2 : ifKind t a.ia a.eg = 2
      · simp [h2]; omega
      · by_cases h3 : ifKind t a.ia a.eg = 1
        · simp [h3]; omega
        · simp [h1, h2, h3]; omega
set_option maxHeartbeats 4000000 in
theorem lawFnPasses (d0 : List UInt8) (v0 : Value) (w : World) (f0 : SlR byteT w v0 d0) (l0 : d0.length ≤ 9223372036854775807) :
    Calls Try.prog 4 #[v0] w fun r w' => r = .returned (.bool true) ∧ Below w.heap.size w w' := by
  have X0 := Below.refl w.heap.size w
  refine enter Try.func4 rfl Try.ntmps4 rfl ?_
  refine w_seq ?_
  refine w_region ?_
  have S := Sep.nil w
  have B := Below.refl w.heap.size w
  have Hb := Nat.le_refl w.heap.size
  refine t_assign rfl ?_ rfl
  refine t_done ?_
  refine x_seq ?_
  refine w_seq ?_
  refine w_seq ?_
  refine w_region ?_
  refine t_move rfl ?_ rfl
  refine t_calls Try.call6 rfl (laws_big _ _ _ (by first | assumption | exact SlR.below (by assumption) B)) ?_ rfl rfl
  refine t_done ?_
  refine x_seq ?_
  refine w_if rfl ?_ ?_
  · intro hb
    refine w_seq ?_
    refine w_region ?_
    refine t_assign rfl ?_ rfl
    refine t_done ?_
    refine x_seq ?_
    refine w_ret ?_
    refine x_then_ret ?_
    refine x_ret1 rfl rfl ?_
    exact ⟨rfl, ext_trans X0 B⟩
  · intro hb
    refine w_skip ?_
    refine x_seq ?_
    refine w_seq ?_
    refine w_region ?_
    refine t_move rfl ?_ rfl
    refine t_call Try.call14 rfl (spec_DrawTransitAllowed _ _ _ (by first | assumption | exact SlR.below (by assumption) B) (by omega)) ?_ rfl rfl
    rintro e w1 ⟨y13, z13, rfl, hf13, x2⟩
    refine ⟨_, rfl, x2, ?_⟩
    have B := bx Hb B x2
    have S := S.below x2
    refine t_move rfl ?_ rfl
    refine t_extract rfl rfl ?_ rfl
    refine t_extract rfl rfl ?_ rfl
    refine t_assign rfl ?_ rfl
    refine t_assign rfl ?_ rfl
    refine t_done ?_
    refine x_seq ?_
    refine w_seq ?_
    refine w_region ?_
    refine t_move rfl ?_ rfl
    refine t_call Try.call15 rfl (spec_DrawStepAllowed _ _ _ (by first | assumption | exact SlR.below (by assumption) B) (by omega)) ?_ rfl rfl
    rintro e w3 ⟨va18, vl18, A18, L18, s18, rfl, hf18, S9, x4⟩
    refine ⟨_, rfl, x4, ?_⟩
    have S := S.join2 x4 S9
    clear S9
    have B := bx Hb B x4
    refine t_move rfl ?_ rfl
    refine t_extract rfl rfl ?_ rfl
    refine t_extract rfl rfl ?_ rfl
    refine t_alloc S z_topo rfl ?_ rfl rfl
    intro g5 w5 x6 S
    have B := bx Hb B x6
    refine t_alloc S z_step rfl ?_ rfl rfl
    intro g6 w7 x8 S
    have B := bx Hb B x8
    have S := S.f1
    refine t_stn S sb_topo rfl rfl rfl rfl (by intro zz hu; have hu : zz ∈ ([va18, vl18] : List Value) := hu; simp only [List.mem_cons, List.not_mem_nil, or_false] at hu; rcases hu with rfl | rfl <;> first | rfl | exact (SlR.cells (by first | assumption | exact S.tail.sl | exact S.tail.tail.sl | exact S.tail.tail.tail.sl | exact S.tail.tail.tail.tail.sl | exact S.tail.tail.tail.tail.tail.sl | exact S.tail.tail.tail.tail.tail.tail.sl | exact S.tail.tail.tail.tail.tail.tail.tail.sl | exact S.tail.tail.tail.tail.tail.tail.tail.tail.sl | exact S.tail.tail.tail.tail.tail.tail.tail.tail.tail.sl | exact S.tail.tail.tail.tail.tail.tail.tail.tail.tail.tail.sl | exact S.tail.tail.tail.tail.tail.tail.tail.tail.tail.tail.tail.sl | exact S.tail.tail.tail.tail.tail.tail.tail.tail.tail.tail.tail.tail.sl | exact S.tail.tail.tail.tail.tail.tail.tail.tail.tail.tail.tail.tail.tail.sl)).2) ?_
    intro w9 b10 S
    have B := B.trans b10
    have S := S.f1
    refine t_stn S sb_step rfl rfl rfl rfl (by simp [Value.oneCell']) ?_
    intro w11 b12 S
    have B := B.trans b12
    refine t_done ?_
    refine x_seq ?_
    refine w_seq ?_
    refine w_region ?_
    refine t_move rfl ?_ rfl
    refine t_call Try.call16 rfl (spec_DrawPathAllowed _ _ _ (by first | assumption | exact SlR.below (by assumption) B) (by omega)) ?_ rfl rfl
    rintro e w13 ⟨va23, vl23, vp23, A23, L23, p23, rfl, hf23, S9, x14⟩
    refine ⟨_, rfl, x14, ?_⟩
    have S := S.join2 x14 S9
    clear S9
    have B := bx Hb B x14
    refine t_move rfl ?_ rfl
    refine t_extract rfl rfl ?_ rfl
    refine t_extract rfl rfl ?_ rfl
    refine t_alloc S z_topo rfl ?_ rfl rfl
    intro g7 w15 x16 S
    have B := bx Hb B x16
    refine t_alloc S z_path rfl ?_ rfl rfl
    intro g8 w17 x18 S
    have B := bx Hb B x18
    have S := S.f1
    refine t_stn S sb_topo rfl rfl rfl rfl (by intro zz hu; have hu : zz ∈ ([va23, vl23] : List Value) := hu; simp only [List.mem_cons, List.not_mem_nil, or_false] at hu; rcases hu with rfl | rfl <;> first | rfl | exact (SlR.cells (by first | assumption | exact S.tail.sl | exact S.tail.tail.sl | exact S.tail.tail.tail.sl | exact S.tail.tail.tail.tail.sl | exact S.tail.tail.tail.tail.tail.sl | exact S.tail.tail.tail.tail.tail.tail.sl | exact S.tail.tail.tail.tail.tail.tail.tail.sl | exact S.tail.tail.tail.tail.tail.tail.tail.tail.sl | exact S.tail.tail.tail.tail.tail.tail.tail.tail.tail.sl | exact S.tail.tail.tail.tail.tail.tail.tail.tail.tail.tail.sl | exact S.tail.tail.tail.tail.tail.tail.tail.tail.tail.tail.tail.sl | exact S.tail.tail.tail.tail.tail.tail.tail.tail.tail.tail.tail.tail.sl | exact S.tail.tail.tail.tail.tail.tail.tail.tail.tail.tail.tail.tail.tail.sl)).2) ?_
    intro w19 b20 S
    have B := B.trans b20
    have S := S.f1
    refine t_stn S sb_path rfl rfl rfl rfl (by intro zz hu; have hu : zz ∈ ([vp23] : List Value) := hu; simp only [List.mem_cons, List.not_mem_nil, or_false] at hu; rcases hu with rfl <;> first | rfl | exact (SlR.cells (by first | assumption | exact S.tail.sl | exact S.tail.tail.sl | exact S.tail.tail.tail.sl | exact S.tail.tail.tail.tail.sl | exact S.tail.tail.tail.tail.tail.sl | exact S.tail.tail.tail.tail.tail.tail.sl | exact S.tail.tail.tail.tail.tail.tail.tail.sl | exact S.tail.tail.tail.tail.tail.tail.tail.tail.sl | exact S.tail.tail.tail.tail.tail.tail.tail.tail.tail.sl | exact S.tail.tail.tail.tail.tail.tail.tail.tail.tail.tail.sl | exact S.tail.tail.tail.tail.tail.tail.tail.tail.tail.tail.tail.sl | exact S.tail.tail.tail.tail.tail.tail.tail.tail.tail.tail.tail.tail.sl | exact S.tail.tail.tail.tail.tail.tail.tail.tail.tail.tail.tail.tail.tail.sl | exact S.tail.rd | exact S.tail.tail.rd | exact S.tail.tail.tail.rd | exact S.tail.tail.tail.tail.rd | exact S.tail.tail.tail.tail.tail.rd | exact S.tail.tail.tail.tail.tail.tail.rd | exact S.tail.tail.tail.tail.tail.tail.tail.rd | exact S.tail.tail.tail.tail.tail.tail.tail.tail.rd | exact S.tail.tail.tail.tail.tail.tail.tail.tail.tail.rd | exact S.tail.tail.tail.tail.tail.tail.tail.tail.tail.tail.rd | exact S.tail.tail.tail.tail.tail.tail.tail.tail.tail.tail.tail.rd | exact S.tail.tail.tail.tail.tail.tail.tail.tail.tail.tail.tail.tail.rd | exact S.tail.tail.tail.tail.tail.tail.tail.tail.tail.tail.tail.tail.tail.rd)).2) ?_
    intro w21 b22 S
    have B := B.trans b22
    refine t_done ?_
    refine x_seq ?_
    refine w_seq ?_
    obtain ⟨T, hP⟩ := hf23
    have hA := T.1.2.1
    have hL := T.len
    have hst : sz_topo (⟨A23, L23⟩ : Topo) ≤ 1048576 := by simp only [sz_topo]; omega
    have hst2 : sz_topo (⟨A18, L18⟩ : Topo) ≤ 1048576 := by simp only [sz_topo]; omega
    have hsz := hP.sz
    have hrg := hP.rng
    have hln := hP.lenOk
    have hpl := pathSteps_len p23
    have hc3 := cnt3 ⟨A23, L23⟩ (pathSteps p23)
    have hno := noUp (a := y13)
    refine w_seq ?_
    refine w_draw (.st .take 0 (.st .take 1 (.st .take 3 (.st .take 4 (.st .run 2 (.st .run 5 (.st .take 6 (.st .take 7 (.st .take 8 (.st .take 9 (.st .take 11 (.st .take 12 (.st .run 10 (.st .run 13 (.st .take 14 (.st .take 15 (.st .take 16 (.st .take 17 (.st .take 18 (.st .take 20 (.st .take 21 (.st .run 19 (.st .run 22 (.st .take 23 (.st .take 24 (.st .take 25 (.st .take 26 (.st .take 27 (.st .take 29 (.st .take 30 (.st .run 28 (.st .run 31 (.st .take 32 (.st .take 33 (.st .take 34 (.st .take 35 (.st .take 36 (.st .take 38 (.st .take 39 (.st .run 37 (.st .run 40 (.st .take 41 (.st .take 42 (.st .take 43 (.st .take 44 (.st .take 45 (.st .take 47 (.st .take 48 (.st .run 46 (.st .run 49 (.st .take 50 (.st .take 51 (.st .take 52 (.st .take 53 (.st .take 54 (.st .take 56 (.st .take 57 (.st .run 55 (.st .run 58 (.st .take 59 (.st .take 60 .done))))))))))))))))))))))))))))))))))))))))))))))))))))))))))))) mixed (by kernel_rfl) ?_
    intro w23 x24
    have B := bx Hb B x24
    have S := S.below x24
    refine t_move rfl ?_ rfl
    refine t_move rfl ?_ rfl
    refine t_move rfl ?_ rfl
    refine t_move rfl ?_ rfl
    refine t_calls Try.call17 rfl (impl_transit _ _ _) ?_ rfl rfl
    refine t_calls Try.call18 rfl (spec_transit _ _ _) ?_ rfl rfl
    refine t_neqb Try.underlying4 rfl rfl ?_ rfl
    refine t_move rfl ?_ rfl
    refine t_partp (t := 33) rfl (fun h => absurd rfl h) ?_
    intro _
    refine t_on rfl rfl ?_
    refine t_bxn S.tail.tail.tail.tail.tail.tail.box ab_topo sb_topo rfl rfl ?_ rfl
    refine t_on rfl rfl ?_
    refine t_bxn S.tail.tail.tail.tail.tail.box ab_step sb_step rfl rfl ?_ rfl
    refine t_on rfl rfl ?_
    refine t_bxn S.tail.tail.tail.tail.tail.tail.box ab_topo sb_topo rfl rfl ?_ rfl
    refine t_on rfl rfl ?_
    refine t_bxn S.tail.tail.tail.tail.tail.box ab_step sb_step rfl rfl ?_ rfl
    refine t_on rfl rfl ?_
    refine t_callx Try.call19 rfl (impl_StepOkE (⟨A18, L18⟩ : Topo) _ s18 _ (topo_mkv (S.tail.tail.tail.tail.tail.tail.tail.sl) (S.tail.tail.tail.tail.tail.tail.tail.tail.sl)) (by assumption)) ?_ rfl rfl
    intro w25 x26
    have B := bx Hb B x26
    have S := S.below x26
    refine t_on rfl rfl ?_
    refine t_callx Try.call20 rfl (spec_StepOkE (⟨A18, L18⟩ : Topo) _ s18 _ (topo_mkv (S.tail.tail.tail.tail.tail.tail.tail.sl) (S.tail.tail.tail.tail.tail.tail.tail.tail.sl)) (by assumption)) ?_ rfl rfl
    intro w27 x28
    have B := bx Hb B x28
    have S := S.below x28
    refine t_on rfl rfl ?_
    refine t_neqb Try.underlying4 rfl rfl ?_ rfl
    refine t_pickf rfl rfl ?_ rfl
    refine t_move rfl ?_ rfl
    refine t_partp (t := 42) rfl (fun h => absurd rfl h) ?_
    intro _
    refine t_on rfl rfl ?_
    refine t_bxn S.tail.box ab_topo sb_topo rfl rfl ?_ rfl
    refine t_on rfl rfl ?_
    refine t_bxn S.box ab_path sb_path rfl rfl ?_ rfl
    refine t_on rfl rfl ?_
    refine t_bxn S.tail.box ab_topo sb_topo rfl rfl ?_ rfl
    refine t_on rfl rfl ?_
    refine t_bxn S.box ab_path sb_path rfl rfl ?_ rfl
    refine t_on rfl rfl ?_
    refine t_callx Try.call21 rfl (impl_PathAllowed (⟨A23, L23⟩ : Topo) _ p23 _ _ (topo_mkv (S.tail.tail.tail.sl) (S.tail.tail.tail.tail.sl)) (path_mkv (S.tail.tail.rd)) (by assumption) (by omega) (by assumption) (by assumption)) ?_ rfl rfl
    intro w29 x30
    have B := bx Hb B x30
    have S := S.below x30
    refine t_on rfl rfl ?_
    refine t_callx Try.call22 rfl (spec_PathAllowed (⟨A23, L23⟩ : Topo) _ p23 _ _ (topo_mkv (S.tail.tail.tail.sl) (S.tail.tail.tail.tail.sl)) (path_mkv (S.tail.tail.rd)) (by assumption) (by omega) (by assumption) (by assumption)) ?_ rfl rfl
    intro w31 x32
    have B := bx Hb B x32
    have S := S.below x32
    refine t_on rfl rfl ?_
    refine t_neqb Try.underlying4 rfl rfl ?_ rfl
    refine t_pickf rfl rfl ?_ rfl
    refine t_move rfl ?_ rfl
    refine t_partp (t := 51) rfl (fun h => absurd rfl h) ?_
    intro _
    refine t_on rfl rfl ?_
    refine t_bxn S.tail.box ab_topo sb_topo rfl rfl ?_ rfl
    refine t_on rfl rfl ?_
    refine t_bxn S.box ab_path sb_path rfl rfl ?_ rfl
    refine t_on rfl rfl ?_
    refine t_bxn S.tail.box ab_topo sb_topo rfl rfl ?_ rfl
    refine t_on rfl rfl ?_
    refine t_bxn S.box ab_path sb_path rfl rfl ?_ rfl
    refine t_on rfl rfl ?_
    refine t_callx Try.call23 rfl (impl_FirstForbiddenStep (⟨A23, L23⟩ : Topo) _ p23 _ _ (topo_mkv (S.tail.tail.tail.sl) (S.tail.tail.tail.tail.sl)) (path_mkv (S.tail.tail.rd)) (by assumption) (by omega) (by assumption) (by assumption)) ?_ rfl rfl
    intro w33 x34
    have B := bx Hb B x34
    have S := S.below x34
    refine t_on rfl rfl ?_
    refine t_callx Try.call24 rfl (spec_FirstForbiddenStep (⟨A23, L23⟩ : Topo) _ p23 _ _ (topo_mkv (S.tail.tail.tail.sl) (S.tail.tail.tail.tail.sl)) (path_mkv (S.tail.tail.rd)) (by assumption) (by omega) (by assumption) (by assumption)) ?_ rfl rfl
    intro w35 x36
    have B := bx Hb B x36
    have S := S.below x36
    refine t_on rfl rfl ?_
    refine t_neq rfl rfl ?_ rfl
    refine t_pickf rfl rfl ?_ rfl
    refine t_move rfl ?_ rfl
    refine t_partp (t := 60) rfl (fun h => absurd rfl h) ?_
    intro _
    refine t_on rfl rfl ?_
    refine t_bxn S.tail.box ab_topo sb_topo rfl rfl ?_ rfl
    refine t_on rfl rfl ?_
    refine t_bxn S.box ab_path sb_path rfl rfl ?_ rfl
    refine t_on rfl rfl ?_
    refine t_bxn S.tail.box ab_topo sb_topo rfl rfl ?_ rfl
    refine t_on rfl rfl ?_
    refine t_bxn S.box ab_path sb_path rfl rfl ?_ rfl
    refine t_on rfl rfl ?_
    refine t_callx Try.call25 rfl (impl_UpSteps (⟨A23, L23⟩ : Topo) _ p23 _ _ (topo_mkv (S.tail.tail.tail.sl) (S.tail.tail.tail.tail.sl)) (path_mkv (S.tail.tail.rd)) (by assumption) (by omega) (by assumption) (by assumption)) ?_ rfl rfl
    intro w37 x38
    have B := bx Hb B x38
    have S := S.below x38
    refine t_on rfl rfl ?_
    refine t_callx Try.call26 rfl (spec_UpSteps (⟨A23, L23⟩ : Topo) _ p23 _ _ (topo_mkv (S.tail.tail.tail.sl) (S.tail.tail.tail.tail.sl)) (path_mkv (S.tail.tail.rd)) (by assumption) (by omega) (by assumption) (by assumption)) ?_ rfl rfl
    intro w39 x40
    have B := bx Hb B x40
    have S := S.below x40
    refine t_on rfl rfl ?_
    refine t_neq rfl rfl ?_ rfl
    refine t_pickf rfl rfl ?_ rfl
    refine t_move rfl ?_ rfl
    refine t_partp (t := 69) rfl (fun h => absurd rfl h) ?_
    intro _
    refine t_on rfl rfl ?_
    refine t_bxn S.tail.box ab_topo sb_topo rfl rfl ?_ rfl
    refine t_on rfl rfl ?_
    refine t_bxn S.box ab_path sb_path rfl rfl ?_ rfl
    refine t_on rfl rfl ?_
    refine t_bxn S.tail.box ab_topo sb_topo rfl rfl ?_ rfl
    refine t_on rfl rfl ?_
    refine t_bxn S.box ab_path sb_path rfl rfl ?_ rfl
    refine t_on rfl rfl ?_
    refine t_callx Try.call27 rfl (impl_DownSteps (⟨A23, L23⟩ : Topo) _ p23 _ _ (topo_mkv (S.tail.tail.tail.sl) (S.tail.tail.tail.tail.sl)) (path_mkv (S.tail.tail.rd)) (by assumption) (by omega) (by assumption) (by assumption)) ?_ rfl rfl
    intro w41 x42
    have B := bx Hb B x42
    have S := S.below x42
    refine t_on rfl rfl ?_
    refine t_callx Try.call28 rfl (spec_DownSteps (⟨A23, L23⟩ : Topo) _ p23 _ _ (topo_mkv (S.tail.tail.tail.sl) (S.tail.tail.tail.tail.sl)) (path_mkv (S.tail.tail.rd)) (by assumption) (by omega) (by assumption) (by assumption)) ?_ rfl rfl
    intro w43 x44
    have B := bx Hb B x44
    have S := S.below x44
    refine t_on rfl rfl ?_
    refine t_neq rfl rfl ?_ rfl
    refine t_pickf rfl rfl ?_ rfl
    refine t_move rfl ?_ rfl
    refine t_partp (t := 78) rfl (fun h => absurd rfl h) ?_
    intro _
    refine t_on rfl rfl ?_
    refine t_bxn S.tail.box ab_topo sb_topo rfl rfl ?_ rfl
    refine t_on rfl rfl ?_
    refine t_bxn S.box ab_path sb_path rfl rfl ?_ rfl
    refine t_on rfl rfl ?_
    refine t_bxn S.tail.box ab_topo sb_topo rfl rfl ?_ rfl
    refine t_on rfl rfl ?_
    refine t_bxn S.box ab_path sb_path rfl rfl ?_ rfl
    refine t_on rfl rfl ?_
    refine t_callx Try.call29 rfl (impl_CoreSteps (⟨A23, L23⟩ : Topo) _ p23 _ _ (topo_mkv (S.tail.tail.tail.sl) (S.tail.tail.tail.tail.sl)) (path_mkv (S.tail.tail.rd)) (by assumption) (by omega) (by assumption) (by assumption)) ?_ rfl rfl
    intro w45 x46
    have B := bx Hb B x46
    have S := S.below x46
    refine t_on rfl rfl ?_
    refine t_callx Try.call30 rfl (spec_CoreSteps (⟨A23, L23⟩ : Topo) _ p23 _ _ (topo_mkv (S.tail.tail.tail.sl) (S.tail.tail.tail.tail.sl)) (path_mkv (S.tail.tail.rd)) (by assumption) (by omega) (by assumption) (by assumption)) ?_ rfl rfl
    intro w47 x48
    have B := bx Hb B x48
    have S := S.below x48
    refine t_on rfl rfl ?_
    refine t_neq rfl rfl ?_ rfl
    refine t_pickf rfl rfl ?_ rfl
    refine t_done' ?_
    refine x_seq ?_
    refine w_if rfl (fun h => absurd rfl h) ?_
    intro _
    refine w_skip ?_
    refine x_seq ?_
    refine w_seq ?_
    refine w_seq ?_
    refine w_region ?_
    refine t_move rfl ?_ rfl
    refine t_eql rfl rfl ?_ rfl
    refine t_move rfl ?_ rfl
    refine t_partp (t := 89) rfl ?_ ?_
    · intro hc1
      refine t_off rfl rfl rfl ?_ rfl
      refine t_off rfl rfl rfl ?_ rfl
      refine t_pickt rfl rfl ?_ rfl
      refine t_move rfl ?_ rfl
      refine t_on rfl rfl ?_
      refine t_move rfl ?_ rfl
      refine t_on rfl rfl ?_
      refine t_calls Try.call17 rfl (impl_transit _ _ _) ?_ rfl rfl
      refine t_pickt rfl rfl ?_ rfl
      refine t_move rfl ?_ rfl
      refine t_part (t := 97) rfl ?_ ?_
      · intro hc2
        refine t_off rfl rfl rfl ?_ rfl
        refine t_off rfl rfl rfl ?_ rfl
        refine t_off rfl rfl rfl ?_ rfl
        refine t_offu rfl rfl ?_ rfl
        refine t_offu rfl rfl ?_ rfl
        refine t_off rfl rfl rfl ?_ rfl
        refine t_pickt rfl rfl ?_ rfl
        refine t_move rfl ?_ rfl
        refine t_off rfl rfl rfl ?_ rfl
        refine t_off rfl rfl rfl ?_ rfl
        refine t_pickt rfl rfl ?_ rfl
        refine t_move rfl ?_ rfl
        refine t_off rfl rfl rfl ?_ rfl
        refine t_off rfl rfl rfl ?_ rfl
        refine t_pickt rfl rfl ?_ rfl
        refine t_done ?_
        refine x_seq ?_
        refine w_yes rfl ?_
        refine w_seq ?_
        refine w_region ?_
        refine t_assign rfl ?_ rfl
        refine t_done ?_
        refine x_seq ?_
        refine w_ret ?_
        refine x_then_ret ?_
        refine x_ret1 rfl rfl ?_
        first | exact ⟨ret_bool (decide_eq_true (by omega)), ext_trans X0 B⟩ | exact absurd (.inl ⟨by omega, by assumption⟩) hno | exact absurd (.inr (.inl ⟨by omega, by assumption⟩)) hno | exact absurd (.inr (.inr (.inl (by assumption)))) hno | exact absurd (.inr (.inr (.inr (by assumption)))) hno
      · intro hc3
        refine t_on rfl rfl ?_
        refine t_move rfl ?_ rfl
        refine t_on rfl rfl ?_
        refine t_eql rfl rfl ?_ rfl
        refine t_on rfl rfl ?_
        refine t_move rfl ?_ rfl
        refine t_partp (t := 100) rfl ?_ ?_
        · intro hc4
          refine t_on rfl rfl ?_
          refine t_move rfl ?_ rfl
          refine t_on rfl rfl ?_
          refine t_calls Try.call17 rfl (impl_transit _ _ _) ?_ rfl rfl
          refine t_on rfl rfl ?_
          refine t_pickt rfl rfl ?_ rfl
          refine t_pickf rfl rfl ?_ rfl
          refine t_move rfl ?_ rfl
          refine t_part (t := 105) rfl ?_ ?_
          · intro hc5
            refine t_off rfl rfl rfl ?_ rfl
            refine t_off rfl rfl rfl ?_ rfl
            refine t_pickt rfl rfl ?_ rfl
            refine t_move rfl ?_ rfl
            refine t_off rfl rfl rfl ?_ rfl
            refine t_off rfl rfl rfl ?_ rfl
            refine t_pickt rfl rfl ?_ rfl
            refine t_done ?_
            refine x_seq ?_
            refine w_yes rfl ?_
            refine w_seq ?_
            refine w_region ?_
            refine t_assign rfl ?_ rfl
            refine t_done ?_
            refine x_seq ?_
            refine w_ret ?_
            refine x_then_ret ?_
            refine x_ret1 rfl rfl ?_
            first | exact ⟨ret_bool (decide_eq_true (by omega)), ext_trans X0 B⟩ | exact absurd (.inl ⟨by omega, by assumption⟩) hno | exact absurd (.inr (.inl ⟨by omega, by assumption⟩)) hno | exact absurd (.inr (.inr (.inl (by assumption)))) hno | exact absurd (.inr (.inr (.inr (by assumption)))) hno
          · intro hc6
            refine t_on rfl rfl ?_
            refine t_move rfl ?_ rfl
            refine t_on rfl rfl ?_
            refine t_calls Try.call17 rfl (impl_transit _ _ _) ?_ rfl rfl
            refine t_pickf rfl rfl ?_ rfl
            refine t_move rfl ?_ rfl
            refine t_part (t := 109) rfl ?_ ?_
            · intro hc7
              refine t_off rfl rfl rfl ?_ rfl
              refine t_off rfl rfl rfl ?_ rfl
              refine t_pickt rfl rfl ?_ rfl
              refine t_done ?_
              refine x_seq ?_
              refine w_yes rfl ?_
              refine w_seq ?_
              refine w_region ?_
              refine t_assign rfl ?_ rfl
              refine t_done ?_
              refine x_seq ?_
              refine w_ret ?_
              refine x_then_ret ?_
              refine x_ret1 rfl rfl ?_
              first | exact ⟨ret_bool (decide_eq_true (by omega)), ext_trans X0 B⟩ | exact absurd (.inl ⟨by omega, by assumption⟩) hno | exact absurd (.inr (.inl ⟨by omega, by assumption⟩)) hno | exact absurd (.inr (.inr (.inl (by assumption)))) hno | exact absurd (.inr (.inr (.inr (by assumption)))) hno
            · intro hc8
              refine t_on rfl rfl ?_
              refine t_move rfl ?_ rfl
              refine t_on rfl rfl ?_
              refine t_calls Try.call17 rfl (impl_transit _ _ _) ?_ rfl rfl
              refine t_pickf rfl rfl ?_ rfl
              refine t_done ?_
              refine x_seq ?_
              refine w_ifb rfl ?_ ?_
              · intro hc9
                refine w_seq ?_
                refine w_region ?_
                refine t_assign rfl ?_ rfl
                refine t_done ?_
                refine x_seq ?_
                refine w_ret ?_
                refine x_then_ret ?_
                refine x_ret1 rfl rfl ?_
                first | exact ⟨ret_bool (decide_eq_true (by omega)), ext_trans X0 B⟩ | exact absurd (.inl ⟨by omega, by assumption⟩) hno | exact absurd (.inr (.inl ⟨by omega, by assumption⟩)) hno | exact absurd (.inr (.inr (.inl (by assumption)))) hno | exact absurd (.inr (.inr (.inr (by assumption)))) hno
              · intro hc10
                refine w_skip ?_
                refine x_seq ?_
                refine w_seq ?_
                refine w_draw (.st .take 0 (.st .take 1 (.st .take 4 (.st .take 5 (.st .run 2 (.st .take 3 (.st .run 6 (.st .take 7 (.st .take 8 (.st .take 9 (.st .take 10 (.st .take 12 (.st .take 13 (.st .take 16 (.st .take 17 (.st .take 20 (.st .run 11 (.st .run 14 (.st .take 15 (.st .run 18 (.st .take 19 (.st .run 21 (.st .take 22 (.st .take 23 (.st .take 24 .done))))))))))))))))))))))))) mixed (by kernel_rfl) ?_
                intro w49 x50
                have B := bx Hb B x50
                have S := S.below x50
                refine t_bxn S.tail.box ab_topo sb_topo rfl rfl ?_ rfl
                refine t_bxn S.box ab_path sb_path rfl rfl ?_ rfl
                refine t_bxn S.tail.box ab_topo sb_topo rfl rfl ?_ rfl
                refine t_bxn S.box ab_path sb_path rfl rfl ?_ rfl
                refine t_callx Try.call23 rfl (impl_FirstForbiddenStep (⟨A23, L23⟩ : Topo) _ p23 _ _ (topo_mkv (S.tail.tail.tail.sl) (S.tail.tail.tail.tail.sl)) (path_mkv (S.tail.tail.rd)) (by assumption) (by omega) (by assumption) (by assumption)) ?_ rfl rfl
                intro w51 x52
                have B := bx Hb B x52
                have S := S.below x52
                refine t_lss rfl rfl ?_ rfl
                refine t_callx Try.call21 rfl (impl_PathAllowed (⟨A23, L23⟩ : Topo) _ p23 _ _ (topo_mkv (S.tail.tail.tail.sl) (S.tail.tail.tail.tail.sl)) (path_mkv (S.tail.tail.rd)) (by assumption) (by omega) (by assumption) (by assumption)) ?_ rfl rfl
                intro w53 x54
                have B := bx Hb B x54
                have S := S.below x54
                refine t_eqlb Try.underlying4 rfl rfl ?_ rfl
                refine t_move rfl ?_ rfl
                refine t_partp (t := 121) rfl ?_ (fun h => absurd rfl h)
                intro _
                refine t_on rfl rfl ?_
                refine t_bxn S.tail.box ab_topo sb_topo rfl rfl ?_ rfl
                refine t_on rfl rfl ?_
                refine t_bxn S.box ab_path sb_path rfl rfl ?_ rfl
                refine t_on rfl rfl ?_
                refine t_bxn S.tail.box ab_topo sb_topo rfl rfl ?_ rfl
                refine t_on rfl rfl ?_
                refine t_bxn S.box ab_path sb_path rfl rfl ?_ rfl
                refine t_on rfl rfl ?_
                refine t_bxn S.tail.box ab_topo sb_topo rfl rfl ?_ rfl
                refine t_on rfl rfl ?_
                refine t_bxn S.box ab_path sb_path rfl rfl ?_ rfl
                refine t_on rfl rfl ?_
                refine t_bxn S.box ab_path sb_path rfl rfl ?_ rfl
                refine t_on rfl rfl ?_
                refine t_callx Try.call25 rfl (impl_UpSteps (⟨A23, L23⟩ : Topo) _ p23 _ _ (topo_mkv (S.tail.tail.tail.sl) (S.tail.tail.tail.tail.sl)) (path_mkv (S.tail.tail.rd)) (by assumption) (by omega) (by assumption) (by assumption)) ?_ rfl rfl
                intro w55 x56
                have B := bx Hb B x56
                have S := S.below x56
                refine t_on rfl rfl ?_
                refine t_callx Try.call27 rfl (impl_DownSteps (⟨A23, L23⟩ : Topo) _ p23 _ _ (topo_mkv (S.tail.tail.tail.sl) (S.tail.tail.tail.tail.sl)) (path_mkv (S.tail.tail.rd)) (by assumption) (by omega) (by assumption) (by assumption)) ?_ rfl rfl
                intro w57 x58
                have B := bx Hb B x58
                have S := S.below x58
                refine t_on rfl rfl ?_
                refine t_add rfl rfl (by omega) ?_ rfl
                refine t_on rfl rfl ?_
                refine t_callx Try.call29 rfl (impl_CoreSteps (⟨A23, L23⟩ : Topo) _ p23 _ _ (topo_mkv (S.tail.tail.tail.sl) (S.tail.tail.tail.tail.sl)) (path_mkv (S.tail.tail.rd)) (by assumption) (by omega) (by assumption) (by assumption)) ?_ rfl rfl
                intro w59 x60
                have B := bx Hb B x60
                have S := S.below x60
                refine t_on rfl rfl ?_
                refine t_add rfl rfl (by omega) ?_ rfl
                refine t_on rfl rfl ?_
                refine t_callx Try.call31 rfl (va1 (path_mkv (S.tail.tail.rd)) fun cs h => impl_PathLength _ cs _ h (by omega) (by assumption) (by assumption)) ?_ rfl rfl
                intro w61 x62
                have B := bx Hb B x62
                have S := S.below x62
                refine t_on rfl rfl ?_
                refine t_leq rfl rfl ?_ rfl
                refine t_pickt rfl rfl ?_ rfl
                refine t_assign rfl ?_ rfl
                refine t_done' ?_
                refine x_seq ?_
                refine w_ret ?_
                refine x_ret1 rfl rfl ?_
                first | exact ⟨ret_bool (decide_eq_true (by omega)), ext_trans X0 B⟩ | exact absurd (.inl ⟨by omega, by assumption⟩) hno | exact absurd (.inr (.inl ⟨by omega, by assumption⟩)) hno | exact absurd (.inr (.inr (.inl (by assumption)))) hno | exact absurd (.inr (.inr (.inr (by assumption)))) hno
        · intro hc11
          refine t_off rfl rfl rfl ?_ rfl
          refine t_off rfl rfl rfl ?_ rfl
          refine t_on rfl rfl ?_
          refine t_pickf rfl rfl ?_ rfl
          refine t_pickf rfl rfl ?_ rfl
          refine t_move rfl ?_ rfl
          refine t_on rfl rfl ?_
          refine t_move rfl ?_ rfl
          refine t_on rfl rfl ?_
          refine t_calls Try.call17 rfl (impl_transit _ _ _) ?_ rfl rfl
          refine t_pickf rfl rfl ?_ rfl
          refine t_move rfl ?_ rfl
          refine t_part (t := 109) rfl ?_ ?_
          · intro hc12
            refine t_off rfl rfl rfl ?_ rfl
            refine t_off rfl rfl rfl ?_ rfl
            refine t_pickt rfl rfl ?_ rfl
            refine t_done ?_
            refine x_seq ?_
            refine w_yes rfl ?_
            refine w_seq ?_
            refine w_region ?_
            refine t_assign rfl ?_ rfl
            refine t_done ?_
            refine x_seq ?_
            refine w_ret ?_
            refine x_then_ret ?_
            refine x_ret1 rfl rfl ?_
            first | exact ⟨ret_bool (decide_eq_true (by omega)), ext_trans X0 B⟩ | exact absurd (.inl ⟨by omega, by assumption⟩) hno | exact absurd (.inr (.inl ⟨by omega, by assumption⟩)) hno | exact absurd (.inr (.inr (.inl (by assumption)))) hno | exact absurd (.inr (.inr (.inr (by assumption)))) hno
          · intro hc13
            refine t_on rfl rfl ?_
            refine t_move rfl ?_ rfl
            refine t_on rfl rfl ?_
            refine t_calls Try.call17 rfl (impl_transit _ _ _) ?_ rfl rfl
            refine t_pickf rfl rfl ?_ rfl
            refine t_done ?_
            refine x_seq ?_
            refine w_ifb rfl ?_ ?_
            · intro hc14
              refine w_seq ?_
              refine w_region ?_
              refine t_assign rfl ?_ rfl
              refine t_done ?_
              refine x_seq ?_
              refine w_ret ?_
              refine x_then_ret ?_
              refine x_ret1 rfl rfl ?_
              first | exact ⟨ret_bool (decide_eq_true (by omega)), ext_trans X0 B⟩ | exact absurd (.inl ⟨by omega, by assumption⟩) hno | exact absurd (.inr (.inl ⟨by omega, by assumption⟩)) hno | exact absurd (.inr (.inr (.inl (by assumption)))) hno | exact absurd (.inr (.inr (.inr (by assumption)))) hno
            · intro hc15
              refine w_skip ?_
              refine x_seq ?_
              refine w_seq ?_
              refine w_draw (.st .take 0 (.st .take 1 (.st .take 4 (.st .take 5 (.st .run 2 (.st .take 3 (.st .run 6 (.st .take 7 (.st .take 8 (.st .take 9 (.st .take 10 (.st .take 12 (.st .take 13 (.st .take 16 (.st .take 17 (.st .take 20 (.st .run 11 (.st .run 14 (.st .take 15 (.st .run 18 (.st .take 19 (.st .run 21 (.st .take 22 (.st .take 23 (.st .take 24 .done))))))))))))))))))))))))) mixed (by kernel_rfl) ?_
              intro w63 x64
              have B := bx Hb B x64
              have S := S.below x64
              refine t_bxn S.tail.box ab_topo sb_topo rfl rfl ?_ rfl
              refine t_bxn S.box ab_path sb_path rfl rfl ?_ rfl
              refine t_bxn S.tail.box ab_topo sb_topo rfl rfl ?_ rfl
              refine t_bxn S.box ab_path sb_path rfl rfl ?_ rfl
              refine t_callx Try.call23 rfl (impl_FirstForbiddenStep (⟨A23, L23⟩ : Topo) _ p23 _ _ (topo_mkv (S.tail.tail.tail.sl) (S.tail.tail.tail.tail.sl)) (path_mkv (S.tail.tail.rd)) (by assumption) (by omega) (by assumption) (by assumption)) ?_ rfl rfl
              intro w65 x66
              have B := bx Hb B x66
              have S := S.below x66
              refine t_lss rfl rfl ?_ rfl
              refine t_callx Try.call21 rfl (impl_PathAllowed (⟨A23, L23⟩ : Topo) _ p23 _ _ (topo_mkv (S.tail.tail.tail.sl) (S.tail.tail.tail.tail.sl)) (path_mkv (S.tail.tail.rd)) (by assumption) (by omega) (by assumption) (by assumption)) ?_ rfl rfl
              intro w67 x68
              have B := bx Hb B x68
              have S := S.below x68
              refine t_eqlb Try.underlying4 rfl rfl ?_ rfl
              refine t_move rfl ?_ rfl
              refine t_partp (t := 121) rfl ?_ (fun h => absurd rfl h)
              intro _
              refine t_on rfl rfl ?_
              refine t_bxn S.tail.box ab_topo sb_topo rfl rfl ?_ rfl
              refine t_on rfl rfl ?_
              refine t_bxn S.box ab_path sb_path rfl rfl ?_ rfl
              refine t_on rfl rfl ?_
              refine t_bxn S.tail.box ab_topo sb_topo rfl rfl ?_ rfl
              refine t_on rfl rfl ?_
              refine t_bxn S.box ab_path sb_path rfl rfl ?_ rfl
              refine t_on rfl rfl ?_
              refine t_bxn S.tail.box ab_topo sb_topo rfl rfl ?_ rfl
              refine t_on rfl rfl ?_
              refine t_bxn S.box ab_path sb_path rfl rfl ?_ rfl
              refine t_on rfl rfl ?_
              refine t_bxn S.box ab_path sb_path rfl rfl ?_ rfl
              refine t_on rfl rfl ?_
              refine t_callx Try.call25 rfl (impl_UpSteps (⟨A23, L23⟩ : Topo) _ p23 _ _ (topo_mkv (S.tail.tail.tail.sl) (S.tail.tail.tail.tail.sl)) (path_mkv (S.tail.tail.rd)) (by assumption) (by omega) (by assumption) (by assumption)) ?_ rfl rfl
              intro w69 x70
              have B := bx Hb B x70
              have S := S.below x70
              refine t_on rfl rfl ?_
              refine t_callx Try.call27 rfl (impl_DownSteps (⟨A23, L23⟩ : Topo) _ p23 _ _ (topo_mkv (S.tail.tail.tail.sl) (S.tail.tail.tail.tail.sl)) (path_mkv (S.tail.tail.rd)) (by assumption) (by omega) (by assumption) (by assumption)) ?_ rfl rfl
              intro w71 x72
              have B := bx Hb B x72
              have S := S.below x72
              refine t_on rfl rfl ?_
              refine t_add rfl rfl (by omega) ?_ rfl
              refine t_on rfl rfl ?_
              refine t_callx Try.call29 rfl (impl_CoreSteps (⟨A23, L23⟩ : Topo) _ p23 _ _ (topo_mkv (S.tail.tail.tail.sl) (S.tail.tail.tail.tail.sl)) (path_mkv (S.tail.tail.rd)) (by assumption) (by omega) (by assumption) (by assumption)) ?_ rfl rfl
              intro w73 x74
              have B := bx Hb B x74
              have S := S.below x74
              refine t_on rfl rfl ?_
              refine t_add rfl rfl (by omega) ?_ rfl
              refine t_on rfl rfl ?_
              refine t_callx Try.call31 rfl (va1 (path_mkv (S.tail.tail.rd)) fun cs h => impl_PathLength _ cs _ h (by omega) (by assumption) (by assumption)) ?_ rfl rfl
              intro w75 x76
              have B := bx Hb B x76
              have S := S.below x76
              refine t_on rfl rfl ?_
              refine t_leq rfl rfl ?_ rfl
              refine t_pickt rfl rfl ?_ rfl
              refine t_assign rfl ?_ rfl
              refine t_done' ?_
              refine x_seq ?_
              refine w_ret ?_
              refine x_ret1 rfl rfl ?_
              first | exact ⟨ret_bool (decide_eq_true (by omega)), ext_trans X0 B⟩ | exact absurd (.inl ⟨by omega, by assumption⟩) hno | exact absurd (.inr (.inl ⟨by omega, by assumption⟩)) hno | exact absurd (.inr (.inr (.inl (by assumption)))) hno | exact absurd (.inr (.inr (.inr (by assumption)))) hno
    · intro hc16
      refine t_on rfl rfl ?_
      refine t_move rfl ?_ rfl
      refine t_on rfl rfl ?_
      refine t_eql rfl rfl ?_ rfl
      refine t_pickf rfl rfl ?_ rfl
      refine t_move rfl ?_ rfl
      refine t_partp (t := 93) rfl ?_ ?_
      · intro hc17
        refine t_on rfl rfl ?_
        refine t_move rfl ?_ rfl
        refine t_on rfl rfl ?_
        refine t_calls Try.call17 rfl (impl_transit _ _ _) ?_ rfl rfl
        refine t_pickt rfl rfl ?_ rfl
        refine t_move rfl ?_ rfl
        refine t_part (t := 97) rfl ?_ ?_
        · intro hc18
          refine t_off rfl rfl rfl ?_ rfl
          refine t_off rfl rfl rfl ?_ rfl
          refine t_off rfl rfl rfl ?_ rfl
          refine t_offu rfl rfl ?_ rfl
          refine t_offu rfl rfl ?_ rfl
          refine t_off rfl rfl rfl ?_ rfl
          refine t_pickt rfl rfl ?_ rfl
          refine t_move rfl ?_ rfl
          refine t_off rfl rfl rfl ?_ rfl
          refine t_off rfl rfl rfl ?_ rfl
          refine t_pickt rfl rfl ?_ rfl
          refine t_move rfl ?_ rfl
          refine t_off rfl rfl rfl ?_ rfl
          refine t_off rfl rfl rfl ?_ rfl
          refine t_pickt rfl rfl ?_ rfl
          refine t_done ?_
          refine x_seq ?_
          refine w_yes rfl ?_
          refine w_seq ?_
          refine w_region ?_
          refine t_assign rfl ?_ rfl
          refine t_done ?_
          refine x_seq ?_
          refine w_ret ?_
          refine x_then_ret ?_
          refine x_ret1 rfl rfl ?_
          first | exact ⟨ret_bool (decide_eq_true (by omega)), ext_trans X0 B⟩ | exact absurd (.inl ⟨by omega, by assumption⟩) hno | exact absurd (.inr (.inl ⟨by omega, by assumption⟩)) hno | exact absurd (.inr (.inr (.inl (by assumption)))) hno | exact absurd (.inr (.inr (.inr (by assumption)))) hno
        · intro hc19
          refine t_on rfl rfl ?_
          refine t_move rfl ?_ rfl
          refine t_on rfl rfl ?_
          refine t_eql rfl rfl ?_ rfl
          refine t_on rfl rfl ?_
          refine t_move rfl ?_ rfl
          refine t_partp (t := 100) rfl ?_ ?_
          · intro hc20
            refine t_on rfl rfl ?_
            refine t_move rfl ?_ rfl
            refine t_on rfl rfl ?_
            refine t_calls Try.call17 rfl (impl_transit _ _ _) ?_ rfl rfl
            refine t_on rfl rfl ?_
            refine t_pickt rfl rfl ?_ rfl
            refine t_pickf rfl rfl ?_ rfl
            refine t_move rfl ?_ rfl
            refine t_part (t := 105) rfl ?_ ?_
            · intro hc21
              refine t_off rfl rfl rfl ?_ rfl
              refine t_off rfl rfl rfl ?_ rfl
              refine t_pickt rfl rfl ?_ rfl
              refine t_move rfl ?_ rfl
              refine t_off rfl rfl rfl ?_ rfl
              refine t_off rfl rfl rfl ?_ rfl
              refine t_pickt rfl rfl ?_ rfl
              refine t_done ?_
              refine x_seq ?_
              refine w_yes rfl ?_
              refine w_seq ?_
              refine w_region ?_
              refine t_assign rfl ?_ rfl
              refine t_done ?_
              refine x_seq ?_
              refine w_ret ?_
              refine x_then_ret ?_
              refine x_ret1 rfl rfl ?_
              first | exact ⟨ret_bool (decide_eq_true (by omega)), ext_trans X0 B⟩ | exact absurd (.inl ⟨by omega, by assumption⟩) hno | exact absurd (.inr (.inl ⟨by omega, by assumption⟩)) hno | exact absurd (.inr (.inr (.inl (by assumption)))) hno | exact absurd (.inr (.inr (.inr (by assumption)))) hno
            · intro hc22
              refine t_on rfl rfl ?_
              refine t_move rfl ?_ rfl
              refine t_on rfl rfl ?_
              refine t_calls Try.call17 rfl (impl_transit _ _ _) ?_ rfl rfl
              refine t_pickf rfl rfl ?_ rfl
              refine t_move rfl ?_ rfl
              refine t_part (t := 109) rfl ?_ ?_
              · intro hc23
                refine t_off rfl rfl rfl ?_ rfl
                refine t_off rfl rfl rfl ?_ rfl
                refine t_pickt rfl rfl ?_ rfl
                refine t_done ?_
                refine x_seq ?_
                refine w_yes rfl ?_
                refine w_seq ?_
                refine w_region ?_
                refine t_assign rfl ?_ rfl
                refine t_done ?_
                refine x_seq ?_
                refine w_ret ?_
                refine x_then_ret ?_
                refine x_ret1 rfl rfl ?_
                first | exact ⟨ret_bool (decide_eq_true (by omega)), ext_trans X0 B⟩ | exact absurd (.inl ⟨by omega, by assumption⟩) hno | exact absurd (.inr (.inl ⟨by omega, by assumption⟩)) hno | exact absurd (.inr (.inr (.inl (by assumption)))) hno | exact absurd (.inr (.inr (.inr (by assumption)))) hno
              · intro hc24
                refine t_on rfl rfl ?_
                refine t_move rfl ?_ rfl
                refine t_on rfl rfl ?_
                refine t_calls Try.call17 rfl (impl_transit _ _ _) ?_ rfl rfl
                refine t_pickf rfl rfl ?_ rfl
                refine t_done ?_
                refine x_seq ?_
                refine w_ifb rfl ?_ ?_
                · intro hc25
                  refine w_seq ?_
                  refine w_region ?_
                  refine t_assign rfl ?_ rfl
                  refine t_done ?_
                  refine x_seq ?_
                  refine w_ret ?_
                  refine x_then_ret ?_
                  refine x_ret1 rfl rfl ?_
                  first | exact ⟨ret_bool (decide_eq_true (by omega)), ext_trans X0 B⟩ | exact absurd (.inl ⟨by omega, by assumption⟩) hno | exact absurd (.inr (.inl ⟨by omega, by assumption⟩)) hno | exact absurd (.inr (.inr (.inl (by assumption)))) hno | exact absurd (.inr (.inr (.inr (by assumption)))) hno
                · intro hc26
                  refine w_skip ?_
                  refine x_seq ?_
                  refine w_seq ?_
                  refine w_draw (.st .take 0 (.st .take 1 (.st .take 4 (.st .take 5 (.st .run 2 (.st .take 3 (.st .run 6 (.st .take 7 (.st .take 8 (.st .take 9 (.st .take 10 (.st .take 12 (.st .take 13 (.st .take 16 (.st .take 17 (.st .take 20 (.st .run 11 (.st .run 14 (.st .take 15 (.st .run 18 (.st .take 19 (.st .run 21 (.st .take 22 (.st .take 23 (.st .take 24 .done))))))))))))))))))))))))) mixed (by kernel_rfl) ?_
                  intro w77 x78
                  have B := bx Hb B x78
                  have S := S.below x78
                  refine t_bxn S.tail.box ab_topo sb_topo rfl rfl ?_ rfl
                  refine t_bxn S.box ab_path sb_path rfl rfl ?_ rfl
                  refine t_bxn S.tail.box ab_topo sb_topo rfl rfl ?_ rfl
                  refine t_bxn S.box ab_path sb_path rfl rfl ?_ rfl
                  refine t_callx Try.call23 rfl (impl_FirstForbiddenStep (⟨A23, L23⟩ : Topo) _ p23 _ _ (topo_mkv (S.tail.tail.tail.sl) (S.tail.tail.tail.tail.sl)) (path_mkv (S.tail.tail.rd)) (by assumption) (by omega) (by assumption) (by assumption)) ?_ rfl rfl
                  intro w79 x80
                  have B := bx Hb B x80
                  have S := S.below x80
                  refine t_lss rfl rfl ?_ rfl
                  refine t_callx Try.call21 rfl (impl_PathAllowed (⟨A23, L23⟩ : Topo) _ p23 _ _ (topo_mkv (S.tail.tail.tail.sl) (S.tail.tail.tail.tail.sl)) (path_mkv (S.tail.tail.rd)) (by assumption) (by omega) (by assumption) (by assumption)) ?_ rfl rfl
                  intro w81 x82
                  have B := bx Hb B x82
                  have S := S.below x82
                  refine t_eqlb Try.underlying4 rfl rfl ?_ rfl
                  refine t_move rfl ?_ rfl
                  refine t_partp (t := 121) rfl ?_ (fun h => absurd rfl h)
                  intro _
                  refine t_on rfl rfl ?_
                  refine t_bxn S.tail.box ab_topo sb_topo rfl rfl ?_ rfl
                  refine t_on rfl rfl ?_
                  refine t_bxn S.box ab_path sb_path rfl rfl ?_ rfl
                  refine t_on rfl rfl ?_
                  refine t_bxn S.tail.box ab_topo sb_topo rfl rfl ?_ rfl
                  refine t_on rfl rfl ?_
                  refine t_bxn S.box ab_path sb_path rfl rfl ?_ rfl
                  refine t_on rfl rfl ?_
                  refine t_bxn S.tail.box ab_topo sb_topo rfl rfl ?_ rfl
                  refine t_on rfl rfl ?_
                  refine t_bxn S.box ab_path sb_path rfl rfl ?_ rfl
                  refine t_on rfl rfl ?_
                  refine t_bxn S.box ab_path sb_path rfl rfl ?_ rfl
                  refine t_on rfl rfl ?_
                  refine t_callx Try.call25 rfl (impl_UpSteps (⟨A23, L23⟩ : Topo) _ p23 _ _ (topo_mkv (S.tail.tail.tail.sl) (S.tail.tail.tail.tail.sl)) (path_mkv (S.tail.tail.rd)) (by assumption) (by omega) (by assumption) (by assumption)) ?_ rfl rfl
                  intro w83 x84
                  have B := bx Hb B x84
                  have S := S.below x84
                  refine t_on rfl rfl ?_
                  refine t_callx Try.call27 rfl (impl_DownSteps (⟨A23, L23⟩ : Topo) _ p23 _ _ (topo_mkv (S.tail.tail.tail.sl) (S.tail.tail.tail.tail.sl)) (path_mkv (S.tail.tail.rd)) (by assumption) (by omega) (by assumption) (by assumption)) ?_ rfl rfl
                  intro w85 x86
                  have B := bx Hb B x86
                  have S := S.below x86
                  refine t_on rfl rfl ?_
                  refine t_add rfl rfl (by omega) ?_ rfl
                  refine t_on rfl rfl ?_
                  refine t_callx Try.call29 rfl (impl_CoreSteps (⟨A23, L23⟩ : Topo) _ p23 _ _ (topo_mkv (S.tail.tail.tail.sl) (S.tail.tail.tail.tail.sl)) (path_mkv (S.tail.tail.rd)) (by assumption) (by omega) (by assumption) (by assumption)) ?_ rfl rfl
                  intro w87 x88
                  have B := bx Hb B x88
                  have S := S.below x88
                  refine t_on rfl rfl ?_
                  refine t_add rfl rfl (by omega) ?_ rfl
                  refine t_on rfl rfl ?_
                  refine t_callx Try.call31 rfl (va1 (path_mkv (S.tail.tail.rd)) fun cs h => impl_PathLength _ cs _ h (by omega) (by assumption) (by assumption)) ?_ rfl rfl
                  intro w89 x90
                  have B := bx Hb B x90
                  have S := S.below x90
                  refine t_on rfl rfl ?_
                  refine t_leq rfl rfl ?_ rfl
                  refine t_pickt rfl rfl ?_ rfl
                  refine t_assign rfl ?_ rfl
                  refine t_done' ?_
                  refine x_seq ?_
                  refine w_ret ?_
                  refine x_ret1 rfl rfl ?_
                  first | exact ⟨ret_bool (decide_eq_true (by omega)), ext_trans X0 B⟩ | exact absurd (.inl ⟨by omega, by assumption⟩) hno | exact absurd (.inr (.inl ⟨by omega, by assumption⟩)) hno | exact absurd (.inr (.inr (.inl (by assumption)))) hno | exact absurd (.inr (.inr (.inr (by assumption)))) hno
          · intro hc27
            refine t_off rfl rfl rfl ?_ rfl
            refine t_off rfl rfl rfl ?_ rfl
            refine t_on rfl rfl ?_
            refine t_pickf rfl rfl ?_ rfl
            refine t_pickf rfl rfl ?_ rfl
            refine t_move rfl ?_ rfl
            refine t_on rfl rfl ?_
            refine t_move rfl ?_ rfl
            refine t_on rfl rfl ?_
            refine t_calls Try.call17 rfl (impl_transit _ _ _) ?_ rfl rfl
            refine t_pickf rfl rfl ?_ rfl
            refine t_move rfl ?_ rfl
            refine t_part (t := 109) rfl ?_ ?_
            · intro hc28
              refine t_off rfl rfl rfl ?_ rfl
              refine t_off rfl rfl rfl ?_ rfl
              refine t_pickt rfl rfl ?_ rfl
              refine t_done ?_
              refine x_seq ?_
              refine w_yes rfl ?_
              refine w_seq ?_
              refine w_region ?_
              refine t_assign rfl ?_ rfl
              refine t_done ?_
              refine x_seq ?_
              refine w_ret ?_
              refine x_then_ret ?_
              refine x_ret1 rfl rfl ?_
              first | exact ⟨ret_bool (decide_eq_true (by omega)), ext_trans X0 B⟩ | exact absurd (.inl ⟨by omega, by assumption⟩) hno | exact absurd (.inr (.inl ⟨by omega, by assumption⟩)) hno | exact absurd (.inr (.inr (.inl (by assumption)))) hno | exact absurd (.inr (.inr (.inr (by assumption)))) hno
            · intro hc29
              refine t_on rfl rfl ?_
              refine t_move rfl ?_ rfl
              refine t_on rfl rfl ?_
              refine t_calls Try.call17 rfl (impl_transit _ _ _) ?_ rfl rfl
              refine t_pickf rfl rfl ?_ rfl
              refine t_done ?_
              refine x_seq ?_
              refine w_ifb rfl ?_ ?_
              · intro hc30
                refine w_seq ?_
                refine w_region ?_
                refine t_assign rfl ?_ rfl
                refine t_done ?_
                refine x_seq ?_
                refine w_ret ?_
                refine x_then_ret ?_
                refine x_ret1 rfl rfl ?_
                first | exact ⟨ret_bool (decide_eq_true (by omega)), ext_trans X0 B⟩ | exact absurd (.inl ⟨by omega, by assumption⟩) hno | exact absurd (.inr (.inl ⟨by omega, by assumption⟩)) hno | exact absurd (.inr (.inr (.inl (by assumption)))) hno | exact absurd (.inr (.inr (.inr (by assumption)))) hno
              · intro hc31
                refine w_skip ?_
                refine x_seq ?_
                refine w_seq ?_
                refine w_draw (.st .take 0 (.st .take 1 (.st .take 4 (.st .take 5 (.st .run 2 (.st .take 3 (.st .run 6 (.st .take 7 (.st .take 8 (.st .take 9 (.st .take 10 (.st .take 12 (.st .take 13 (.st .take 16 (.st .take 17 (.st .take 20 (.st .run 11 (.st .run 14 (.st .take 15 (.st .run 18 (.st .take 19 (.st .run 21 (.st .take 22 (.st .take 23 (.st .take 24 .done))))))))))))))))))))))))) mixed (by kernel_rfl) ?_
                intro w91 x92
                have B := bx Hb B x92
                have S := S.below x92
                refine t_bxn S.tail.box ab_topo sb_topo rfl rfl ?_ rfl
                refine t_bxn S.box ab_path sb_path rfl rfl ?_ rfl
                refine t_bxn S.tail.box ab_topo sb_topo rfl rfl ?_ rfl
                refine t_bxn S.box ab_path sb_path rfl rfl ?_ rfl
                refine t_callx Try.call23 rfl (impl_FirstForbiddenStep (⟨A23, L23⟩ : Topo) _ p23 _ _ (topo_mkv (S.tail.tail.tail.sl) (S.tail.tail.tail.tail.sl)) (path_mkv (S.tail.tail.rd)) (by assumption) (by omega) (by assumption) (by assumption)) ?_ rfl rfl
                intro w93 x94
                have B := bx Hb B x94
                have S := S.below x94
                refine t_lss rfl rfl ?_ rfl
                refine t_callx Try.call21 rfl (impl_PathAllowed (⟨A23, L23⟩ : Topo) _ p23 _ _ (topo_mkv (S.tail.tail.tail.sl) (S.tail.tail.tail.tail.sl)) (path_mkv (S.tail.tail.rd)) (by assumption) (by omega) (by assumption) (by assumption)) ?_ rfl rfl
                intro w95 x96
                have B := bx Hb B x96
                have S := S.below x96
                refine t_eqlb Try.underlying4 rfl rfl ?_ rfl
                refine t_move rfl ?_ rfl
                refine t_partp (t := 121) rfl ?_ (fun h => absurd rfl h)
                intro _
                refine t_on rfl rfl ?_
                refine t_bxn S.tail.box ab_topo sb_topo rfl rfl ?_ rfl
                refine t_on rfl rfl ?_
                refine t_bxn S.box ab_path sb_path rfl rfl ?_ rfl
                refine t_on rfl rfl ?_
                refine t_bxn S.tail.box ab_topo sb_topo rfl rfl ?_ rfl
                refine t_on rfl rfl ?_
                refine t_bxn S.box ab_path sb_path rfl rfl ?_ rfl
                refine t_on rfl rfl ?_
                refine t_bxn S.tail.box ab_topo sb_topo rfl rfl ?_ rfl
                refine t_on rfl rfl ?_
                refine t_bxn S.box ab_path sb_path rfl rfl ?_ rfl
                refine t_on rfl rfl ?_
                refine t_bxn S.box ab_path sb_path rfl rfl ?_ rfl
                refine t_on rfl rfl ?_
                refine t_callx Try.call25 rfl (impl_UpSteps (⟨A23, L23⟩ : Topo) _ p23 _ _ (topo_mkv (S.tail.tail.tail.sl) (S.tail.tail.tail.tail.sl)) (path_mkv (S.tail.tail.rd)) (by assumption) (by omega) (by assumption) (by assumption)) ?_ rfl rfl
                intro w97 x98
                have B := bx Hb B x98
                have S := S.below x98
                refine t_on rfl rfl ?_
                refine t_callx Try.call27 rfl (impl_DownSteps (⟨A23, L23⟩ : Topo) _ p23 _ _ (topo_mkv (S.tail.tail.tail.sl) (S.tail.tail.tail.tail.sl)) (path_mkv (S.tail.tail.rd)) (by assumption) (by omega) (by assumption) (by assumption)) ?_ rfl rfl
                intro w99 x100
                have B := bx Hb B x100
                have S := S.below x100
                refine t_on rfl rfl ?_
                refine t_add rfl rfl (by omega) ?_ rfl
                refine t_on rfl rfl ?_
                refine t_callx Try.call29 rfl (impl_CoreSteps (⟨A23, L23⟩ : Topo) _ p23 _ _ (topo_mkv (S.tail.tail.tail.sl) (S.tail.tail.tail.tail.sl)) (path_mkv (S.tail.tail.rd)) (by assumption) (by omega) (by assumption) (by assumption)) ?_ rfl rfl
                intro w101 x102
                have B := bx Hb B x102
                have S := S.below x102
                refine t_on rfl rfl ?_
                refine t_add rfl rfl (by omega) ?_ rfl
                refine t_on rfl rfl ?_
                refine t_callx Try.call31 rfl (va1 (path_mkv (S.tail.tail.rd)) fun cs h => impl_PathLength _ cs _ h (by omega) (by assumption) (by assumption)) ?_ rfl rfl
                intro w103 x104
                have B := bx Hb B x104
                have S := S.below x104
                refine t_on rfl rfl ?_
                refine t_leq rfl rfl ?_ rfl
                refine t_pickt rfl rfl ?_ rfl
                refine t_assign rfl ?_ rfl
                refine t_done' ?_
                refine x_seq ?_
                refine w_ret ?_
                refine x_ret1 rfl rfl ?_
                first | exact ⟨ret_bool (decide_eq_true (by omega)), ext_trans X0 B⟩ | exact absurd (.inl ⟨by omega, by assumption⟩) hno | exact absurd (.inr (.inl ⟨by omega, by assumption⟩)) hno | exact absurd (.inr (.inr (.inl (by assumption)))) hno | exact absurd (.inr (.inr (.inr (by assumption)))) hno
      · intro hc32
        refine t_off rfl rfl rfl ?_ rfl
        refine t_off rfl rfl rfl ?_ rfl
        refine t_pickf rfl rfl ?_ rfl
        refine t_move rfl ?_ rfl
        refine t_on rfl rfl ?_
        refine t_move rfl ?_ rfl
        refine t_on rfl rfl ?_
        refine t_eql rfl rfl ?_ rfl
        refine t_on rfl rfl ?_
        refine t_move rfl ?_ rfl
        refine t_partp (t := 100) rfl ?_ ?_
        · intro hc33
          refine t_on rfl rfl ?_
          refine t_move rfl ?_ rfl
          refine t_on rfl rfl ?_
          refine t_calls Try.call17 rfl (impl_transit _ _ _) ?_ rfl rfl
          refine t_on rfl rfl ?_
          refine t_pickt rfl rfl ?_ rfl
          refine t_pickf rfl rfl ?_ rfl
          refine t_move rfl ?_ rfl
          refine t_part (t := 105) rfl ?_ ?_
          · intro hc34
            refine t_off rfl rfl rfl ?_ rfl
            refine t_off rfl rfl rfl ?_ rfl
            refine t_pickt rfl rfl ?_ rfl
            refine t_move rfl ?_ rfl
            refine t_off rfl rfl rfl ?_ rfl
            refine t_off rfl rfl rfl ?_ rfl
            refine t_pickt rfl rfl ?_ rfl
            refine t_done ?_
            refine x_seq ?_
            refine w_yes rfl ?_
            refine w_seq ?_
            refine w_region ?_
            refine t_assign rfl ?_ rfl
            refine t_done ?_
            refine x_seq ?_
            refine w_ret ?_
            refine x_then_ret ?_
            refine x_ret1 rfl rfl ?_
            first | exact ⟨ret_bool (decide_eq_true (by omega)), ext_trans X0 B⟩ | exact absurd (.inl ⟨by omega, by assumption⟩) hno | exact absurd (.inr (.inl ⟨by omega, by assumption⟩)) hno | exact absurd (.inr (.inr (.inl (by assumption)))) hno | exact absurd (.inr (.inr (.inr (by assumption)))) hno
          · intro hc35
            refine t_on rfl rfl ?_
            refine t_move rfl ?_ rfl
            refine t_on rfl rfl ?_
            refine t_calls Try.call17 rfl (impl_transit _ _ _) ?_ rfl rfl
            refine t_pickf rfl rfl ?_ rfl
            refine t_move rfl ?_ rfl
            refine t_part (t := 109) rfl ?_ ?_
            · intro hc36
              refine t_off rfl rfl rfl ?_ rfl
              refine t_off rfl rfl rfl ?_ rfl
              refine t_pickt rfl rfl ?_ rfl
              refine t_done ?_
              refine x_seq ?_
              refine w_yes rfl ?_
              refine w_seq ?_
              refine w_region ?_
              refine t_assign rfl ?_ rfl
              refine t_done ?_
              refine x_seq ?_
              refine w_ret ?_
              refine x_then_ret ?_
              refine x_ret1 rfl rfl ?_
              first | exact ⟨ret_bool (decide_eq_true (by omega)), ext_trans X0 B⟩ | exact absurd (.inl ⟨by omega, by assumption⟩) hno | exact absurd (.inr (.inl ⟨by omega, by assumption⟩)) hno | exact absurd (.inr (.inr (.inl (by assumption)))) hno | exact absurd (.inr (.inr (.inr (by assumption)))) hno
            · intro hc37
              refine t_on rfl rfl ?_
              refine t_move rfl ?_ rfl
              refine t_on rfl rfl ?_
              refine t_calls Try.call17 rfl (impl_transit _ _ _) ?_ rfl rfl
              refine t_pickf rfl rfl ?_ rfl
              refine t_done ?_
              refine x_seq ?_
              refine w_ifb rfl ?_ ?_
              · intro hc38
                refine w_seq ?_
                refine w_region ?_
                refine t_assign rfl ?_ rfl
                refine t_done ?_
                refine x_seq ?_
                refine w_ret ?_
                refine x_then_ret ?_
                refine x_ret1 rfl rfl ?_
                first | exact ⟨ret_bool (decide_eq_true (by omega)), ext_trans X0 B⟩ | exact absurd (.inl ⟨by omega, by assumption⟩) hno | exact absurd (.inr (.inl ⟨by omega, by assumption⟩)) hno | exact absurd (.inr (.inr (.inl (by assumption)))) hno | exact absurd (.inr (.inr (.inr (by assumption)))) hno
              · intro hc39
                refine w_skip ?_
                refine x_seq ?_
                refine w_seq ?_
                refine w_draw (.st .take 0 (.st .take 1 (.st .take 4 (.st .take 5 (.st .run 2 (.st .take 3 (.st .run 6 (.st .take 7 (.st .take 8 (.st .take 9 (.st .take 10 (.st .take 12 (.st .take 13 (.st .take 16 (.st .take 17 (.st .take 20 (.st .run 11 (.st .run 14 (.st .take 15 (.st .run 18 (.st .take 19 (.st .run 21 (.st .take 22 (.st .take 23 (.st .take 24 .done))))))))))))))))))))))))) mixed (by kernel_rfl) ?_
                intro w105 x106
                have B := bx Hb B x106
                have S := S.below x106
                refine t_bxn S.tail.box ab_topo sb_topo rfl rfl ?_ rfl
                refine t_bxn S.box ab_path sb_path rfl rfl ?_ rfl
                refine t_bxn S.tail.box ab_topo sb_topo rfl rfl ?_ rfl
                refine t_bxn S.box ab_path sb_path rfl rfl ?_ rfl
                refine t_callx Try.call23 rfl (impl_FirstForbiddenStep (⟨A23, L23⟩ : Topo) _ p23 _ _ (topo_mkv (S.tail.tail.tail.sl) (S.tail.tail.tail.tail.sl)) (path_mkv (S.tail.tail.rd)) (by assumption) (by omega) (by assumption) (by assumption)) ?_ rfl rfl
                intro w107 x108
                have B := bx Hb B x108
                have S := S.below x108
                refine t_lss rfl rfl ?_ rfl
                refine t_callx Try.call21 rfl (impl_PathAllowed (⟨A23, L23⟩ : Topo) _ p23 _ _ (topo_mkv (S.tail.tail.tail.sl) (S.tail.tail.tail.tail.sl)) (path_mkv (S.tail.tail.rd)) (by assumption) (by omega) (by assumption) (by assumption)) ?_ rfl rfl
                intro w109 x110
                have B := bx Hb B x110
                have S := S.below x110
                refine t_eqlb Try.underlying4 rfl rfl ?_ rfl
                refine t_move rfl ?_ rfl
                refine t_partp (t := 121) rfl ?_ (fun h => absurd rfl h)
                intro _
                refine t_on rfl rfl ?_
                refine t_bxn S.tail.box ab_topo sb_topo rfl rfl ?_ rfl
                refine t_on rfl rfl ?_
                refine t_bxn S.box ab_path sb_path rfl rfl ?_ rfl
                refine t_on rfl rfl ?_
                refine t_bxn S.tail.box ab_topo sb_topo rfl rfl ?_ rfl
                refine t_on rfl rfl ?_
                refine t_bxn S.box ab_path sb_path rfl rfl ?_ rfl
                refine t_on rfl rfl ?_
                refine t_bxn S.tail.box ab_topo sb_topo rfl rfl ?_ rfl
                refine t_on rfl rfl ?_
                refine t_bxn S.box ab_path sb_path rfl rfl ?_ rfl
                refine t_on rfl rfl ?_
                refine t_bxn S.box ab_path sb_path rfl rfl ?_ rfl
                refine t_on rfl rfl ?_
                refine t_callx Try.call25 rfl (impl_UpSteps (⟨A23, L23⟩ : Topo) _ p23 _ _ (topo_mkv (S.tail.tail.tail.sl) (S.tail.tail.tail.tail.sl)) (path_mkv (S.tail.tail.rd)) (by assumption) (by omega) (by assumption) (by assumption)) ?_ rfl rfl
                intro w111 x112
                have B := bx Hb B x112
                have S := S.below x112
                refine t_on rfl rfl ?_
                refine t_callx Try.call27 rfl (impl_DownSteps (⟨A23, L23⟩ : Topo) _ p23 _ _ (topo_mkv (S.tail.tail.tail.sl) (S.tail.tail.tail.tail.sl)) (path_mkv (S.tail.tail.rd)) (by assumption) (by omega) (by assumption) (by assumption)) ?_ rfl rfl
                intro w113 x114
                have B := bx Hb B x114
                have S := S.below x114
                refine t_on rfl rfl ?_
                refine t_add rfl rfl (by omega) ?_ rfl
                refine t_on rfl rfl ?_
                refine t_callx Try.call29 rfl (impl_CoreSteps (⟨A23, L23⟩ : Topo) _ p23 _ _ (topo_mkv (S.tail.tail.tail.sl) (S.tail.tail.tail.tail.sl)) (path_mkv (S.tail.tail.rd)) (by assumption) (by omega) (by assumption) (by assumption)) ?_ rfl rfl
                intro w115 x116
                have B := bx Hb B x116
                have S := S.below x116
                refine t_on rfl rfl ?_
                refine t_add rfl rfl (by omega) ?_ rfl
                refine t_on rfl rfl ?_
                refine t_callx Try.call31 rfl (va1 (path_mkv (S.tail.tail.rd)) fun cs h => impl_PathLength _ cs _ h (by omega) (by assumption) (by assumption)) ?_ rfl rfl
                intro w117 x118
                have B := bx Hb B x118
                have S := S.below x118
                refine t_on rfl rfl ?_
                refine t_leq rfl rfl ?_ rfl
                refine t_pickt rfl rfl ?_ rfl
                refine t_assign rfl ?_ rfl
                refine t_done' ?_
                refine x_seq ?_
                refine w_ret ?_
                refine x_ret1 rfl rfl ?_
                first | exact ⟨ret_bool (decide_eq_true (by omega)), ext_trans X0 B⟩ | exact absurd (.inl ⟨by omega, by assumption⟩) hno | exact absurd (.inr (.inl ⟨by omega, by assumption⟩)) hno | exact absurd (.inr (.inr (.inl (by assumption)))) hno | exact absurd (.inr (.inr (.inr (by assumption)))) hno
        · intro hc40
          refine t_off rfl rfl rfl ?_ rfl
          refine t_off rfl rfl rfl ?_ rfl
          refine t_on rfl rfl ?_
          refine t_pickf rfl rfl ?_ rfl
          refine t_pickf rfl rfl ?_ rfl
          refine t_move rfl ?_ rfl
          refine t_on rfl rfl ?_
          refine t_move rfl ?_ rfl
          refine t_on rfl rfl ?_
          refine t_calls Try.call17 rfl (impl_transit _ _ _) ?_ rfl rfl
          refine t_pickf rfl rfl ?_ rfl
          refine t_move rfl ?_ rfl
          refine t_part (t := 109) rfl ?_ ?_
          · intro hc41
            refine t_off rfl rfl rfl ?_ rfl
            refine t_off rfl rfl rfl ?_ rfl
            refine t_pickt rfl rfl ?_ rfl
            refine t_done ?_
            refine x_seq ?_
            refine w_yes rfl ?_
            refine w_seq ?_
            refine w_region ?_
            refine t_assign rfl ?_ rfl
            refine t_done ?_
            refine x_seq ?_
            refine w_ret ?_
            refine x_then_ret ?_
            refine x_ret1 rfl rfl ?_
            first | exact ⟨ret_bool (decide_eq_true (by omega)), ext_trans X0 B⟩ | exact absurd (.inl ⟨by omega, by assumption⟩) hno | exact absurd (.inr (.inl ⟨by omega, by assumption⟩)) hno | exact absurd (.inr (.inr (.inl (by assumption)))) hno | exact absurd (.inr (.inr (.inr (by assumption)))) hno
          · intro hc42
            refine t_on rfl rfl ?_
            refine t_move rfl ?_ rfl
            refine t_on rfl rfl ?_
            refine t_calls Try.call17 rfl (impl_transit _ _ _) ?_ rfl rfl
            refine t_pickf rfl rfl ?_ rfl
            refine t_done ?_
            refine x_seq ?_
            refine w_ifb rfl ?_ ?_
            · intro hc43
              refine w_seq ?_
              refine w_region ?_
              refine t_assign rfl ?_ rfl
              refine t_done ?_
              refine x_seq ?_
              refine w_ret ?_
              refine x_then_ret ?_
              refine x_ret1 rfl rfl ?_
              first | exact ⟨ret_bool (decide_eq_true (by omega)), ext_trans X0 B⟩ | exact absurd (.inl ⟨by omega, by assumption⟩) hno | exact absurd (.inr (.inl ⟨by omega, by assumption⟩)) hno | exact absurd (.inr (.inr (.inl (by assumption)))) hno | exact absurd (.inr (.inr (.inr (by assumption)))) hno
            · intro hc44
              refine w_skip ?_
              refine x_seq ?_
              refine w_seq ?_
              refine w_draw (.st .take 0 (.st .take 1 (.st .take 4 (.st .take 5 (.st .run 2 (.st .take 3 (.st .run 6 (.st .take 7 (.st .take 8 (.st .take 9 (.st .take 10 (.st .take 12 (.st .take 13 (.st .take 16 (.st .take 17 (.st .take 20 (.st .run 11 (.st .run 14 (.st .take 15 (.st .run 18 (.st .take 19 (.st .run 21 (.st .take 22 (.st .take 23 (.st .take 24 .done))))))))))))))))))))))))) mixed (by kernel_rfl) ?_
              intro w119 x120
              have B := bx Hb B x120
              have S := S.below x120
              refine t_bxn S.tail.box ab_topo sb_topo rfl rfl ?_ rfl
              refine t_bxn S.box ab_path sb_path rfl rfl ?_ rfl
              refine t_bxn S.tail.box ab_topo sb_topo rfl rfl ?_ rfl
              refine t_bxn S.box ab_path sb_path rfl rfl ?_ rfl
              refine t_callx Try.call23 rfl (impl_FirstForbiddenStep (⟨A23, L23⟩ : Topo) _ p23 _ _ (topo_mkv (S.tail.tail.tail.sl) (S.tail.tail.tail.tail.sl)) (path_mkv (S.tail.tail.rd)) (by assumption) (by omega) (by assumption) (by assumption)) ?_ rfl rfl
              intro w121 x122
              have B := bx Hb B x122
              have S := S.below x122
              refine t_lss rfl rfl ?_ rfl
              refine t_callx Try.call21 rfl (impl_PathAllowed (⟨A23, L23⟩ : Topo) _ p23 _ _ (topo_mkv (S.tail.tail.tail.sl) (S.tail.tail.tail.tail.sl)) (path_mkv (S.tail.tail.rd)) (by assumption) (by omega) (by assumption) (by assumption)) ?_ rfl rfl
              intro w123 x124
              have B := bx Hb B x124
              have S := S.below x124
              refine t_eqlb Try.underlying4 rfl rfl ?_ rfl
              refine t_move rfl ?_ rfl
              refine t_partp (t := 121) rfl ?_ (fun h => absurd rfl h)
              intro _
              refine t_on rfl rfl ?_
              refine t_bxn S.tail.box ab_topo sb_topo rfl rfl ?_ rfl
              refine t_on rfl rfl ?_
              refine t_bxn S.box ab_path sb_path rfl rfl ?_ rfl
              refine t_on rfl rfl ?_
              refine t_bxn S.tail.box ab_topo sb_topo rfl rfl ?_ rfl
              refine t_on rfl rfl ?_
              refine t_bxn S.box ab_path sb_path rfl rfl ?_ rfl
              refine t_on rfl rfl ?_
              refine t_bxn S.tail.box ab_topo sb_topo rfl rfl ?_ rfl
              refine t_on rfl rfl ?_
              refine t_bxn S.box ab_path sb_path rfl rfl ?_ rfl
              refine t_on rfl rfl ?_
              refine t_bxn S.box ab_path sb_path rfl rfl ?_ rfl
              refine t_on rfl rfl ?_
              refine t_callx Try.call25 rfl (impl_UpSteps (⟨A23, L23⟩ : Topo) _ p23 _ _ (topo_mkv (S.tail.tail.tail.sl) (S.tail.tail.tail.tail.sl)) (path_mkv (S.tail.tail.rd)) (by assumption) (by omega) (by assumption) (by assumption)) ?_ rfl rfl
              intro w125 x126
              have B := bx Hb B x126
              have S := S.below x126
              refine t_on rfl rfl ?_
              refine t_callx Try.call27 rfl (impl_DownSteps (⟨A23, L23⟩ : Topo) _ p23 _ _ (topo_mkv (S.tail.tail.tail.sl) (S.tail.tail.tail.tail.sl)) (path_mkv (S.tail.tail.rd)) (by assumption) (by omega) (by assumption) (by assumption)) ?_ rfl rfl
              intro w127 x128
              have B := bx Hb B x128
              have S := S.below x128
              refine t_on rfl rfl ?_
              refine t_add rfl rfl (by omega) ?_ rfl
              refine t_on rfl rfl ?_
              refine t_callx Try.call29 rfl (impl_CoreSteps (⟨A23, L23⟩ : Topo) _ p23 _ _ (topo_mkv (S.tail.tail.tail.sl) (S.tail.tail.tail.tail.sl)) (path_mkv (S.tail.tail.rd)) (by assumption) (by omega) (by assumption) (by assumption)) ?_ rfl rfl
              intro w129 x130
              have B := bx Hb B x130
              have S := S.below x130
              refine t_on rfl rfl ?_
              refine t_add rfl rfl (by omega) ?_ rfl
              refine t_on rfl rfl ?_
              refine t_callx Try.call31 rfl (va1 (path_mkv (S.tail.tail.rd)) fun cs h => impl_PathLength _ cs _ h (by omega) (by assumption) (by assumption)) ?_ rfl rfl
              intro w131 x132
              have B := bx Hb B x132
              have S := S.below x132
              refine t_on rfl rfl ?_
              refine t_leq rfl rfl ?_ rfl
              refine t_pickt rfl rfl ?_ rfl
              refine t_assign rfl ?_ rfl
              refine t_done' ?_
              refine x_seq ?_
              refine w_ret ?_
              refine x_ret1 rfl rfl ?_
              first | exact ⟨ret_bool (decide_eq_true (by omega)), ext_trans X0 B⟩ | exact absurd (.inl ⟨by omega, by assumption⟩) hno | exact absurd (.inr (.inl ⟨by omega, by assumption⟩)) hno | exact absurd (.inr (.inr (.inl (by assumption)))) hno | exact absurd (.inr (.inr (.inr (by assumption)))) hno
namespace fnPasses
open Go.ChangeShapes Go.WideShapes Go.ChangeAt
set_option maxRecDepth 100000 in
theorem lifted (os : Os) (started : os.Started) (H : Type) (enc : TypeId × Value → H) :
    ReturnsInHanded {} Try.checked os 4 .any (Rows.fnPassesSpec.pre6 enc Try.prog Try.f4 Rows.fnPassesRow.domain false) (Rows.fnPassesSpec.post enc Try.prog Try.f4 false true false false) := by
  refine returnsInHanded_of_change (C := Try.checked) knob started (by kernel_rfl) Try.func4
    (ChangeSpec.witness6 (enc := enc) (C := Try.checked) false ⟨#[], #[.slice none 0 0], []⟩ 8 (by kernel_rfl) (by kernel_rfl) (by kernel_rfl) (by kernel_rfl)) ?_
  intro W base args ds gs before hval0 hW hcnd _
  have hval : ∀ (j : Nat) t v, Try.f4.params[j]? = some t → args[j]? = some v → Value.okWide Try.prog W .any base t v := hval0
  have hW' := hW
  obtain ⟨p, q, hA0, hV, rfl, hfz, hnd⟩ := hW
  have hA : DataW.TrodAll enc Try.prog W 0 (fun _ => true) true Try.f4.params.toList args.toList ds p := hA0
  rw [Try.params4] at hA hval
  obtain ⟨v0, vs0, d0, ds0, p0, q0, hargs, rfl, rfl, h0, r0⟩ := trodAll_cons hA
  obtain ⟨rfl, rfl, rfl⟩ := trodAll_nil r0
  obtain rfl : args = #[v0] := by cases args; simp_all
  obtain ⟨rfl, rfl⟩ := trodVars_none hV
  have k0 := h0
  have lt0 : ∀ x ∈ p0, x.block < W.heap.size := by obtain ⟨m, hm⟩ := k0; exact DataW.trod_lt m _ _ _ hm
  obtain ⟨x0, R0, L0⟩ := open_byteS (hval 0 22 v0 rfl rfl) h0
  clear hA0 hval0
  refine (lawFnPasses x0 _ W R0 L0).mono fun e W' ⟨he, bel⟩ => ?_
  subst he
  exact ⟨_, rfl, _, _, _, [], _, [], hW', trodAll_mk1 (shut_bool Try.underlying4 _), (trodAll_cons_mk (Below.trod laidOut (by kernel_rfl) (of_decide_eq_true (by kernel_rfl)) k0 bel lt0) trodAll_mk0), rfl, bel.frame _, fun h => by cases h⟩
theorem jA : jnA Try.pinned.checked.prog Try.f4 Rows.fnPassesSpec Rows.fnPassesRow = true := by kernel_rfl
theorem jB : jnB Try.pinned.checked.prog 4 Rows.fnPassesRow = true := by kernel_rfl
theorem jC : jnC Try.pinned.checked.prog Try.f4 Rows.fnPassesSpec Rows.fnPassesRow = true := by kernel_rfl
theorem jD : jnD Try.pinned.checked.prog = true := by kernel_rfl
theorem jE : jnE Try.pinned.checked.prog = true := by kernel_rfl
theorem jF : jnF Try.pinned.checked.prog Rows.fnPassesRow = true := by kernel_rfl
theorem jG : jnG Try.pinned.checked.prog Rows.fnPassesRow = true := by kernel_rfl
theorem jH : jnH Try.pinned.checked.prog Try.f4 Rows.fnPassesRow = true := by kernel_rfl
theorem jI : jnI Rows.fnPassesRow = true := by kernel_rfl
theorem jJ : jnJ Try.pinned.checked.prog Try.f4 Rows.fnPassesSpec Rows.fnPassesRow = true := by kernel_rfl
theorem over : Rows.fnPassesRow.holds Try.pinned (OpenSpec.ofChange Rows.fnPassesSpec) :=
  OpenClaim.holds_of_wide 4 Try.f4 rfl rfl rfl rfl rfl rfl rfl ⟨rfl, rfl, rfl, rfl, rfl⟩ rfl rfl rfl rfl rfl (by kernel_rfl) Try.func4 (joined_of jA jB jC jD jE jF jG jH jI jJ)
    (of_decide_eq_true (by kernel_rfl)) (by unfold Func.isWrapper; first | (rw [if_pos (by decide +kernel)]; kernel_rfl) | (rw [if_neg (by decide +kernel)]; exact ⟨rfl, rfl⟩))
    (fun os started H enc _ => lifted os started H enc)
theorem proved : Rows.FnPassesSaid := over
#print axioms proved
end fnPasses
end Go.Proofs.Ytdaecknfahgddaa
