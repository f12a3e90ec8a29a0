/- What LawFnPaths needs of the texts below it, part 5: contracts of functions, plain lemmas. (Put together by slim.py.) -/
import Derived.Test.YtdaecknfahgddaaGreatSLawFnPaths4
namespace Go.Proofs.YtdaecknfahgddaaGreat
open Go.RowKit
set_option linter.unusedVariables false
set_option maxRecDepth 20000
theorem spec_DrawPathUsable (code : List UInt8) (v : Value) (w : World) (h : SlR byteT w v code) (hz : code.length ≤ 1048576) : Calls Tryz.prog 8 #[v] w fun e w' => ∃ (va vl vp : Value) (A : List ASd) (L : List Lnk) (p : Path) (now : Int), e = .returned (.tuple #[.agg #[va, vl], .agg #[vp], I now]) ∧ (TopK A L ∧ PathS p ∧ 40 ≤ now ∧ now ≤ 69) ∧ Sep w.heap.size w' [rdO partT vp p, slO asnT 135 va A, slO linkT 152 vl L] ∧ Ext w w' := by
  have K := CodeK.of h hz
  have X0 := Below.refl w.heap.size w
  refine enter Tryz.func8 rfl Tryz.ntmps8 rfl ?_
  have S := Sep.nil w
  have B := Below.refl w.heap.size w
  have Hb := Nat.le_refl w.heap.size
  refine w_seq ?_
  refine w_region ?_
  refine t_alloc S z_topo rfl ?_ rfl rfl
  intro g2 w1 x2 S
  have B := bx Hb B x2
  refine t_alloc S z_path rfl ?_ rfl rfl
  intro g3 w3 x4 S
  have B := bx Hb B x4
  refine t_assign rfl ?_ rfl
  refine t_done ?_
  refine x_seq ?_
  refine w_seq ?_
  refine w_region ?_
  refine t_move rfl ?_ rfl
  refine t_call Tryz.call56 rfl (spec_l22One _ _ _ (by first | assumption | exact SlR.below (by assumption) B) (by omega)) ?_ rfl rfl
  rintro e w5 ⟨g10, va10, vl10, vp10, A10, L10, p10, rfl, hf10, S9, x6⟩
  refine ⟨_, rfl, x6, ?_⟩
  have S := S.join2 x6 S9
  clear S9
  have B := bx Hb B x6
  refine t_move rfl ?_ rfl
  refine t_extract rfl rfl ?_ rfl
  refine t_extract rfl rfl ?_ rfl
  refine t_extract rfl rfl ?_ rfl
  refine t_alloc S z_topo rfl ?_ rfl rfl
  intro g6 w7 x8 S
  have B := bx Hb B x8
  refine t_alloc S z_path rfl ?_ rfl rfl
  intro g7 w9 x10 S
  have B := bx Hb B x10
  refine t_assign rfl ?_ rfl
  have S := S.f1
  refine t_stn S sb_topo rfl rfl rfl rfl (by intro zz hu; have hu : zz ∈ ([va10, vl10] : List Value) := hu; simp only [List.mem_cons, List.not_mem_nil, or_false] at hu; rcases hu with rfl | rfl <;> first | rfl | exact (SlR.cells S.tail.tail.tail.sl).2 | exact (SlR.cells S.tail.tail.tail.tail.sl).2) ?_
  intro w11 b12 S
  have B := B.trans b12
  have S := S.f1
  refine t_stn S sb_path rfl rfl rfl rfl (by intro zz hu; have hu : zz ∈ ([vp10] : List Value) := hu; simp only [List.mem_cons, List.not_mem_nil, or_false] at hu; rcases hu with rfl <;> first | rfl | exact (SlR.cells S.tail.tail.rd).2) ?_
  intro w13 b14 S
  have B := B.trans b14
  refine t_done ?_
  refine x_seq ?_
  refine w_seq ?_
  obtain ⟨T, hP⟩ := hf10
  refine w_drawP [2] (.alt (.st .fin 0 (.alt (.st .fin 1 (.st .fin 3 (.alt (.st .fin 4 (.st .fin 5 (.st .fin 6 (.st .fin 7 .done)))) (.st .fin 5 (.alt (.st .fin 4 (.st .fin 6 (.st .fin 7 .done))) (.st .fin 6 (.st .fin 4 (.st .fin 7 .done)))))))) (.st .fin 3 (.alt (.st .fin 1 (.alt (.st .fin 4 (.st .fin 5 (.st .fin 6 (.st .fin 7 .done)))) (.st .fin 5 (.alt (.st .fin 4 (.st .fin 6 (.st .fin 7 .done))) (.st .fin 6 (.st .fin 4 (.st .fin 7 .done))))))) (.alt (.st .fin 4 (.alt (.st .fin 1 (.st .fin 5 (.st .fin 6 (.st .fin 7 .done)))) (.st .fin 5 (.st .fin 1 (.st .fin 6 (.st .fin 7 .done)))))) (.st .fin 5 (.alt (.st .fin 1 (.alt (.st .fin 4 (.st .fin 6 (.st .fin 7 .done))) (.st .fin 6 (.st .fin 4 (.st .fin 7 .done))))) (.st .fin 4 (.st .fin 1 (.st .fin 6 (.st .fin 7 .done))))))))))) (.alt (.st .fin 1 (.alt (.st .fin 0 (.st .fin 3 (.alt (.st .fin 4 (.st .fin 5 (.st .fin 6 (.st .fin 7 .done)))) (.st .fin 5 (.alt (.st .fin 4 (.st .fin 6 (.st .fin 7 .done))) (.st .fin 6 (.st .fin 4 (.st .fin 7 .done)))))))) (.st .fin 3 (.alt (.st .fin 0 (.alt (.st .fin 4 (.st .fin 5 (.st .fin 6 (.st .fin 7 .done)))) (.st .fin 5 (.alt (.st .fin 4 (.st .fin 6 (.st .fin 7 .done))) (.st .fin 6 (.st .fin 4 (.st .fin 7 .done))))))) (.st .fin 4 (.st .fin 0 (.st .fin 5 (.st .fin 6 (.st .fin 7 .done))))))))) (.st .fin 3 (.alt (.st .fin 0 (.alt (.st .fin 1 (.alt (.st .fin 4 (.st .fin 5 (.st .fin 6 (.st .fin 7 .done)))) (.st .fin 5 (.alt (.st .fin 4 (.st .fin 6 (.st .fin 7 .done))) (.st .fin 6 (.st .fin 4 (.st .fin 7 .done))))))) (.alt (.st .fin 4 (.alt (.st .fin 1 (.st .fin 5 (.st .fin 6 (.st .fin 7 .done)))) (.st .fin 5 (.st .fin 1 (.st .fin 6 (.st .fin 7 .done)))))) (.st .fin 5 (.alt (.st .fin 1 (.alt (.st .fin 4 (.st .fin 6 (.st .fin 7 .done))) (.st .fin 6 (.st .fin 4 (.st .fin 7 .done))))) (.st .fin 4 (.st .fin 1 (.st .fin 6 (.st .fin 7 .done))))))))) (.alt (.st .fin 1 (.alt (.st .fin 0 (.alt (.st .fin 4 (.st .fin 5 (.st .fin 6 (.st .fin 7 .done)))) (.st .fin 5 (.alt (.st .fin 4 (.st .fin 6 (.st .fin 7 .done))) (.st .fin 6 (.st .fin 4 (.st .fin 7 .done))))))) (.st .fin 4 (.st .fin 0 (.st .fin 5 (.st .fin 6 (.st .fin 7 .done))))))) (.st .fin 4 (.alt (.st .fin 0 (.alt (.st .fin 1 (.st .fin 5 (.st .fin 6 (.st .fin 7 .done)))) (.st .fin 5 (.st .fin 1 (.st .fin 6 (.st .fin 7 .done)))))) (.st .fin 1 (.st .fin 0 (.st .fin 5 (.st .fin 6 (.st .fin 7 .done)))))))))))) mixed (by kernel_rfl) ?_
  intro w15 x16
  have B := bx Hb B x16
  have S := S.below x16
  refine p_move rfl ?_ rfl
  refine p_done ?_
  refine t_alt ?_ (t_alt ?_ ?_)
  · refine t_bxn S.tail.box ab_topo sb_topo rfl rfl ?_ rfl
    refine t_alt ?_ ?_
    · refine t_bxn S.box ab_path sb_path rfl rfl ?_ rfl
      have S := S.f5
      refine t_callf Tryz.call57 rfl (spec_l1Below 30 S (K.below B)) ?_ rfl
      rintro e w17 ⟨y17, rfl, hf17, S, x18⟩
      refine ⟨_, rfl, ?_⟩
      have B := B.trans x18
      refine t_alt ?_ ?_
      · refine t_add rfl rfl (by omega) ?_ rfl
        have S := S.f7
        refine t_stn S sb_topo rfl rfl rfl rfl (by intro zz hu; have hu : zz ∈ ([va10, vl10] : List Value) := hu; simp only [List.mem_cons, List.not_mem_nil, or_false] at hu; rcases hu with rfl | rfl <;> first | rfl | exact (SlR.cells S.tail.tail.tail.tail.tail.sl).2 | exact (SlR.cells S.tail.tail.tail.tail.tail.tail.sl).2) ?_
        intro w19 b20 S
        have B := B.trans b20
        have S := S.f7
        refine t_stn S sb_path rfl rfl rfl rfl (by intro zz hu; have hu : zz ∈ ([vp10] : List Value) := hu; simp only [List.mem_cons, List.not_mem_nil, or_false] at hu; rcases hu with rfl <;> first | rfl | exact (SlR.cells S.tail.tail.tail.tail.tail.rd).2) ?_
        intro w21 b22 S
        have B := B.trans b22
        refine t_assign rfl ?_ rfl
        refine t_done' ?_
        refine x_seq ?_
        refine w_ret ?_
        refine x_retcct rfl rfl S.tail.box ab_topo sb_topo rfl rfl S.box ab_path sb_path rfl rfl ?_
        have S := S.tail
        have S := S.tail
        have S := S.tail
        have S := S.tail
        have S := S.tail
        have S := S.f2
        have S := S.f2
        have S := S.f2
        exact ⟨_, _, _, _, _, _, _, rfl, ⟨T, hP, by omega, by omega⟩, S, ext_trans X0 B⟩
      · have S := S.f7
        refine t_stn S sb_topo rfl rfl rfl rfl (by intro zz hu; have hu : zz ∈ ([va10, vl10] : List Value) := hu; simp only [List.mem_cons, List.not_mem_nil, or_false] at hu; rcases hu with rfl | rfl <;> first | rfl | exact (SlR.cells S.tail.tail.tail.tail.tail.sl).2 | exact (SlR.cells S.tail.tail.tail.tail.tail.tail.sl).2) ?_
        intro w23 b24 S
        have B := B.trans b24
        refine t_alt ?_ ?_
        · refine t_add rfl rfl (by omega) ?_ rfl
          have S := S.f7
          refine t_stn S sb_path rfl rfl rfl rfl (by intro zz hu; have hu : zz ∈ ([vp10] : List Value) := hu; simp only [List.mem_cons, List.not_mem_nil, or_false] at hu; rcases hu with rfl <;> first | rfl | exact (SlR.cells S.tail.tail.tail.tail.tail.rd).2) ?_
          intro w25 b26 S
          have B := B.trans b26
          refine t_assign rfl ?_ rfl
          refine t_done' ?_
          refine x_seq ?_
          refine w_ret ?_
          refine x_retcct rfl rfl S.tail.box ab_topo sb_topo rfl rfl S.box ab_path sb_path rfl rfl ?_
          have S := S.tail
          have S := S.tail
          have S := S.tail
          have S := S.tail
          have S := S.tail
          have S := S.f2
          have S := S.f2
          have S := S.f2
          exact ⟨_, _, _, _, _, _, _, rfl, ⟨T, hP, by omega, by omega⟩, S, ext_trans X0 B⟩
        · have S := S.f7
          refine t_stn S sb_path rfl rfl rfl rfl (by intro zz hu; have hu : zz ∈ ([vp10] : List Value) := hu; simp only [List.mem_cons, List.not_mem_nil, or_false] at hu; rcases hu with rfl <;> first | rfl | exact (SlR.cells S.tail.tail.tail.tail.tail.rd).2) ?_
          intro w27 b28 S
          have B := B.trans b28
          refine t_add rfl rfl (by omega) ?_ rfl
          refine t_assign rfl ?_ rfl
          refine t_done' ?_
          refine x_seq ?_
          refine w_ret ?_
          refine x_retcct rfl rfl S.tail.box ab_topo sb_topo rfl rfl S.box ab_path sb_path rfl rfl ?_
          have S := S.tail
          have S := S.tail
          have S := S.tail
          have S := S.tail
          have S := S.tail
          have S := S.f2
          have S := S.f2
          have S := S.f2
          exact ⟨_, _, _, _, _, _, _, rfl, ⟨T, hP, by omega, by omega⟩, S, ext_trans X0 B⟩
    · have S := S.f5
      refine t_callf Tryz.call57 rfl (spec_l1Below 30 S (K.below B)) ?_ rfl
      rintro e w29 ⟨y17, rfl, hf17, S, x30⟩
      refine ⟨_, rfl, ?_⟩
      have B := B.trans x30
      refine t_alt ?_ (t_alt ?_ ?_)
      · refine t_bxn S.tail.box ab_path sb_path rfl rfl ?_ rfl
        refine t_alt ?_ ?_
        · refine t_add rfl rfl (by omega) ?_ rfl
          have S := S.f7
          refine t_stn S sb_topo rfl rfl rfl rfl (by intro zz hu; have hu : zz ∈ ([va10, vl10] : List Value) := hu; simp only [List.mem_cons, List.not_mem_nil, or_false] at hu; rcases hu with rfl | rfl <;> first | rfl | exact (SlR.cells S.tail.tail.tail.tail.tail.sl).2 | exact (SlR.cells S.tail.tail.tail.tail.tail.tail.sl).2) ?_
          intro w31 b32 S
          have B := B.trans b32
          have S := S.f7
          refine t_stn S sb_path rfl rfl rfl rfl (by intro zz hu; have hu : zz ∈ ([vp10] : List Value) := hu; simp only [List.mem_cons, List.not_mem_nil, or_false] at hu; rcases hu with rfl <;> first | rfl | exact (SlR.cells S.tail.tail.tail.tail.tail.rd).2) ?_
          intro w33 b34 S
          have B := B.trans b34
          refine t_assign rfl ?_ rfl
          refine t_done' ?_
          refine x_seq ?_
          refine w_ret ?_
          refine x_retcct rfl rfl S.tail.box ab_topo sb_topo rfl rfl S.box ab_path sb_path rfl rfl ?_
          have S := S.tail
          have S := S.tail
          have S := S.tail
          have S := S.tail
          have S := S.tail
          have S := S.f2
          have S := S.f2
          have S := S.f2
          exact ⟨_, _, _, _, _, _, _, rfl, ⟨T, hP, by omega, by omega⟩, S, ext_trans X0 B⟩
        · have S := S.f7
          refine t_stn S sb_topo rfl rfl rfl rfl (by intro zz hu; have hu : zz ∈ ([va10, vl10] : List Value) := hu; simp only [List.mem_cons, List.not_mem_nil, or_false] at hu; rcases hu with rfl | rfl <;> first | rfl | exact (SlR.cells S.tail.tail.tail.tail.tail.sl).2 | exact (SlR.cells S.tail.tail.tail.tail.tail.tail.sl).2) ?_
          intro w35 b36 S
          have B := B.trans b36
          refine t_alt ?_ ?_
          · refine t_add rfl rfl (by omega) ?_ rfl
            have S := S.f7
            refine t_stn S sb_path rfl rfl rfl rfl (by intro zz hu; have hu : zz ∈ ([vp10] : List Value) := hu; simp only [List.mem_cons, List.not_mem_nil, or_false] at hu; rcases hu with rfl <;> first | rfl | exact (SlR.cells S.tail.tail.tail.tail.tail.rd).2) ?_
            intro w37 b38 S
            have B := B.trans b38
            refine t_assign rfl ?_ rfl
            refine t_done' ?_
            refine x_seq ?_
            refine w_ret ?_
            refine x_retcct rfl rfl S.tail.box ab_topo sb_topo rfl rfl S.box ab_path sb_path rfl rfl ?_
            have S := S.tail
            have S := S.tail
            have S := S.tail
            have S := S.tail
            have S := S.tail
            have S := S.f2
            have S := S.f2
            have S := S.f2
            exact ⟨_, _, _, _, _, _, _, rfl, ⟨T, hP, by omega, by omega⟩, S, ext_trans X0 B⟩
          · have S := S.f7
            refine t_stn S sb_path rfl rfl rfl rfl (by intro zz hu; have hu : zz ∈ ([vp10] : List Value) := hu; simp only [List.mem_cons, List.not_mem_nil, or_false] at hu; rcases hu with rfl <;> first | rfl | exact (SlR.cells S.tail.tail.tail.tail.tail.rd).2) ?_
            intro w39 b40 S
            have B := B.trans b40
            refine t_add rfl rfl (by omega) ?_ rfl
            refine t_assign rfl ?_ rfl
            refine t_done' ?_
            refine x_seq ?_
            refine w_ret ?_
            refine x_retcct rfl rfl S.tail.box ab_topo sb_topo rfl rfl S.box ab_path sb_path rfl rfl ?_
            have S := S.tail
            have S := S.tail
            have S := S.tail
            have S := S.tail
            have S := S.tail
            have S := S.f2
            have S := S.f2
            have S := S.f2
            exact ⟨_, _, _, _, _, _, _, rfl, ⟨T, hP, by omega, by omega⟩, S, ext_trans X0 B⟩
      · refine t_add rfl rfl (by omega) ?_ rfl
        refine t_alt ?_ ?_
        · refine t_bxn S.tail.box ab_path sb_path rfl rfl ?_ rfl
          have S := S.f7
          refine t_stn S sb_topo rfl rfl rfl rfl (by intro zz hu; have hu : zz ∈ ([va10, vl10] : List Value) := hu; simp only [List.mem_cons, List.not_mem_nil, or_false] at hu; rcases hu with rfl | rfl <;> first | rfl | exact (SlR.cells S.tail.tail.tail.tail.tail.sl).2 | exact (SlR.cells S.tail.tail.tail.tail.tail.tail.sl).2) ?_
          intro w41 b42 S
          have B := B.trans b42
          have S := S.f7
          refine t_stn S sb_path rfl rfl rfl rfl (by intro zz hu; have hu : zz ∈ ([vp10] : List Value) := hu; simp only [List.mem_cons, List.not_mem_nil, or_false] at hu; rcases hu with rfl <;> first | rfl | exact (SlR.cells S.tail.tail.tail.tail.tail.rd).2) ?_
          intro w43 b44 S
          have B := B.trans b44
          refine t_assign rfl ?_ rfl
          refine t_done' ?_
          refine x_seq ?_
          refine w_ret ?_
          refine x_retcct rfl rfl S.tail.box ab_topo sb_topo rfl rfl S.box ab_path sb_path rfl rfl ?_
          have S := S.tail
          have S := S.tail
          have S := S.tail
          have S := S.tail
          have S := S.tail
          have S := S.f2
          have S := S.f2
          have S := S.f2
          exact ⟨_, _, _, _, _, _, _, rfl, ⟨T, hP, by omega, by omega⟩, S, ext_trans X0 B⟩
        · have S := S.f7
          refine t_stn S sb_topo rfl rfl rfl rfl (by intro zz hu; have hu : zz ∈ ([va10, vl10] : List Value) := hu; simp only [List.mem_cons, List.not_mem_nil, or_false] at hu; rcases hu with rfl | rfl <;> first | rfl | exact (SlR.cells S.tail.tail.tail.tail.tail.sl).2 | exact (SlR.cells S.tail.tail.tail.tail.tail.tail.sl).2) ?_
          intro w45 b46 S
          have B := B.trans b46
          refine t_bxn S.tail.tail.box ab_path sb_path rfl rfl ?_ rfl
          have S := S.f7
          refine t_stn S sb_path rfl rfl rfl rfl (by intro zz hu; have hu : zz ∈ ([vp10] : List Value) := hu; simp only [List.mem_cons, List.not_mem_nil, or_false] at hu; rcases hu with rfl <;> first | rfl | exact (SlR.cells S.tail.tail.tail.tail.tail.rd).2) ?_
          intro w47 b48 S
          have B := B.trans b48
          refine t_assign rfl ?_ rfl
          refine t_done' ?_
          refine x_seq ?_
          refine w_ret ?_
          refine x_retcct rfl rfl S.tail.box ab_topo sb_topo rfl rfl S.box ab_path sb_path rfl rfl ?_
          have S := S.tail
          have S := S.tail
          have S := S.tail
          have S := S.tail
          have S := S.tail
          have S := S.f2
          have S := S.f2
          have S := S.f2
          exact ⟨_, _, _, _, _, _, _, rfl, ⟨T, hP, by omega, by omega⟩, S, ext_trans X0 B⟩
      · have S := S.f7
        refine t_stn S sb_topo rfl rfl rfl rfl (by intro zz hu; have hu : zz ∈ ([va10, vl10] : List Value) := hu; simp only [List.mem_cons, List.not_mem_nil, or_false] at hu; rcases hu with rfl | rfl <;> first | rfl | exact (SlR.cells S.tail.tail.tail.tail.tail.sl).2 | exact (SlR.cells S.tail.tail.tail.tail.tail.tail.sl).2) ?_
        intro w49 b50 S
        have B := B.trans b50
        refine t_alt ?_ ?_
        · refine t_bxn S.tail.tail.box ab_path sb_path rfl rfl ?_ rfl
          refine t_alt ?_ ?_
          · refine t_add rfl rfl (by omega) ?_ rfl
            have S := S.f7
            refine t_stn S sb_path rfl rfl rfl rfl (by intro zz hu; have hu : zz ∈ ([vp10] : List Value) := hu; simp only [List.mem_cons, List.not_mem_nil, or_false] at hu; rcases hu with rfl <;> first | rfl | exact (SlR.cells S.tail.tail.tail.tail.tail.rd).2) ?_
            intro w51 b52 S
            have B := B.trans b52
            refine t_assign rfl ?_ rfl
            refine t_done' ?_
            refine x_seq ?_
            refine w_ret ?_
            refine x_retcct rfl rfl S.tail.box ab_topo sb_topo rfl rfl S.box ab_path sb_path rfl rfl ?_
            have S := S.tail
            have S := S.tail
            have S := S.tail
            have S := S.tail
            have S := S.tail
            have S := S.f2
            have S := S.f2
            have S := S.f2
            exact ⟨_, _, _, _, _, _, _, rfl, ⟨T, hP, by omega, by omega⟩, S, ext_trans X0 B⟩
          · have S := S.f7
            refine t_stn S sb_path rfl rfl rfl rfl (by intro zz hu; have hu : zz ∈ ([vp10] : List Value) := hu; simp only [List.mem_cons, List.not_mem_nil, or_false] at hu; rcases hu with rfl <;> first | rfl | exact (SlR.cells S.tail.tail.tail.tail.tail.rd).2) ?_
            intro w53 b54 S
            have B := B.trans b54
            refine t_add rfl rfl (by omega) ?_ rfl
            refine t_assign rfl ?_ rfl
            refine t_done' ?_
            refine x_seq ?_
            refine w_ret ?_
            refine x_retcct rfl rfl S.tail.box ab_topo sb_topo rfl rfl S.box ab_path sb_path rfl rfl ?_
            have S := S.tail
            have S := S.tail
            have S := S.tail
            have S := S.tail
            have S := S.tail
            have S := S.f2
            have S := S.f2
            have S := S.f2
            exact ⟨_, _, _, _, _, _, _, rfl, ⟨T, hP, by omega, by omega⟩, S, ext_trans X0 B⟩
        · refine t_add rfl rfl (by omega) ?_ rfl
          refine t_bxn S.tail.tail.box ab_path sb_path rfl rfl ?_ rfl
          have S := S.f7
          refine t_stn S sb_path rfl rfl rfl rfl (by intro zz hu; have hu : zz ∈ ([vp10] : List Value) := hu; simp only [List.mem_cons, List.not_mem_nil, or_false] at hu; rcases hu with rfl <;> first | rfl | exact (SlR.cells S.tail.tail.tail.tail.tail.rd).2) ?_
          intro w55 b56 S
          have B := B.trans b56
          refine t_assign rfl ?_ rfl
          refine t_done' ?_
          refine x_seq ?_
          refine w_ret ?_
          refine x_retcct rfl rfl S.tail.box ab_topo sb_topo rfl rfl S.box ab_path sb_path rfl rfl ?_
          have S := S.tail
          have S := S.tail
          have S := S.tail
          have S := S.tail
          have S := S.tail
          have S := S.f2
          have S := S.f2
          have S := S.f2
          exact ⟨_, _, _, _, _, _, _, rfl, ⟨T, hP, by omega, by omega⟩, S, ext_trans X0 B⟩
  · refine t_bxn S.box ab_path sb_path rfl rfl ?_ rfl
    refine t_alt ?_ ?_
    · refine t_bxn S.tail.box ab_topo sb_topo rfl rfl ?_ rfl
      have S := S.f5
      refine t_callf Tryz.call57 rfl (spec_l1Below 30 S (K.below B)) ?_ rfl
      rintro e w57 ⟨y17, rfl, hf17, S, x58⟩
      refine ⟨_, rfl, ?_⟩
      have B := B.trans x58
      refine t_alt ?_ ?_
      · refine t_add rfl rfl (by omega) ?_ rfl
        have S := S.f7
        refine t_stn S sb_topo rfl rfl rfl rfl (by intro zz hu; have hu : zz ∈ ([va10, vl10] : List Value) := hu; simp only [List.mem_cons, List.not_mem_nil, or_false] at hu; rcases hu with rfl | rfl <;> first | rfl | exact (SlR.cells S.tail.tail.tail.tail.tail.sl).2 | exact (SlR.cells S.tail.tail.tail.tail.tail.tail.sl).2) ?_
        intro w59 b60 S
        have B := B.trans b60
        have S := S.f7
        refine t_stn S sb_path rfl rfl rfl rfl (by intro zz hu; have hu : zz ∈ ([vp10] : List Value) := hu; simp only [List.mem_cons, List.not_mem_nil, or_false] at hu; rcases hu with rfl <;> first | rfl | exact (SlR.cells S.tail.tail.tail.tail.tail.rd).2) ?_
        intro w61 b62 S
        have B := B.trans b62
        refine t_assign rfl ?_ rfl
        refine t_done' ?_
        refine x_seq ?_
        refine w_ret ?_
        refine x_retcct rfl rfl S.tail.box ab_topo sb_topo rfl rfl S.box ab_path sb_path rfl rfl ?_
        have S := S.tail
        have S := S.tail
        have S := S.tail
        have S := S.tail
        have S := S.tail
        have S := S.f2
        have S := S.f2
        have S := S.f2
        exact ⟨_, _, _, _, _, _, _, rfl, ⟨T, hP, by omega, by omega⟩, S, ext_trans X0 B⟩
      · have S := S.f7
        refine t_stn S sb_topo rfl rfl rfl rfl (by intro zz hu; have hu : zz ∈ ([va10, vl10] : List Value) := hu; simp only [List.mem_cons, List.not_mem_nil, or_false] at hu; rcases hu with rfl | rfl <;> first | rfl | exact (SlR.cells S.tail.tail.tail.tail.tail.sl).2 | exact (SlR.cells S.tail.tail.tail.tail.tail.tail.sl).2) ?_
        intro w63 b64 S
        have B := B.trans b64
        refine t_alt ?_ ?_
        · refine t_add rfl rfl (by omega) ?_ rfl
          have S := S.f7
          refine t_stn S sb_path rfl rfl rfl rfl (by intro zz hu; have hu : zz ∈ ([vp10] : List Value) := hu; simp only [List.mem_cons, List.not_mem_nil, or_false] at hu; rcases hu with rfl <;> first | rfl | exact (SlR.cells S.tail.tail.tail.tail.tail.rd).2) ?_
          intro w65 b66 S
          have B := B.trans b66
          refine t_assign rfl ?_ rfl
          refine t_done' ?_
          refine x_seq ?_
          refine w_ret ?_
          refine x_retcct rfl rfl S.tail.box ab_topo sb_topo rfl rfl S.box ab_path sb_path rfl rfl ?_
          have S := S.tail
          have S := S.tail
          have S := S.tail
          have S := S.tail
          have S := S.tail
          have S := S.f2
          have S := S.f2
          have S := S.f2
          exact ⟨_, _, _, _, _, _, _, rfl, ⟨T, hP, by omega, by omega⟩, S, ext_trans X0 B⟩
        · have S := S.f7
          refine t_stn S sb_path rfl rfl rfl rfl (by intro zz hu; have hu : zz ∈ ([vp10] : List Value) := hu; simp only [List.mem_cons, List.not_mem_nil, or_false] at hu; rcases hu with rfl <;> first | rfl | exact (SlR.cells S.tail.tail.tail.tail.tail.rd).2) ?_
          intro w67 b68 S
          have B := B.trans b68
          refine t_add rfl rfl (by omega) ?_ rfl
          refine t_assign rfl ?_ rfl
          refine t_done' ?_
          refine x_seq ?_
          refine w_ret ?_
          refine x_retcct rfl rfl S.tail.box ab_topo sb_topo rfl rfl S.box ab_path sb_path rfl rfl ?_
          have S := S.tail
          have S := S.tail
          have S := S.tail
          have S := S.tail
          have S := S.tail
          have S := S.f2
          have S := S.f2
          have S := S.f2
          exact ⟨_, _, _, _, _, _, _, rfl, ⟨T, hP, by omega, by omega⟩, S, ext_trans X0 B⟩
    · have S := S.f5
      refine t_callf Tryz.call57 rfl (spec_l1Below 30 S (K.below B)) ?_ rfl
      rintro e w69 ⟨y17, rfl, hf17, S, x70⟩
      refine ⟨_, rfl, ?_⟩
      have B := B.trans x70
      refine t_alt ?_ ?_
      · refine t_bxn S.tail.tail.box ab_topo sb_topo rfl rfl ?_ rfl
        refine t_alt ?_ ?_
        · refine t_add rfl rfl (by omega) ?_ rfl
          have S := S.f7
          refine t_stn S sb_topo rfl rfl rfl rfl (by intro zz hu; have hu : zz ∈ ([va10, vl10] : List Value) := hu; simp only [List.mem_cons, List.not_mem_nil, or_false] at hu; rcases hu with rfl | rfl <;> first | rfl | exact (SlR.cells S.tail.tail.tail.tail.tail.sl).2 | exact (SlR.cells S.tail.tail.tail.tail.tail.tail.sl).2) ?_
          intro w71 b72 S
          have B := B.trans b72
          have S := S.f7
          refine t_stn S sb_path rfl rfl rfl rfl (by intro zz hu; have hu : zz ∈ ([vp10] : List Value) := hu; simp only [List.mem_cons, List.not_mem_nil, or_false] at hu; rcases hu with rfl <;> first | rfl | exact (SlR.cells S.tail.tail.tail.tail.tail.rd).2) ?_
          intro w73 b74 S
          have B := B.trans b74
          refine t_assign rfl ?_ rfl
          refine t_done' ?_
          refine x_seq ?_
          refine w_ret ?_
          refine x_retcct rfl rfl S.tail.box ab_topo sb_topo rfl rfl S.box ab_path sb_path rfl rfl ?_
          have S := S.tail
          have S := S.tail
          have S := S.tail
          have S := S.tail
          have S := S.tail
          have S := S.f2
          have S := S.f2
          have S := S.f2
          exact ⟨_, _, _, _, _, _, _, rfl, ⟨T, hP, by omega, by omega⟩, S, ext_trans X0 B⟩
        · have S := S.f7
          refine t_stn S sb_topo rfl rfl rfl rfl (by intro zz hu; have hu : zz ∈ ([va10, vl10] : List Value) := hu; simp only [List.mem_cons, List.not_mem_nil, or_false] at hu; rcases hu with rfl | rfl <;> first | rfl | exact (SlR.cells S.tail.tail.tail.tail.tail.sl).2 | exact (SlR.cells S.tail.tail.tail.tail.tail.tail.sl).2) ?_
          intro w75 b76 S
          have B := B.trans b76
          refine t_alt ?_ ?_
          · refine t_add rfl rfl (by omega) ?_ rfl
            have S := S.f7
            refine t_stn S sb_path rfl rfl rfl rfl (by intro zz hu; have hu : zz ∈ ([vp10] : List Value) := hu; simp only [List.mem_cons, List.not_mem_nil, or_false] at hu; rcases hu with rfl <;> first | rfl | exact (SlR.cells S.tail.tail.tail.tail.tail.rd).2) ?_
            intro w77 b78 S
            have B := B.trans b78
            refine t_assign rfl ?_ rfl
            refine t_done' ?_
            refine x_seq ?_
            refine w_ret ?_
            refine x_retcct rfl rfl S.tail.box ab_topo sb_topo rfl rfl S.box ab_path sb_path rfl rfl ?_
            have S := S.tail
            have S := S.tail
            have S := S.tail
            have S := S.tail
            have S := S.tail
            have S := S.f2
            have S := S.f2
            have S := S.f2
            exact ⟨_, _, _, _, _, _, _, rfl, ⟨T, hP, by omega, by omega⟩, S, ext_trans X0 B⟩
          · have S := S.f7
            refine t_stn S sb_path rfl rfl rfl rfl (by intro zz hu; have hu : zz ∈ ([vp10] : List Value) := hu; simp only [List.mem_cons, List.not_mem_nil, or_false] at hu; rcases hu with rfl <;> first | rfl | exact (SlR.cells S.tail.tail.tail.tail.tail.rd).2) ?_
            intro w79 b80 S
            have B := B.trans b80
            refine t_add rfl rfl (by omega) ?_ rfl
            refine t_assign rfl ?_ rfl
            refine t_done' ?_
            refine x_seq ?_
            refine w_ret ?_
            refine x_retcct rfl rfl S.tail.box ab_topo sb_topo rfl rfl S.box ab_path sb_path rfl rfl ?_
            have S := S.tail
            have S := S.tail
            have S := S.tail
            have S := S.tail
            have S := S.tail
            have S := S.f2
            have S := S.f2
            have S := S.f2
            exact ⟨_, _, _, _, _, _, _, rfl, ⟨T, hP, by omega, by omega⟩, S, ext_trans X0 B⟩
      · refine t_add rfl rfl (by omega) ?_ rfl
        refine t_bxn S.tail.tail.box ab_topo sb_topo rfl rfl ?_ rfl
        have S := S.f7
        refine t_stn S sb_topo rfl rfl rfl rfl (by intro zz hu; have hu : zz ∈ ([va10, vl10] : List Value) := hu; simp only [List.mem_cons, List.not_mem_nil, or_false] at hu; rcases hu with rfl | rfl <;> first | rfl | exact (SlR.cells S.tail.tail.tail.tail.tail.sl).2 | exact (SlR.cells S.tail.tail.tail.tail.tail.tail.sl).2) ?_
        intro w81 b82 S
        have B := B.trans b82
        have S := S.f7
        refine t_stn S sb_path rfl rfl rfl rfl (by intro zz hu; have hu : zz ∈ ([vp10] : List Value) := hu; simp only [List.mem_cons, List.not_mem_nil, or_false] at hu; rcases hu with rfl <;> first | rfl | exact (SlR.cells S.tail.tail.tail.tail.tail.rd).2) ?_
        intro w83 b84 S
        have B := B.trans b84
        refine t_assign rfl ?_ rfl
        refine t_done' ?_
        refine x_seq ?_
        refine w_ret ?_
        refine x_retcct rfl rfl S.tail.box ab_topo sb_topo rfl rfl S.box ab_path sb_path rfl rfl ?_
        have S := S.tail
        have S := S.tail
        have S := S.tail
        have S := S.tail
        have S := S.tail
        have S := S.f2
        have S := S.f2
        have S := S.f2
        exact ⟨_, _, _, _, _, _, _, rfl, ⟨T, hP, by omega, by omega⟩, S, ext_trans X0 B⟩
  · have S := S.f5
    refine t_callf Tryz.call57 rfl (spec_l1Below 30 S (K.below B)) ?_ rfl
    rintro e w85 ⟨y17, rfl, hf17, S, x86⟩
    refine ⟨_, rfl, ?_⟩
    have B := B.trans x86
    refine t_alt ?_ (t_alt ?_ ?_)
    · refine t_bxn S.tail.tail.box ab_topo sb_topo rfl rfl ?_ rfl
      refine t_alt ?_ (t_alt ?_ ?_)
      · refine t_bxn S.tail.box ab_path sb_path rfl rfl ?_ rfl
        refine t_alt ?_ ?_
        · refine t_add rfl rfl (by omega) ?_ rfl
          have S := S.f7
          refine t_stn S sb_topo rfl rfl rfl rfl (by intro zz hu; have hu : zz ∈ ([va10, vl10] : List Value) := hu; simp only [List.mem_cons, List.not_mem_nil, or_false] at hu; rcases hu with rfl | rfl <;> first | rfl | exact (SlR.cells S.tail.tail.tail.tail.tail.sl).2 | exact (SlR.cells S.tail.tail.tail.tail.tail.tail.sl).2) ?_
          intro w87 b88 S
          have B := B.trans b88
          have S := S.f7
          refine t_stn S sb_path rfl rfl rfl rfl (by intro zz hu; have hu : zz ∈ ([vp10] : List Value) := hu; simp only [List.mem_cons, List.not_mem_nil, or_false] at hu; rcases hu with rfl <;> first | rfl | exact (SlR.cells S.tail.tail.tail.tail.tail.rd).2) ?_
          intro w89 b90 S
          have B := B.trans b90
          refine t_assign rfl ?_ rfl
          refine t_done' ?_
          refine x_seq ?_
          refine w_ret ?_
          refine x_retcct rfl rfl S.tail.box ab_topo sb_topo rfl rfl S.box ab_path sb_path rfl rfl ?_
          have S := S.tail
          have S := S.tail
          have S := S.tail
          have S := S.tail
          have S := S.tail
          have S := S.f2
          have S := S.f2
          have S := S.f2
          exact ⟨_, _, _, _, _, _, _, rfl, ⟨T, hP, by omega, by omega⟩, S, ext_trans X0 B⟩
        · have S := S.f7
          refine t_stn S sb_topo rfl rfl rfl rfl (by intro zz hu; have hu : zz ∈ ([va10, vl10] : List Value) := hu; simp only [List.mem_cons, List.not_mem_nil, or_false] at hu; rcases hu with rfl | rfl <;> first | rfl | exact (SlR.cells S.tail.tail.tail.tail.tail.sl).2 | exact (SlR.cells S.tail.tail.tail.tail.tail.tail.sl).2) ?_
          intro w91 b92 S
          have B := B.trans b92
          refine t_alt ?_ ?_
          · refine t_add rfl rfl (by omega) ?_ rfl
            have S := S.f7
            refine t_stn S sb_path rfl rfl rfl rfl (by intro zz hu; have hu : zz ∈ ([vp10] : List Value) := hu; simp only [List.mem_cons, List.not_mem_nil, or_false] at hu; rcases hu with rfl <;> first | rfl | exact (SlR.cells S.tail.tail.tail.tail.tail.rd).2) ?_
            intro w93 b94 S
            have B := B.trans b94
            refine t_assign rfl ?_ rfl
            refine t_done' ?_
            refine x_seq ?_
            refine w_ret ?_
            refine x_retcct rfl rfl S.tail.box ab_topo sb_topo rfl rfl S.box ab_path sb_path rfl rfl ?_
            have S := S.tail
            have S := S.tail
            have S := S.tail
            have S := S.tail
            have S := S.tail
            have S := S.f2
            have S := S.f2
            have S := S.f2
            exact ⟨_, _, _, _, _, _, _, rfl, ⟨T, hP, by omega, by omega⟩, S, ext_trans X0 B⟩
          · have S := S.f7
            refine t_stn S sb_path rfl rfl rfl rfl (by intro zz hu; have hu : zz ∈ ([vp10] : List Value) := hu; simp only [List.mem_cons, List.not_mem_nil, or_false] at hu; rcases hu with rfl <;> first | rfl | exact (SlR.cells S.tail.tail.tail.tail.tail.rd).2) ?_
            intro w95 b96 S
            have B := B.trans b96
            refine t_add rfl rfl (by omega) ?_ rfl
            refine t_assign rfl ?_ rfl
            refine t_done' ?_
            refine x_seq ?_
            refine w_ret ?_
            refine x_retcct rfl rfl S.tail.box ab_topo sb_topo rfl rfl S.box ab_path sb_path rfl rfl ?_
            have S := S.tail
            have S := S.tail
            have S := S.tail
            have S := S.tail
            have S := S.tail
            have S := S.f2
            have S := S.f2
            have S := S.f2
            exact ⟨_, _, _, _, _, _, _, rfl, ⟨T, hP, by omega, by omega⟩, S, ext_trans X0 B⟩
      · refine t_add rfl rfl (by omega) ?_ rfl
        refine t_alt ?_ ?_
        · refine t_bxn S.tail.box ab_path sb_path rfl rfl ?_ rfl
          have S := S.f7
          refine t_stn S sb_topo rfl rfl rfl rfl (by intro zz hu; have hu : zz ∈ ([va10, vl10] : List Value) := hu; simp only [List.mem_cons, List.not_mem_nil, or_false] at hu; rcases hu with rfl | rfl <;> first | rfl | exact (SlR.cells S.tail.tail.tail.tail.tail.sl).2 | exact (SlR.cells S.tail.tail.tail.tail.tail.tail.sl).2) ?_
          intro w97 b98 S
          have B := B.trans b98
          have S := S.f7
          refine t_stn S sb_path rfl rfl rfl rfl (by intro zz hu; have hu : zz ∈ ([vp10] : List Value) := hu; simp only [List.mem_cons, List.not_mem_nil, or_false] at hu; rcases hu with rfl <;> first | rfl | exact (SlR.cells S.tail.tail.tail.tail.tail.rd).2) ?_
          intro w99 b100 S
          have B := B.trans b100
          refine t_assign rfl ?_ rfl
          refine t_done' ?_
          refine x_seq ?_
          refine w_ret ?_
          refine x_retcct rfl rfl S.tail.box ab_topo sb_topo rfl rfl S.box ab_path sb_path rfl rfl ?_
          have S := S.tail
          have S := S.tail
          have S := S.tail
          have S := S.tail
          have S := S.tail
          have S := S.f2
          have S := S.f2
          have S := S.f2
          exact ⟨_, _, _, _, _, _, _, rfl, ⟨T, hP, by omega, by omega⟩, S, ext_trans X0 B⟩
        · have S := S.f7
          refine t_stn S sb_topo rfl rfl rfl rfl (by intro zz hu; have hu : zz ∈ ([va10, vl10] : List Value) := hu; simp only [List.mem_cons, List.not_mem_nil, or_false] at hu; rcases hu with rfl | rfl <;> first | rfl | exact (SlR.cells S.tail.tail.tail.tail.tail.sl).2 | exact (SlR.cells S.tail.tail.tail.tail.tail.tail.sl).2) ?_
          intro w101 b102 S
          have B := B.trans b102
          refine t_bxn S.tail.tail.box ab_path sb_path rfl rfl ?_ rfl
          have S := S.f7
          refine t_stn S sb_path rfl rfl rfl rfl (by intro zz hu; have hu : zz ∈ ([vp10] : List Value) := hu; simp only [List.mem_cons, List.not_mem_nil, or_false] at hu; rcases hu with rfl <;> first | rfl | exact (SlR.cells S.tail.tail.tail.tail.tail.rd).2) ?_
          intro w103 b104 S
          have B := B.trans b104
          refine t_assign rfl ?_ rfl
          refine t_done' ?_
          refine x_seq ?_
          refine w_ret ?_
          refine x_retcct rfl rfl S.tail.box ab_topo sb_topo rfl rfl S.box ab_path sb_path rfl rfl ?_
          have S := S.tail
          have S := S.tail
          have S := S.tail
          have S := S.tail
          have S := S.tail
          have S := S.f2
          have S := S.f2
          have S := S.f2
          exact ⟨_, _, _, _, _, _, _, rfl, ⟨T, hP, by omega, by omega⟩, S, ext_trans X0 B⟩
      · have S := S.f7
        refine t_stn S sb_topo rfl rfl rfl rfl (by intro zz hu; have hu : zz ∈ ([va10, vl10] : List Value) := hu; simp only [List.mem_cons, List.not_mem_nil, or_false] at hu; rcases hu with rfl | rfl <;> first | rfl | exact (SlR.cells S.tail.tail.tail.tail.tail.sl).2 | exact (SlR.cells S.tail.tail.tail.tail.tail.tail.sl).2) ?_
        intro w105 b106 S
        have B := B.trans b106
        refine t_alt ?_ ?_
        · refine t_bxn S.tail.tail.box ab_path sb_path rfl rfl ?_ rfl
          refine t_alt ?_ ?_
          · refine t_add rfl rfl (by omega) ?_ rfl
            have S := S.f7
            refine t_stn S sb_path rfl rfl rfl rfl (by intro zz hu; have hu : zz ∈ ([vp10] : List Value) := hu; simp only [List.mem_cons, List.not_mem_nil, or_false] at hu; rcases hu with rfl <;> first | rfl | exact (SlR.cells S.tail.tail.tail.tail.tail.rd).2) ?_
            intro w107 b108 S
            have B := B.trans b108
            refine t_assign rfl ?_ rfl
            refine t_done' ?_
            refine x_seq ?_
            refine w_ret ?_
            refine x_retcct rfl rfl S.tail.box ab_topo sb_topo rfl rfl S.box ab_path sb_path rfl rfl ?_
            have S := S.tail
            have S := S.tail
            have S := S.tail
            have S := S.tail
            have S := S.tail
            have S := S.f2
            have S := S.f2
            have S := S.f2
            exact ⟨_, _, _, _, _, _, _, rfl, ⟨T, hP, by omega, by omega⟩, S, ext_trans X0 B⟩
          · have S := S.f7
            refine t_stn S sb_path rfl rfl rfl rfl (by intro zz hu; have hu : zz ∈ ([vp10] : List Value) := hu; simp only [List.mem_cons, List.not_mem_nil, or_false] at hu; rcases hu with rfl <;> first | rfl | exact (SlR.cells S.tail.tail.tail.tail.tail.rd).2) ?_
            intro w109 b110 S
            have B := B.trans b110
            refine t_add rfl rfl (by omega) ?_ rfl
            refine t_assign rfl ?_ rfl
            refine t_done' ?_
            refine x_seq ?_
            refine w_ret ?_
            refine x_retcct rfl rfl S.tail.box ab_topo sb_topo rfl rfl S.box ab_path sb_path rfl rfl ?_
            have S := S.tail
            have S := S.tail
            have S := S.tail
            have S := S.tail
            have S := S.tail
            have S := S.f2
            have S := S.f2
            have S := S.f2
            exact ⟨_, _, _, _, _, _, _, rfl, ⟨T, hP, by omega, by omega⟩, S, ext_trans X0 B⟩
        · refine t_add rfl rfl (by omega) ?_ rfl
          refine t_bxn S.tail.tail.box ab_path sb_path rfl rfl ?_ rfl
          have S := S.f7
          refine t_stn S sb_path rfl rfl rfl rfl (by intro zz hu; have hu : zz ∈ ([vp10] : List Value) := hu; simp only [List.mem_cons, List.not_mem_nil, or_false] at hu; rcases hu with rfl <;> first | rfl | exact (SlR.cells S.tail.tail.tail.tail.tail.rd).2) ?_
          intro w111 b112 S
          have B := B.trans b112
          refine t_assign rfl ?_ rfl
          refine t_done' ?_
          refine x_seq ?_
          refine w_ret ?_
          refine x_retcct rfl rfl S.tail.box ab_topo sb_topo rfl rfl S.box ab_path sb_path rfl rfl ?_
          have S := S.tail
          have S := S.tail
          have S := S.tail
          have S := S.tail
          have S := S.tail
          have S := S.f2
          have S := S.f2
          have S := S.f2
          exact ⟨_, _, _, _, _, _, _, rfl, ⟨T, hP, by omega, by omega⟩, S, ext_trans X0 B⟩
    · refine t_bxn S.tail.box ab_path sb_path rfl rfl ?_ rfl
      refine t_alt ?_ ?_
      · refine t_bxn S.tail.tail.box ab_topo sb_topo rfl rfl ?_ rfl
        refine t_alt ?_ ?_
        · refine t_add rfl rfl (by omega) ?_ rfl
          have S := S.f7
          refine t_stn S sb_topo rfl rfl rfl rfl (by intro zz hu; have hu : zz ∈ ([va10, vl10] : List Value) := hu; simp only [List.mem_cons, List.not_mem_nil, or_false] at hu; rcases hu with rfl | rfl <;> first | rfl | exact (SlR.cells S.tail.tail.tail.tail.tail.sl).2 | exact (SlR.cells S.tail.tail.tail.tail.tail.tail.sl).2) ?_
          intro w113 b114 S
          have B := B.trans b114
          have S := S.f7
          refine t_stn S sb_path rfl rfl rfl rfl (by intro zz hu; have hu : zz ∈ ([vp10] : List Value) := hu; simp only [List.mem_cons, List.not_mem_nil, or_false] at hu; rcases hu with rfl <;> first | rfl | exact (SlR.cells S.tail.tail.tail.tail.tail.rd).2) ?_
          intro w115 b116 S
          have B := B.trans b116
          refine t_assign rfl ?_ rfl
          refine t_done' ?_
          refine x_seq ?_
          refine w_ret ?_
          refine x_retcct rfl rfl S.tail.box ab_topo sb_topo rfl rfl S.box ab_path sb_path rfl rfl ?_
          have S := S.tail
          have S := S.tail
          have S := S.tail
          have S := S.tail
          have S := S.tail
          have S := S.f2
          have S := S.f2
          have S := S.f2
          exact ⟨_, _, _, _, _, _, _, rfl, ⟨T, hP, by omega, by omega⟩, S, ext_trans X0 B⟩
        · have S := S.f7
          refine t_stn S sb_topo rfl rfl rfl rfl (by intro zz hu; have hu : zz ∈ ([va10, vl10] : List Value) := hu; simp only [List.mem_cons, List.not_mem_nil, or_false] at hu; rcases hu with rfl | rfl <;> first | rfl | exact (SlR.cells S.tail.tail.tail.tail.tail.sl).2 | exact (SlR.cells S.tail.tail.tail.tail.tail.tail.sl).2) ?_
          intro w117 b118 S
          have B := B.trans b118
          refine t_alt ?_ ?_
          · refine t_add rfl rfl (by omega) ?_ rfl
            have S := S.f7
            refine t_stn S sb_path rfl rfl rfl rfl (by intro zz hu; have hu : zz ∈ ([vp10] : List Value) := hu; simp only [List.mem_cons, List.not_mem_nil, or_false] at hu; rcases hu with rfl <;> first | rfl | exact (SlR.cells S.tail.tail.tail.tail.tail.rd).2) ?_
            intro w119 b120 S
            have B := B.trans b120
            refine t_assign rfl ?_ rfl
            refine t_done' ?_
            refine x_seq ?_
            refine w_ret ?_
            refine x_retcct rfl rfl S.tail.box ab_topo sb_topo rfl rfl S.box ab_path sb_path rfl rfl ?_
            have S := S.tail
            have S := S.tail
            have S := S.tail
            have S := S.tail
            have S := S.tail
            have S := S.f2
            have S := S.f2
            have S := S.f2
            exact ⟨_, _, _, _, _, _, _, rfl, ⟨T, hP, by omega, by omega⟩, S, ext_trans X0 B⟩
          · have S := S.f7
            refine t_stn S sb_path rfl rfl rfl rfl (by intro zz hu; have hu : zz ∈ ([vp10] : List Value) := hu; simp only [List.mem_cons, List.not_mem_nil, or_false] at hu; rcases hu with rfl <;> first | rfl | exact (SlR.cells S.tail.tail.tail.tail.tail.rd).2) ?_
            intro w121 b122 S
            have B := B.trans b122
            refine t_add rfl rfl (by omega) ?_ rfl
            refine t_assign rfl ?_ rfl
            refine t_done' ?_
            refine x_seq ?_
            refine w_ret ?_
            refine x_retcct rfl rfl S.tail.box ab_topo sb_topo rfl rfl S.box ab_path sb_path rfl rfl ?_
            have S := S.tail
            have S := S.tail
            have S := S.tail
            have S := S.tail
            have S := S.tail
            have S := S.f2
            have S := S.f2
            have S := S.f2
            exact ⟨_, _, _, _, _, _, _, rfl, ⟨T, hP, by omega, by omega⟩, S, ext_trans X0 B⟩
      · refine t_add rfl rfl (by omega) ?_ rfl
        refine t_bxn S.tail.tail.box ab_topo sb_topo rfl rfl ?_ rfl
        have S := S.f7
        refine t_stn S sb_topo rfl rfl rfl rfl (by intro zz hu; have hu : zz ∈ ([va10, vl10] : List Value) := hu; simp only [List.mem_cons, List.not_mem_nil, or_false] at hu; rcases hu with rfl | rfl <;> first | rfl | exact (SlR.cells S.tail.tail.tail.tail.tail.sl).2 | exact (SlR.cells S.tail.tail.tail.tail.tail.tail.sl).2) ?_
        intro w123 b124 S
        have B := B.trans b124
        have S := S.f7
        refine t_stn S sb_path rfl rfl rfl rfl (by intro zz hu; have hu : zz ∈ ([vp10] : List Value) := hu; simp only [List.mem_cons, List.not_mem_nil, or_false] at hu; rcases hu with rfl <;> first | rfl | exact (SlR.cells S.tail.tail.tail.tail.tail.rd).2) ?_
        intro w125 b126 S
        have B := B.trans b126
        refine t_assign rfl ?_ rfl
        refine t_done' ?_
        refine x_seq ?_
        refine w_ret ?_
        refine x_retcct rfl rfl S.tail.box ab_topo sb_topo rfl rfl S.box ab_path sb_path rfl rfl ?_
        have S := S.tail
        have S := S.tail
        have S := S.tail
        have S := S.tail
        have S := S.tail
        have S := S.f2
        have S := S.f2
        have S := S.f2
        exact ⟨_, _, _, _, _, _, _, rfl, ⟨T, hP, by omega, by omega⟩, S, ext_trans X0 B⟩
    · refine t_add rfl rfl (by omega) ?_ rfl
      refine t_alt ?_ ?_
      · refine t_bxn S.tail.tail.box ab_topo sb_topo rfl rfl ?_ rfl
        refine t_alt ?_ ?_
        · refine t_bxn S.tail.box ab_path sb_path rfl rfl ?_ rfl
          have S := S.f7
          refine t_stn S sb_topo rfl rfl rfl rfl (by intro zz hu; have hu : zz ∈ ([va10, vl10] : List Value) := hu; simp only [List.mem_cons, List.not_mem_nil, or_false] at hu; rcases hu with rfl | rfl <;> first | rfl | exact (SlR.cells S.tail.tail.tail.tail.tail.sl).2 | exact (SlR.cells S.tail.tail.tail.tail.tail.tail.sl).2) ?_
          intro w127 b128 S
          have B := B.trans b128
          have S := S.f7
          refine t_stn S sb_path rfl rfl rfl rfl (by intro zz hu; have hu : zz ∈ ([vp10] : List Value) := hu; simp only [List.mem_cons, List.not_mem_nil, or_false] at hu; rcases hu with rfl <;> first | rfl | exact (SlR.cells S.tail.tail.tail.tail.tail.rd).2) ?_
          intro w129 b130 S
          have B := B.trans b130
          refine t_assign rfl ?_ rfl
          refine t_done' ?_
          refine x_seq ?_
          refine w_ret ?_
          refine x_retcct rfl rfl S.tail.box ab_topo sb_topo rfl rfl S.box ab_path sb_path rfl rfl ?_
          have S := S.tail
          have S := S.tail
          have S := S.tail
          have S := S.tail
          have S := S.tail
          have S := S.f2
          have S := S.f2
          have S := S.f2
          exact ⟨_, _, _, _, _, _, _, rfl, ⟨T, hP, by omega, by omega⟩, S, ext_trans X0 B⟩
        · have S := S.f7
          refine t_stn S sb_topo rfl rfl rfl rfl (by intro zz hu; have hu : zz ∈ ([va10, vl10] : List Value) := hu; simp only [List.mem_cons, List.not_mem_nil, or_false] at hu; rcases hu with rfl | rfl <;> first | rfl | exact (SlR.cells S.tail.tail.tail.tail.tail.sl).2 | exact (SlR.cells S.tail.tail.tail.tail.tail.tail.sl).2) ?_
          intro w131 b132 S
          have B := B.trans b132
          refine t_bxn S.tail.tail.box ab_path sb_path rfl rfl ?_ rfl
          have S := S.f7
          refine t_stn S sb_path rfl rfl rfl rfl (by intro zz hu; have hu : zz ∈ ([vp10] : List Value) := hu; simp only [List.mem_cons, List.not_mem_nil, or_false] at hu; rcases hu with rfl <;> first | rfl | exact (SlR.cells S.tail.tail.tail.tail.tail.rd).2) ?_
          intro w133 b134 S
          have B := B.trans b134
          refine t_assign rfl ?_ rfl
          refine t_done' ?_
          refine x_seq ?_
          refine w_ret ?_
          refine x_retcct rfl rfl S.tail.box ab_topo sb_topo rfl rfl S.box ab_path sb_path rfl rfl ?_
          have S := S.tail
          have S := S.tail
          have S := S.tail
          have S := S.tail
          have S := S.tail
          have S := S.f2
          have S := S.f2
          have S := S.f2
          exact ⟨_, _, _, _, _, _, _, rfl, ⟨T, hP, by omega, by omega⟩, S, ext_trans X0 B⟩
      · refine t_bxn S.tail.box ab_path sb_path rfl rfl ?_ rfl
        refine t_bxn S.tail.tail.box ab_topo sb_topo rfl rfl ?_ rfl
        have S := S.f7
        refine t_stn S sb_topo rfl rfl rfl rfl (by intro zz hu; have hu : zz ∈ ([va10, vl10] : List Value) := hu; simp only [List.mem_cons, List.not_mem_nil, or_false] at hu; rcases hu with rfl | rfl <;> first | rfl | exact (SlR.cells S.tail.tail.tail.tail.tail.sl).2 | exact (SlR.cells S.tail.tail.tail.tail.tail.tail.sl).2) ?_
        intro w135 b136 S
        have B := B.trans b136
        have S := S.f7
        refine t_stn S sb_path rfl rfl rfl rfl (by intro zz hu; have hu : zz ∈ ([vp10] : List Value) := hu; simp only [List.mem_cons, List.not_mem_nil, or_false] at hu; rcases hu with rfl <;> first | rfl | exact (SlR.cells S.tail.tail.tail.tail.tail.rd).2) ?_
        intro w137 b138 S
        have B := B.trans b138
        refine t_assign rfl ?_ rfl
        refine t_done' ?_
        refine x_seq ?_
        refine w_ret ?_
        refine x_retcct rfl rfl S.tail.box ab_topo sb_topo rfl rfl S.box ab_path sb_path rfl rfl ?_
        have S := S.tail
        have S := S.tail
        have S := S.tail
        have S := S.tail
        have S := S.tail
        have S := S.f2
        have S := S.f2
        have S := S.f2
        exact ⟨_, _, _, _, _, _, _, rfl, ⟨T, hP, by omega, by omega⟩, S, ext_trans X0 B⟩
theorem spec_DrawEqualPaths (code : List UInt8) (v : Value) (w : World) (h : SlR byteT w v code) (hz : code.length ≤ 1048576) : Calls Tryz.prog 9 #[v] w fun e w' => ∃ (va vb : Value) (a b : Path), e = .returned (.tuple #[.agg #[va], .agg #[vb]]) ∧ (PathS a ∧ PathS b) ∧ Sep w.heap.size w' [rdO partT va a, rdO partT vb b] ∧ Ext w w' := by
  have K := CodeK.of h hz
  have X0 := Below.refl w.heap.size w
  refine enter Tryz.func9 rfl Tryz.ntmps9 rfl ?_
  have S := Sep.nil w
  have B := Below.refl w.heap.size w
  have Hb := Nat.le_refl w.heap.size
  refine w_seq ?_
  refine w_region ?_
  refine t_alloc S z_path rfl ?_ rfl rfl
  intro g2 w139 x140 S
  have B := bx Hb B x140
  refine t_alloc S z_path rfl ?_ rfl rfl
  intro g3 w141 x142 S
  have B := bx Hb B x142
  refine t_done ?_
  refine x_seq ?_
  refine w_seq ?_
  refine w_region ?_
  refine t_move rfl ?_ rfl
  refine t_call Tryz.call56 rfl (spec_l22One _ _ _ (by first | assumption | exact SlR.below (by assumption) B) (by omega)) ?_ rfl rfl
  rintro e w143 ⟨g11, va11, vl11, vp11, A11, L11, p11, rfl, hf11, S9, x144⟩
  refine ⟨_, rfl, x144, ?_⟩
  have S := S.join2 x144 S9
  clear S9
  have B := bx Hb B x144
  refine t_move rfl ?_ rfl
  refine t_extract rfl rfl ?_ rfl
  refine t_extract rfl rfl ?_ rfl
  refine t_extract rfl rfl ?_ rfl
  refine t_alloc S z_topo rfl ?_ rfl rfl
  intro g5 w145 x146 S
  have B := bx Hb B x146
  refine t_alloc S z_path rfl ?_ rfl rfl
  intro g6 w147 x148 S
  have B := bx Hb B x148
  refine t_assign rfl ?_ rfl
  have S := S.f1
  refine t_stn S sb_topo rfl rfl rfl rfl (by intro zz hu; have hu : zz ∈ ([va11, vl11] : List Value) := hu; simp only [List.mem_cons, List.not_mem_nil, or_false] at hu; rcases hu with rfl | rfl <;> first | rfl | exact (SlR.cells S.tail.tail.tail.sl).2 | exact (SlR.cells S.tail.tail.tail.tail.sl).2) ?_
  intro w149 b150 S
  have B := B.trans b150
  have S := S.f1
  refine t_stn S sb_path rfl rfl rfl rfl (by intro zz hu; have hu : zz ∈ ([vp11] : List Value) := hu; simp only [List.mem_cons, List.not_mem_nil, or_false] at hu; rcases hu with rfl <;> first | rfl | exact (SlR.cells S.tail.tail.rd).2) ?_
  intro w151 b152 S
  have B := B.trans b152
  refine t_done ?_
  refine x_seq ?_
  refine w_seq ?_
  obtain ⟨T, hP⟩ := hf11
  have hsz := hP.sz
  refine w_seq ?_
  refine w_region ?_
  refine t_move rfl ?_ rfl
  have S := S.f5
  refine t_callf Tryz.call58 rfl (spec_l1Once 2 S (K.below B)) ?_ rfl
  rintro e w153 ⟨y16, rfl, hf16, S, x154⟩
  refine ⟨_, rfl, ?_⟩
  have B := B.trans x154
  refine t_done ?_
  refine x_seq ?_
  refine w_if rfl ?_ ?_
  · intro h0
    refine w_seq ?_
    refine w_draw (.st .take 0 (.st .take 1 (.st .run 2 (.st .fin 3 (.st .fin 4 .done))))) mixed (by kernel_rfl) ?_
    intro w155 x156
    have B := bx Hb B x156
    have S := S.below x156
    refine t_bxn S.tail.box ab_path sb_path rfl rfl ?_ rfl
    refine t_bxn S.tail.box ab_path sb_path rfl rfl ?_ rfl
    refine t_call Tryz.call59 rfl (spec_l22Copy _ _ _ (path_mkv (S.tail.tail.tail.rd)) (by omega)) ?_ rfl rfl
    rintro e w157 ⟨cs19, fp19, rfl, hO19, x158⟩
    refine ⟨_, rfl, x158, ?_⟩
    have S := S.add (o := tyO pathT _ _) x158 hO19
    have B := bx Hb B x158
    obtain ⟨u19_0, heq, S2⟩ := S.pathOpen
    subst heq
    have S := S2
    clear S2
    have S := S.f8
    refine t_stn S sb_path rfl rfl rfl rfl (by intro zz hu; have hu : zz ∈ ([vp11] : List Value) := hu; simp only [List.mem_cons, List.not_mem_nil, or_false] at hu; rcases hu with rfl <;> first | rfl | exact (SlR.cells S.tail.tail.tail.tail.tail.rd).2) ?_
    intro w159 b160 S
    have B := B.trans b160
    have S := S.f8
    refine t_stn S sb_path rfl rfl rfl rfl (by intro zz hu; have hu : zz ∈ ([u19_0] : List Value) := hu; simp only [List.mem_cons, List.not_mem_nil, or_false] at hu; rcases hu with rfl <;> first | rfl | exact (SlR.cells S.tail.tail.sl).2) ?_
    intro w161 b162 S
    have B := B.trans b162
    refine t_done' ?_
    refine x_seq ?_
    refine w_ret ?_
    refine x_then_ret ?_
    refine x_retcc rfl rfl S.tail.box ab_path sb_path rfl rfl S.box ab_path sb_path rfl ?_
    have S := S.f2
    have S := S.toRd (fun _ h => h)
    have S := S.f1
    have S := S.tail
    have S := S.f1
    have S := S.tail
    have S := S.f1
    have S := S.tail
    have S := S.f1
    have S := S.tail
    have S := S.f1
    have S := S.tail
    have S := S.f2
    have S := S.tail
    have S := S.f2
    have S := S.tail
    have S := S.f1
    exact ⟨_, _, _, _, rfl, ⟨hP, hP⟩, S, ext_trans X0 B⟩
  · intro h0
    refine w_skip ?_
    refine x_seq ?_
    refine w_seq ?_
    refine w_region ?_
    refine t_move rfl ?_ rfl
    refine t_callf Tryz.call60 rfl (spec_l22Any S (K.below B)) ?_ rfl
    rintro e w163 ⟨va22, vl22, vp22, A22, L22, p22, rfl, hf22, S, x164⟩
    refine ⟨_, rfl, ?_⟩
    have B := B.trans x164
    refine t_move rfl ?_ rfl
    refine t_extract rfl rfl ?_ rfl
    refine t_extract rfl rfl ?_ rfl
    refine t_alloc S z_topo rfl ?_ rfl rfl
    intro g7 w165 x166 S
    have B := bx Hb B x166
    refine t_alloc S z_path rfl ?_ rfl rfl
    intro g8 w167 x168 S
    have B := bx Hb B x168
    have S := S.f1
    refine t_stn S sb_topo rfl rfl rfl rfl (by intro zz hu; have hu : zz ∈ ([va22, vl22] : List Value) := hu; simp only [List.mem_cons, List.not_mem_nil, or_false] at hu; rcases hu with rfl | rfl <;> first | rfl | exact (SlR.cells S.tail.tail.tail.sl).2 | exact (SlR.cells S.tail.tail.tail.tail.sl).2) ?_
    intro w169 b170 S
    have B := B.trans b170
    have S := S.f1
    refine t_stn S sb_path rfl rfl rfl rfl (by intro zz hu; have hu : zz ∈ ([vp22] : List Value) := hu; simp only [List.mem_cons, List.not_mem_nil, or_false] at hu; rcases hu with rfl <;> first | rfl | exact (SlR.cells S.tail.tail.rd).2) ?_
    intro w171 b172 S
    have B := B.trans b172
    refine t_done ?_
    refine x_seq ?_
    refine w_seq ?_
    refine w_drawP [] (.alt (.st .fin 0 (.alt (.st .fin 1 (.st .fin 2 (.st .fin 3 .done))) (.st .fin 2 (.st .fin 1 (.st .fin 3 .done))))) (.st .fin 1 (.st .fin 0 (.st .fin 2 (.st .fin 3 .done))))) mixed (by kernel_rfl) ?_
    intro w173 x174
    have B := bx Hb B x174
    have S := S.below x174
    refine t_alt ?_ ?_
    · refine t_bxn S.tail.tail.tail.tail.tail.tail.box ab_path sb_path rfl rfl ?_ rfl
      refine t_alt ?_ ?_
      · refine t_bxn S.box ab_path sb_path rfl rfl ?_ rfl
        have S := S.f12
        refine t_stn S sb_path rfl rfl rfl rfl (by intro zz hu; have hu : zz ∈ ([vp11] : List Value) := hu; simp only [List.mem_cons, List.not_mem_nil, or_false] at hu; rcases hu with rfl <;> first | rfl | exact (SlR.cells S.tail.tail.tail.tail.tail.tail.tail.tail.tail.rd).2) ?_
        intro w175 b176 S
        have B := B.trans b176
        have S := S.f12
        refine t_stn S sb_path rfl rfl rfl rfl (by intro zz hu; have hu : zz ∈ ([vp22] : List Value) := hu; simp only [List.mem_cons, List.not_mem_nil, or_false] at hu; rcases hu with rfl <;> first | rfl | exact (SlR.cells S.tail.tail.tail.tail.rd).2) ?_
        intro w177 b178 S
        have B := B.trans b178
        refine t_done' ?_
        refine x_seq ?_
        refine w_ret ?_
        refine x_retcc rfl rfl S.tail.box ab_path sb_path rfl rfl S.box ab_path sb_path rfl ?_
        have S := S.tail
        have S := S.tail
        have S := S.tail
        have S := S.tail
        have S := S.f1
        have S := S.tail
        have S := S.f1
        have S := S.tail
        have S := S.f1
        have S := S.tail
        have S := S.f1
        have S := S.tail
        have S := S.f1
        have S := S.tail
        have S := S.f2
        have S := S.tail
        have S := S.f2
        have S := S.tail
        have S := S.f1
        exact ⟨_, _, _, _, rfl, ⟨hP, hf22.2⟩, S, ext_trans X0 B⟩
      · have S := S.f12
        refine t_stn S sb_path rfl rfl rfl rfl (by intro zz hu; have hu : zz ∈ ([vp11] : List Value) := hu; simp only [List.mem_cons, List.not_mem_nil, or_false] at hu; rcases hu with rfl <;> first | rfl | exact (SlR.cells S.tail.tail.tail.tail.tail.tail.tail.tail.tail.rd).2) ?_
        intro w179 b180 S
        have B := B.trans b180
        refine t_bxn S.tail.box ab_path sb_path rfl rfl ?_ rfl
        have S := S.f12
        refine t_stn S sb_path rfl rfl rfl rfl (by intro zz hu; have hu : zz ∈ ([vp22] : List Value) := hu; simp only [List.mem_cons, List.not_mem_nil, or_false] at hu; rcases hu with rfl <;> first | rfl | exact (SlR.cells S.tail.tail.tail.tail.rd).2) ?_
        intro w181 b182 S
        have B := B.trans b182
        refine t_done' ?_
        refine x_seq ?_
        refine w_ret ?_
        refine x_retcc rfl rfl S.tail.box ab_path sb_path rfl rfl S.box ab_path sb_path rfl ?_
        have S := S.tail
        have S := S.tail
        have S := S.tail
        have S := S.tail
        have S := S.f1
        have S := S.tail
        have S := S.f1
        have S := S.tail
        have S := S.f1
        have S := S.tail
        have S := S.f1
        have S := S.tail
        have S := S.f1
        have S := S.tail
        have S := S.f2
        have S := S.tail
        have S := S.f2
        have S := S.tail
        have S := S.f1
        exact ⟨_, _, _, _, rfl, ⟨hP, hf22.2⟩, S, ext_trans X0 B⟩
    · refine t_bxn S.box ab_path sb_path rfl rfl ?_ rfl
      refine t_bxn S.tail.tail.tail.tail.tail.tail.box ab_path sb_path rfl rfl ?_ rfl
      have S := S.f12
      refine t_stn S sb_path rfl rfl rfl rfl (by intro zz hu; have hu : zz ∈ ([vp11] : List Value) := hu; simp only [List.mem_cons, List.not_mem_nil, or_false] at hu; rcases hu with rfl <;> first | rfl | exact (SlR.cells S.tail.tail.tail.tail.tail.tail.tail.tail.tail.rd).2) ?_
      intro w183 b184 S
      have B := B.trans b184
      have S := S.f12
      refine t_stn S sb_path rfl rfl rfl rfl (by intro zz hu; have hu : zz ∈ ([vp22] : List Value) := hu; simp only [List.mem_cons, List.not_mem_nil, or_false] at hu; rcases hu with rfl <;> first | rfl | exact (SlR.cells S.tail.tail.tail.tail.rd).2) ?_
      intro w185 b186 S
      have B := B.trans b186
      refine t_done' ?_
      refine x_seq ?_
      refine w_ret ?_
      refine x_retcc rfl rfl S.tail.box ab_path sb_path rfl rfl S.box ab_path sb_path rfl ?_
      have S := S.tail
      have S := S.tail
      have S := S.tail
      have S := S.tail
      have S := S.f1
      have S := S.tail
      have S := S.f1
      have S := S.tail
      have S := S.f1
      have S := S.tail
      have S := S.f1
      have S := S.tail
      have S := S.f1
      have S := S.tail
      have S := S.f2
      have S := S.tail
      have S := S.f2
      have S := S.tail
      have S := S.f1
      exact ⟨_, _, _, _, rfl, ⟨hP, hf22.2⟩, S, ext_trans X0 B⟩
end Go.Proofs.YtdaecknfahgddaaGreat
namespace Go.Proofs.YtdaecknfahgddaaGreat
open Go.RowKit
set_option linter.unusedVariables false
section
variable {P : Program} {n : Nat} {ops : Array Oper} {Q : Exit → Act → World → Prop} {L : Frm} {w w0 : World} {m : Md} {r : IT} {d : Nat} {ty : TypeId} {pos : String} {af : Array Edge}
theorem t_eqlb {x y : Operand} {t t' : TypeId} {a b : Bool} (ht : P.underlying t = some .bool) (hx : ev L x = some (.bool a)) (hy : ev L y = some (.bool b)) (k : WT P n ops Q r ((d, .bool (decide (a = b))) :: L) w) (hn : Nat.blt d n = true) : WT P n ops Q (.st m ⟨some d, .binOp .eql t x y t', ty, pos, af, none⟩ r) L w :=
  t_read (fun e ha _ _ _ w' _ => by
    have h := run_eq_bool (P := P) ht a b w'
    have e : (a == b) = decide (a = b) := by cases a <;> cases b <;> rfl
    simp [execOp, ha.ev hx, ha.ev hy, eqGuard, binOp, h]
    try (cases a <;> cases b <;> rfl)) k hn
end
end Go.Proofs.YtdaecknfahgddaaGreat
namespace Go.Proofs.YtdaecknfahgddaaGreat
open Go.RowKit
set_option linter.unusedVariables false
set_option maxRecDepth 20000
theorem eqF_step {P : Program} {d : Nat} {f : Field} {fs : List Field} {xs ys : Array Value} {a b : Int} (hn : f.name ≠ "_") (ht : P.underlying f.type = some (.int .i64)) (ha : ∀ w, (part f.type xs f.offset).run P w = .ok (I a) w) (hb : ∀ w, (part f.type ys f.offset).run P w = .ok (I b) w) (w : World) : (Op.eqFields (d + 1) xs ys (f :: fs)).run P w = if a = b then (Op.eqFields (d + 1) xs ys fs).run P w else .ok false w := by
  simp only [Op.eqFields, if_pos hn, Sem.run_bind, ha, hb, Result.andThen_ok, run_equalIn_int (w := w) _ _ _ _ _ _ ht, Sem.run_ite]
  by_cases h : a = b <;> simp [h]
theorem flds_hop : (Tryz.prog.fieldsOf 86).toList = [(Tryz.prog.fieldsOf 86).getD 0 default, (Tryz.prog.fieldsOf 86).getD 1 default, (Tryz.prog.fieldsOf 86).getD 2 default, (Tryz.prog.fieldsOf 86).getD 3 default, (Tryz.prog.fieldsOf 86).getD 4 default] := by kernel_rfl
theorem run_eq_hop (x y : Hop) (w : World) : (Op.equal 86 (.agg #[I x.ia, I x.ing, I x.eg, I x.exp, I x.mac]) (.agg #[I y.ia, I y.ing, I y.eg, I y.exp, I y.mac])).run Tryz.prog w = .ok (decide (x = y)) w := by
  unfold Op.equal
  obtain ⟨d, hd⟩ : ∃ d, Op.maxDepth = (d + 1) + 1 := ⟨9998, rfl⟩
  rw [hd, run_equalIn_struct w (d + 1) 86 _ _ (by kernel_rfl) (by kernel_rfl), flds_hop]
  rw [eqF_step (a := x.ia) (b := y.ia) (of_decide_eq_true (by kernel_rfl)) (by kernel_rfl) (fun w => by kernel_rfl) (fun w => by kernel_rfl)]
  rw [eqF_step (a := x.ing) (b := y.ing) (of_decide_eq_true (by kernel_rfl)) (by kernel_rfl) (fun w => by kernel_rfl) (fun w => by kernel_rfl)]
  rw [eqF_step (a := x.eg) (b := y.eg) (of_decide_eq_true (by kernel_rfl)) (by kernel_rfl) (fun w => by kernel_rfl) (fun w => by kernel_rfl)]
  rw [eqF_step (a := x.exp) (b := y.exp) (of_decide_eq_true (by kernel_rfl)) (by kernel_rfl) (fun w => by kernel_rfl) (fun w => by kernel_rfl)]
  rw [eqF_step (a := x.mac) (b := y.mac) (of_decide_eq_true (by kernel_rfl)) (by kernel_rfl) (fun w => by kernel_rfl) (fun w => by kernel_rfl)]
  obtain ⟨x0, x1, x2, x3, x4⟩ := x
  obtain ⟨y0, y1, y2, y3, y4⟩ := y
  by_cases h0 : x0 = y0 <;> by_cases h1 : x1 = y1 <;> by_cases h2 : x2 = y2 <;> by_cases h3 : x3 = y3 <;> by_cases h4 : x4 = y4 <;> simp [h0, h1, h2, h3, h4, Op.eqFields]
theorem flds_step : (Tryz.prog.fieldsOf 78).toList = [(Tryz.prog.fieldsOf 78).getD 0 default, (Tryz.prog.fieldsOf 78).getD 1 default, (Tryz.prog.fieldsOf 78).getD 2 default] := by kernel_rfl
theorem run_eq_step (x y : Stp) (w : World) : (Op.equal 78 (.agg #[I x.ia, I x.ing, I x.eg]) (.agg #[I y.ia, I y.ing, I y.eg])).run Tryz.prog w = .ok (decide (x = y)) w := by
  unfold Op.equal
  obtain ⟨d, hd⟩ : ∃ d, Op.maxDepth = (d + 1) + 1 := ⟨9998, rfl⟩
  rw [hd, run_equalIn_struct w (d + 1) 78 _ _ (by kernel_rfl) (by kernel_rfl), flds_step]
  rw [eqF_step (a := x.ia) (b := y.ia) (of_decide_eq_true (by kernel_rfl)) (by kernel_rfl) (fun w => by kernel_rfl) (fun w => by kernel_rfl)]
  rw [eqF_step (a := x.ing) (b := y.ing) (of_decide_eq_true (by kernel_rfl)) (by kernel_rfl) (fun w => by kernel_rfl) (fun w => by kernel_rfl)]
  rw [eqF_step (a := x.eg) (b := y.eg) (of_decide_eq_true (by kernel_rfl)) (by kernel_rfl) (fun w => by kernel_rfl) (fun w => by kernel_rfl)]
  obtain ⟨x0, x1, x2⟩ := x
  obtain ⟨y0, y1, y2⟩ := y
  by_cases h0 : x0 = y0 <;> by_cases h1 : x1 = y1 <;> by_cases h2 : x2 = y2 <;> simp [h0, h1, h2, Op.eqFields]
section
variable {P : Program} {n : Nat} {ops : Array Oper} {Q : Exit → Act → World → Prop} {L : Frm} {w w0 : World} {m : Md} {r : IT} {d : Nat} {ty : TypeId} {pos : String} {af : Array Edge}
theorem t_neqv {x y : Operand} {t t' : TypeId} {a b : Array Value} {p : Prop} {dp : Decidable p} (hg : P.eqGuardType P.depth t = false) (he : ∀ w, (Op.equal t (.agg a) (.agg b)).run P w = .ok (decide p) w) (hx : ev L x = some (.agg a)) (hy : ev L y = some (.agg b)) (k : WT P n ops Q r ((d, .bool (decide (¬ p))) :: L) w) (hn : Nat.blt d n = true) : WT P n ops Q (.st m ⟨some d, .binOp .neq t x y t', ty, pos, af, none⟩ r) L w :=
  t_read (fun e ha _ _ _ w' _ => by
    have h := he w'
    simp [execOp, ha.ev hx, ha.ev hy, eqGuard, binOp, h, hg]) k hn
end
theorem eq_step {α : Type} {a b : List α} {k : Nat} {x y : α} (h : a.take k = b.take k) (ha : a[k]? = some x) (hb : b[k]? = some y) (e : x = y) : a.take (k + 1) = b.take (k + 1) := by
  subst e; rw [take_succ ha, take_succ hb, h]
theorem eq_not {α : Type} {a b : List α} {k : Nat} {x y : α} (ha : a[k]? = some x) (hb : b[k]? = some y) (e : ¬ x = y) : ¬ a = b := by
  rintro rfl; rw [ha] at hb; exact e (Option.some.inj hb)
theorem eq_end {α : Type} {a b : List α} {k : Nat} (h : a.take k = b.take k) (hk : a.length ≤ k) (hl : a.length = b.length) : a = b := by
  rw [List.take_of_length_le hk, List.take_of_length_le (by omega)] at h; exact h
theorem laws_sameInts (a b : List Int) (v u : Value) (w : World) (h : SlR intT w v a) (h2 : SlR intT w u b) (hz : a.length ≤ 4611686018427387904) (hz2 : b.length ≤ 4611686018427387904) : Calls Tryz.prog 24 #[v, u] w fun e w' => e = .returned (.bool (decide (a = b))) ∧ Below w.heap.size w w' := by
  have X0 := Below.refl w.heap.size w
  refine enter Tryz.func24 rfl Tryz.ntmps24 rfl ?_
  refine w_seq ?_
  refine w_region ?_
  have S := Sep.nil w
  have B := Below.refl w.heap.size w
  have Hb := Nat.le_refl w.heap.size
  refine t_assign rfl ?_ rfl
  refine t_done ?_
  refine x_seq ?_
  refine w_seq ?_
  refine w_seq ?_
  refine w_region ?_
  refine t_move rfl ?_ rfl
  refine t_len e_int (by assumption) rfl rfl ?_ rfl
  refine t_move rfl ?_ rfl
  refine t_len e_int (by assumption) rfl rfl ?_ rfl
  refine t_neq rfl rfl ?_ rfl
  refine t_done ?_
  refine x_seq ?_
  refine w_if rfl ?_ ?_
  · intro hl
    refine w_seq ?_
    refine w_region ?_
    refine t_assign rfl ?_ rfl
    refine t_done ?_
    refine x_seq ?_
    refine w_ret ?_
    refine x_then_ret ?_
    refine x_ret1 rfl rfl ?_
    exact ⟨ret_bool (decide_eq_false (fun e => hl (by rw [e]))).symm, ext_trans X0 B⟩
  · intro hl
    refine w_skip ?_
    refine x_seq ?_
    refine w_seq ?_
    refine w_seq ?_
    refine w_region ?_
    refine t_assign rfl ?_ rfl
    refine t_done ?_
    refine x_seq ?_
    refine w_block ?_
    refine w_loop (X := Nat) (fun k wq => k ≤ a.length ∧ a.take k = b.take k ∧ Below w.heap.size w wq ∧ Sep w.heap.size wq []) (fun k => [(5, I ((k : Int))), (0, v), (1, u)]) (fun k => a.length - k) (0) ?_ ⟨rfl, rfl, rfl, trivial⟩ ?_
    · exact ⟨by omega, rfl, B, S⟩
    rintro k w4 hI
    try dsimp only at hI ⊢
    obtain ⟨hk, hab, B, S⟩ := hI
    refine w_seq ?_
    refine w_seq ?_
    refine w_region ?_
    refine t_move rfl ?_ rfl
    refine t_move rfl ?_ rfl
    refine t_len e_int (by assumption) rfl rfl ?_ rfl
    refine t_lss rfl rfl ?_ rfl
    refine t_done ?_
    refine x_seq ?_
    refine w_if rfl ?_ ?_
    · intro hlt
      refine w_skip ?_
      refine x_seq ?_
      refine w_seq ?_
      refine w_block ?_
      refine w_seq ?_
      refine w_draw (.st .take 0 (.st .take 1 (.st .take 2 (.st .take 3 (.st .take 4 (.st .take 5 (.st .take 6 (.st .take 7 (.st .take 8 .done))))))))) mixed (by kernel_rfl) ?_
      intro w5 x6
      have B := bx Hb B x6
      have S := S.below x6
      refine t_move rfl ?_ rfl
      refine t_move rfl ?_ rfl
      obtain ⟨e19, he19⟩ : ∃ e, (a)[k]? = some e := getx (by omega)
      refine t_idx e_int (k := k) (by assumption) he19 B rfl rfl (by first | rfl | omega) ?_ rfl
      intro p19 hp19
      refine t_ldi (by assumption) ab_int B rfl ?_ rfl
      refine t_move rfl ?_ rfl
      refine t_move rfl ?_ rfl
      obtain ⟨e23, he23⟩ : ∃ e, (b)[k]? = some e := getx (by omega)
      refine t_idx e_int (k := k) (by assumption) he23 B rfl rfl (by first | rfl | omega) ?_ rfl
      intro p23 hp23
      refine t_ldi (by assumption) ab_int B rfl ?_ rfl
      refine t_neq rfl rfl ?_ rfl
      refine t_done' ?_
      refine x_seq ?_
      refine w_if rfl ?_ ?_
      · intro hne
        refine w_seq ?_
        refine w_region ?_
        refine t_assign rfl ?_ rfl
        refine t_done ?_
        refine x_seq ?_
        refine w_ret ?_
        refine x_block_ret ?_
        refine x_then_ret ?_
        refine x_then_ret ?_
        refine x_block_ret ?_
        refine x_then_ret ?_
        refine x_ret1 rfl rfl ?_
        have hne2 : ¬ e19 = e23 := fun e => hne (by rw [e])
        exact ⟨ret_bool (decide_eq_false (eq_not he19 he23 hne2)).symm, ext_trans X0 B⟩
      · intro hne
        refine w_skip ?_
        refine x_block_normal ?_
        refine x_seq ?_
        refine w_region ?_
        refine t_move rfl ?_ rfl
        refine t_add rfl rfl (by omega) ?_ rfl
        refine t_assign rfl ?_ rfl
        refine t_done ?_
        refine x_round (X := Nat) (k + 1) ?_ (by exact ⟨rfl, rfl, rfl, trivial⟩) (by (try dsimp only); omega)
        try dsimp only
        have heq : e19 = e23 := by first | exact Classical.not_not.1 hne | exact UInt8.toNat_inj.1 (by omega)
        exact ⟨by omega, eq_step hab he19 he23 heq, B, S⟩
    · intro hge
      refine w_exit ?_
      refine x_then_exit ?_
      refine x_then_exit ?_
      refine x_block_exit ?_
      refine x_seq ?_
      refine w_seq ?_
      refine w_region ?_
      refine t_assign rfl ?_ rfl
      refine t_done ?_
      refine x_seq ?_
      refine w_ret ?_
      refine x_ret1 rfl rfl ?_
      exact ⟨ret_bool (decide_eq_true (eq_end hab (by omega) (by omega))).symm, ext_trans X0 B⟩
theorem laws_sameHops (a b : List Hop) (v u : Value) (w : World) (h : SlR hopT w v a) (h2 : SlR hopT w u b) (hz : a.length ≤ 4611686018427387904) (hz2 : b.length ≤ 4611686018427387904) : Calls Tryz.prog 133 #[v, u] w fun e w' => e = .returned (.bool (decide (a = b))) ∧ Below w.heap.size w w' := by
  have X0 := Below.refl w.heap.size w
  refine enter Tryz.func133 rfl Tryz.ntmps133 rfl ?_
  refine w_seq ?_
  refine w_region ?_
  have S := Sep.nil w
  have B := Below.refl w.heap.size w
  have Hb := Nat.le_refl w.heap.size
  refine t_assign rfl ?_ rfl
  refine t_done ?_
  refine x_seq ?_
  refine w_seq ?_
  refine w_seq ?_
  refine w_region ?_
  refine t_move rfl ?_ rfl
  refine t_len e_hop (by assumption) rfl rfl ?_ rfl
  refine t_move rfl ?_ rfl
  refine t_len e_hop (by assumption) rfl rfl ?_ rfl
  refine t_neq rfl rfl ?_ rfl
  refine t_done ?_
  refine x_seq ?_
  refine w_if rfl ?_ ?_
  · intro hl
    refine w_seq ?_
    refine w_region ?_
    refine t_assign rfl ?_ rfl
    refine t_done ?_
    refine x_seq ?_
    refine w_ret ?_
    refine x_then_ret ?_
    refine x_ret1 rfl rfl ?_
    exact ⟨ret_bool (decide_eq_false (fun e => hl (by rw [e]))).symm, ext_trans X0 B⟩
  · intro hl
    refine w_skip ?_
    refine x_seq ?_
    refine w_seq ?_
    refine w_seq ?_
    refine w_region ?_
    refine t_assign rfl ?_ rfl
    refine t_done ?_
    refine x_seq ?_
    refine w_block ?_
    refine w_loop (X := Nat) (fun k wq => k ≤ a.length ∧ a.take k = b.take k ∧ Below w.heap.size w wq ∧ Sep w.heap.size wq []) (fun k => [(5, I ((k : Int))), (0, v), (1, u)]) (fun k => a.length - k) (0) ?_ ⟨rfl, rfl, rfl, trivial⟩ ?_
    · exact ⟨by omega, rfl, B, S⟩
    rintro k w7 hI
    try dsimp only at hI ⊢
    obtain ⟨hk, hab, B, S⟩ := hI
    refine w_seq ?_
    refine w_seq ?_
    refine w_region ?_
    refine t_move rfl ?_ rfl
    refine t_move rfl ?_ rfl
    refine t_len e_hop (by assumption) rfl rfl ?_ rfl
    refine t_lss rfl rfl ?_ rfl
    refine t_done ?_
    refine x_seq ?_
    refine w_if rfl ?_ ?_
    · intro hlt
      refine w_skip ?_
      refine x_seq ?_
      refine w_seq ?_
      refine w_block ?_
      refine w_seq ?_
      refine w_draw (.st .take 0 (.st .take 1 (.st .take 2 (.st .take 3 (.st .take 4 (.st .take 5 (.st .take 6 (.st .take 7 (.st .take 8 .done))))))))) mixed (by kernel_rfl) ?_
      intro w8 x9
      have B := bx Hb B x9
      have S := S.below x9
      refine t_move rfl ?_ rfl
      refine t_move rfl ?_ rfl
      obtain ⟨e19, he19⟩ : ∃ e, (a)[k]? = some e := getx (by omega)
      refine t_idx e_hop (k := k) (by assumption) he19 B rfl rfl (by first | rfl | omega) ?_ rfl
      intro p19 hp19
      refine t_lda (by assumption) ab_hop sb_hop B rfl ?_ rfl
      intro v20 hv20
      obtain rfl := hop_va hv20
      refine t_move rfl ?_ rfl
      refine t_move rfl ?_ rfl
      obtain ⟨e23, he23⟩ : ∃ e, (b)[k]? = some e := getx (by omega)
      refine t_idx e_hop (k := k) (by assumption) he23 B rfl rfl (by first | rfl | omega) ?_ rfl
      intro p23 hp23
      refine t_lda (by assumption) ab_hop sb_hop B rfl ?_ rfl
      intro v24 hv24
      obtain rfl := hop_va hv24
      refine t_neqv (by kernel_rfl) (fun w => run_eq_hop e19 e23 w) rfl rfl ?_ rfl
      refine t_done' ?_
      refine x_seq ?_
      refine w_if rfl ?_ ?_
      · intro hne
        refine w_seq ?_
        refine w_region ?_
        refine t_assign rfl ?_ rfl
        refine t_done ?_
        refine x_seq ?_
        refine w_ret ?_
        refine x_block_ret ?_
        refine x_then_ret ?_
        refine x_then_ret ?_
        refine x_block_ret ?_
        refine x_then_ret ?_
        refine x_ret1 rfl rfl ?_
        have hne2 : ¬ e19 = e23 := fun e => hne (by rw [e])
        exact ⟨ret_bool (decide_eq_false (eq_not he19 he23 hne2)).symm, ext_trans X0 B⟩
      · intro hne
        refine w_skip ?_
        refine x_block_normal ?_
        refine x_seq ?_
        refine w_region ?_
        refine t_move rfl ?_ rfl
        refine t_add rfl rfl (by omega) ?_ rfl
        refine t_assign rfl ?_ rfl
        refine t_done ?_
        refine x_round (X := Nat) (k + 1) ?_ (by exact ⟨rfl, rfl, rfl, trivial⟩) (by (try dsimp only); omega)
        try dsimp only
        have heq : e19 = e23 := by first | exact Classical.not_not.1 hne | exact UInt8.toNat_inj.1 (by omega)
        exact ⟨by omega, eq_step hab he19 he23 heq, B, S⟩
    · intro hge
      refine w_exit ?_
      refine x_then_exit ?_
      refine x_then_exit ?_
      refine x_block_exit ?_
      refine x_seq ?_
      refine w_seq ?_
      refine w_region ?_
      refine t_assign rfl ?_ rfl
      refine t_done ?_
      refine x_seq ?_
      refine w_ret ?_
      refine x_ret1 rfl rfl ?_
      exact ⟨ret_bool (decide_eq_true (eq_end hab (by omega) (by omega))).symm, ext_trans X0 B⟩
theorem laws_sameSteps (a b : List Stp) (v u : Value) (w : World) (h : SlR stepT w v a) (h2 : SlR stepT w u b) (hz : a.length ≤ 4611686018427387904) (hz2 : b.length ≤ 4611686018427387904) : Calls Tryz.prog 27 #[v, u] w fun e w' => e = .returned (.bool (decide (a = b))) ∧ Below w.heap.size w w' := by
  have X0 := Below.refl w.heap.size w
  refine enter Tryz.func27 rfl Tryz.ntmps27 rfl ?_
  refine w_seq ?_
  refine w_region ?_
  have S := Sep.nil w
  have B := Below.refl w.heap.size w
  have Hb := Nat.le_refl w.heap.size
  refine t_assign rfl ?_ rfl
  refine t_done ?_
  refine x_seq ?_
  refine w_seq ?_
  refine w_seq ?_
  refine w_region ?_
  refine t_move rfl ?_ rfl
  refine t_len e_step (by assumption) rfl rfl ?_ rfl
  refine t_move rfl ?_ rfl
  refine t_len e_step (by assumption) rfl rfl ?_ rfl
  refine t_neq rfl rfl ?_ rfl
  refine t_done ?_
  refine x_seq ?_
  refine w_if rfl ?_ ?_
  · intro hl
    refine w_seq ?_
    refine w_region ?_
    refine t_assign rfl ?_ rfl
    refine t_done ?_
    refine x_seq ?_
    refine w_ret ?_
    refine x_then_ret ?_
    refine x_ret1 rfl rfl ?_
    exact ⟨ret_bool (decide_eq_false (fun e => hl (by rw [e]))).symm, ext_trans X0 B⟩
  · intro hl
    refine w_skip ?_
    refine x_seq ?_
    refine w_seq ?_
    refine w_seq ?_
    refine w_region ?_
    refine t_assign rfl ?_ rfl
    refine t_done ?_
    refine x_seq ?_
    refine w_block ?_
    refine w_loop (X := Nat) (fun k wq => k ≤ a.length ∧ a.take k = b.take k ∧ Below w.heap.size w wq ∧ Sep w.heap.size wq []) (fun k => [(5, I ((k : Int))), (0, v), (1, u)]) (fun k => a.length - k) (0) ?_ ⟨rfl, rfl, rfl, trivial⟩ ?_
    · exact ⟨by omega, rfl, B, S⟩
    rintro k w10 hI
    try dsimp only at hI ⊢
    obtain ⟨hk, hab, B, S⟩ := hI
    refine w_seq ?_
    refine w_seq ?_
    refine w_region ?_
    refine t_move rfl ?_ rfl
    refine t_move rfl ?_ rfl
    refine t_len e_step (by assumption) rfl rfl ?_ rfl
    refine t_lss rfl rfl ?_ rfl
    refine t_done ?_
    refine x_seq ?_
    refine w_if rfl ?_ ?_
    · intro hlt
      refine w_skip ?_
      refine x_seq ?_
      refine w_seq ?_
      refine w_block ?_
      refine w_seq ?_
      refine w_draw (.st .take 0 (.st .take 1 (.st .take 2 (.st .take 3 (.st .take 4 (.st .take 5 (.st .take 6 (.st .take 7 (.st .take 8 .done))))))))) mixed (by kernel_rfl) ?_
      intro w11 x12
      have B := bx Hb B x12
      have S := S.below x12
      refine t_move rfl ?_ rfl
      refine t_move rfl ?_ rfl
      obtain ⟨e19, he19⟩ : ∃ e, (a)[k]? = some e := getx (by omega)
      refine t_idx e_step (k := k) (by assumption) he19 B rfl rfl (by first | rfl | omega) ?_ rfl
      intro p19 hp19
      refine t_lda (by assumption) ab_step sb_step B rfl ?_ rfl
      intro v20 hv20
      obtain rfl := step_va hv20
      refine t_move rfl ?_ rfl
      refine t_move rfl ?_ rfl
      obtain ⟨e23, he23⟩ : ∃ e, (b)[k]? = some e := getx (by omega)
      refine t_idx e_step (k := k) (by assumption) he23 B rfl rfl (by first | rfl | omega) ?_ rfl
      intro p23 hp23
      refine t_lda (by assumption) ab_step sb_step B rfl ?_ rfl
      intro v24 hv24
      obtain rfl := step_va hv24
      refine t_neqv (by kernel_rfl) (fun w => run_eq_step e19 e23 w) rfl rfl ?_ rfl
      refine t_done' ?_
      refine x_seq ?_
      refine w_if rfl ?_ ?_
      · intro hne
        refine w_seq ?_
        refine w_region ?_
        refine t_assign rfl ?_ rfl
        refine t_done ?_
        refine x_seq ?_
        refine w_ret ?_
        refine x_block_ret ?_
        refine x_then_ret ?_
        refine x_then_ret ?_
        refine x_block_ret ?_
        refine x_then_ret ?_
        refine x_ret1 rfl rfl ?_
        have hne2 : ¬ e19 = e23 := fun e => hne (by rw [e])
        exact ⟨ret_bool (decide_eq_false (eq_not he19 he23 hne2)).symm, ext_trans X0 B⟩
      · intro hne
        refine w_skip ?_
        refine x_block_normal ?_
        refine x_seq ?_
        refine w_region ?_
        refine t_move rfl ?_ rfl
        refine t_add rfl rfl (by omega) ?_ rfl
        refine t_assign rfl ?_ rfl
        refine t_done ?_
        refine x_round (X := Nat) (k + 1) ?_ (by exact ⟨rfl, rfl, rfl, trivial⟩) (by (try dsimp only); omega)
        try dsimp only
        have heq : e19 = e23 := by first | exact Classical.not_not.1 hne | exact UInt8.toNat_inj.1 (by omega)
        exact ⟨by omega, eq_step hab he19 he23 heq, B, S⟩
    · intro hge
      refine w_exit ?_
      refine x_then_exit ?_
      refine x_then_exit ?_
      refine x_block_exit ?_
      refine x_seq ?_
      refine w_seq ?_
      refine w_region ?_
      refine t_assign rfl ?_ rfl
      refine t_done ?_
      refine x_seq ?_
      refine w_ret ?_
      refine x_ret1 rfl rfl ?_
      exact ⟨ret_bool (decide_eq_true (eq_end hab (by omega) (by omega))).symm, ext_trans X0 B⟩
theorem part_eqh {x y : Part} (h1 : x.kind = y.kind) (h2 : x.ts = y.ts) (h3 : x.beta = y.beta) : x.hops = y.hops ↔ x = y := by
  obtain ⟨a, b, c, d⟩ := x
  obtain ⟨a', b', c', d'⟩ := y
  dsimp only at h1 h2 h3 ⊢
  subst h1 h2 h3
  simp
theorem laws_samePart (x y : Part) (v u : Value) (w : World) (h : VA partT w v x) (h2 : VA partT w u y) (hz : x.hops.length ≤ 4611686018427387904) (hz2 : y.hops.length ≤ 4611686018427387904) : Calls Tryz.prog 74 #[v, u] w fun e w' => e = .returned (.bool (decide (x = y))) ∧ Below w.heap.size w w' := by
  have X0 := Below.refl w.heap.size w
  refine enter Tryz.func74 rfl Tryz.ntmps74 rfl ?_
  refine w_seq ?_
  refine w_region ?_
  refine t_boxr (by assumption) rfl ?_ rfl rfl
  intro p2 w13 x14 hp2
  replace h := h.below x14
  replace h2 := h2.below x14
  have X0 := ext_trans X0 x14
  refine t_boxr (by assumption) rfl ?_ rfl rfl
  intro p3 w15 x16 hp3
  replace h := h.below x16
  replace h2 := h2.below x16
  replace hp2 := hp2.below x16
  have X0 := ext_trans X0 x16
  have S := Sep.nil w15
  have B := Below.refl w15.heap.size w15
  have Hb := Nat.le_refl w15.heap.size
  refine t_assign rfl ?_ rfl
  refine t_done ?_
  refine x_seq ?_
  refine w_seq ?_
  refine w_region ?_
  refine t_fld ln_part_0 (by assumption) fb_part_0 rfl ?_ rfl
  intro p5 hp5
  refine t_ldi (by assumption) ab_int B rfl ?_ rfl
  refine t_fld ln_part_0 (by assumption) fb_part_0 rfl ?_ rfl
  intro p7 hp7
  refine t_ldi (by assumption) ab_int B rfl ?_ rfl
  refine t_eql rfl rfl ?_ rfl
  refine t_move rfl ?_ rfl
  refine t_partp (t := 10) rfl ?_ ?_
  · intro hc1
    refine t_on rfl rfl ?_
    refine t_fld ln_part_1 (by assumption) fb_part_1 rfl ?_ rfl
    intro p11 hp11
    refine t_on rfl rfl ?_
    refine t_ldi (by assumption) ab_int B rfl ?_ rfl
    refine t_on rfl rfl ?_
    refine t_fld ln_part_1 (by assumption) fb_part_1 rfl ?_ rfl
    intro p13 hp13
    refine t_on rfl rfl ?_
    refine t_ldi (by assumption) ab_int B rfl ?_ rfl
    refine t_on rfl rfl ?_
    refine t_eql rfl rfl ?_ rfl
    refine t_pickt rfl rfl ?_ rfl
    refine t_move rfl ?_ rfl
    refine t_partp (t := 17) rfl ?_ ?_
    · intro hc2
      refine t_on rfl rfl ?_
      refine t_fld ln_part_2 (by assumption) fb_part_2 rfl ?_ rfl
      intro p18 hp18
      refine t_on rfl rfl ?_
      refine t_ldi (by assumption) ab_int B rfl ?_ rfl
      refine t_on rfl rfl ?_
      refine t_fld ln_part_2 (by assumption) fb_part_2 rfl ?_ rfl
      intro p20 hp20
      refine t_on rfl rfl ?_
      refine t_ldi (by assumption) ab_int B rfl ?_ rfl
      refine t_on rfl rfl ?_
      refine t_eql rfl rfl ?_ rfl
      refine t_pickt rfl rfl ?_ rfl
      refine t_move rfl ?_ rfl
      refine t_partp (t := 24) rfl ?_ ?_
      · intro hc3
        refine t_on rfl rfl ?_
        refine t_fld ln_part_3 (by assumption) fb_part_3 rfl ?_ rfl
        intro p25 hp25
        refine t_on rfl rfl ?_
        refine t_lds (by assumption) ab_s_hop B rfl ?_ rfl
        intro v26 hv26
        refine t_on rfl rfl ?_
        refine t_fld ln_part_3 (by assumption) fb_part_3 rfl ?_ rfl
        intro p27 hp27
        refine t_on rfl rfl ?_
        refine t_lds (by assumption) ab_s_hop B rfl ?_ rfl
        intro v28 hv28
        refine t_on rfl rfl ?_
        refine t_callx Tryz.call133 rfl (laws_sameHops x.hops y.hops _ _ _ (by first | assumption | exact SlR.below (by assumption) B) (by first | assumption | exact SlR.below (by assumption) B) (by omega) (by omega)) ?_ rfl rfl
        intro w17 x18
        have B := bx Hb B x18
        have S := S.below x18
        refine t_pickt rfl rfl ?_ rfl
        refine t_assign rfl ?_ rfl
        refine t_done ?_
        refine x_seq ?_
        refine w_ret ?_
        refine x_ret1 rfl rfl ?_
        first | exact ⟨ret_bool (decide_eq_false fun e => absurd (congrArg Part.kind e) (by assumption)).symm, ext_trans X0 B⟩ | exact ⟨ret_bool (decide_eq_false fun e => absurd (congrArg Part.ts e) (by assumption)).symm, ext_trans X0 B⟩ | exact ⟨ret_bool (decide_eq_false fun e => absurd (congrArg Part.beta e) (by assumption)).symm, ext_trans X0 B⟩ | exact ⟨ret_bool (decide_eq_decide.2 (part_eqh (by assumption) (by assumption) (by assumption))), ext_trans X0 B⟩
      · intro hc4
        refine t_off rfl rfl rfl ?_ rfl
        refine t_off rfl rfl rfl ?_ rfl
        refine t_off rfl rfl rfl ?_ rfl
        refine t_off rfl rfl rfl ?_ rfl
        refine t_off rfl rfl rfl ?_ rfl
        refine t_pickf rfl rfl ?_ rfl
        refine t_assign rfl ?_ rfl
        refine t_done ?_
        refine x_seq ?_
        refine w_ret ?_
        refine x_ret1 rfl rfl ?_
        first | exact ⟨ret_bool (decide_eq_false fun e => absurd (congrArg Part.kind e) (by assumption)).symm, ext_trans X0 B⟩ | exact ⟨ret_bool (decide_eq_false fun e => absurd (congrArg Part.ts e) (by assumption)).symm, ext_trans X0 B⟩ | exact ⟨ret_bool (decide_eq_false fun e => absurd (congrArg Part.beta e) (by assumption)).symm, ext_trans X0 B⟩ | exact ⟨ret_bool (decide_eq_decide.2 (part_eqh (by assumption) (by assumption) (by assumption))), ext_trans X0 B⟩
    · intro hc5
      refine t_off rfl rfl rfl ?_ rfl
      refine t_off rfl rfl rfl ?_ rfl
      refine t_off rfl rfl rfl ?_ rfl
      refine t_off rfl rfl rfl ?_ rfl
      refine t_off rfl rfl rfl ?_ rfl
      refine t_pickf rfl rfl ?_ rfl
      refine t_move rfl ?_ rfl
      refine t_off rfl rfl rfl ?_ rfl
      refine t_off rfl rfl rfl ?_ rfl
      refine t_off rfl rfl rfl ?_ rfl
      refine t_off rfl rfl rfl ?_ rfl
      refine t_off rfl rfl rfl ?_ rfl
      refine t_pickf rfl rfl ?_ rfl
      refine t_assign rfl ?_ rfl
      refine t_done ?_
      refine x_seq ?_
      refine w_ret ?_
      refine x_ret1 rfl rfl ?_
      first | exact ⟨ret_bool (decide_eq_false fun e => absurd (congrArg Part.kind e) (by assumption)).symm, ext_trans X0 B⟩ | exact ⟨ret_bool (decide_eq_false fun e => absurd (congrArg Part.ts e) (by assumption)).symm, ext_trans X0 B⟩ | exact ⟨ret_bool (decide_eq_false fun e => absurd (congrArg Part.beta e) (by assumption)).symm, ext_trans X0 B⟩ | exact ⟨ret_bool (decide_eq_decide.2 (part_eqh (by assumption) (by assumption) (by assumption))), ext_trans X0 B⟩
  · intro hc6
    refine t_off rfl rfl rfl ?_ rfl
    refine t_off rfl rfl rfl ?_ rfl
    refine t_off rfl rfl rfl ?_ rfl
    refine t_off rfl rfl rfl ?_ rfl
    refine t_off rfl rfl rfl ?_ rfl
    refine t_pickf rfl rfl ?_ rfl
    refine t_move rfl ?_ rfl
    refine t_off rfl rfl rfl ?_ rfl
    refine t_off rfl rfl rfl ?_ rfl
    refine t_off rfl rfl rfl ?_ rfl
    refine t_off rfl rfl rfl ?_ rfl
    refine t_off rfl rfl rfl ?_ rfl
    refine t_pickf rfl rfl ?_ rfl
    refine t_move rfl ?_ rfl
    refine t_off rfl rfl rfl ?_ rfl
    refine t_off rfl rfl rfl ?_ rfl
    refine t_off rfl rfl rfl ?_ rfl
    refine t_off rfl rfl rfl ?_ rfl
    refine t_off rfl rfl rfl ?_ rfl
    refine t_pickf rfl rfl ?_ rfl
    refine t_assign rfl ?_ rfl
    refine t_done ?_
    refine x_seq ?_
    refine w_ret ?_
    refine x_ret1 rfl rfl ?_
    first | exact ⟨ret_bool (decide_eq_false fun e => absurd (congrArg Part.kind e) (by assumption)).symm, ext_trans X0 B⟩ | exact ⟨ret_bool (decide_eq_false fun e => absurd (congrArg Part.ts e) (by assumption)).symm, ext_trans X0 B⟩ | exact ⟨ret_bool (decide_eq_false fun e => absurd (congrArg Part.beta e) (by assumption)).symm, ext_trans X0 B⟩ | exact ⟨ret_bool (decide_eq_decide.2 (part_eqh (by assumption) (by assumption) (by assumption))), ext_trans X0 B⟩
theorem laws_samePath (a b : Path) (v u : Value) (w : World) (h : VA pathT w v a) (h2 : VA pathT w u b) (hz : sz_path a ≤ 1048576) (hz2 : sz_path b ≤ 1048576) : Calls Tryz.prog 21 #[v, u] w fun e w' => e = .returned (.bool (decide (a = b))) ∧ Below w.heap.size w w' := by
  have hl1 : List.length a ≤ sz_path a := Nat.le_add_right _ _
  have hl2 : List.length b ≤ sz_path b := Nat.le_add_right _ _
  have X0 := Below.refl w.heap.size w
  refine enter Tryz.func21 rfl Tryz.ntmps21 rfl ?_
  refine w_seq ?_
  refine w_region ?_
  refine t_boxr (by assumption) rfl ?_ rfl rfl
  intro p2 w19 x20 hp2
  replace h := h.below x20
  replace h2 := h2.below x20
  have X0 := ext_trans X0 x20
  refine t_boxr (by assumption) rfl ?_ rfl rfl
  intro p3 w21 x22 hp3
  replace h := h.below x22
  replace h2 := h2.below x22
  replace hp2 := hp2.below x22
  have X0 := ext_trans X0 x22
  have S := Sep.nil w21
  have B := Below.refl w21.heap.size w21
  have Hb := Nat.le_refl w21.heap.size
  refine t_assign rfl ?_ rfl
  refine t_done ?_
  refine x_seq ?_
  refine w_seq ?_
  refine w_seq ?_
  refine w_region ?_
  refine t_fld ln_path_0 (by assumption) fb_path_0 rfl ?_ rfl
  intro p6 hp6
  refine t_lds (by assumption) ab_s_part B rfl ?_ rfl
  intro v7 hv7
  refine t_len e_part (by assumption) rfl rfl ?_ rfl
  refine t_fld ln_path_0 (by assumption) fb_path_0 rfl ?_ rfl
  intro p9 hp9
  refine t_lds (by assumption) ab_s_part B rfl ?_ rfl
  intro v10 hv10
  refine t_len e_part (by assumption) rfl rfl ?_ rfl
  refine t_neq rfl rfl ?_ rfl
  refine t_done ?_
  refine x_seq ?_
  refine w_if rfl ?_ ?_
  · intro hl
    refine w_seq ?_
    refine w_region ?_
    refine t_assign rfl ?_ rfl
    refine t_done ?_
    refine x_seq ?_
    refine w_ret ?_
    refine x_then_ret ?_
    refine x_ret1 rfl rfl ?_
    exact ⟨ret_bool (decide_eq_false (fun e => hl (by rw [e]))).symm, ext_trans X0 B⟩
  · intro hl
    refine w_skip ?_
    refine x_seq ?_
    refine w_seq ?_
    refine w_seq ?_
    refine w_region ?_
    refine t_assign rfl ?_ rfl
    refine t_done ?_
    refine x_seq ?_
    refine w_block ?_
    refine w_loop (X := Nat) (fun k wq => k ≤ List.length a ∧ List.take k a = List.take k b ∧ Below w21.heap.size w21 wq ∧ Sep w21.heap.size wq []) (fun k => [(5, I ((k : Int))), (2, p2), (3, p3)]) (fun k => List.length a - k) (0) ?_ ⟨rfl, rfl, rfl, trivial⟩ ?_
    · exact ⟨by omega, rfl, B, S⟩
    rintro k w23 hI
    try dsimp only at hI ⊢
    obtain ⟨hk, hab, B, S⟩ := hI
    refine w_seq ?_
    refine w_seq ?_
    refine w_region ?_
    refine t_move rfl ?_ rfl
    refine t_fld ln_path_0 (by assumption) fb_path_0 rfl ?_ rfl
    intro p14 hp14
    refine t_lds (by assumption) ab_s_part B rfl ?_ rfl
    intro v15 hv15
    refine t_len e_part (by assumption) rfl rfl ?_ rfl
    refine t_lss rfl rfl ?_ rfl
    refine t_done ?_
    refine x_seq ?_
    refine w_if rfl ?_ ?_
    · intro hlt
      obtain ⟨e23, he23⟩ := getx (l := a) (k := k) (by omega)
      obtain ⟨e28, he28⟩ := getx (l := b) (k := k) (by omega)
      have hh1 := hops_le_path (List.mem_of_getElem? he23)
      have hh2 := hops_le_path (List.mem_of_getElem? he28)
      refine w_skip ?_
      refine x_seq ?_
      refine w_seq ?_
      refine w_block ?_
      refine w_seq ?_
      refine w_draw (.st .take 0 (.st .take 1 (.st .take 2 (.st .take 3 (.st .take 4 (.st .take 5 (.st .take 6 (.st .take 7 (.st .take 8 (.st .take 9 (.st .run 10 (.st .take 11 .done)))))))))))) mixed (by kernel_rfl) ?_
      intro w24 x25
      have B := bx Hb B x25
      have S := S.below x25
      refine t_fld ln_path_0 (by assumption) fb_path_0 rfl ?_ rfl
      intro p20 hp20
      refine t_lds (by assumption) ab_s_part B rfl ?_ rfl
      intro v21 hv21
      refine t_move rfl ?_ rfl
      refine t_idx e_part (k := k) (by assumption) he23 B rfl rfl (by first | rfl | omega) ?_ rfl
      intro p23 hp23
      refine t_lda (by assumption) ab_part sb_part B rfl ?_ rfl
      intro v24 hv24
      obtain ⟨v24_3, rfl, hv24_3⟩ := part_va hv24
      refine t_fld ln_path_0 (by assumption) fb_path_0 rfl ?_ rfl
      intro p25 hp25
      refine t_lds (by assumption) ab_s_part B rfl ?_ rfl
      intro v26 hv26
      refine t_move rfl ?_ rfl
      refine t_idx e_part (k := k) (by assumption) he28 B rfl rfl (by first | rfl | omega) ?_ rfl
      intro p28 hp28
      refine t_lda (by assumption) ab_part sb_part B rfl ?_ rfl
      intro v29 hv29
      obtain ⟨v29_3, rfl, hv29_3⟩ := part_va hv29
      refine t_callx Tryz.call74 rfl (laws_samePart e23 e28 _ _ _ (by first | assumption | exact VA.below (by assumption) B | exact part_mkv (by first | assumption | exact SlR.below (by assumption) B)) (by first | assumption | exact VA.below (by assumption) B | exact part_mkv (by first | assumption | exact SlR.below (by assumption) B)) (by omega) (by omega)) ?_ rfl rfl
      intro w26 x27
      have B := bx Hb B x27
      have S := S.below x27
      refine t_not rfl ?_ rfl
      refine t_done' ?_
      refine x_seq ?_
      refine w_if rfl ?_ ?_
      · intro hne
        refine w_seq ?_
        refine w_region ?_
        refine t_assign rfl ?_ rfl
        refine t_done ?_
        refine x_seq ?_
        refine w_ret ?_
        refine x_block_ret ?_
        refine x_then_ret ?_
        refine x_then_ret ?_
        refine x_block_ret ?_
        refine x_then_ret ?_
        refine x_ret1 rfl rfl ?_
        exact ⟨ret_bool (decide_eq_false (eq_not he23 he28 (by simpa using hne))).symm, ext_trans X0 B⟩
      · intro hne
        refine w_skip ?_
        refine x_block_normal ?_
        refine x_seq ?_
        refine w_region ?_
        refine t_move rfl ?_ rfl
        refine t_add rfl rfl (by omega) ?_ rfl
        refine t_assign rfl ?_ rfl
        refine t_done ?_
        refine x_round (X := Nat) (k + 1) ?_ (by exact ⟨rfl, rfl, rfl, trivial⟩) (by (try dsimp only); omega)
        try dsimp only
        exact ⟨by omega, eq_step hab he23 he28 (by simpa using hne), B, S⟩
    · intro hge
      refine w_exit ?_
      refine x_then_exit ?_
      refine x_then_exit ?_
      refine x_block_exit ?_
      refine x_seq ?_
      refine w_seq ?_
      refine w_region ?_
      refine t_assign rfl ?_ rfl
      refine t_done ?_
      refine x_seq ?_
      refine w_ret ?_
      refine x_ret1 rfl rfl ?_
      exact ⟨ret_bool (decide_eq_true (eq_end hab (by omega) (by omega))).symm, ext_trans X0 B⟩
end Go.Proofs.YtdaecknfahgddaaGreat
namespace Go.Proofs.YtdaecknfahgddaaGreat
open Go.RowKit
set_option linter.unusedVariables false
set_option maxRecDepth 20000
abbrev Sv (l : List UInt8) : Value := .string ⟨l.toArray⟩
def strT : Ty (List UInt8) := flatT 1 (fun l => [Sv l]) (by omega) (fun _ => rfl) (fun _ u hu => by simp at hu; rw [hu]; rfl)
theorem str_flat (base : Nat) (w : World) (cs : List Value) (a : List UInt8) (h : strT.R w cs a) : strT.O base w cs a [] := ⟨h, rfl⟩
theorem e_str : ElemT Tryz.prog 91 9 strT.size 16 := ElemT.mk' Tryz.underlying91 (z := .string ⟨#[]⟩) (by kernel_rfl) rfl (by decide)
theorem bs_str1 (a : ByteArray) (w : World) : (Instr.buildSlice 91 1 #[(0, .string a)]).run Tryz.prog w = .ok (.slice (some ⟨w.heap.size, 0, none⟩) 1 1) (w.alloc (.cells #[.string a] 9)) := by kernel_rfl
section
variable {P : Program} {n : Nat} {ops : Array Oper} {Q : Exit → Act → World → Prop} {L : Frm} {w w0 : World} {m : Md} {r : IT} {d : Nat} {ty : TypeId} {pos : String} {af : Array Edge}
theorem t_cats {x y : Operand} {t t' : TypeId} {a b : List UInt8} (hx : ev L x = some (Sv a)) (hy : ev L y = some (Sv b)) (hr : a.length + b.length ≤ 9223372036854775807) (k : WT P n ops Q r ((d, Sv (a ++ b)) :: L) w) (hn : Nat.blt d n = true) : WT P n ops Q (.st m ⟨some d, .binOp .add t x y t', ty, pos, af, none⟩ r) L w :=
  t_read (fun e ha _ _ _ w' _ => by
    have h : (Op.stringOp .add (ByteArray.mk a.toArray) (ByteArray.mk b.toArray)).run P w' = .ok (Sv (a ++ b)) w' := by
      rw [run_string_add_sum (a := ByteArray.mk a.toArray) (b := ByteArray.mk b.toArray) (h := by simpa [ByteArray.size] using hr), ByteArray.mk_append_mk]
    simp [execOp, ha.ev hx, ha.ev hy, eqGuard, binOp, h]) k hn
theorem t_neqs {x y : Operand} {t t' : TypeId} {a b : List UInt8} (hx : ev L x = some (Sv a)) (hy : ev L y = some (Sv b)) (k : WT P n ops Q r ((d, .bool (decide (a ≠ b))) :: L) w) (hn : Nat.blt d n = true) : WT P n ops Q (.st m ⟨some d, .binOp .neq t x y t', ty, pos, af, none⟩ r) L w :=
  t_read (fun e ha _ _ _ w' _ => by
    have h : (Op.stringOp .neq (ByteArray.mk a.toArray) (ByteArray.mk b.toArray)).run P w' = .ok (.bool (decide (a ≠ b))) w' := by
      simp only [Op.stringOp, ByteArray.toList_mk, Sem.run_pure]
      congr 2
      by_cases hab : a = b <;> simp [hab]
    simp [execOp, ha.ev hx, ha.ev hy, eqGuard, binOp, h]) k hn
theorem t_ldstr {t : TypeId} {xo : Operand} {p : Value} {a : List UInt8} (h : Ptr strT w0 p a) (ha : aggB P t = some false) (B : Ext w0 w) (hx : ev L xo = some p) (k : WT P n ops Q r ((d, Sv a) :: L) w) (hn : Nat.blt d n = true) : WT P n ops Q (.st m ⟨some d, .load t xo, ty, pos, af, none⟩ r) L w := by
  obtain ⟨g, o, cs, rfl, h2, h3⟩ := h
  have hcs : cs = [Sv a] := h2
  subst hcs
  exact t_ld1 ha (h3 0 _ rfl) B hx k hn
theorem t_neg {x : Operand} {t : TypeId} {a : Int} (hx : ev L x = some (I a)) (hr : -9223372036854775808 ≤ -a ∧ -a ≤ 9223372036854775807) (k : WT P n ops Q r ((d, I (-a)) :: L) w) (hn : Nat.blt d n = true) : WT P n ops Q (.st m ⟨some d, .unOp .neg t x, ty, pos, af, none⟩ r) L w :=
  t_read (fun e ha _ _ _ w' _ => by simp [execOp, ha.ev hx, Op.unary, Op.intArith, wr64 hr]) k hn
theorem t_quot {x y : Operand} {t t' : TypeId} {a b : Int} (hx : ev L x = some (I a)) (hy : ev L y = some (I b)) (hb : b ≠ 0) (hr : -9223372036854775808 ≤ a.tdiv b ∧ a.tdiv b ≤ 9223372036854775807) (k : WT P n ops Q r ((d, I (a.tdiv b)) :: L) w) (hn : Nat.blt d n = true) : WT P n ops Q (.st m ⟨some d, .binOp .quo t x y t', ty, pos, af, none⟩ r) L w :=
  t_read (fun e ha _ _ _ w' _ => by simp [execOp, ha.ev hx, ha.ev hy, eqGuard, binOp, Op.intDiv, hb, wr64 hr]) k hn
theorem byte_cells {w : World} {l : List UInt8} {css : List (List Value)} (hl : css.length = l.length) (h : ∀ (i : Nat) cs a, css[i]? = some cs → l[i]? = some a → byteT.R w cs a) : css.flatten = l.map fun b => Value.int .u8 (b.toNat : Int) := by
  have e : css = l.map fun b => [Value.int .u8 (b.toNat : Int)] := by
    apply List.ext_getElem?
    intro i
    rcases Nat.lt_or_ge i l.length with hi | hi
    · have h1 : css[i]? = some (css[i]'(by omega)) := List.getElem?_eq_getElem (by omega)
      have h2 : l[i]? = some (l[i]'hi) := List.getElem?_eq_getElem hi
      have h3 : css[i]'(by omega) = [Value.int .u8 ((l[i]'hi).toNat : Int)] := h i _ _ h1 h2
      rw [h1, h3, List.getElem?_map, h2]
      rfl
    · rw [List.getElem?_eq_none (by omega), List.getElem?_map, List.getElem?_eq_none hi]
      rfl
  rw [e]
  clear e hl h
  induction l with
  | nil => rfl
  | cons a t ih => simp only [List.map_cons, List.flatten_cons, ih]; rfl
/-- A string out of a byte slice. -/
theorem t_bts {s t e : TypeId} {x : Operand} {v : Value} {l : List UInt8} (hs : P.underlying s = some (.slice e)) (he : P.underlying e = some (.int .u8)) (ht : P.underlying t = some .string) (h : SlR byteT w0 v l) (B : Ext w0 w) (hx : ev L x = some v) (k : WT P n ops Q r ((d, Sv l) :: L) w) (hn : Nat.blt d n = true) : WT P n ops Q (.st m ⟨some d, .convert s t x, ty, pos, af, none⟩ r) L w := by
  obtain ⟨A, c, css, rfl, h1, h2, h3, h4⟩ := h
  have hfl := byte_cells h2 h4
  rw [hfl] at h3
  refine t_read (fun a ha _ _ _ w' hw' => ?_) k hn
  have h3' : Rd w' A (l.map fun b => Value.int .u8 (b.toNat : Int)) := (h3.below B).below hw'
  have key : (Conv.bytesToString (.slice A l.length c)).run P w' = .ok (Sv l) w' := by
    cases A with
    | none =>
      have : l = [] := by
        rcases Nat.eq_zero_or_pos l.length with hz | hz
        · exact List.eq_nil_of_length_eq_zero hz
        · obtain ⟨g, o, hA, _⟩ := h3' (by simpa using hz)
          cases hA
      subst this
      rfl
    | some ad =>
      have hld : (loadCells ad l.length).run P w' = .ok ((l.map fun b => (b.toNat : Int)).map (Value.int .u8)).toArray w' := by
        rcases Nat.eq_zero_or_pos l.length with hz | hz
        · have : l = [] := List.eq_nil_of_length_eq_zero hz
          subst this
          simp [loadCells, loadCellsFrom]
        · obtain ⟨g, o, hA, hc⟩ := h3' (by simpa using hz)
          cases hA
          have := run_loadCells (P := P) (w := w') (g := g) (o := o) (cs := l.map fun b => Value.int .u8 (b.toNat : Int)) hc
          rw [List.length_map] at this
          rw [this, List.map_map]
          rfl
      rw [run_bytesToString w' ad l.length c _ hld, foldl_push_bytes]
      congr 2
      simp [Function.comp_def]
  simp [execOp, ha.ev hx, convert, run_underlying hs, run_underlying ht, run_underlying he, key]
end
def digs (n : Nat) : List UInt8 := if h : n < 10 then [bt (48 + (n : Int))] else digs (n / 10) ++ [bt (48 + ((n % 10 : Nat) : Int))]
termination_by n
decreasing_by omega
theorem digs_small {n : Nat} (h : n < 10) : digs n = [bt (48 + (n : Int))] := by rw [digs, dif_pos h]
theorem digs_big {n : Nat} (h : ¬ n < 10) : digs n = digs (n / 10) ++ [bt (48 + ((n % 10 : Nat) : Int))] := by rw [digs, dif_neg h]
theorem digs_len : ∀ (k n : Nat), n < 10 ^ (k + 1) → (digs n).length ≤ k + 1
  | 0, n, h => by rw [digs_small (by omega)]; simp
  | k + 1, n, h => by
    by_cases hs : n < 10
    · rw [digs_small hs]; simp
    · rw [digs_big hs, List.length_append, List.length_singleton]
      have := digs_len k (n / 10) (by rw [Nat.div_lt_iff_lt_mul (by omega)]; rw [Nat.pow_succ] at h; exact h)
      omega
def fmtI (n : Int) : List UInt8 := (if n < 0 then [45] else []) ++ digs n.natAbs
theorem fmtI_len {n : Int} (h : In64 n) : (digs n.natAbs).length ≤ 20 ∧ (fmtI n).length ≤ 21 := by
  have h1 := digs_len 19 n.natAbs (by unfold In64 at h; omega)
  refine ⟨h1, ?_⟩
  unfold fmtI
  rw [List.length_append]
  split
  · simp; omega
  · simp; omega
theorem digit (n : Int) : ((n.natAbs % 10 : Nat) : Int) = if n.tmod 10 < 0 then -(n.tmod 10) else n.tmod 10 := by
  have h : (n.tmod 10).natAbs = n.natAbs % 10 := Int.natAbs_tmod n 10
  split <;> omega
theorem natAbs_quot (n : Int) : (n.tdiv 10).natAbs = n.natAbs / 10 := by
  exact Int.natAbs_tdiv n 10
end Go.Proofs.YtdaecknfahgddaaGreat
namespace Go.Proofs.YtdaecknfahgddaaGreat
open Go.RowKit
set_option linter.unusedVariables false
set_option maxRecDepth 20000
section
variable {P : Program} {n : Nat} {ops : Array Oper} {Q : Exit → Act → World → Prop} {L : Frm} {w : World} {m : Md} {r : IT} {d : Nat} {ty : TypeId} {pos : String} {af : Array Edge}
end
theorem hops_le_p {p : Path} {x : Part} (h : x ∈ p) : x.hops.length ≤ sz_path p := hops_le_path h
theorem impl_eqHops (a b : List Hop) (v u : Value) (w : World) (h : SlR hopT w v a) (h2 : SlR hopT w u b) (hz : a.length ≤ 4611686018427387904) (hz2 : b.length ≤ 4611686018427387904) : Calls Tryz.prog 132 #[v, u] w fun e w' => e = .returned (.bool (decide (a = b))) ∧ Below w.heap.size w w' := by
  have X0 := Below.refl w.heap.size w
  refine enter Tryz.func132 rfl Tryz.ntmps132 rfl ?_
  refine w_seq ?_
  refine w_region ?_
  have S := Sep.nil w
  have B := Below.refl w.heap.size w
  have Hb := Nat.le_refl w.heap.size
  refine t_assign rfl ?_ rfl
  refine t_done ?_
  refine x_seq ?_
  refine w_seq ?_
  refine w_seq ?_
  refine w_region ?_
  refine t_move rfl ?_ rfl
  refine t_len e_hop (by assumption) rfl rfl ?_ rfl
  refine t_move rfl ?_ rfl
  refine t_len e_hop (by assumption) rfl rfl ?_ rfl
  refine t_neq rfl rfl ?_ rfl
  refine t_done ?_
  refine x_seq ?_
  refine w_if rfl ?_ ?_
  · intro hl
    refine w_seq ?_
    refine w_region ?_
    refine t_assign rfl ?_ rfl
    refine t_done ?_
    refine x_seq ?_
    refine w_ret ?_
    refine x_then_ret ?_
    refine x_ret1 rfl rfl ?_
    exact ⟨ret_bool (decide_eq_false (fun e => hl (by rw [e]))).symm, ext_trans X0 B⟩
  · intro hl
    refine w_skip ?_
    refine x_seq ?_
    refine w_seq ?_
    refine w_seq ?_
    refine w_region ?_
    refine t_move rfl ?_ rfl
    refine t_len e_hop (by assumption) rfl rfl ?_ rfl
    refine t_move rfl ?_ rfl
    refine t_done ?_
    refine x_seq ?_
    refine w_block ?_
    refine w_loop (X := Nat) (fun k wq => k ≤ a.length ∧ a.take k = b.take k ∧ Below w.heap.size w wq ∧ Sep w.heap.size wq []) (fun k => [(13, I ((k : Int))), (0, v), (1, u), (12, I ((a.length : Int)))]) (fun k => a.length - k) (0) ?_ ⟨rfl, rfl, rfl, rfl, trivial⟩ ?_
    · exact ⟨by omega, rfl, B, S⟩
    rintro k w1 hI
    try dsimp only at hI ⊢
    obtain ⟨hk, hab, B, S⟩ := hI
    refine w_seq ?_
    refine w_region ?_
    refine t_lss rfl rfl ?_ rfl
    refine t_done ?_
    refine x_seq ?_
    refine w_seq ?_
    refine w_if rfl ?_ ?_
    · intro hlt
      refine w_skip ?_
      refine x_seq ?_
      refine w_seq ?_
      refine w_block ?_
      refine w_seq ?_
      refine w_region ?_
      refine t_move rfl ?_ rfl
      refine t_assign rfl ?_ rfl
      refine t_done ?_
      refine x_seq ?_
      refine w_seq ?_
      refine w_draw (.st .take 0 (.st .take 1 (.st .take 2 (.st .take 3 (.st .take 4 (.st .take 5 (.st .take 6 (.st .take 7 (.st .take 8 .done))))))))) mixed (by kernel_rfl) ?_
      intro w2 x3
      have B := bx Hb B x3
      have S := S.below x3
      refine t_move rfl ?_ rfl
      refine t_move rfl ?_ rfl
      obtain ⟨e18, he18⟩ : ∃ e, (a)[k]? = some e := getx (by omega)
      refine t_idx e_hop (k := k) (by assumption) he18 B rfl rfl (by first | rfl | omega) ?_ rfl
      intro p18 hp18
      refine t_lda (by assumption) ab_hop sb_hop B rfl ?_ rfl
      intro v19 hv19
      obtain rfl := hop_va hv19
      refine t_move rfl ?_ rfl
      refine t_move rfl ?_ rfl
      obtain ⟨e22, he22⟩ : ∃ e, (b)[k]? = some e := getx (by omega)
      refine t_idx e_hop (k := k) (by assumption) he22 B rfl rfl (by first | rfl | omega) ?_ rfl
      intro p22 hp22
      refine t_lda (by assumption) ab_hop sb_hop B rfl ?_ rfl
      intro v23 hv23
      obtain rfl := hop_va hv23
      refine t_neqv (by kernel_rfl) (fun w => run_eq_hop e18 e22 w) rfl rfl ?_ rfl
      refine t_done' ?_
      refine x_seq ?_
      refine w_if rfl ?_ ?_
      · intro hne
        refine w_seq ?_
        refine w_region ?_
        refine t_assign rfl ?_ rfl
        refine t_done ?_
        refine x_seq ?_
        refine w_ret ?_
        refine x_block_ret ?_
        refine x_then_ret ?_
        refine x_then_ret ?_
        refine x_block_ret ?_
        refine x_then_ret ?_
        refine x_ret1 rfl rfl ?_
        exact ⟨ret_bool (decide_eq_false (eq_not he18 he22 hne)).symm, ext_trans X0 B⟩
      · intro hne
        refine w_skip ?_
        refine x_block_normal ?_
        refine x_seq ?_
        refine w_region ?_
        refine t_add rfl rfl (by omega) ?_ rfl
        refine t_move rfl ?_ rfl
        refine t_done ?_
        refine x_round (X := Nat) (k + 1) ?_ (by exact ⟨rfl, rfl, rfl, rfl, trivial⟩) (by (try dsimp only); omega)
        try dsimp only
        exact ⟨by omega, eq_step hab he18 he22 (Classical.not_not.1 hne), B, S⟩
    · intro hge
      refine w_exit ?_
      refine x_then_exit ?_
      refine x_then_exit ?_
      refine x_block_exit ?_
      refine x_seq ?_
      refine w_seq ?_
      refine w_region ?_
      refine t_assign rfl ?_ rfl
      refine t_done ?_
      refine x_seq ?_
      refine w_ret ?_
      refine x_ret1 rfl rfl ?_
      exact ⟨ret_bool (decide_eq_true (eq_end hab (by omega) (by omega))).symm, ext_trans X0 B⟩
theorem impl_eqPart (x y : Part) (v u : Value) (w : World) (h : VA partT w v x) (h2 : VA partT w u y) (hz : x.hops.length ≤ 4611686018427387904) (hz2 : y.hops.length ≤ 4611686018427387904) : Calls Tryz.prog 73 #[v, u] w fun e w' => e = .returned (.bool (decide (x = y))) ∧ Below w.heap.size w w' := by
  have X0 := Below.refl w.heap.size w
  refine enter Tryz.func73 rfl Tryz.ntmps73 rfl ?_
  refine w_seq ?_
  refine w_region ?_
  refine t_boxr (by assumption) rfl ?_ rfl rfl
  intro p2 w4 x5 hp2
  replace h := h.below x5
  replace h2 := h2.below x5
  have X0 := ext_trans X0 x5
  refine t_boxr (by assumption) rfl ?_ rfl rfl
  intro p3 w6 x7 hp3
  replace h := h.below x7
  replace h2 := h2.below x7
  replace hp2 := hp2.below x7
  have X0 := ext_trans X0 x7
  have S := Sep.nil w6
  have B := Below.refl w6.heap.size w6
  have Hb := Nat.le_refl w6.heap.size
  refine t_assign rfl ?_ rfl
  refine t_done ?_
  refine x_seq ?_
  refine w_seq ?_
  refine w_region ?_
  refine t_fld ln_part_0 (by assumption) fb_part_0 rfl ?_ rfl
  intro p5 hp5
  refine t_ldi (by assumption) ab_int B rfl ?_ rfl
  refine t_fld ln_part_0 (by assumption) fb_part_0 rfl ?_ rfl
  intro p7 hp7
  refine t_ldi (by assumption) ab_int B rfl ?_ rfl
  refine t_eql rfl rfl ?_ rfl
  refine t_move rfl ?_ rfl
  refine t_partp (t := 10) rfl ?_ ?_
  · intro hc1
    refine t_on rfl rfl ?_
    refine t_fld ln_part_1 (by assumption) fb_part_1 rfl ?_ rfl
    intro p11 hp11
    refine t_on rfl rfl ?_
    refine t_ldi (by assumption) ab_int B rfl ?_ rfl
    refine t_on rfl rfl ?_
    refine t_fld ln_part_1 (by assumption) fb_part_1 rfl ?_ rfl
    intro p13 hp13
    refine t_on rfl rfl ?_
    refine t_ldi (by assumption) ab_int B rfl ?_ rfl
    refine t_on rfl rfl ?_
    refine t_eql rfl rfl ?_ rfl
    refine t_pickt rfl rfl ?_ rfl
    refine t_move rfl ?_ rfl
    refine t_partp (t := 17) rfl ?_ ?_
    · intro hc2
      refine t_on rfl rfl ?_
      refine t_fld ln_part_2 (by assumption) fb_part_2 rfl ?_ rfl
      intro p18 hp18
      refine t_on rfl rfl ?_
      refine t_ldi (by assumption) ab_int B rfl ?_ rfl
      refine t_on rfl rfl ?_
      refine t_fld ln_part_2 (by assumption) fb_part_2 rfl ?_ rfl
      intro p20 hp20
      refine t_on rfl rfl ?_
      refine t_ldi (by assumption) ab_int B rfl ?_ rfl
      refine t_on rfl rfl ?_
      refine t_eql rfl rfl ?_ rfl
      refine t_pickt rfl rfl ?_ rfl
      refine t_move rfl ?_ rfl
      refine t_partp (t := 24) rfl ?_ ?_
      · intro hc3
        refine t_on rfl rfl ?_
        refine t_fld ln_part_3 (by assumption) fb_part_3 rfl ?_ rfl
        intro p25 hp25
        refine t_on rfl rfl ?_
        refine t_lds (by assumption) ab_s_hop B rfl ?_ rfl
        intro v26 hv26
        refine t_on rfl rfl ?_
        refine t_fld ln_part_3 (by assumption) fb_part_3 rfl ?_ rfl
        intro p27 hp27
        refine t_on rfl rfl ?_
        refine t_lds (by assumption) ab_s_hop B rfl ?_ rfl
        intro v28 hv28
        refine t_on rfl rfl ?_
        refine t_callx Tryz.call132 rfl (impl_eqHops x.hops y.hops _ _ _ (by first | assumption | exact SlR.below (by assumption) B) (by first | assumption | exact SlR.below (by assumption) B) (by omega) (by omega)) ?_ rfl rfl
        intro w8 x9
        have B := bx Hb B x9
        have S := S.below x9
        refine t_pickt rfl rfl ?_ rfl
        refine t_assign rfl ?_ rfl
        refine t_done ?_
        refine x_seq ?_
        refine w_ret ?_
        refine x_ret1 rfl rfl ?_
        first | exact ⟨ret_bool (decide_eq_false fun e => absurd (congrArg Part.kind e) (by assumption)).symm, ext_trans X0 B⟩ | exact ⟨ret_bool (decide_eq_false fun e => absurd (congrArg Part.ts e) (by assumption)).symm, ext_trans X0 B⟩ | exact ⟨ret_bool (decide_eq_false fun e => absurd (congrArg Part.beta e) (by assumption)).symm, ext_trans X0 B⟩ | exact ⟨ret_bool (decide_eq_decide.2 (part_eqh (by assumption) (by assumption) (by assumption))), ext_trans X0 B⟩
      · intro hc4
        refine t_off rfl rfl rfl ?_ rfl
        refine t_off rfl rfl rfl ?_ rfl
        refine t_off rfl rfl rfl ?_ rfl
        refine t_off rfl rfl rfl ?_ rfl
        refine t_off rfl rfl rfl ?_ rfl
        refine t_pickf rfl rfl ?_ rfl
        refine t_assign rfl ?_ rfl
        refine t_done ?_
        refine x_seq ?_
        refine w_ret ?_
        refine x_ret1 rfl rfl ?_
        first | exact ⟨ret_bool (decide_eq_false fun e => absurd (congrArg Part.kind e) (by assumption)).symm, ext_trans X0 B⟩ | exact ⟨ret_bool (decide_eq_false fun e => absurd (congrArg Part.ts e) (by assumption)).symm, ext_trans X0 B⟩ | exact ⟨ret_bool (decide_eq_false fun e => absurd (congrArg Part.beta e) (by assumption)).symm, ext_trans X0 B⟩ | exact ⟨ret_bool (decide_eq_decide.2 (part_eqh (by assumption) (by assumption) (by assumption))), ext_trans X0 B⟩
    · intro hc5
      refine t_off rfl rfl rfl ?_ rfl
      refine t_off rfl rfl rfl ?_ rfl
      refine t_off rfl rfl rfl ?_ rfl
      refine t_off rfl rfl rfl ?_ rfl
      refine t_off rfl rfl rfl ?_ rfl
      refine t_pickf rfl rfl ?_ rfl
      refine t_move rfl ?_ rfl
      refine t_off rfl rfl rfl ?_ rfl
      refine t_off rfl rfl rfl ?_ rfl
      refine t_off rfl rfl rfl ?_ rfl
      refine t_off rfl rfl rfl ?_ rfl
      refine t_off rfl rfl rfl ?_ rfl
      refine t_pickf rfl rfl ?_ rfl
      refine t_assign rfl ?_ rfl
      refine t_done ?_
      refine x_seq ?_
      refine w_ret ?_
      refine x_ret1 rfl rfl ?_
      first | exact ⟨ret_bool (decide_eq_false fun e => absurd (congrArg Part.kind e) (by assumption)).symm, ext_trans X0 B⟩ | exact ⟨ret_bool (decide_eq_false fun e => absurd (congrArg Part.ts e) (by assumption)).symm, ext_trans X0 B⟩ | exact ⟨ret_bool (decide_eq_false fun e => absurd (congrArg Part.beta e) (by assumption)).symm, ext_trans X0 B⟩ | exact ⟨ret_bool (decide_eq_decide.2 (part_eqh (by assumption) (by assumption) (by assumption))), ext_trans X0 B⟩
  · intro hc6
    refine t_off rfl rfl rfl ?_ rfl
    refine t_off rfl rfl rfl ?_ rfl
    refine t_off rfl rfl rfl ?_ rfl
    refine t_off rfl rfl rfl ?_ rfl
    refine t_off rfl rfl rfl ?_ rfl
    refine t_pickf rfl rfl ?_ rfl
    refine t_move rfl ?_ rfl
    refine t_off rfl rfl rfl ?_ rfl
    refine t_off rfl rfl rfl ?_ rfl
    refine t_off rfl rfl rfl ?_ rfl
    refine t_off rfl rfl rfl ?_ rfl
    refine t_off rfl rfl rfl ?_ rfl
    refine t_pickf rfl rfl ?_ rfl
    refine t_move rfl ?_ rfl
    refine t_off rfl rfl rfl ?_ rfl
    refine t_off rfl rfl rfl ?_ rfl
    refine t_off rfl rfl rfl ?_ rfl
    refine t_off rfl rfl rfl ?_ rfl
    refine t_off rfl rfl rfl ?_ rfl
    refine t_pickf rfl rfl ?_ rfl
    refine t_assign rfl ?_ rfl
    refine t_done ?_
    refine x_seq ?_
    refine w_ret ?_
    refine x_ret1 rfl rfl ?_
    first | exact ⟨ret_bool (decide_eq_false fun e => absurd (congrArg Part.kind e) (by assumption)).symm, ext_trans X0 B⟩ | exact ⟨ret_bool (decide_eq_false fun e => absurd (congrArg Part.ts e) (by assumption)).symm, ext_trans X0 B⟩ | exact ⟨ret_bool (decide_eq_false fun e => absurd (congrArg Part.beta e) (by assumption)).symm, ext_trans X0 B⟩ | exact ⟨ret_bool (decide_eq_decide.2 (part_eqh (by assumption) (by assumption) (by assumption))), ext_trans X0 B⟩
theorem impl_eqPath (a b : Path) (v u : Value) (w : World) (h : VA pathT w v a) (h2 : VA pathT w u b) (hz : sz_path a ≤ 1048576) (hz2 : sz_path b ≤ 1048576) : Calls Tryz.prog 20 #[v, u] w fun e w' => e = .returned (.bool (decide (a = b))) ∧ Below w.heap.size w w' := by
  have hl1 : List.length a ≤ sz_path a := Nat.le_add_right _ _
  have hl2 : List.length b ≤ sz_path b := Nat.le_add_right _ _
  have X0 := Below.refl w.heap.size w
  refine enter Tryz.func20 rfl Tryz.ntmps20 rfl ?_
  refine w_seq ?_
  refine w_region ?_
  refine t_boxr (by assumption) rfl ?_ rfl rfl
  intro p2 w10 x11 hp2
  replace h := h.below x11
  replace h2 := h2.below x11
  have X0 := ext_trans X0 x11
  refine t_boxr (by assumption) rfl ?_ rfl rfl
  intro p3 w12 x13 hp3
  replace h := h.below x13
  replace h2 := h2.below x13
  replace hp2 := hp2.below x13
  have X0 := ext_trans X0 x13
  have S := Sep.nil w12
  have B := Below.refl w12.heap.size w12
  have Hb := Nat.le_refl w12.heap.size
  refine t_assign rfl ?_ rfl
  refine t_done ?_
  refine x_seq ?_
  refine w_seq ?_
  refine w_seq ?_
  refine w_region ?_
  refine t_fld ln_path_0 (by assumption) fb_path_0 rfl ?_ rfl
  intro p6 hp6
  refine t_lds (by assumption) ab_s_part B rfl ?_ rfl
  intro v7 hv7
  refine t_len e_part (by assumption) rfl rfl ?_ rfl
  refine t_fld ln_path_0 (by assumption) fb_path_0 rfl ?_ rfl
  intro p9 hp9
  refine t_lds (by assumption) ab_s_part B rfl ?_ rfl
  intro v10 hv10
  refine t_len e_part (by assumption) rfl rfl ?_ rfl
  refine t_neq rfl rfl ?_ rfl
  refine t_done ?_
  refine x_seq ?_
  refine w_if rfl ?_ ?_
  · intro hl
    refine w_seq ?_
    refine w_region ?_
    refine t_assign rfl ?_ rfl
    refine t_done ?_
    refine x_seq ?_
    refine w_ret ?_
    refine x_then_ret ?_
    refine x_ret1 rfl rfl ?_
    exact ⟨ret_bool (decide_eq_false (fun e => hl (by rw [e]))).symm, ext_trans X0 B⟩
  · intro hl
    refine w_skip ?_
    refine x_seq ?_
    refine w_seq ?_
    refine w_seq ?_
    refine w_region ?_
    refine t_fld ln_path_0 (by assumption) fb_path_0 rfl ?_ rfl
    intro p13 hp13
    refine t_lds (by assumption) ab_s_part B rfl ?_ rfl
    intro v14 hv14
    refine t_len e_part (by assumption) rfl rfl ?_ rfl
    refine t_move rfl ?_ rfl
    refine t_done ?_
    refine x_seq ?_
    refine w_block ?_
    refine w_loop (X := Nat) (fun k wq => k ≤ List.length a ∧ List.take k a = List.take k b ∧ Below w12.heap.size w12 wq ∧ Sep w12.heap.size wq []) (fun k => [(16, I ((k : Int))), (2, p2), (3, p3), (15, I ((a.length : Int)))]) (fun k => List.length a - k) (0) ?_ ⟨rfl, rfl, rfl, rfl, trivial⟩ ?_
    · exact ⟨by omega, rfl, B, S⟩
    rintro k w14 hI
    try dsimp only at hI ⊢
    obtain ⟨hk, hab, B, S⟩ := hI
    refine w_seq ?_
    refine w_region ?_
    refine t_lss rfl rfl ?_ rfl
    refine t_done ?_
    refine x_seq ?_
    refine w_seq ?_
    refine w_if rfl ?_ ?_
    · intro hlt
      obtain ⟨ea, hea⟩ := getx (l := a) (k := k) (by omega)
      obtain ⟨eb, heb⟩ := getx (l := b) (k := k) (by omega)
      have hh1 := hops_le_p (List.mem_of_getElem? hea)
      have hh2 := hops_le_p (List.mem_of_getElem? heb)
      refine w_skip ?_
      refine x_seq ?_
      refine w_seq ?_
      refine w_block ?_
      refine w_seq ?_
      refine w_region ?_
      refine t_move rfl ?_ rfl
      refine t_assign rfl ?_ rfl
      refine t_done ?_
      refine x_seq ?_
      refine w_seq ?_
      refine w_draw (.st .take 0 (.st .take 1 (.st .take 2 (.st .take 3 (.st .take 4 (.st .take 5 (.st .take 6 (.st .take 7 (.st .take 8 (.st .take 9 (.st .run 10 (.st .take 11 .done)))))))))))) mixed (by kernel_rfl) ?_
      intro w15 x16
      have B := bx Hb B x16
      have S := S.below x16
      refine t_fld ln_path_0 (by assumption) fb_path_0 rfl ?_ rfl
      intro p19 hp19
      refine t_lds (by assumption) ab_s_part B rfl ?_ rfl
      intro v20 hv20
      refine t_move rfl ?_ rfl
      refine t_idx e_part (k := k) (by assumption) hea B rfl rfl (by first | rfl | omega) ?_ rfl
      intro p22 hp22
      refine t_lda (by assumption) ab_part sb_part B rfl ?_ rfl
      intro v23 hv23
      obtain ⟨v23_3, rfl, hv23_3⟩ := part_va hv23
      refine t_fld ln_path_0 (by assumption) fb_path_0 rfl ?_ rfl
      intro p24 hp24
      refine t_lds (by assumption) ab_s_part B rfl ?_ rfl
      intro v25 hv25
      refine t_move rfl ?_ rfl
      refine t_idx e_part (k := k) (by assumption) heb B rfl rfl (by first | rfl | omega) ?_ rfl
      intro p27 hp27
      refine t_lda (by assumption) ab_part sb_part B rfl ?_ rfl
      intro v28 hv28
      obtain ⟨v28_3, rfl, hv28_3⟩ := part_va hv28
      refine t_callx Tryz.call73 rfl (impl_eqPart ea eb _ _ _ (by first | assumption | exact VA.below (by assumption) B | exact part_mkv (by first | assumption | exact SlR.below (by assumption) B)) (by first | assumption | exact VA.below (by assumption) B | exact part_mkv (by first | assumption | exact SlR.below (by assumption) B)) (by omega) (by omega)) ?_ rfl rfl
      intro w17 x18
      have B := bx Hb B x18
      have S := S.below x18
      refine t_not rfl ?_ rfl
      refine t_done' ?_
      refine x_seq ?_
      refine w_if rfl ?_ ?_
      · intro hne
        refine w_seq ?_
        refine w_region ?_
        refine t_assign rfl ?_ rfl
        refine t_done ?_
        refine x_seq ?_
        refine w_ret ?_
        refine x_block_ret ?_
        refine x_then_ret ?_
        refine x_then_ret ?_
        refine x_block_ret ?_
        refine x_then_ret ?_
        refine x_ret1 rfl rfl ?_
        exact ⟨ret_bool (decide_eq_false (eq_not hea heb (by simpa using hne))).symm, ext_trans X0 B⟩
      · intro hne
        refine w_skip ?_
        refine x_block_normal ?_
        refine x_seq ?_
        refine w_region ?_
        refine t_add rfl rfl (by omega) ?_ rfl
        refine t_move rfl ?_ rfl
        refine t_done ?_
        refine x_round (X := Nat) (k + 1) ?_ (by exact ⟨rfl, rfl, rfl, rfl, trivial⟩) (by (try dsimp only); omega)
        try dsimp only
        exact ⟨by omega, eq_step hab hea heb (by simpa using hne), B, S⟩
    · intro hge
      refine w_exit ?_
      refine x_then_exit ?_
      refine x_then_exit ?_
      refine x_block_exit ?_
      refine x_seq ?_
      refine w_seq ?_
      refine w_region ?_
      refine t_assign rfl ?_ rfl
      refine t_done ?_
      refine x_seq ?_
      refine w_ret ?_
      refine x_ret1 rfl rfl ?_
      exact ⟨ret_bool (decide_eq_true (eq_end hab (by omega) (by omega))).symm, ext_trans X0 B⟩
end Go.Proofs.YtdaecknfahgddaaGreat
namespace Go.Proofs.YtdaecknfahgddaaGreat
open Go.RowKit
set_option linter.unusedVariables false
set_option maxRecDepth 20000
theorem lastIa_eq {y : Part} {x : Hop} (h : y.hops[y.hops.length - 1]? = some x) : lastIa y = x.ia := by unfold lastIa; rw [h]
theorem firstIa_eq {y : Part} {x : Hop} (h : y.hops[0]? = some x) : firstIa y = x.ia := by unfold firstIa; rw [h]
theorem all_at {α : Type} {f : α → Bool} {l : List α} {k j : Nat} {x : α} (ha : (l.take k).all f = true) (hj : j < k) (hx : l[j]? = some x) : f x = true := by
  rw [List.all_eq_true] at ha
  exact ha x (List.mem_of_getElem? (i := j) (by rw [List.getElem?_take_of_lt hj]; exact hx))
theorem impl_placeOf (k : Int) (w : World) : Calls Tryz.prog 63 #[I k] w fun e w' => e = .returned (I (place k)) ∧ w = w' := by
  have X0 := Below.refl w.heap.size w
  refine enter Tryz.func63 rfl Tryz.ntmps63 rfl ?_
  refine w_seq ?_
  refine w_region ?_
  have S := Sep.nil w
  have B := Below.refl w.heap.size w
  have Hb := Nat.le_refl w.heap.size
  refine t_assign rfl ?_ rfl
  refine t_done ?_
  refine x_seq ?_
  refine w_seq ?_
  refine w_seq ?_
  refine w_region ?_
  refine t_move rfl ?_ rfl
  refine t_done ?_
  refine x_seq ?_
  refine w_block ?_
  refine w_seq ?_
  refine w_region ?_
  refine t_eql rfl rfl ?_ rfl
  refine t_assign rfl ?_ rfl
  refine t_done ?_
  refine x_seq ?_
  refine w_if rfl ?_ ?_
  · intro h1
    refine w_seq ?_
    refine w_region ?_
    refine t_assign rfl ?_ rfl
    refine t_done ?_
    refine x_seq ?_
    refine w_ret ?_
    refine x_block_ret ?_
    refine x_then_ret ?_
    refine x_ret1 rfl rfl ?_
    exact ⟨ret_int (by simp [place, h1]), rfl⟩
  · intro h1
    refine w_seq ?_
    refine w_seq ?_
    refine w_region ?_
    refine t_eql rfl rfl ?_ rfl
    refine t_assign rfl ?_ rfl
    refine t_done ?_
    refine x_seq ?_
    refine w_if rfl ?_ ?_
    · intro h2
      refine w_skip ?_
      refine x_seq ?_
      refine w_if rfl ?_ (fun h => (by exact absurd h2 h))
      intro hc6
      refine w_seq ?_
      refine w_region ?_
      refine t_assign rfl ?_ rfl
      refine t_done ?_
      refine x_seq ?_
      refine w_ret ?_
      refine x_block_ret ?_
      refine x_then_ret ?_
      refine x_ret1 rfl rfl ?_
      exact ⟨ret_int (by simp [place, h2]), rfl⟩
    · intro h2
      refine w_region ?_
      refine t_eql rfl rfl ?_ rfl
      refine t_assign rfl ?_ rfl
      refine t_done ?_
      refine x_seq ?_
      refine w_if rfl ?_ ?_
      · intro h3
        refine w_seq ?_
        refine w_region ?_
        refine t_assign rfl ?_ rfl
        refine t_done ?_
        refine x_seq ?_
        refine w_ret ?_
        refine x_block_ret ?_
        refine x_then_ret ?_
        refine x_ret1 rfl rfl ?_
        exact ⟨ret_int (by simp [place, h3]), rfl⟩
      · intro h3
        refine w_skip ?_
        refine x_block_normal ?_
        refine x_seq ?_
        refine w_seq ?_
        refine w_region ?_
        refine t_assign rfl ?_ rfl
        refine t_done ?_
        refine x_seq ?_
        refine w_ret ?_
        refine x_ret1 rfl rfl ?_
        exact ⟨ret_int (by simp [place, h1, h2, h3]), rfl⟩
theorem spec_l22Rank (k : Int) (w : World) : Calls Tryz.prog 66 #[I k] w fun e w' => e = .returned (I (place k)) ∧ w = w' := by
  have X0 := Below.refl w.heap.size w
  refine enter Tryz.func66 rfl Tryz.ntmps66 rfl ?_
  refine w_seq ?_
  refine w_region ?_
  have S := Sep.nil w
  have B := Below.refl w.heap.size w
  have Hb := Nat.le_refl w.heap.size
  refine t_assign rfl ?_ rfl
  refine t_done ?_
  refine x_seq ?_
  refine w_seq ?_
  refine w_seq ?_
  refine w_region ?_
  refine t_move rfl ?_ rfl
  refine t_done ?_
  refine x_seq ?_
  refine w_block ?_
  refine w_seq ?_
  refine w_region ?_
  refine t_eql rfl rfl ?_ rfl
  refine t_assign rfl ?_ rfl
  refine t_done ?_
  refine x_seq ?_
  refine w_if rfl ?_ ?_
  · intro h1
    refine w_seq ?_
    refine w_region ?_
    refine t_assign rfl ?_ rfl
    refine t_done ?_
    refine x_seq ?_
    refine w_ret ?_
    refine x_block_ret ?_
    refine x_then_ret ?_
    refine x_ret1 rfl rfl ?_
    exact ⟨ret_int (by simp [place, h1]), rfl⟩
  · intro h1
    refine w_seq ?_
    refine w_seq ?_
    refine w_region ?_
    refine t_eql rfl rfl ?_ rfl
    refine t_assign rfl ?_ rfl
    refine t_done ?_
    refine x_seq ?_
    refine w_if rfl ?_ ?_
    · intro h2
      refine w_skip ?_
      refine x_seq ?_
      refine w_if rfl ?_ (fun h => (by exact absurd h2 h))
      intro hc6
      refine w_seq ?_
      refine w_region ?_
      refine t_assign rfl ?_ rfl
      refine t_done ?_
      refine x_seq ?_
      refine w_ret ?_
      refine x_block_ret ?_
      refine x_then_ret ?_
      refine x_ret1 rfl rfl ?_
      exact ⟨ret_int (by simp [place, h2]), rfl⟩
    · intro h2
      refine w_region ?_
      refine t_eql rfl rfl ?_ rfl
      refine t_assign rfl ?_ rfl
      refine t_done ?_
      refine x_seq ?_
      refine w_if rfl ?_ ?_
      · intro h3
        refine w_seq ?_
        refine w_region ?_
        refine t_assign rfl ?_ rfl
        refine t_done ?_
        refine x_seq ?_
        refine w_ret ?_
        refine x_block_ret ?_
        refine x_then_ret ?_
        refine x_ret1 rfl rfl ?_
        exact ⟨ret_int (by simp [place, h3]), rfl⟩
      · intro h3
        refine w_skip ?_
        refine x_block_normal ?_
        refine x_seq ?_
        refine w_seq ?_
        refine w_region ?_
        refine t_assign rfl ?_ rfl
        refine t_done ?_
        refine x_seq ?_
        refine w_ret ?_
        refine x_ret1 rfl rfl ?_
        exact ⟨ret_int (by simp [place, h1, h2, h3]), rfl⟩
theorem impl_WellFormedPath (t : Topo) (v : Value) (p : Path) (u : Value) (w : World) (h : VA topoT w v t) (hp : VA pathT w u p) (hz : sz_topo t ≤ 1048576) (hz' : sz_path p ≤ 1048576) : Calls Tryz.prog 12 #[v, u] w fun e w' => e = .returned (.bool (wellFormed t p)) ∧ Below w.heap.size w w' := by
  have hpl : List.length p ≤ sz_path p := by show List.length p ≤ List.length p + _; omega
  have X0 := Below.refl w.heap.size w
  refine enter Tryz.func12 rfl Tryz.ntmps12 rfl ?_
  refine w_seq ?_
  refine w_region ?_
  refine t_boxr (by assumption) rfl ?_ rfl rfl
  intro p2 w1 x2 hp2
  replace h := h.below x2
  replace hp := hp.below x2
  have X0 := ext_trans X0 x2
  refine t_boxr (by assumption) rfl ?_ rfl rfl
  intro p3 w3 x4 hp3
  replace h := h.below x4
  replace hp := hp.below x4
  replace hp2 := hp2.below x4
  have X0 := ext_trans X0 x4
  have S := Sep.nil w3
  have B := Below.refl w3.heap.size w3
  have Hb := Nat.le_refl w3.heap.size
  refine t_assign rfl ?_ rfl
  refine t_done ?_
  refine x_seq ?_
  refine w_seq ?_
  refine w_seq ?_
  refine w_region ?_
  refine t_fld ln_path_0 (by assumption) fb_path_0 rfl ?_ rfl
  intro p8 hp8
  refine t_lds (by assumption) ab_s_part B rfl ?_ rfl
  intro v9 hv9
  refine t_len e_part (by assumption) rfl rfl ?_ rfl
  refine t_calls Tryz.call61 rfl (impl_InRange _ _ _ _) ?_ rfl rfl
  refine t_notb rfl ?_ rfl
  refine t_done ?_
  refine x_seq ?_
  refine w_ifb rfl ?_ ?_
  · intro h1
    refine w_seq ?_
    refine w_region ?_
    refine t_assign rfl ?_ rfl
    refine t_done ?_
    refine x_seq ?_
    refine w_ret ?_
    refine x_then_ret ?_
    refine x_ret1 rfl rfl ?_
    exact ⟨ret_bool (by simp at h1; simp [wellFormed, h1]), ext_trans X0 B⟩
  intro h1
  have h1' : inR (List.length p) 1 3 = true := by simpa using h1
  refine w_skip ?_
  refine x_seq ?_
  refine w_seq ?_
  refine w_seq ?_
  refine w_region ?_
  refine t_fld ln_path_0 (by assumption) fb_path_0 rfl ?_ rfl
  intro p13 hp13
  refine t_lds (by assumption) ab_s_part B rfl ?_ rfl
  intro v14 hv14
  refine t_len e_part (by assumption) rfl rfl ?_ rfl
  refine t_move rfl ?_ rfl
  refine t_done ?_
  refine x_seq ?_
  refine w_block ?_
  refine w_loop (X := Nat) (fun k wq => k ≤ List.length p ∧ (p.take k).all (validPart t) = true ∧ (∀ j, j < k - 1 → joinOk p j = true) ∧ Below w3.heap.size w3 wq ∧ Sep w3.heap.size wq []) (fun k => [(16, I ((k : Int))), (2, p2), (3, p3), (14, v14), (15, I ((p.length : Int)))]) (fun k => List.length p - k) (0) ?_ ⟨rfl, rfl, rfl, rfl, rfl, trivial⟩ ?_
  · exact ⟨by omega, rfl, by omega, B, S⟩
  · rintro k w5 hI
    try dsimp only at hI ⊢
    obtain ⟨hk, ha, hb, B, S⟩ := hI
    refine w_seq ?_
    refine w_region ?_
    refine t_lss rfl rfl ?_ rfl
    refine t_done ?_
    refine x_seq ?_
    refine w_seq ?_
    refine w_if rfl ?_ ?_
    · intro hlt
      obtain ⟨e19, he19⟩ : ∃ e, p[k]? = some e := getx (by omega)
      have hhl := hops_sz he19
      refine w_skip ?_
      refine x_seq ?_
      refine w_seq ?_
      refine w_block ?_
      refine w_seq ?_
      refine w_region ?_
      refine t_move rfl ?_ rfl
      refine t_idx e_part (k := k) (by assumption) he19 B rfl rfl (by first | rfl | omega) ?_ rfl
      intro p19 hp19
      refine t_lda (by assumption) ab_part sb_part B rfl ?_ rfl
      intro v20 hv20
      obtain ⟨v20_3, rfl, hv20_3⟩ := part_va hv20
      refine t_alloc S z_part rfl ?_ rfl rfl
      intro g6 w6 x7 S
      have B := bx Hb B x7
      refine t_assign rfl ?_ rfl
      refine t_stn S sb_part rfl rfl rfl rfl (by intro zz hu; have hu : zz ∈ ([I e19.kind, I e19.ts, I e19.beta, v20_3] : List Value) := hu; simp only [List.mem_cons, List.not_mem_nil, or_false] at hu; rcases hu with rfl | rfl | rfl | rfl <;> first | rfl | exact (SlR.cells (by first | assumption | exact S.tail.sl | exact S.tail.tail.sl | exact S.tail.tail.tail.sl | exact S.tail.tail.tail.tail.sl | exact S.tail.tail.tail.tail.tail.sl | exact S.tail.tail.tail.tail.tail.tail.sl | exact S.tail.tail.tail.tail.tail.tail.tail.sl | exact S.tail.tail.tail.tail.tail.tail.tail.tail.sl | exact S.tail.tail.tail.tail.tail.tail.tail.tail.tail.sl | exact S.tail.tail.tail.tail.tail.tail.tail.tail.tail.tail.sl | exact S.tail.tail.tail.tail.tail.tail.tail.tail.tail.tail.tail.sl | exact S.tail.tail.tail.tail.tail.tail.tail.tail.tail.tail.tail.tail.sl | exact S.tail.tail.tail.tail.tail.tail.tail.tail.tail.tail.tail.tail.tail.sl)).2) ?_
      intro w8 b9 S
      have B := B.trans b9
      refine t_done ?_
      refine x_seq ?_
      refine w_seq ?_
      refine w_seq ?_
      refine w_region ?_
      refine t_lda (by assumption) ab_topo sb_topo B rfl ?_ rfl
      intro v21 hv21
      obtain ⟨v21_0, v21_1, rfl, hv21_0, hv21_1⟩ := topo_va hv21
      refine t_bxn S.box ab_part sb_part rfl rfl ?_ rfl
      refine t_callx Tryz.call62 rfl (impl_ValidPart _ _ _ _ _ (by first | assumption | exact VA.below (by assumption) B | exact topo_mkv (by first | assumption | exact SlR.below (by assumption) B) (by first | assumption | exact SlR.below (by assumption) B)) (by first | assumption | exact VA.below (by assumption) B | exact part_mkv (by first | assumption | exact SlR.below (by assumption) B)) (by omega) (by omega)) ?_ rfl rfl
      intro w10 x11
      have B := bx Hb B x11
      have S := S.below x11
      refine t_notb rfl ?_ rfl
      refine t_done ?_
      refine x_seq ?_
      refine w_ifb rfl ?_ ?_
      · intro h2
        refine w_seq ?_
        refine w_region ?_
        refine t_assign rfl ?_ rfl
        refine t_done ?_
        refine x_seq ?_
        refine w_ret ?_
        refine x_then_ret ?_
        refine x_block_ret ?_
        refine x_then_ret ?_
        refine x_then_ret ?_
        refine x_block_ret ?_
        refine x_then_ret ?_
        refine x_ret1 rfl rfl ?_
        exact ⟨ret_bool (by rw [wellFormed, allF_bad he19 (by simpa using h2)]; simp), ext_trans X0 B⟩
      intro h2
      have h2' : validPart t e19 = true := by simpa using h2
      have ha2 := allF_succ he19 ha h2'
      have hl2 := valid_len h2'
      refine w_skip ?_
      refine x_seq ?_
      refine w_seq ?_
      refine w_region ?_
      refine t_move rfl ?_ rfl
      refine t_gtr rfl rfl ?_ rfl
      refine t_done ?_
      refine x_seq ?_
      refine w_if rfl ?_ ?_
      · intro h3
        have hk3 : k - 1 + 1 = k := by omega
        have hlt3 : k - 1 < List.length p - 1 := by omega
        obtain ⟨e31, he31⟩ : ∃ e, p[k - 1]? = some e := getx (by omega)
        have hl3 := valid_len (all_at ha (by omega) he31)
        have hhl3 := hops_sz he31
        have hJ := joinOk_eq he31 (by rw [hk3]; exact he19)
        obtain ⟨e47, he47⟩ : ∃ e, e31.hops[e31.hops.length - 1]? = some e := getx (by omega)
        obtain ⟨e52, he52⟩ : ∃ e, e19.hops[0]? = some e := getx (by omega)
        rw [lastIa_eq he47, firstIa_eq he52] at hJ
        refine w_seq ?_
        refine w_region ?_
        refine t_fld ln_path_0 (by assumption) fb_path_0 rfl ?_ rfl
        intro p27 hp27
        refine t_lds (by assumption) ab_s_part B rfl ?_ rfl
        intro v28 hv28
        refine t_move rfl ?_ rfl
        refine t_sub rfl rfl (by omega) ?_ rfl
        refine t_idx e_part (k := (k - 1)) (by assumption) he31 B rfl rfl (by first | rfl | omega) ?_ rfl
        intro p31 hp31
        refine t_lda (by assumption) ab_part sb_part B rfl ?_ rfl
        intro v32 hv32
        obtain ⟨v32_3, rfl, hv32_3⟩ := part_va hv32
        refine t_alloc S z_part rfl ?_ rfl rfl
        intro g7 w12 x13 S
        have B := bx Hb B x13
        refine t_stn S sb_part rfl rfl rfl rfl (by intro zz hu; have hu : zz ∈ ([I e31.kind, I e31.ts, I e31.beta, v32_3] : List Value) := hu; simp only [List.mem_cons, List.not_mem_nil, or_false] at hu; rcases hu with rfl | rfl | rfl | rfl <;> first | rfl | exact (SlR.cells (by first | assumption | exact S.tail.sl | exact S.tail.tail.sl | exact S.tail.tail.tail.sl | exact S.tail.tail.tail.tail.sl | exact S.tail.tail.tail.tail.tail.sl | exact S.tail.tail.tail.tail.tail.tail.sl | exact S.tail.tail.tail.tail.tail.tail.tail.sl | exact S.tail.tail.tail.tail.tail.tail.tail.tail.sl | exact S.tail.tail.tail.tail.tail.tail.tail.tail.tail.sl | exact S.tail.tail.tail.tail.tail.tail.tail.tail.tail.tail.sl | exact S.tail.tail.tail.tail.tail.tail.tail.tail.tail.tail.tail.sl | exact S.tail.tail.tail.tail.tail.tail.tail.tail.tail.tail.tail.tail.sl | exact S.tail.tail.tail.tail.tail.tail.tail.tail.tail.tail.tail.tail.tail.sl)).2) ?_
        intro w14 b15 S
        have B := B.trans b15
        refine t_done ?_
        refine x_seq ?_
        refine w_seq ?_
        refine w_draw (.st .take 0 (.st .take 1 (.st .take 3 (.st .take 4 (.st .run 2 (.st .run 5 (.st .take 6 (.st .take 7 (.st .take 8 (.st .take 9 (.st .take 10 (.st .take 11 (.st .take 12 (.st .take 13 (.st .take 14 (.st .take 15 (.st .take 16 (.st .take 17 (.st .take 18 (.st .take 19 (.st .take 20 (.st .take 21 (.st .take 22 (.st .take 23 .done)))))))))))))))))))))))) mixed (by kernel_rfl) ?_
        intro w16 x17
        have B := bx Hb B x17
        have S := S.below x17
        refine t_fldx fb_part_0 rfl rfl ?_ rfl
        refine t_bx1 S.box ab_int rfl rfl ?_ rfl
        refine t_fldx fb_part_0 rfl rfl ?_ rfl
        refine t_bx1 S.tail.box ab_int rfl rfl ?_ rfl
        refine t_calls Tryz.call63 rfl (impl_placeOf _ _) ?_ rfl rfl
        refine t_calls Tryz.call63 rfl (impl_placeOf _ _) ?_ rfl rfl
        refine t_geq rfl rfl ?_ rfl
        refine t_move rfl ?_ rfl
        refine t_partp (t := 40) rfl ?_ ?_
        · intro h4
          refine t_off rfl rfl rfl ?_ rfl
          refine t_off rfl rfl rfl ?_ rfl
          refine t_off rfl rfl rfl ?_ rfl
          refine t_off rfl rfl rfl ?_ rfl
          refine t_off rfl rfl rfl ?_ rfl
          refine t_off rfl rfl rfl ?_ rfl
          refine t_off rfl rfl rfl ?_ rfl
          refine t_off rfl rfl rfl ?_ rfl
          refine t_off rfl rfl rfl ?_ rfl
          refine t_off rfl rfl rfl ?_ rfl
          refine t_off rfl rfl rfl ?_ rfl
          refine t_off rfl rfl rfl ?_ rfl
          refine t_off rfl rfl rfl ?_ rfl
          refine t_off rfl rfl rfl ?_ rfl
          refine t_off rfl rfl rfl ?_ rfl
          refine t_pickt rfl rfl ?_ rfl
          refine t_done' ?_
          refine x_seq ?_
          refine w_yes rfl ?_
          refine w_seq ?_
          refine w_region ?_
          refine t_assign rfl ?_ rfl
          refine t_done ?_
          refine x_seq ?_
          refine w_ret ?_
          refine x_block_ret ?_
          refine x_then_ret ?_
          refine x_then_ret ?_
          refine x_block_ret ?_
          refine x_then_ret ?_
          refine x_ret1 rfl rfl ?_
          exact ⟨ret_bool (by rw [wellFormed, all_no hlt3 (by rw [hJ, decide_eq_false (by omega)]; rfl)]; simp), ext_trans X0 B⟩
        intro h4
        refine t_on rfl rfl ?_
        refine t_fldx fb_part_3 rfl rfl ?_ rfl
        refine t_on rfl rfl ?_
        refine t_bx1 S.box ab_s_hop rfl rfl ?_ rfl
        refine t_on rfl rfl ?_
        refine t_fldx fb_part_3 rfl rfl ?_ rfl
        refine t_on rfl rfl ?_
        refine t_bx1 S.box ab_s_hop rfl rfl ?_ rfl
        refine t_on rfl rfl ?_
        refine t_len e_hop (by assumption) rfl rfl ?_ rfl
        refine t_on rfl rfl ?_
        refine t_sub rfl rfl (by omega) ?_ rfl
        refine t_on rfl rfl ?_
        refine t_idx e_hop (k := (e31.hops.length - 1)) (by assumption) he47 B rfl rfl (by first | rfl | omega) ?_ rfl
        intro p47 hp47
        refine t_on rfl rfl ?_
        refine t_fld ln_hop_0 (by assumption) fb_hop_0 rfl ?_ rfl
        intro p48 hp48
        refine t_on rfl rfl ?_
        refine t_ldi (by assumption) ab_int B rfl ?_ rfl
        refine t_on rfl rfl ?_
        refine t_fldx fb_part_3 rfl rfl ?_ rfl
        refine t_on rfl rfl ?_
        refine t_bx1 S.tail.box ab_s_hop rfl rfl ?_ rfl
        refine t_on rfl rfl ?_
        refine t_idx e_hop (k := 0) (by assumption) he52 B rfl rfl (by first | rfl | omega) ?_ rfl
        intro p52 hp52
        refine t_on rfl rfl ?_
        refine t_fld ln_hop_0 (by assumption) fb_hop_0 rfl ?_ rfl
        intro p53 hp53
        refine t_on rfl rfl ?_
        refine t_ldi (by assumption) ab_int B rfl ?_ rfl
        refine t_on rfl rfl ?_
        refine t_neq rfl rfl ?_ rfl
        refine t_pickf rfl rfl ?_ rfl
        refine t_done' ?_
        refine x_seq ?_
        refine w_if rfl ?_ ?_
        · intro h5
          refine w_seq ?_
          refine w_region ?_
          refine t_assign rfl ?_ rfl
          refine t_done ?_
          refine x_seq ?_
          refine w_ret ?_
          refine x_block_ret ?_
          refine x_then_ret ?_
          refine x_then_ret ?_
          refine x_block_ret ?_
          refine x_then_ret ?_
          refine x_ret1 rfl rfl ?_
          exact ⟨ret_bool (by rw [wellFormed, all_no hlt3 (by rw [hJ, decide_eq_false h5]; simp)]; simp), ext_trans X0 B⟩
        intro h5
        refine w_skip ?_
        refine x_block_normal ?_
        refine x_seq ?_
        refine w_region ?_
        refine t_add rfl rfl (by omega) ?_ rfl
        refine t_move rfl ?_ rfl
        refine t_done ?_
        have S := S.tail
        have S := S.tail
        refine x_round (X := Nat) (k + 1) ?_ (by exact ⟨rfl, rfl, rfl, rfl, rfl, trivial⟩) (by (try dsimp only); omega)
        try dsimp only
        refine ⟨by omega, ha2, fun j hj => ?_, B, S⟩
        refine upto_succ (k := k - 1) hb ?_ j (by omega)
        rw [hJ, decide_eq_true (by omega), decide_eq_true (by omega)]
        rfl
      · intro h3
        refine w_skip ?_
        refine x_block_normal ?_
        refine x_seq ?_
        refine w_region ?_
        refine t_add rfl rfl (by omega) ?_ rfl
        refine t_move rfl ?_ rfl
        refine t_done ?_
        have S := S.tail
        refine x_round (X := Nat) (k + 1) ?_ (by exact ⟨rfl, rfl, rfl, rfl, rfl, trivial⟩) (by (try dsimp only); omega)
        try dsimp only
        exact ⟨by omega, ha2, fun j hj => by omega, B, S⟩
    · intro hge
      refine w_exit ?_
      refine x_then_exit ?_
      refine x_then_exit ?_
      refine x_block_exit ?_
      refine x_seq ?_
      refine w_seq ?_
      refine w_region ?_
      refine t_assign rfl ?_ rfl
      refine t_done ?_
      refine x_seq ?_
      refine w_ret ?_
      refine x_ret1 rfl rfl ?_
      exact ⟨ret_bool (by rw [wellFormed, h1', allF_end (by omega) ha, all_ok fun j hj => hb j (by omega)]; rfl), ext_trans X0 B⟩
theorem spec_WellFormedPath (t : Topo) (v : Value) (p : Path) (u : Value) (w : World) (h : VA topoT w v t) (hp : VA pathT w u p) (hz : sz_topo t ≤ 1048576) (hz' : sz_path p ≤ 1048576) : Calls Tryz.prog 13 #[v, u] w fun e w' => e = .returned (.bool (wellFormed t p)) ∧ Below w.heap.size w w' := by
  have hpl : List.length p ≤ sz_path p := by show List.length p ≤ List.length p + _; omega
  have X0 := Below.refl w.heap.size w
  refine enter Tryz.func13 rfl Tryz.ntmps13 rfl ?_
  refine w_seq ?_
  refine w_region ?_
  refine t_boxr (by assumption) rfl ?_ rfl rfl
  intro p2 w18 x19 hp2
  replace h := h.below x19
  replace hp := hp.below x19
  have X0 := ext_trans X0 x19
  refine t_boxr (by assumption) rfl ?_ rfl rfl
  intro p3 w20 x21 hp3
  replace h := h.below x21
  replace hp := hp.below x21
  replace hp2 := hp2.below x21
  have X0 := ext_trans X0 x21
  have S := Sep.nil w20
  have B := Below.refl w20.heap.size w20
  have Hb := Nat.le_refl w20.heap.size
  refine t_assign rfl ?_ rfl
  refine t_done ?_
  refine x_seq ?_
  refine w_seq ?_
  refine w_seq ?_
  refine w_region ?_
  refine t_fld ln_path_0 (by assumption) fb_path_0 rfl ?_ rfl
  intro p7 hp7
  refine t_lds (by assumption) ab_s_part B rfl ?_ rfl
  intro v8 hv8
  refine t_len e_part (by assumption) rfl rfl ?_ rfl
  refine t_calls Tryz.call64 rfl (spec_l1In _ _ _ _) ?_ rfl rfl
  refine t_notb rfl ?_ rfl
  refine t_done ?_
  refine x_seq ?_
  refine w_ifb rfl ?_ ?_
  · intro h1
    refine w_seq ?_
    refine w_region ?_
    refine t_assign rfl ?_ rfl
    refine t_done ?_
    refine x_seq ?_
    refine w_ret ?_
    refine x_then_ret ?_
    refine x_ret1 rfl rfl ?_
    exact ⟨ret_bool (by simp at h1; simp [wellFormed, h1]), ext_trans X0 B⟩
  intro h1
  have h1' : inR (List.length p) 1 3 = true := by simpa using h1
  refine w_skip ?_
  refine x_seq ?_
  refine w_seq ?_
  refine w_seq ?_
  refine w_region ?_
  refine t_assign rfl ?_ rfl
  refine t_done ?_
  refine x_seq ?_
  refine w_block ?_
  refine w_loop (X := Nat) (fun k wq => k ≤ List.length p ∧ (p.take k).all (validPart t) = true ∧ (∀ j, j < k - 1 → joinOk p j = true) ∧ Below w20.heap.size w20 wq ∧ Sep w20.heap.size wq []) (fun k => [(5, I ((k : Int))), (2, p2), (3, p3)]) (fun k => List.length p - k) (0) ?_ ⟨rfl, rfl, rfl, trivial⟩ ?_
  · exact ⟨by omega, rfl, by omega, B, S⟩
  · rintro k w22 hI
    try dsimp only at hI ⊢
    obtain ⟨hk, ha, hb, B, S⟩ := hI
    refine w_seq ?_
    refine w_seq ?_
    refine w_region ?_
    refine t_move rfl ?_ rfl
    refine t_fld ln_path_0 (by assumption) fb_path_0 rfl ?_ rfl
    intro p13 hp13
    refine t_lds (by assumption) ab_s_part B rfl ?_ rfl
    intro v14 hv14
    refine t_len e_part (by assumption) rfl rfl ?_ rfl
    refine t_lss rfl rfl ?_ rfl
    refine t_done ?_
    refine x_seq ?_
    refine w_if rfl ?_ ?_
    · intro hlt
      obtain ⟨e23, he23⟩ : ∃ e, p[k]? = some e := getx (by omega)
      have hhl := hops_sz he23
      refine w_skip ?_
      refine x_seq ?_
      refine w_seq ?_
      refine w_block ?_
      refine w_seq ?_
      refine w_seq ?_
      refine w_draw (.st .take 0 (.st .take 1 (.st .take 2 (.st .take 3 (.st .take 4 (.st .take 5 (.st .run 6 (.st .take 7 .done)))))))) mixed (by kernel_rfl) ?_
      intro w23 x24
      have B := bx Hb B x24
      have S := S.below x24
      refine t_lda (by assumption) ab_topo sb_topo B rfl ?_ rfl
      intro v19 hv19
      obtain ⟨v19_0, v19_1, rfl, hv19_0, hv19_1⟩ := topo_va hv19
      refine t_fld ln_path_0 (by assumption) fb_path_0 rfl ?_ rfl
      intro p20 hp20
      refine t_lds (by assumption) ab_s_part B rfl ?_ rfl
      intro v21 hv21
      refine t_move rfl ?_ rfl
      refine t_idx e_part (k := k) (by assumption) he23 B rfl rfl (by first | rfl | omega) ?_ rfl
      intro p23 hp23
      refine t_lda (by assumption) ab_part sb_part B rfl ?_ rfl
      intro v24 hv24
      obtain ⟨v24_3, rfl, hv24_3⟩ := part_va hv24
      refine t_callx Tryz.call65 rfl (spec_ValidPart _ _ _ _ _ (by first | assumption | exact VA.below (by assumption) B | exact topo_mkv (by first | assumption | exact SlR.below (by assumption) B) (by first | assumption | exact SlR.below (by assumption) B)) (by first | assumption | exact VA.below (by assumption) B | exact part_mkv (by first | assumption | exact SlR.below (by assumption) B)) (by omega) (by omega)) ?_ rfl rfl
      intro w25 x26
      have B := bx Hb B x26
      have S := S.below x26
      refine t_notb rfl ?_ rfl
      refine t_done' ?_
      refine x_seq ?_
      refine w_ifb rfl ?_ ?_
      · intro h2
        refine w_seq ?_
        refine w_region ?_
        refine t_assign rfl ?_ rfl
        refine t_done ?_
        refine x_seq ?_
        refine w_ret ?_
        refine x_then_ret ?_
        refine x_block_ret ?_
        refine x_then_ret ?_
        refine x_then_ret ?_
        refine x_block_ret ?_
        refine x_then_ret ?_
        refine x_ret1 rfl rfl ?_
        exact ⟨ret_bool (by rw [wellFormed, allF_bad he23 (by simpa using h2)]; simp), ext_trans X0 B⟩
      intro h2
      have h2' : validPart t e23 = true := by simpa using h2
      have ha2 := allF_succ he23 ha h2'
      have hl2 := valid_len h2'
      refine w_skip ?_
      refine x_seq ?_
      refine w_seq ?_
      refine w_region ?_
      refine t_move rfl ?_ rfl
      refine t_gtr rfl rfl ?_ rfl
      refine t_done ?_
      refine x_seq ?_
      refine w_if rfl ?_ ?_
      · intro h3
        have hk3 : k - 1 + 1 = k := by omega
        have hlt3 : k - 1 < List.length p - 1 := by omega
        obtain ⟨e33, he33⟩ : ∃ e, p[k - 1]? = some e := getx (by omega)
        have hl3 := valid_len (all_at ha (by omega) he33)
        have hhl3 := hops_sz he33
        have hJ := joinOk_eq he33 (by rw [hk3]; exact he23)
        obtain ⟨e53, he53⟩ : ∃ e, e33.hops[e33.hops.length - 1]? = some e := getx (by omega)
        obtain ⟨e62, he62⟩ : ∃ e, e23.hops[0]? = some e := getx (by omega)
        rw [lastIa_eq he53, firstIa_eq he62] at hJ
        refine w_seq ?_
        refine w_region ?_
        refine t_fld ln_path_0 (by assumption) fb_path_0 rfl ?_ rfl
        intro p29 hp29
        refine t_lds (by assumption) ab_s_part B rfl ?_ rfl
        intro v30 hv30
        refine t_move rfl ?_ rfl
        refine t_sub rfl rfl (by omega) ?_ rfl
        refine t_idx e_part (k := (k - 1)) (by assumption) he33 B rfl rfl (by first | rfl | omega) ?_ rfl
        intro p33 hp33
        refine t_lda (by assumption) ab_part sb_part B rfl ?_ rfl
        intro v34 hv34
        obtain ⟨v34_3, rfl, hv34_3⟩ := part_va hv34
        refine t_alloc S z_part rfl ?_ rfl rfl
        intro g6 w27 x28 S
        have B := bx Hb B x28
        refine t_stn S sb_part rfl rfl rfl rfl (by intro zz hu; have hu : zz ∈ ([I e33.kind, I e33.ts, I e33.beta, v34_3] : List Value) := hu; simp only [List.mem_cons, List.not_mem_nil, or_false] at hu; rcases hu with rfl | rfl | rfl | rfl <;> first | rfl | exact (SlR.cells (by first | assumption | exact S.tail.sl | exact S.tail.tail.sl | exact S.tail.tail.tail.sl | exact S.tail.tail.tail.tail.sl | exact S.tail.tail.tail.tail.tail.sl | exact S.tail.tail.tail.tail.tail.tail.sl | exact S.tail.tail.tail.tail.tail.tail.tail.sl | exact S.tail.tail.tail.tail.tail.tail.tail.tail.sl | exact S.tail.tail.tail.tail.tail.tail.tail.tail.tail.sl | exact S.tail.tail.tail.tail.tail.tail.tail.tail.tail.tail.sl | exact S.tail.tail.tail.tail.tail.tail.tail.tail.tail.tail.tail.sl | exact S.tail.tail.tail.tail.tail.tail.tail.tail.tail.tail.tail.tail.sl | exact S.tail.tail.tail.tail.tail.tail.tail.tail.tail.tail.tail.tail.tail.sl)).2) ?_
        intro w29 b30 S
        have B := B.trans b30
        refine t_done ?_
        refine x_seq ?_
        refine w_seq ?_
        refine w_draw (.st .take 0 (.st .take 1 (.st .take 3 (.st .take 4 (.st .take 5 (.st .take 6 (.st .take 7 (.st .take 8 (.st .run 2 (.st .run 9 (.st .take 10 (.st .take 11 (.st .take 12 (.st .take 13 (.st .take 14 (.st .take 15 (.st .take 16 (.st .take 17 (.st .take 18 (.st .take 19 (.st .take 20 (.st .take 21 (.st .take 22 (.st .take 23 (.st .take 24 (.st .take 25 (.st .take 26 (.st .take 27 (.st .take 28 (.st .take 29 (.st .take 30 (.st .take 31 .done)))))))))))))))))))))))))))))))) mixed (by kernel_rfl) ?_
        intro w31 x32
        have B := bx Hb B x32
        have S := S.below x32
        refine t_fldx fb_part_0 rfl rfl ?_ rfl
        refine t_bx1 S.box ab_int rfl rfl ?_ rfl
        refine t_fld ln_path_0 (by assumption) fb_path_0 rfl ?_ rfl
        intro p38 hp38
        refine t_lds (by assumption) ab_s_part B rfl ?_ rfl
        intro v39 hv39
        refine t_move rfl ?_ rfl
        refine t_idx e_part (k := k) (by assumption) he23 B rfl rfl (by first | rfl | omega) ?_ rfl
        intro p41 hp41
        refine t_fld ln_part_0 (by assumption) fb_part_0 rfl ?_ rfl
        intro p42 hp42
        refine t_ldi (by assumption) ab_int B rfl ?_ rfl
        refine t_calls Tryz.call66 rfl (spec_l22Rank _ _) ?_ rfl rfl
        refine t_calls Tryz.call66 rfl (spec_l22Rank _ _) ?_ rfl rfl
        refine t_geq rfl rfl ?_ rfl
        refine t_move rfl ?_ rfl
        refine t_partp (t := 46) rfl ?_ ?_
        · intro h4
          refine t_off rfl rfl rfl ?_ rfl
          refine t_off rfl rfl rfl ?_ rfl
          refine t_off rfl rfl rfl ?_ rfl
          refine t_off rfl rfl rfl ?_ rfl
          refine t_off rfl rfl rfl ?_ rfl
          refine t_off rfl rfl rfl ?_ rfl
          refine t_off rfl rfl rfl ?_ rfl
          refine t_off rfl rfl rfl ?_ rfl
          refine t_off rfl rfl rfl ?_ rfl
          refine t_off rfl rfl rfl ?_ rfl
          refine t_off rfl rfl rfl ?_ rfl
          refine t_off rfl rfl rfl ?_ rfl
          refine t_off rfl rfl rfl ?_ rfl
          refine t_off rfl rfl rfl ?_ rfl
          refine t_off rfl rfl rfl ?_ rfl
          refine t_off rfl rfl rfl ?_ rfl
          refine t_off rfl rfl rfl ?_ rfl
          refine t_off rfl rfl rfl ?_ rfl
          refine t_off rfl rfl rfl ?_ rfl
          refine t_pickt rfl rfl ?_ rfl
          refine t_done' ?_
          refine x_seq ?_
          refine w_yes rfl ?_
          refine w_seq ?_
          refine w_region ?_
          refine t_assign rfl ?_ rfl
          refine t_done ?_
          refine x_seq ?_
          refine w_ret ?_
          refine x_block_ret ?_
          refine x_then_ret ?_
          refine x_then_ret ?_
          refine x_block_ret ?_
          refine x_then_ret ?_
          refine x_ret1 rfl rfl ?_
          exact ⟨ret_bool (by rw [wellFormed, all_no hlt3 (by rw [hJ, decide_eq_false (by omega)]; rfl)]; simp), ext_trans X0 B⟩
        intro h4
        refine t_on rfl rfl ?_
        refine t_fldx fb_part_3 rfl rfl ?_ rfl
        refine t_on rfl rfl ?_
        refine t_bx1 S.box ab_s_hop rfl rfl ?_ rfl
        refine t_on rfl rfl ?_
        refine t_fldx fb_part_3 rfl rfl ?_ rfl
        refine t_on rfl rfl ?_
        refine t_bx1 S.box ab_s_hop rfl rfl ?_ rfl
        refine t_on rfl rfl ?_
        refine t_len e_hop (by assumption) rfl rfl ?_ rfl
        refine t_on rfl rfl ?_
        refine t_sub rfl rfl (by omega) ?_ rfl
        refine t_on rfl rfl ?_
        refine t_idx e_hop (k := (e33.hops.length - 1)) (by assumption) he53 B rfl rfl (by first | rfl | omega) ?_ rfl
        intro p53 hp53
        refine t_on rfl rfl ?_
        refine t_fld ln_hop_0 (by assumption) fb_hop_0 rfl ?_ rfl
        intro p54 hp54
        refine t_on rfl rfl ?_
        refine t_ldi (by assumption) ab_int B rfl ?_ rfl
        refine t_on rfl rfl ?_
        refine t_fld ln_path_0 (by assumption) fb_path_0 rfl ?_ rfl
        intro p56 hp56
        refine t_on rfl rfl ?_
        refine t_lds (by assumption) ab_s_part B rfl ?_ rfl
        intro v57 hv57
        refine t_on rfl rfl ?_
        refine t_move rfl ?_ rfl
        refine t_on rfl rfl ?_
        refine t_idx e_part (k := k) (by assumption) he23 B rfl rfl (by first | rfl | omega) ?_ rfl
        intro p59 hp59
        refine t_on rfl rfl ?_
        refine t_fld ln_part_3 (by assumption) fb_part_3 rfl ?_ rfl
        intro p60 hp60
        refine t_on rfl rfl ?_
        refine t_lds (by assumption) ab_s_hop B rfl ?_ rfl
        intro v61 hv61
        refine t_on rfl rfl ?_
        refine t_idx e_hop (k := 0) (by assumption) he62 B rfl rfl (by first | rfl | omega) ?_ rfl
        intro p62 hp62
        refine t_on rfl rfl ?_
        refine t_fld ln_hop_0 (by assumption) fb_hop_0 rfl ?_ rfl
        intro p63 hp63
        refine t_on rfl rfl ?_
        refine t_ldi (by assumption) ab_int B rfl ?_ rfl
        refine t_on rfl rfl ?_
        refine t_neq rfl rfl ?_ rfl
        refine t_pickf rfl rfl ?_ rfl
        refine t_done' ?_
        refine x_seq ?_
        refine w_if rfl ?_ ?_
        · intro h5
          refine w_seq ?_
          refine w_region ?_
          refine t_assign rfl ?_ rfl
          refine t_done ?_
          refine x_seq ?_
          refine w_ret ?_
          refine x_block_ret ?_
          refine x_then_ret ?_
          refine x_then_ret ?_
          refine x_block_ret ?_
          refine x_then_ret ?_
          refine x_ret1 rfl rfl ?_
          exact ⟨ret_bool (by rw [wellFormed, all_no hlt3 (by rw [hJ, decide_eq_false h5]; simp)]; simp), ext_trans X0 B⟩
        intro h5
        refine w_skip ?_
        refine x_block_normal ?_
        refine x_seq ?_
        refine w_region ?_
        refine t_move rfl ?_ rfl
        refine t_add rfl rfl (by omega) ?_ rfl
        refine t_assign rfl ?_ rfl
        refine t_done ?_
        have S := S.tail
        refine x_round (X := Nat) (k + 1) ?_ (by exact ⟨rfl, rfl, rfl, trivial⟩) (by (try dsimp only); omega)
        try dsimp only
        refine ⟨by omega, ha2, fun j hj => ?_, B, S⟩
        refine upto_succ (k := k - 1) hb ?_ j (by omega)
        rw [hJ, decide_eq_true (by omega), decide_eq_true (by omega)]
        rfl
      · intro h3
        refine w_skip ?_
        refine x_block_normal ?_
        refine x_seq ?_
        refine w_region ?_
        refine t_move rfl ?_ rfl
        refine t_add rfl rfl (by omega) ?_ rfl
        refine t_assign rfl ?_ rfl
        refine t_done ?_
        refine x_round (X := Nat) (k + 1) ?_ (by exact ⟨rfl, rfl, rfl, trivial⟩) (by (try dsimp only); omega)
        try dsimp only
        exact ⟨by omega, ha2, fun j hj => by omega, B, S⟩
    · intro hge
      refine w_exit ?_
      refine x_then_exit ?_
      refine x_then_exit ?_
      refine x_block_exit ?_
      refine x_seq ?_
      refine w_seq ?_
      refine w_region ?_
      refine t_assign rfl ?_ rfl
      refine t_done ?_
      refine x_seq ?_
      refine w_ret ?_
      refine x_ret1 rfl rfl ?_
      exact ⟨ret_bool (by rw [wellFormed, h1', allF_end (by omega) ha, all_ok fun j hj => hb j (by omega)]; rfl), ext_trans X0 B⟩
theorem fresh_eq {l : List Int} {k : Nat} {x : Int} (h : l[k]? = some x) : fresh l k = !(l.take k).contains x := by unfold fresh; rw [h]
theorem impl_SimplePath (t : Topo) (v : Value) (p : Path) (u : Value) (w : World) (h : VA topoT w v t) (hp : VA pathT w u p) (hz : sz_topo t ≤ 1048576) (hz' : sz_path p ≤ 1048576) (hl : lenOk_path p) (hg : rng_path p) : Calls Tryz.prog 14 #[v, u] w fun e w' => e = .returned (.bool (simplePath t p)) ∧ Below w.heap.size w w' := by
  have hsl := pathSteps_len p
  have hnl := nums_len (pathSteps p)
  have X0 := Below.refl w.heap.size w
  refine enter Tryz.func14 rfl Tryz.ntmps14 rfl ?_
  refine w_seq ?_
  refine w_region ?_
  refine t_boxr (by assumption) rfl ?_ rfl rfl
  intro p2 w33 x34 hp2
  replace h := h.below x34
  replace hp := hp.below x34
  have X0 := ext_trans X0 x34
  refine t_boxr (by assumption) rfl ?_ rfl rfl
  intro p3 w35 x36 hp3
  replace h := h.below x36
  replace hp := hp.below x36
  replace hp2 := hp2.below x36
  have X0 := ext_trans X0 x36
  have S := Sep.nil w35
  have B := Below.refl w35.heap.size w35
  have Hb := Nat.le_refl w35.heap.size
  refine t_assign rfl ?_ rfl
  refine t_done ?_
  refine x_seq ?_
  refine w_seq ?_
  refine w_seq ?_
  refine w_region ?_
  refine t_lda (by assumption) ab_topo sb_topo B rfl ?_ rfl
  intro v8 hv8
  obtain ⟨v8_0, v8_1, rfl, hv8_0, hv8_1⟩ := topo_va hv8
  refine t_lda (by assumption) ab_path sb_path B rfl ?_ rfl
  intro v9 hv9
  obtain ⟨v9_0, rfl, hv9_0⟩ := path_va hv9
  refine t_callx Tryz.call12 rfl (impl_WellFormedPath _ _ _ _ _ (by first | assumption | exact VA.below (by assumption) B | exact topo_mkv (by first | assumption | exact SlR.below (by assumption) B) (by first | assumption | exact SlR.below (by assumption) B)) (by first | assumption | exact VA.below (by assumption) B | exact path_mkv (by first | assumption | exact SlR.below (by assumption) B)) (by omega) (by omega)) ?_ rfl rfl
  intro w37 x38
  have B := bx Hb B x38
  have S := S.below x38
  refine t_notb rfl ?_ rfl
  refine t_done ?_
  refine x_seq ?_
  refine w_ifb rfl ?_ ?_
  · intro h1
    refine w_seq ?_
    refine w_region ?_
    refine t_assign rfl ?_ rfl
    refine t_done ?_
    refine x_seq ?_
    refine w_ret ?_
    refine x_then_ret ?_
    refine x_ret1 rfl rfl ?_
    exact ⟨ret_bool (by simp at h1; simp [simplePath, h1]), ext_trans X0 B⟩
  intro h1
  have h1' : wellFormed t p = true := by simpa using h1
  refine w_skip ?_
  refine x_seq ?_
  refine w_seq ?_
  refine w_region ?_
  refine t_lda (by assumption) ab_path sb_path B rfl ?_ rfl
  intro v12 hv12
  obtain ⟨v12_0, rfl, hv12_0⟩ := path_va hv12
  refine t_call Tryz.call25 rfl (va1 (by first | assumption | exact VA.below (by assumption) B | exact path_mkv (by first | assumption | exact SlR.below (by assumption) B)) fun cs h => impl_InterfacesUsed _ cs _ h (by omega) (by assumption) (by assumption)) ?_ rfl rfl
  rintro e w39 ⟨v13, fpv13, rfl, hOv13, x40⟩
  refine ⟨_, rfl, x40, ?_⟩
  have S := S.add (o := slO _ _ _ _) x40 hOv13
  have B := bx Hb B x40
  refine t_assign rfl ?_ rfl
  refine t_done ?_
  refine x_seq ?_
  refine w_seq ?_
  refine w_seq ?_
  refine w_region ?_
  refine t_move rfl ?_ rfl
  refine t_len e_int (S.sl) rfl rfl ?_ rfl
  refine t_move rfl ?_ rfl
  refine t_done ?_
  refine x_seq ?_
  refine w_block ?_
  refine w_loop (X := Nat) (fun k wq => k ≤ (nums (pathSteps p)).length ∧ (∀ j, j < k → fresh (nums (pathSteps p)) j = true) ∧ Below w35.heap.size w35 wq ∧ Sep w35.heap.size wq [slO intT 3 v13 (nums (pathSteps p))]) (fun k => [(16, I ((k : Int))), (5, v13), (14, v13), (15, I (((nums (pathSteps p)).length : Int)))]) (fun k => (nums (pathSteps p)).length - k) (0) ?_ ⟨rfl, rfl, rfl, rfl, trivial⟩ ?_
  · exact ⟨by omega, by omega, B, S⟩
  · rintro k w41 hI
    try dsimp only at hI ⊢
    obtain ⟨hk, ha, B, S⟩ := hI
    have htl : ((nums (pathSteps p)).take k).length ≤ 16777216 := by rw [List.length_take]; omega
    refine w_seq ?_
    refine w_region ?_
    refine t_lss rfl rfl ?_ rfl
    refine t_done ?_
    refine x_seq ?_
    refine w_seq ?_
    refine w_if rfl ?_ ?_
    · intro hlt
      refine w_skip ?_
      refine x_seq ?_
      refine w_seq ?_
      refine w_block ?_
      refine w_seq ?_
      refine w_region ?_
      refine t_move rfl ?_ rfl
      obtain ⟨e19, he19⟩ : ∃ e, (nums (pathSteps p))[k]? = some e := getx (by omega)
      refine t_idx e_int (k := k) (S.sl) he19 (Below.refl _ _) rfl rfl (by first | rfl | omega) ?_ rfl
      intro p19 hp19
      refine t_ldi (by assumption) ab_int (Below.refl _ _) rfl ?_ rfl
      refine t_assign rfl ?_ rfl
      refine t_assign rfl ?_ rfl
      refine t_done ?_
      refine x_seq ?_
      refine w_seq ?_
      refine w_region ?_
      refine t_move rfl ?_ rfl
      refine t_move rfl ?_ rfl
      refine t_slt e_int (k := k) (S.sl) rfl rfl (by first | rfl | omega) (by omega) ?_ rfl
      intro v23 hv23
      refine t_move rfl ?_ rfl
      refine t_calls Tryz.call67 rfl (impl_hasInt _ _ _ _ (by first | assumption | exact SlR.below (by assumption) B) (by (try rw [List.length_take]); (try rw [List.length_map]); omega)) ?_ rfl rfl
      refine t_done ?_
      refine x_seq ?_
      have hF := fresh_eq he19
      refine w_ifb rfl ?_ ?_
      · intro h2
        refine w_seq ?_
        refine w_region ?_
        refine t_assign rfl ?_ rfl
        refine t_done ?_
        refine x_seq ?_
        refine w_ret ?_
        refine x_block_ret ?_
        refine x_then_ret ?_
        refine x_then_ret ?_
        refine x_block_ret ?_
        refine x_then_ret ?_
        refine x_ret1 rfl rfl ?_
        exact ⟨ret_bool (by rw [simplePath, all_no (k := k) (by omega) (by rw [hF, h2]; rfl)]; simp), ext_trans X0 B⟩
      · intro h2
        refine w_skip ?_
        refine x_block_normal ?_
        refine x_seq ?_
        refine w_region ?_
        refine t_add rfl rfl (by omega) ?_ rfl
        refine t_move rfl ?_ rfl
        refine t_done ?_
        refine x_round (X := Nat) (k + 1) ?_ (by exact ⟨rfl, rfl, rfl, rfl, trivial⟩) (by (try dsimp only); omega)
        try dsimp only
        exact ⟨by omega, upto_succ ha (by rw [hF, h2]; rfl), B, S⟩
    · intro hge
      refine w_exit ?_
      refine x_then_exit ?_
      refine x_then_exit ?_
      refine x_block_exit ?_
      refine x_seq ?_
      refine w_seq ?_
      refine w_region ?_
      refine t_assign rfl ?_ rfl
      refine t_done ?_
      refine x_seq ?_
      refine w_ret ?_
      refine x_ret1 rfl rfl ?_
      exact ⟨ret_bool (by rw [simplePath, h1', all_ok fun j hj => ha j (by omega)]; rfl), ext_trans X0 B⟩
theorem spec_SimplePath (t : Topo) (v : Value) (p : Path) (u : Value) (w : World) (h : VA topoT w v t) (hp : VA pathT w u p) (hz : sz_topo t ≤ 1048576) (hz' : sz_path p ≤ 1048576) (hl : lenOk_path p) (hg : rng_path p) : Calls Tryz.prog 15 #[v, u] w fun e w' => e = .returned (.bool (simplePath t p)) ∧ Below w.heap.size w w' := by
  have hsl := pathSteps_len p
  have hnl := nums_len (pathSteps p)
  have X0 := Below.refl w.heap.size w
  refine enter Tryz.func15 rfl Tryz.ntmps15 rfl ?_
  refine w_seq ?_
  refine w_region ?_
  refine t_boxr (by assumption) rfl ?_ rfl rfl
  intro p2 w42 x43 hp2
  replace h := h.below x43
  replace hp := hp.below x43
  have X0 := ext_trans X0 x43
  refine t_boxr (by assumption) rfl ?_ rfl rfl
  intro p3 w44 x45 hp3
  replace h := h.below x45
  replace hp := hp.below x45
  replace hp2 := hp2.below x45
  have X0 := ext_trans X0 x45
  have S := Sep.nil w44
  have B := Below.refl w44.heap.size w44
  have Hb := Nat.le_refl w44.heap.size
  refine t_assign rfl ?_ rfl
  refine t_done ?_
  refine x_seq ?_
  refine w_seq ?_
  refine w_seq ?_
  refine w_region ?_
  refine t_lda (by assumption) ab_topo sb_topo B rfl ?_ rfl
  intro v7 hv7
  obtain ⟨v7_0, v7_1, rfl, hv7_0, hv7_1⟩ := topo_va hv7
  refine t_lda (by assumption) ab_path sb_path B rfl ?_ rfl
  intro v8 hv8
  obtain ⟨v8_0, rfl, hv8_0⟩ := path_va hv8
  refine t_callx Tryz.call13 rfl (spec_WellFormedPath _ _ _ _ _ (by first | assumption | exact VA.below (by assumption) B | exact topo_mkv (by first | assumption | exact SlR.below (by assumption) B) (by first | assumption | exact SlR.below (by assumption) B)) (by first | assumption | exact VA.below (by assumption) B | exact path_mkv (by first | assumption | exact SlR.below (by assumption) B)) (by omega) (by omega)) ?_ rfl rfl
  intro w46 x47
  have B := bx Hb B x47
  have S := S.below x47
  refine t_notb rfl ?_ rfl
  refine t_done ?_
  refine x_seq ?_
  refine w_ifb rfl ?_ ?_
  · intro h1
    refine w_seq ?_
    refine w_region ?_
    refine t_assign rfl ?_ rfl
    refine t_done ?_
    refine x_seq ?_
    refine w_ret ?_
    refine x_then_ret ?_
    refine x_ret1 rfl rfl ?_
    exact ⟨ret_bool (by simp at h1; simp [simplePath, h1]), ext_trans X0 B⟩
  intro h1
  have h1' : wellFormed t p = true := by simpa using h1
  refine w_skip ?_
  refine x_seq ?_
  refine w_seq ?_
  refine w_region ?_
  refine t_lda (by assumption) ab_path sb_path B rfl ?_ rfl
  intro v11 hv11
  obtain ⟨v11_0, rfl, hv11_0⟩ := path_va hv11
  refine t_call Tryz.call26 rfl (va1 (by first | assumption | exact VA.below (by assumption) B | exact path_mkv (by first | assumption | exact SlR.below (by assumption) B)) fun cs h => spec_InterfacesUsed _ cs _ h (by omega) (by assumption) (by assumption)) ?_ rfl rfl
  rintro e w48 ⟨v12, fpv12, rfl, hOv12, x49⟩
  refine ⟨_, rfl, x49, ?_⟩
  have S := S.add (o := slO _ _ _ _) x49 hOv12
  have B := bx Hb B x49
  refine t_assign rfl ?_ rfl
  refine t_done ?_
  refine x_seq ?_
  refine w_seq ?_
  refine w_seq ?_
  refine w_region ?_
  refine t_assign rfl ?_ rfl
  refine t_done ?_
  refine x_seq ?_
  refine w_block ?_
  refine w_loop (X := Nat) (fun k wq => k ≤ (nums (pathSteps p)).length ∧ (∀ j, j < k → fresh (nums (pathSteps p)) j = true) ∧ Below w44.heap.size w44 wq ∧ Sep w44.heap.size wq [slO intT 3 v12 (nums (pathSteps p))]) (fun k => [(6, I ((k : Int))), (5, v12)]) (fun k => (nums (pathSteps p)).length - k) (0) ?_ ⟨rfl, rfl, trivial⟩ ?_
  · exact ⟨by omega, by omega, B, S⟩
  · rintro k w50 hI
    try dsimp only at hI ⊢
    obtain ⟨hk, ha, B, S⟩ := hI
    have htl : ((nums (pathSteps p)).take k).length ≤ 16777216 := by rw [List.length_take]; omega
    refine w_seq ?_
    refine w_seq ?_
    refine w_region ?_
    refine t_move rfl ?_ rfl
    refine t_move rfl ?_ rfl
    refine t_len e_int (S.sl) rfl rfl ?_ rfl
    refine t_lss rfl rfl ?_ rfl
    refine t_done ?_
    refine x_seq ?_
    refine w_if rfl ?_ ?_
    · intro hlt
      refine w_skip ?_
      refine x_seq ?_
      refine w_seq ?_
      refine w_block ?_
      refine w_seq ?_
      refine w_draw (.st .take 0 (.st .take 1 (.st .take 2 (.st .take 3 (.st .take 4 (.st .take 5 (.st .take 6 (.st .run 7 .done)))))))) mixed (by kernel_rfl) ?_
      intro w51 x52
      have B := bx Hb B x52
      have S := S.below x52
      refine t_move rfl ?_ rfl
      refine t_move rfl ?_ rfl
      refine t_slt e_int (k := k) (S.sl) rfl rfl (by first | rfl | omega) (by omega) ?_ rfl
      intro v21 hv21
      refine t_move rfl ?_ rfl
      refine t_move rfl ?_ rfl
      obtain ⟨e24, he24⟩ : ∃ e, (nums (pathSteps p))[k]? = some e := getx (by omega)
      refine t_idx e_int (k := k) (S.sl) he24 (Below.refl _ _) rfl rfl (by first | rfl | omega) ?_ rfl
      intro p24 hp24
      refine t_ldi (by assumption) ab_int (Below.refl _ _) rfl ?_ rfl
      refine t_calls Tryz.call68 rfl (spec_l9Has _ _ _ _ (by first | assumption | exact SlR.below (by assumption) B) (by (try rw [List.length_take]); (try rw [List.length_map]); omega)) ?_ rfl rfl
      refine t_done' ?_
      refine x_seq ?_
      have hF := fresh_eq he24
      refine w_ifb rfl ?_ ?_
      · intro h2
        refine w_seq ?_
        refine w_region ?_
        refine t_assign rfl ?_ rfl
        refine t_done ?_
        refine x_seq ?_
        refine w_ret ?_
        refine x_block_ret ?_
        refine x_then_ret ?_
        refine x_then_ret ?_
        refine x_block_ret ?_
        refine x_then_ret ?_
        refine x_ret1 rfl rfl ?_
        exact ⟨ret_bool (by rw [simplePath, all_no (k := k) (by omega) (by rw [hF, h2]; rfl)]; simp), ext_trans X0 B⟩
      · intro h2
        refine w_skip ?_
        refine x_block_normal ?_
        refine x_seq ?_
        refine w_region ?_
        refine t_move rfl ?_ rfl
        refine t_add rfl rfl (by omega) ?_ rfl
        refine t_assign rfl ?_ rfl
        refine t_done ?_
        refine x_round (X := Nat) (k + 1) ?_ (by exact ⟨rfl, rfl, trivial⟩) (by (try dsimp only); omega)
        try dsimp only
        exact ⟨by omega, upto_succ ha (by rw [hF, h2]; rfl), B, S⟩
    · intro hge
      refine w_exit ?_
      refine x_then_exit ?_
      refine x_then_exit ?_
      refine x_block_exit ?_
      refine x_seq ?_
      refine w_seq ?_
      refine w_region ?_
      refine t_assign rfl ?_ rfl
      refine t_done ?_
      refine x_seq ?_
      refine w_ret ?_
      refine x_ret1 rfl rfl ?_
      exact ⟨ret_bool (by rw [simplePath, h1', all_ok fun j hj => ha j (by omega)]; rfl), ext_trans X0 B⟩
end Go.Proofs.YtdaecknfahgddaaGreat
namespace Go.Proofs.YtdaecknfahgddaaGreat
open Go.RowKit
set_option linter.unusedVariables false
theorem impl_leastExpiry (hs : List Hop) (v : Value) (w : World) (h : SlR hopT w v hs) (hn : hs.length ≤ 1048576) :
    Calls Tryz.prog 71 #[v] w fun e w' => e = .returned (I (leastE hs)) ∧ Below w.heap.size w w' := by
  obtain ⟨A, c, rfl, _⟩ := h.form
  obtain ⟨n, H⟩ : ∃ n, Hid (n = hs.length) := ⟨_, rfl⟩
  rw [← H.out] at h hn ⊢
  go_enter Tryz.func71, Tryz.ntmps71
  go_wp2
  go_loopw [3, 8] (fun t i wr => ∃ k : Nat, k ≤ n ∧ i = I k ∧ t = I (leastE (hs.take k)) ∧ Below w.heap.size w wr) (fun _ i _ => n - (intOf i).toNat)
  case atStart => exact ⟨0, by omega, rfl, rfl, Below.refl _ _⟩
  case round =>
    rename_i wr
    obtain ⟨k, hk, rfl, rfl, hb⟩ := hrel
    by_cases hlt : k < n
    · obtain ⟨g, o, q, x, e, hg, hxk, c0, c1, c2, c3, c4⟩ := hop_at (h.below hb) (by rw [← H.out]; exact hlt)
      rw [← H.out] at e
      cases e
      by_cases hk0 : k = 0
      · have HS : Hid (leastE (hs.take (k + 1)) = x.exp) := by rw [take_succ hxk.out, hk0]; exact rfl
        obtain ⟨m, Hm⟩ : ∃ m, Hid (m = leastE (hs.take k)) := ⟨_, rfl⟩
        have hkb : ((k : Int) == 0) = true := by simp [hk0]
        clear hk0
        rw [← Hm.out]
        go_wp2
        go_roundw
        case rel => exact ⟨k + 1, by omega, by go_num, by rw [HS.out], ext_alloc hb _⟩
        case measure => simp [intOf]; omega
      · have hne : hs.take k ≠ [] := by
          have := H.out
          intro h0
          have h1 : (hs.take k).length = 0 := by rw [h0]; rfl
          rw [List.length_take] at h1
          omega
        have HS : Hid (leastE (hs.take (k + 1)) = if x.exp < leastE (hs.take k) then x.exp else leastE (hs.take k)) := by rw [take_succ hxk.out]; exact leastE_snoc x hne
        obtain ⟨m, Hm⟩ : ∃ m, Hid (m = leastE (hs.take k)) := ⟨_, rfl⟩
        rw [← Hm.out] at HS ⊢
        have hkb : ((k : Int) == 0) = false := by simp; omega
        by_cases hc : x.exp < m
        · rw [if_pos hc] at HS
          go_wp2
          go_roundw
          case rel => exact ⟨k + 1, by omega, by go_num, by rw [HS.out], ext_alloc hb _⟩
          case measure => simp [intOf]; omega
        · rw [if_neg hc] at HS
          go_wp2
          go_roundw
          case rel => exact ⟨k + 1, by omega, by go_num, by rw [HS.out], ext_alloc hb _⟩
          case measure => simp [intOf]; omega
    · go_wp2
      go_ret
      have : k = n := by omega
      subst this
      rw [H.out, List.take_length]
      exact ⟨rfl, hb⟩
end Go.Proofs.YtdaecknfahgddaaGreat
namespace Go.Proofs.YtdaecknfahgddaaGreat
open Go.RowKit
set_option linter.unusedVariables false
set_option maxRecDepth 20000
theorem least_le (now : Int) (hs : List Hop) : hs ≠ [] → (now ≤ leastE hs ↔ ∀ h ∈ hs, now ≤ h.exp) := by
  suffices H : ∀ n (hs : List Hop), hs.length = n → hs ≠ [] → (now ≤ leastE hs ↔ ∀ h ∈ hs, now ≤ h.exp) from H _ hs rfl
  intro n
  induction n with
  | zero => intro hs hl hne; exact absurd (List.eq_nil_of_length_eq_zero hl) hne
  | succ n ih =>
    intro hs hl hne
    rcases List.eq_nil_or_concat hs with h1 | ⟨t, x, h1⟩
    · exact absurd h1 hne
    · rw [List.concat_eq_append] at h1
      subst h1
      by_cases ht : t = []
      · subst ht
        simp [leastE_first]
      · have h2 := ih t (by simp at hl; exact hl) ht
        rw [leastE_snoc x ht]
        constructor
        · intro h h3 hm
          rcases List.mem_append.1 hm with hm | hm
          · refine h2.1 ?_ h3 hm
            split at h <;> omega
          · rw [List.mem_singleton] at hm
            subst hm
            split at h <;> omega
        · intro h
          have h4 := h2.2 fun y hy => h y (List.mem_append.2 (.inl hy))
          have h5 := h x (List.mem_append.2 (.inr (List.mem_singleton.2 rfl)))
          split <;> omega
theorem wf_parts {t : Topo} {p : Path} (h : simplePath t p = true) {k : Nat} {x : Part} (hx : p[k]? = some x) : 1 ≤ x.hops.length := by
  unfold simplePath wellFormed at h
  simp only [Bool.and_eq_true, List.all_eq_true] at h
  exact valid_len (h.1.1.2 x (List.mem_of_getElem? hx))
theorem partNow_no {now : Int} {x : Part} {k : Nat} {y : Hop} (hy : x.hops[k]? = some y) (h : y.exp < now) : partNow now x = false := by
  unfold partNow
  have hm := List.mem_of_getElem? hy
  have : ¬ now ≤ leastE x.hops := fun hc => by
    have := (least_le now x.hops (List.ne_nil_of_mem hm)).1 hc y hm
    omega
  rw [decide_eq_false this, Bool.and_false]
theorem partNow_yes {now : Int} {x : Part} (h0 : 1 ≤ x.hops.length) (hts : x.ts ≤ now) (h : ∀ y ∈ x.hops, now ≤ y.exp) : partNow now x = true := by
  unfold partNow
  rw [decide_eq_true hts, decide_eq_true ((least_le now x.hops (by intro h1; rw [h1] at h0; simp at h0)).2 h)]
  rfl
theorem spec_HopNow (x : Hop) (now : Int) (w : World) : Calls Tryz.prog 72 #[.agg #[I x.ia, I x.ing, I x.eg, I x.exp, I x.mac], I now] w fun e w' => e = .returned (.bool (decide (now ≤ x.exp))) ∧ Below w.heap.size w w' := by
  have hx := hop_mkv w x
  have X0 := Below.refl w.heap.size w
  refine enter Tryz.func72 rfl Tryz.ntmps72 rfl ?_
  refine w_seq ?_
  refine w_region ?_
  refine t_boxr (by assumption) rfl ?_ rfl rfl
  intro p2 w1 x2 hp2
  replace hx := hx.below x2
  have X0 := ext_trans X0 x2
  have S := Sep.nil w1
  have B := Below.refl w1.heap.size w1
  have Hb := Nat.le_refl w1.heap.size
  refine t_assign rfl ?_ rfl
  refine t_done ?_
  refine x_seq ?_
  refine w_seq ?_
  refine w_region ?_
  refine t_move rfl ?_ rfl
  refine t_fld ln_hop_3 (by assumption) fb_hop_3 rfl ?_ rfl
  intro p6 hp6
  refine t_ldi (by assumption) ab_int B rfl ?_ rfl
  refine t_leq rfl rfl ?_ rfl
  refine t_assign rfl ?_ rfl
  refine t_done ?_
  refine x_seq ?_
  refine w_ret ?_
  refine x_ret1 rfl rfl ?_
  exact ⟨rfl, ext_trans X0 B⟩
theorem impl_PathUsable (t : Topo) (v : Value) (p : Path) (u : Value) (now : Int) (w : World) (h : VA topoT w v t) (hp : VA pathT w u p) (hz : sz_topo t ≤ 1048576) (hz' : sz_path p ≤ 1048576) (hl : lenOk_path p) (hg : rng_path p) : Calls Tryz.prog 18 #[v, u, I now] w fun e w' => e = .returned (.bool (usable t p now)) ∧ Below w.heap.size w w' := by
  have hpl : List.length p ≤ sz_path p := by show List.length p ≤ List.length p + _; omega
  have X0 := Below.refl w.heap.size w
  refine enter Tryz.func18 rfl Tryz.ntmps18 rfl ?_
  refine w_seq ?_
  refine w_region ?_
  refine t_boxr (by assumption) rfl ?_ rfl rfl
  intro p3 w3 x4 hp3
  replace h := h.below x4
  replace hp := hp.below x4
  have X0 := ext_trans X0 x4
  refine t_boxr (by assumption) rfl ?_ rfl rfl
  intro p4 w5 x6 hp4
  replace h := h.below x6
  replace hp := hp.below x6
  replace hp3 := hp3.below x6
  have X0 := ext_trans X0 x6
  have S := Sep.nil w5
  have B := Below.refl w5.heap.size w5
  have Hb := Nat.le_refl w5.heap.size
  refine t_assign rfl ?_ rfl
  refine t_done ?_
  refine x_seq ?_
  refine w_seq ?_
  refine w_seq ?_
  refine w_region ?_
  refine t_lda (by assumption) ab_topo sb_topo B rfl ?_ rfl
  intro v9 hv9
  obtain ⟨v9_0, v9_1, rfl, hv9_0, hv9_1⟩ := topo_va hv9
  refine t_lda (by assumption) ab_path sb_path B rfl ?_ rfl
  intro v10 hv10
  obtain ⟨v10_0, rfl, hv10_0⟩ := path_va hv10
  refine t_callx Tryz.call14 rfl (impl_SimplePath _ _ _ _ _ (by first | assumption | exact VA.below (by assumption) B | exact topo_mkv (by first | assumption | exact SlR.below (by assumption) B) (by first | assumption | exact SlR.below (by assumption) B)) (by first | assumption | exact VA.below (by assumption) B | exact path_mkv (by first | assumption | exact SlR.below (by assumption) B)) (by omega) (by omega) (by assumption) (by assumption)) ?_ rfl rfl
  intro w7 x8
  have B := bx Hb B x8
  have S := S.below x8
  refine t_notb rfl ?_ rfl
  refine t_move rfl ?_ rfl
  refine t_part (t := 13) rfl ?_ ?_
  · intro h1
    refine t_off rfl rfl rfl ?_ rfl
    refine t_off rfl rfl rfl ?_ rfl
    refine t_off rfl rfl rfl ?_ rfl
    refine t_off rfl rfl rfl ?_ rfl
    refine t_pickt rfl rfl ?_ rfl
    refine t_done ?_
    refine x_seq ?_
    refine w_yes rfl ?_
    refine w_seq ?_
    refine w_region ?_
    refine t_assign rfl ?_ rfl
    refine t_done ?_
    refine x_seq ?_
    refine w_ret ?_
    refine x_then_ret ?_
    refine x_ret1 rfl rfl ?_
    exact ⟨ret_bool (by simp at h1; simp [usable, h1]), ext_trans X0 B⟩
  intro h1
  have h1' : simplePath t p = true := by simpa using h1
  refine t_on rfl rfl ?_
  refine t_lda (by assumption) ab_topo sb_topo B rfl ?_ rfl
  intro v14 hv14
  obtain ⟨v14_0, v14_1, rfl, hv14_0, hv14_1⟩ := topo_va hv14
  refine t_on rfl rfl ?_
  refine t_lda (by assumption) ab_path sb_path B rfl ?_ rfl
  intro v15 hv15
  obtain ⟨v15_0, rfl, hv15_0⟩ := path_va hv15
  refine t_on rfl rfl ?_
  refine t_callx Tryz.call16 rfl (impl_VerifyPath _ _ _ _ _ (by first | assumption | exact VA.below (by assumption) B | exact topo_mkv (by first | assumption | exact SlR.below (by assumption) B) (by first | assumption | exact SlR.below (by assumption) B)) (by first | assumption | exact VA.below (by assumption) B | exact path_mkv (by first | assumption | exact SlR.below (by assumption) B)) (by omega) (by omega)) ?_ rfl rfl
  intro w9 x10
  have B := bx Hb B x10
  have S := S.below x10
  refine t_on rfl rfl ?_
  refine t_notb rfl ?_ rfl
  refine t_pickf rfl rfl ?_ rfl
  refine t_done ?_
  refine x_seq ?_
  refine w_ifb rfl ?_ ?_
  · intro h2
    refine w_seq ?_
    refine w_region ?_
    refine t_assign rfl ?_ rfl
    refine t_done ?_
    refine x_seq ?_
    refine w_ret ?_
    refine x_then_ret ?_
    refine x_ret1 rfl rfl ?_
    exact ⟨ret_bool (by simp at h2; simp [usable, h2]), ext_trans X0 B⟩
  intro h2
  have h2' : verifyPath t p = true := by simpa using h2
  refine w_skip ?_
  refine x_seq ?_
  refine w_seq ?_
  refine w_seq ?_
  refine w_region ?_
  refine t_fld ln_path_0 (by assumption) fb_path_0 rfl ?_ rfl
  intro p19 hp19
  refine t_lds (by assumption) ab_s_part B rfl ?_ rfl
  intro v20 hv20
  refine t_len e_part (by assumption) rfl rfl ?_ rfl
  refine t_move rfl ?_ rfl
  refine t_done ?_
  refine x_seq ?_
  refine w_block ?_
  refine w_loop (X := Nat) (fun k wq => k ≤ List.length p ∧ (p.take k).all (partNow now) = true ∧ Below w5.heap.size w5 wq ∧ Sep w5.heap.size wq []) (fun k => [(22, I ((k : Int))), (2, I now), (20, v20), (21, I ((p.length : Int)))]) (fun k => List.length p - k) (0) ?_ ⟨rfl, rfl, rfl, rfl, trivial⟩ ?_
  · exact ⟨by omega, rfl, B, S⟩
  · rintro k w11 hI
    try dsimp only at hI ⊢
    obtain ⟨hk, ha, B, S⟩ := hI
    refine w_seq ?_
    refine w_region ?_
    refine t_lss rfl rfl ?_ rfl
    refine t_done ?_
    refine x_seq ?_
    refine w_seq ?_
    refine w_if rfl ?_ ?_
    · intro hlt
      obtain ⟨e24, he24⟩ : ∃ e, p[k]? = some e := getx (by omega)
      have hhl := hops_sz he24
      refine w_skip ?_
      refine x_seq ?_
      refine w_seq ?_
      refine w_block ?_
      refine w_seq ?_
      refine w_region ?_
      refine t_idx e_part (k := k) (by assumption) he24 B rfl rfl (by first | rfl | omega) ?_ rfl
      intro p24 hp24
      refine t_lda (by assumption) ab_part sb_part B rfl ?_ rfl
      intro v25 hv25
      obtain ⟨v25_3, rfl, hv25_3⟩ := part_va hv25
      refine t_alloc S z_part rfl ?_ rfl rfl
      intro g8 w12 x13 S
      have B := bx Hb B x13
      refine t_stn S sb_part rfl rfl rfl rfl (by intro zz hu; have hu : zz ∈ ([I e24.kind, I e24.ts, I e24.beta, v25_3] : List Value) := hu; simp only [List.mem_cons, List.not_mem_nil, or_false] at hu; rcases hu with rfl | rfl | rfl | rfl <;> first | rfl | exact (SlR.cells (by first | assumption | exact S.tail.sl | exact S.tail.tail.sl | exact S.tail.tail.tail.sl | exact S.tail.tail.tail.tail.sl | exact S.tail.tail.tail.tail.tail.sl | exact S.tail.tail.tail.tail.tail.tail.sl | exact S.tail.tail.tail.tail.tail.tail.tail.sl | exact S.tail.tail.tail.tail.tail.tail.tail.tail.sl | exact S.tail.tail.tail.tail.tail.tail.tail.tail.tail.sl | exact S.tail.tail.tail.tail.tail.tail.tail.tail.tail.tail.sl | exact S.tail.tail.tail.tail.tail.tail.tail.tail.tail.tail.tail.sl | exact S.tail.tail.tail.tail.tail.tail.tail.tail.tail.tail.tail.tail.sl | exact S.tail.tail.tail.tail.tail.tail.tail.tail.tail.tail.tail.tail.tail.sl)).2) ?_
      intro w14 b15 S
      have B := B.trans b15
      refine t_done ?_
      refine x_seq ?_
      refine w_seq ?_
      refine w_region ?_
      refine t_fldx fb_part_1 rfl rfl ?_ rfl
      refine t_bx1 S.box ab_int rfl rfl ?_ rfl
      refine t_move rfl ?_ rfl
      refine t_gtr rfl rfl ?_ rfl
      refine t_move rfl ?_ rfl
      refine t_partp (t := 30) rfl ?_ ?_
      · intro h3
        refine t_off rfl rfl rfl ?_ rfl
        refine t_off rfl rfl rfl ?_ rfl
        refine t_off rfl rfl rfl ?_ rfl
        refine t_off rfl rfl rfl ?_ rfl
        refine t_off rfl rfl rfl ?_ rfl
        refine t_pickt rfl rfl ?_ rfl
        refine t_done ?_
        refine x_seq ?_
        refine w_yes rfl ?_
        refine w_seq ?_
        refine w_region ?_
        refine t_assign rfl ?_ rfl
        refine t_done ?_
        refine x_seq ?_
        refine w_ret ?_
        refine x_block_ret ?_
        refine x_then_ret ?_
        refine x_then_ret ?_
        refine x_block_ret ?_
        refine x_then_ret ?_
        refine x_ret1 rfl rfl ?_
        exact ⟨ret_bool (by rw [usable, allF_bad he24 (by unfold partNow; rw [decide_eq_false (by omega)]; rfl)]; simp), ext_trans X0 B⟩
      intro h3
      refine t_on rfl rfl ?_
      refine t_move rfl ?_ rfl
      refine t_on rfl rfl ?_
      refine t_fldx fb_part_3 rfl rfl ?_ rfl
      refine t_on rfl rfl ?_
      refine t_bx1 S.box ab_s_hop rfl rfl ?_ rfl
      refine t_on rfl rfl ?_
      refine t_callx Tryz.call71 rfl (impl_leastExpiry _ _ _ (by first | assumption | exact SlR.below (by assumption) B) (by omega)) ?_ rfl rfl
      intro w16 x17
      have B := bx Hb B x17
      have S := S.below x17
      refine t_on rfl rfl ?_
      refine t_gtr rfl rfl ?_ rfl
      refine t_pickf rfl rfl ?_ rfl
      refine t_done ?_
      refine x_seq ?_
      refine w_if rfl ?_ ?_
      · intro h4
        refine w_seq ?_
        refine w_region ?_
        refine t_assign rfl ?_ rfl
        refine t_done ?_
        refine x_seq ?_
        refine w_ret ?_
        refine x_block_ret ?_
        refine x_then_ret ?_
        refine x_then_ret ?_
        refine x_block_ret ?_
        refine x_then_ret ?_
        refine x_ret1 rfl rfl ?_
        exact ⟨ret_bool (by rw [usable, allF_bad he24 (by unfold partNow; rw [decide_eq_false (p := now ≤ _) (by omega)]; simp)]; simp), ext_trans X0 B⟩
      intro h4
      refine w_skip ?_
      refine x_block_normal ?_
      refine x_seq ?_
      refine w_region ?_
      refine t_add rfl rfl (by omega) ?_ rfl
      refine t_move rfl ?_ rfl
      refine t_done ?_
      have S := S.tail
      refine x_round (X := Nat) (k + 1) ?_ (by exact ⟨rfl, rfl, rfl, rfl, trivial⟩) (by (try dsimp only); omega)
      try dsimp only
      exact ⟨by omega, allF_succ he24 ha (by unfold partNow; rw [decide_eq_true (by omega), decide_eq_true (by omega)]; rfl), B, S⟩
    · intro hge
      refine w_exit ?_
      refine x_then_exit ?_
      refine x_then_exit ?_
      refine x_block_exit ?_
      refine x_seq ?_
      refine w_seq ?_
      refine w_region ?_
      refine t_assign rfl ?_ rfl
      refine t_done ?_
      refine x_seq ?_
      refine w_ret ?_
      refine x_ret1 rfl rfl ?_
      exact ⟨ret_bool (by rw [usable, h1', h2', allF_end (by omega) ha]; rfl), ext_trans X0 B⟩
theorem spec_PathUsable (t : Topo) (v : Value) (p : Path) (u : Value) (now : Int) (w : World) (h : VA topoT w v t) (hp : VA pathT w u p) (hz : sz_topo t ≤ 1048576) (hz' : sz_path p ≤ 1048576) (hl : lenOk_path p) (hg : rng_path p) : Calls Tryz.prog 19 #[v, u, I now] w fun e w' => e = .returned (.bool (usable t p now)) ∧ Below w.heap.size w w' := by
  have hpl : List.length p ≤ sz_path p := by show List.length p ≤ List.length p + _; omega
  have X0 := Below.refl w.heap.size w
  refine enter Tryz.func19 rfl Tryz.ntmps19 rfl ?_
  refine w_seq ?_
  refine w_region ?_
  refine t_boxr (by assumption) rfl ?_ rfl rfl
  intro p3 w18 x19 hp3
  replace h := h.below x19
  replace hp := hp.below x19
  have X0 := ext_trans X0 x19
  refine t_boxr (by assumption) rfl ?_ rfl rfl
  intro p4 w20 x21 hp4
  replace h := h.below x21
  replace hp := hp.below x21
  replace hp3 := hp3.below x21
  have X0 := ext_trans X0 x21
  have S := Sep.nil w20
  have B := Below.refl w20.heap.size w20
  have Hb := Nat.le_refl w20.heap.size
  refine t_assign rfl ?_ rfl
  refine t_done ?_
  refine x_seq ?_
  refine w_seq ?_
  refine w_seq ?_
  refine w_region ?_
  refine t_lda (by assumption) ab_topo sb_topo B rfl ?_ rfl
  intro v9 hv9
  obtain ⟨v9_0, v9_1, rfl, hv9_0, hv9_1⟩ := topo_va hv9
  refine t_lda (by assumption) ab_path sb_path B rfl ?_ rfl
  intro v10 hv10
  obtain ⟨v10_0, rfl, hv10_0⟩ := path_va hv10
  refine t_callx Tryz.call15 rfl (spec_SimplePath _ _ _ _ _ (by first | assumption | exact VA.below (by assumption) B | exact topo_mkv (by first | assumption | exact SlR.below (by assumption) B) (by first | assumption | exact SlR.below (by assumption) B)) (by first | assumption | exact VA.below (by assumption) B | exact path_mkv (by first | assumption | exact SlR.below (by assumption) B)) (by omega) (by omega) (by assumption) (by assumption)) ?_ rfl rfl
  intro w22 x23
  have B := bx Hb B x23
  have S := S.below x23
  refine t_notb rfl ?_ rfl
  refine t_move rfl ?_ rfl
  refine t_part (t := 13) rfl ?_ ?_
  · intro h1
    refine t_off rfl rfl rfl ?_ rfl
    refine t_off rfl rfl rfl ?_ rfl
    refine t_off rfl rfl rfl ?_ rfl
    refine t_off rfl rfl rfl ?_ rfl
    refine t_pickt rfl rfl ?_ rfl
    refine t_done ?_
    refine x_seq ?_
    refine w_yes rfl ?_
    refine w_seq ?_
    refine w_region ?_
    refine t_assign rfl ?_ rfl
    refine t_done ?_
    refine x_seq ?_
    refine w_ret ?_
    refine x_then_ret ?_
    refine x_ret1 rfl rfl ?_
    exact ⟨ret_bool (by simp at h1; simp [usable, h1]), ext_trans X0 B⟩
  intro h1
  have h1' : simplePath t p = true := by simpa using h1
  refine t_on rfl rfl ?_
  refine t_lda (by assumption) ab_topo sb_topo B rfl ?_ rfl
  intro v14 hv14
  obtain ⟨v14_0, v14_1, rfl, hv14_0, hv14_1⟩ := topo_va hv14
  refine t_on rfl rfl ?_
  refine t_lda (by assumption) ab_path sb_path B rfl ?_ rfl
  intro v15 hv15
  obtain ⟨v15_0, rfl, hv15_0⟩ := path_va hv15
  refine t_on rfl rfl ?_
  refine t_callx Tryz.call17 rfl (spec_VerifyPath _ _ _ _ _ (by first | assumption | exact VA.below (by assumption) B | exact topo_mkv (by first | assumption | exact SlR.below (by assumption) B) (by first | assumption | exact SlR.below (by assumption) B)) (by first | assumption | exact VA.below (by assumption) B | exact path_mkv (by first | assumption | exact SlR.below (by assumption) B)) (by omega) (by omega)) ?_ rfl rfl
  intro w24 x25
  have B := bx Hb B x25
  have S := S.below x25
  refine t_on rfl rfl ?_
  refine t_notb rfl ?_ rfl
  refine t_pickf rfl rfl ?_ rfl
  refine t_done ?_
  refine x_seq ?_
  refine w_ifb rfl ?_ ?_
  · intro h2
    refine w_seq ?_
    refine w_region ?_
    refine t_assign rfl ?_ rfl
    refine t_done ?_
    refine x_seq ?_
    refine w_ret ?_
    refine x_then_ret ?_
    refine x_ret1 rfl rfl ?_
    exact ⟨ret_bool (by simp at h2; simp [usable, h2]), ext_trans X0 B⟩
  intro h2
  have h2' : verifyPath t p = true := by simpa using h2
  refine w_skip ?_
  refine x_seq ?_
  refine w_seq ?_
  refine w_seq ?_
  refine w_region ?_
  refine t_assign rfl ?_ rfl
  refine t_done ?_
  refine x_seq ?_
  refine w_block ?_
  refine w_loop (X := Nat) (fun k wq => k ≤ List.length p ∧ (p.take k).all (partNow now) = true ∧ Below w20.heap.size w20 wq ∧ Sep w20.heap.size wq []) (fun k => [(7, I ((k : Int))), (2, I now), (4, p4)]) (fun k => List.length p - k) (0) ?_ ⟨rfl, rfl, rfl, trivial⟩ ?_
  · exact ⟨by omega, rfl, B, S⟩
  · rintro k w26 hI
    try dsimp only at hI ⊢
    obtain ⟨hk, ha, B, S⟩ := hI
    refine w_seq ?_
    refine w_seq ?_
    refine w_region ?_
    refine t_move rfl ?_ rfl
    refine t_fld ln_path_0 (by assumption) fb_path_0 rfl ?_ rfl
    intro p20 hp20
    refine t_lds (by assumption) ab_s_part B rfl ?_ rfl
    intro v21 hv21
    refine t_len e_part (by assumption) rfl rfl ?_ rfl
    refine t_lss rfl rfl ?_ rfl
    refine t_done ?_
    refine x_seq ?_
    refine w_if rfl ?_ ?_
    · intro hlt
      obtain ⟨x, hx⟩ : ∃ e, p[k]? = some e := getx (by omega)
      have hhl := hops_sz hx
      have hl1 := wf_parts h1' hx
      refine w_skip ?_
      refine x_seq ?_
      refine w_seq ?_
      refine w_block ?_
      refine w_seq ?_
      refine w_seq ?_
      refine w_region ?_
      refine t_fld ln_path_0 (by assumption) fb_path_0 rfl ?_ rfl
      intro p26 hp26
      refine t_lds (by assumption) ab_s_part B rfl ?_ rfl
      intro v27 hv27
      refine t_move rfl ?_ rfl
      refine t_idx e_part (k := k) (by assumption) hx B rfl rfl (by first | rfl | omega) ?_ rfl
      intro p29 hp29
      refine t_fld ln_part_1 (by assumption) fb_part_1 rfl ?_ rfl
      intro p30 hp30
      refine t_ldi (by assumption) ab_int B rfl ?_ rfl
      refine t_move rfl ?_ rfl
      refine t_gtr rfl rfl ?_ rfl
      refine t_done ?_
      refine x_seq ?_
      refine w_if rfl ?_ ?_
      · intro h3
        refine w_seq ?_
        refine w_region ?_
        refine t_assign rfl ?_ rfl
        refine t_done ?_
        refine x_seq ?_
        refine w_ret ?_
        refine x_then_ret ?_
        refine x_block_ret ?_
        refine x_then_ret ?_
        refine x_then_ret ?_
        refine x_block_ret ?_
        refine x_then_ret ?_
        refine x_ret1 rfl rfl ?_
        exact ⟨ret_bool (by rw [usable, allF_bad hx (by unfold partNow; rw [decide_eq_false (by omega)]; rfl)]; simp), ext_trans X0 B⟩
      intro h3
      refine w_skip ?_
      refine x_seq ?_
      refine w_seq ?_
      refine w_region ?_
      refine t_assign rfl ?_ rfl
      refine t_done ?_
      refine x_seq ?_
      refine w_block ?_
      refine w_loop (X := Nat) (fun j wq => j ≤ x.hops.length ∧ (∀ y ∈ x.hops.take j, now ≤ y.exp) ∧ Below w20.heap.size w20 wq ∧ Sep w20.heap.size wq []) (fun j => [(8, I ((j : Int))), (7, I ((k : Int))), (2, I now), (4, p4)]) (fun j => x.hops.length - j) (0) ?_ ⟨rfl, rfl, rfl, rfl, trivial⟩ ?_
      · exact ⟨by omega, (fun y hy => by cases hy), B, S⟩
      · rintro j w27 hI
        try dsimp only at hI ⊢
        obtain ⟨hj, hy, B, S⟩ := hI
        refine w_seq ?_
        refine w_seq ?_
        refine w_region ?_
        refine t_move rfl ?_ rfl
        refine t_fld ln_path_0 (by assumption) fb_path_0 rfl ?_ rfl
        intro p35 hp35
        refine t_lds (by assumption) ab_s_part B rfl ?_ rfl
        intro v36 hv36
        refine t_move rfl ?_ rfl
        refine t_idx e_part (k := k) (by assumption) hx B rfl rfl (by first | rfl | omega) ?_ rfl
        intro p38 hp38
        refine t_fld ln_part_3 (by assumption) fb_part_3 rfl ?_ rfl
        intro p39 hp39
        refine t_lds (by assumption) ab_s_hop B rfl ?_ rfl
        intro v40 hv40
        refine t_len e_hop (by assumption) rfl rfl ?_ rfl
        refine t_lss rfl rfl ?_ rfl
        refine t_done ?_
        refine x_seq ?_
        refine w_if rfl ?_ ?_
        · intro hlt2
          obtain ⟨y, hyy⟩ : ∃ e, x.hops[j]? = some e := getx (by omega)
          refine w_skip ?_
          refine x_seq ?_
          refine w_seq ?_
          refine w_block ?_
          refine w_seq ?_
          refine w_region ?_
          refine t_fld ln_path_0 (by assumption) fb_path_0 rfl ?_ rfl
          intro p45 hp45
          refine t_lds (by assumption) ab_s_part B rfl ?_ rfl
          intro v46 hv46
          refine t_move rfl ?_ rfl
          refine t_idx e_part (k := k) (by assumption) hx B rfl rfl (by first | rfl | omega) ?_ rfl
          intro p48 hp48
          refine t_fld ln_part_3 (by assumption) fb_part_3 rfl ?_ rfl
          intro p49 hp49
          refine t_lds (by assumption) ab_s_hop B rfl ?_ rfl
          intro v50 hv50
          refine t_move rfl ?_ rfl
          refine t_idx e_hop (k := j) (by assumption) hyy B rfl rfl (by first | rfl | omega) ?_ rfl
          intro p52 hp52
          refine t_lda (by assumption) ab_hop sb_hop B rfl ?_ rfl
          intro v53 hv53
          obtain rfl := hop_va hv53
          refine t_move rfl ?_ rfl
          refine t_callx Tryz.call72 rfl (spec_HopNow _ _ _) ?_ rfl rfl
          intro w28 x29
          have B := bx Hb B x29
          have S := S.below x29
          refine t_not rfl ?_ rfl
          refine t_done ?_
          refine x_seq ?_
          refine w_if rfl ?_ ?_
          · intro h4
            refine w_seq ?_
            refine w_region ?_
            refine t_assign rfl ?_ rfl
            refine t_done ?_
            refine x_seq ?_
            refine w_ret ?_
            refine x_block_ret ?_
            refine x_then_ret ?_
            refine x_then_ret ?_
            refine x_block_ret ?_
            refine x_block_ret ?_
            refine x_then_ret ?_
            refine x_then_ret ?_
            refine x_block_ret ?_
            refine x_then_ret ?_
            refine x_ret1 rfl rfl ?_
            exact ⟨ret_bool (by rw [usable, allF_bad hx (partNow_no hyy (by omega))]; simp), ext_trans X0 B⟩
          intro h4
          refine w_skip ?_
          refine x_block_normal ?_
          refine x_seq ?_
          refine w_region ?_
          refine t_move rfl ?_ rfl
          refine t_add rfl rfl (by omega) ?_ rfl
          refine t_assign rfl ?_ rfl
          refine t_done ?_
          refine x_round (X := Nat) (j + 1) ?_ (by exact ⟨rfl, rfl, rfl, rfl, trivial⟩) (by (try dsimp only); omega)
          try dsimp only
          refine ⟨by omega, fun z hz => ?_, B, S⟩
          rw [take_succ hyy] at hz
          rcases List.mem_append.1 hz with hz | hz
          · exact hy z hz
          · rw [List.mem_singleton] at hz
            subst hz
            omega
        · intro hge2
          refine w_exit ?_
          refine x_then_exit ?_
          refine x_then_exit ?_
          refine x_block_exit ?_
          refine x_block_normal ?_
          refine x_seq ?_
          refine w_region ?_
          refine t_move rfl ?_ rfl
          refine t_add rfl rfl (by omega) ?_ rfl
          refine t_assign rfl ?_ rfl
          refine t_done ?_
          refine x_round (X := Nat) (k + 1) ?_ (by exact ⟨rfl, rfl, rfl, trivial⟩) (by (try dsimp only); omega)
          try dsimp only
          refine ⟨by omega, allF_succ hx ha (partNow_yes hl1 (by omega) fun y hyy => hy y ?_), B, S⟩
          rw [List.take_of_length_le (by omega)]
          exact hyy
    · intro hge
      refine w_exit ?_
      refine x_then_exit ?_
      refine x_then_exit ?_
      refine x_block_exit ?_
      refine x_seq ?_
      refine w_seq ?_
      refine w_region ?_
      refine t_assign rfl ?_ rfl
      refine t_done ?_
      refine x_seq ?_
      refine w_ret ?_
      refine x_ret1 rfl rfl ?_
      exact ⟨ret_bool (by rw [usable, h1', h2', allF_end (by omega) ha]; rfl), ext_trans X0 B⟩
end Go.Proofs.YtdaecknfahgddaaGreat
namespace Go.Proofs.YtdaecknfahgddaaGreat
open Go.RowKit
set_option linter.unusedVariables false
set_option maxRecDepth 20000
theorem ret_str {a b : List UInt8} (h : a = b) : Ending.returned (Sv a) = .returned (Sv b) := by rw [h]
theorem tmod_bd (n : Int) : -9 ≤ n.tmod 10 ∧ n.tmod 10 ≤ 9 := by
  have h : (n.tmod 10).natAbs = n.natAbs % 10 := Int.natAbs_tmod n 10
  omega
theorem tdiv_bd {n : Int} (h : In64 n) : -9223372036854775808 ≤ n.tdiv 10 ∧ n.tdiv 10 ≤ 9223372036854775807 := by
  have := natAbs_quot n
  unfold In64 at h
  omega
theorem impl_FormatInt (n : Int) (w : World) (hg : In64 n) : Calls Tryz.prog 104 #[I n] w fun e w' => e = .returned (Sv (fmtI n)) ∧ Below w.heap.size w w' := by
  have hl := (fmtI_len hg).1
  have X0 := Below.refl w.heap.size w
  refine enter Tryz.func104 rfl Tryz.ntmps104 rfl ?_
  refine w_seq ?_
  refine w_region ?_
  have S := Sep.nil w
  have B := Below.refl w.heap.size w
  have Hb := Nat.le_refl w.heap.size
  refine t_assign rfl ?_ rfl
  refine t_done ?_
  refine x_seq ?_
  refine w_seq ?_
  refine w_region ?_
  refine t_assign rfl ?_ rfl
  refine t_done ?_
  refine x_seq ?_
  refine w_seq ?_
  refine w_region ?_
  refine t_move rfl ?_ rfl
  refine t_lss rfl rfl ?_ rfl
  refine t_assign rfl ?_ rfl
  refine t_done ?_
  refine x_seq ?_
  refine w_seq ?_
  refine w_block ?_
  refine w_loop (X := Int × List UInt8 × Value) (fun x wq => (fun x acc u => In64 x ∧ digs x.natAbs ++ acc = digs n.natAbs ∧ Below w.heap.size w wq ∧ Sep w.heap.size wq [slO byteT 5 u acc]) x.1 x.2.1 x.2.2) (fun x => (fun x acc u => [(0, I x), (3, u), (2, Sv []), (4, .bool (decide (n < 0)))]) x.1 x.2.1 x.2.2) (fun x => (fun x acc u => x.natAbs) x.1 x.2.1 x.2.2) (n, [], .slice none 0 0) ?_ ⟨rfl, rfl, rfl, rfl, trivial⟩ ?_
  · exact ⟨hg, List.append_nil _, B, S.addNil⟩
  · rintro ⟨x, acc, u⟩ w1 hI
    try dsimp only at hI ⊢
    obtain ⟨hx, hd, B, S⟩ := hI
    have hx' := hx
    unfold In64 at hx'
    have h1 := tmod_bd x
    have h2 := tdiv_bd hx
    have h3 := digit x
    have h4 := natAbs_quot x
    have hal : acc.length ≤ 20 := by
      have := congrArg List.length hd
      rw [List.length_append] at this
      omega
    refine w_block ?_
    refine w_seq ?_
    refine w_region ?_
    refine t_move rfl ?_ rfl
    refine t_remt rfl rfl (by omega) ?_ rfl
    refine t_assign rfl ?_ rfl
    refine t_done ?_
    refine x_seq ?_
    refine w_seq ?_
    refine w_seq ?_
    refine w_region ?_
    refine t_move rfl ?_ rfl
    refine t_lss rfl rfl ?_ rfl
    refine t_done ?_
    refine x_seq ?_
    have hbt : ∀ d : Int, d = ((x.natAbs % 10 : Nat) : Int) → digs x.natAbs ++ acc = if x.natAbs < 10 then [bt (48 + d)] ++ acc else digs (x.natAbs / 10) ++ ([bt (48 + d)] ++ acc) := fun d hdd => by
      subst hdd
      by_cases hs : x.natAbs < 10
      · rw [digs_small hs, if_pos hs, show x.natAbs % 10 = x.natAbs by omega]
      · rw [digs_big hs, if_neg hs, List.append_assoc]
    refine w_if rfl ?_ ?_
    · intro hneg
      have hb := hbt (-((x).tmod 10)) (by rw [h3, if_pos hneg])
      rw [hd] at hb
      refine w_region ?_
      refine t_move rfl ?_ rfl
      refine t_neg rfl (by omega) ?_ rfl
      refine t_assign rfl ?_ rfl
      refine t_done ?_
      refine x_seq ?_
      refine w_seq ?_
      refine w_region ?_
      refine t_move rfl ?_ rfl
      refine t_add rfl rfl (by omega) ?_ rfl
      refine t_conv Tryz.underlying3 Tryz.underlying5 rfl ?_ rfl
      refine t_lit (T := byteT) (l := [bt (48 + (-((x).tmod 10)))]) (css := [[.int .u8 (IntKind.u8.wrap (48 + (-((x).tmod 10))))]]) byte_flat S (fun w => bs_byte1 _ w) rfl rfl rfl rfl (by simp [maxLen]) (litR_one fun _ => byte_lit _) ?_ rfl rfl
      intro u17 w2 x3 S
      have B := bx Hb B x3
      refine t_move rfl ?_ rfl
      have hR := S.tail.sl
      refine t_cat byte_flat e_byte S hR rfl rfl rfl (by first | omega | (simp [-List.length_flatMap]; omega)) (by (simp [maxLen, -List.length_flatMap]; try omega)) ?_ rfl
      intro v19 w4 x5 S
      have B := B.trans x5
      clear hR
      refine t_assign rfl ?_ rfl
      refine t_done ?_
      refine x_seq ?_
      refine w_seq ?_
      refine w_region ?_
      refine t_move rfl ?_ rfl
      refine t_quot rfl rfl (by decide) (by omega) ?_ rfl
      refine t_assign rfl ?_ rfl
      refine t_done ?_
      refine x_seq ?_
      refine w_seq ?_
      refine w_region ?_
      refine t_move rfl ?_ rfl
      refine t_eql rfl rfl ?_ rfl
      refine t_done ?_
      refine x_seq ?_
      refine w_if rfl ?_ ?_
      · intro hz
        rw [if_pos (by omega)] at hb
        refine w_exit ?_
        refine x_block_other rfl ?_
        refine x_then_exit ?_
        refine x_block_exit ?_
        refine x_seq ?_
        refine w_seq ?_
        refine w_seq ?_
        refine w_region ?_
        refine t_move rfl ?_ rfl
        refine t_done ?_
        refine x_seq ?_
        refine w_if rfl ?_ ?_
        · intro hn
          refine w_seq ?_
          refine w_region ?_
          refine t_move rfl ?_ rfl
          refine t_bts Tryz.underlying22 Tryz.underlying5 Tryz.underlying9 (S.sl) (Below.refl _ _) rfl ?_ rfl
          refine t_cats rfl rfl (by first | omega | (simp; done) | (simp; omega)) ?_ rfl
          refine t_assign rfl ?_ rfl
          refine t_done ?_
          refine x_seq ?_
          refine w_ret ?_
          refine x_then_ret ?_
          refine x_ret1 rfl rfl ?_
          exact ⟨ret_str (by unfold fmtI; rw [if_pos hn, hb]), ext_trans X0 B⟩
        · intro hn
          refine w_skip ?_
          refine x_seq ?_
          refine w_seq ?_
          refine w_region ?_
          refine t_move rfl ?_ rfl
          refine t_bts Tryz.underlying22 Tryz.underlying5 Tryz.underlying9 (S.sl) (Below.refl _ _) rfl ?_ rfl
          refine t_assign rfl ?_ rfl
          refine t_done ?_
          refine x_seq ?_
          refine w_ret ?_
          refine x_ret1 rfl rfl ?_
          exact ⟨ret_str (by unfold fmtI; rw [if_neg hn, hb]; rfl), ext_trans X0 B⟩
      · intro hz
        rw [if_neg (by omega), ← h4] at hb
        refine w_skip ?_
        refine x_block_normal ?_
        have S := S.f1
        have S := S.tail
        refine x_round (X := Int × List UInt8 × Value) ((x).tdiv 10, [bt (48 + -((x).tmod 10))] ++ acc, v19) ?_ (by exact ⟨rfl, rfl, rfl, rfl, trivial⟩) (by (try dsimp only); omega)
        try dsimp only
        exact ⟨h2, hb.symm, B, S⟩
    · intro hneg
      have hb := hbt ((x).tmod 10) (by rw [h3, if_neg hneg])
      rw [hd] at hb
      refine w_skip ?_
      refine x_seq ?_
      refine w_seq ?_
      refine w_region ?_
      refine t_move rfl ?_ rfl
      refine t_add rfl rfl (by omega) ?_ rfl
      refine t_conv Tryz.underlying3 Tryz.underlying5 rfl ?_ rfl
      refine t_lit (T := byteT) (l := [bt (48 + ((x).tmod 10))]) (css := [[.int .u8 (IntKind.u8.wrap (48 + ((x).tmod 10)))]]) byte_flat S (fun w => bs_byte1 _ w) rfl rfl rfl rfl (by simp [maxLen]) (litR_one fun _ => byte_lit _) ?_ rfl rfl
      intro u17 w6 x7 S
      have B := bx Hb B x7
      refine t_move rfl ?_ rfl
      have hR := S.tail.sl
      refine t_cat byte_flat e_byte S hR rfl rfl rfl (by first | omega | (simp [-List.length_flatMap]; omega)) (by (simp [maxLen, -List.length_flatMap]; try omega)) ?_ rfl
      intro v19 w8 x9 S
      have B := B.trans x9
      clear hR
      refine t_assign rfl ?_ rfl
      refine t_done ?_
      refine x_seq ?_
      refine w_seq ?_
      refine w_region ?_
      refine t_move rfl ?_ rfl
      refine t_quot rfl rfl (by decide) (by omega) ?_ rfl
      refine t_assign rfl ?_ rfl
      refine t_done ?_
      refine x_seq ?_
      refine w_seq ?_
      refine w_region ?_
      refine t_move rfl ?_ rfl
      refine t_eql rfl rfl ?_ rfl
      refine t_done ?_
      refine x_seq ?_
      refine w_if rfl ?_ ?_
      · intro hz
        rw [if_pos (by omega)] at hb
        refine w_exit ?_
        refine x_block_other rfl ?_
        refine x_then_exit ?_
        refine x_block_exit ?_
        refine x_seq ?_
        refine w_seq ?_
        refine w_seq ?_
        refine w_region ?_
        refine t_move rfl ?_ rfl
        refine t_done ?_
        refine x_seq ?_
        refine w_if rfl ?_ ?_
        · intro hn
          refine w_seq ?_
          refine w_region ?_
          refine t_move rfl ?_ rfl
          refine t_bts Tryz.underlying22 Tryz.underlying5 Tryz.underlying9 (S.sl) (Below.refl _ _) rfl ?_ rfl
          refine t_cats rfl rfl (by first | omega | (simp; done) | (simp; omega)) ?_ rfl
          refine t_assign rfl ?_ rfl
          refine t_done ?_
          refine x_seq ?_
          refine w_ret ?_
          refine x_then_ret ?_
          refine x_ret1 rfl rfl ?_
          exact ⟨ret_str (by unfold fmtI; rw [if_pos hn, hb]), ext_trans X0 B⟩
        · intro hn
          refine w_skip ?_
          refine x_seq ?_
          refine w_seq ?_
          refine w_region ?_
          refine t_move rfl ?_ rfl
          refine t_bts Tryz.underlying22 Tryz.underlying5 Tryz.underlying9 (S.sl) (Below.refl _ _) rfl ?_ rfl
          refine t_assign rfl ?_ rfl
          refine t_done ?_
          refine x_seq ?_
          refine w_ret ?_
          refine x_ret1 rfl rfl ?_
          exact ⟨ret_str (by unfold fmtI; rw [if_neg hn, hb]; rfl), ext_trans X0 B⟩
      · intro hz
        rw [if_neg (by omega), ← h4] at hb
        refine w_skip ?_
        refine x_block_normal ?_
        have S := S.f1
        have S := S.tail
        refine x_round (X := Int × List UInt8 × Value) ((x).tdiv 10, [bt (48 + (x).tmod 10)] ++ acc, v19) ?_ (by exact ⟨rfl, rfl, rfl, rfl, trivial⟩) (by (try dsimp only); omega)
        try dsimp only
        exact ⟨h2, hb.symm, B, S⟩
theorem spec_FormatInt (n : Int) (w : World) (hg : In64 n) : Calls Tryz.prog 77 #[I n] w fun e w' => e = .returned (Sv (fmtI n)) ∧ Below w.heap.size w w' := by
  have hl := (fmtI_len hg).1
  have X0 := Below.refl w.heap.size w
  refine enter Tryz.func77 rfl Tryz.ntmps77 rfl ?_
  refine w_seq ?_
  refine w_region ?_
  have S := Sep.nil w
  have B := Below.refl w.heap.size w
  have Hb := Nat.le_refl w.heap.size
  refine t_assign rfl ?_ rfl
  refine t_done ?_
  refine x_seq ?_
  refine w_seq ?_
  refine w_seq ?_
  refine w_region ?_
  refine t_move rfl ?_ rfl
  refine t_eql rfl rfl ?_ rfl
  refine t_done ?_
  refine x_seq ?_
  refine w_if rfl ?_ ?_
  · intro h0
    refine w_seq ?_
    refine w_region ?_
    refine t_assign rfl ?_ rfl
    refine t_done ?_
    refine x_seq ?_
    refine w_ret ?_
    refine x_then_ret ?_
    refine x_ret1 rfl rfl ?_
    exact ⟨ret_str (by rw [h0]; unfold fmtI; rw [show (0 : Int).natAbs = 0 from rfl, digs_small (by omega)]; rfl), X0⟩
  intro h0
  refine w_skip ?_
  refine x_seq ?_
  refine w_seq ?_
  refine w_region ?_
  refine t_assign rfl ?_ rfl
  refine t_done ?_
  refine x_seq ?_
  refine w_seq ?_
  refine w_seq ?_
  refine w_region ?_
  refine t_move rfl ?_ rfl
  refine t_assign rfl ?_ rfl
  refine t_done ?_
  refine x_seq ?_
  refine w_block ?_
  refine w_loop (X := Int × List UInt8) (fun x wq => (fun x s => In64 x ∧ (x = 0 → s = digs n.natAbs) ∧ (x ≠ 0 → digs x.natAbs ++ s = digs n.natAbs) ∧ Below w.heap.size w wq ∧ Sep w.heap.size wq []) x.1 x.2) (fun x => (fun x s => [(4, I x), (3, Sv s), (0, I n), (2, Sv [])]) x.1 x.2) (fun x => (fun x s => x.natAbs) x.1 x.2) (n, []) ?_ ⟨rfl, rfl, rfl, rfl, trivial⟩ ?_
  · exact ⟨hg, fun h => absurd h h0, fun _ => List.append_nil _, Below.refl _ _, Sep.nil _⟩
  · rintro ⟨x, s⟩ w10 hI
    try dsimp only at hI ⊢
    obtain ⟨hx, hd0, hd1, B, S⟩ := hI
    refine w_seq ?_
    refine w_seq ?_
    refine w_region ?_
    refine t_move rfl ?_ rfl
    refine t_neq rfl rfl ?_ rfl
    refine t_done ?_
    refine x_seq ?_
    refine w_if rfl ?_ ?_
    · intro hxn
      have hd := hd1 hxn
      have hx' := hx
      unfold In64 at hx'
      have h1 := tmod_bd x
      have h2 := tdiv_bd hx
      have h3 := digit x
      have h4 := natAbs_quot x
      have hal : s.length ≤ 20 := by
        have := congrArg List.length hd
        rw [List.length_append] at this
        omega
      have hbt : ∀ d : Int, d = ((x.natAbs % 10 : Nat) : Int) → digs x.natAbs ++ s = if x.natAbs < 10 then [bt (48 + d)] ++ s else digs (x.natAbs / 10) ++ ([bt (48 + d)] ++ s) := fun d hdd => by
        subst hdd
        by_cases hs : x.natAbs < 10
        · rw [digs_small hs, if_pos hs, show x.natAbs % 10 = x.natAbs by omega]
        · rw [digs_big hs, if_neg hs, List.append_assoc]
      refine w_skip ?_
      refine x_seq ?_
      refine w_seq ?_
      refine w_block ?_
      refine w_seq ?_
      refine w_region ?_
      refine t_move rfl ?_ rfl
      refine t_remt rfl rfl (by omega) ?_ rfl
      refine t_assign rfl ?_ rfl
      refine t_done ?_
      refine x_seq ?_
      refine w_seq ?_
      refine w_seq ?_
      refine w_region ?_
      refine t_move rfl ?_ rfl
      refine t_lss rfl rfl ?_ rfl
      refine t_done ?_
      refine x_seq ?_
      refine w_if rfl ?_ ?_
      · intro hneg
        have hb := hbt (-((x).tmod 10)) (by rw [h3, if_pos hneg])
        rw [hd] at hb
        refine w_region ?_
        refine t_move rfl ?_ rfl
        refine t_neg rfl (by omega) ?_ rfl
        refine t_assign rfl ?_ rfl
        refine t_done ?_
        refine x_seq ?_
        refine w_region ?_
        refine t_move rfl ?_ rfl
        refine t_add rfl rfl (by omega) ?_ rfl
        refine t_conv Tryz.underlying3 Tryz.underlying5 rfl ?_ rfl
        refine t_lit (T := byteT) (l := [bt (48 + (-((x).tmod 10)))]) (css := [[.int .u8 (IntKind.u8.wrap (48 + (-((x).tmod 10))))]]) byte_flat S (fun w => bs_byte1 _ w) rfl rfl rfl rfl (by simp [maxLen]) (litR_one fun _ => byte_lit _) ?_ rfl rfl
        intro u22 w11 x12 S
        have B := bx Hb B x12
        refine t_bts Tryz.underlying22 Tryz.underlying5 Tryz.underlying9 (S.sl) (Below.refl _ _) rfl ?_ rfl
        refine t_move rfl ?_ rfl
        refine t_cats rfl rfl (by first | omega | (simp; done) | (simp; omega)) ?_ rfl
        refine t_assign rfl ?_ rfl
        refine t_done ?_
        refine x_block_normal ?_
        refine x_seq ?_
        refine w_region ?_
        refine t_move rfl ?_ rfl
        refine t_quot rfl rfl (by decide) (by omega) ?_ rfl
        refine t_assign rfl ?_ rfl
        refine t_done ?_
        have S := S.tail
        refine x_round (X := Int × List UInt8) ((x).tdiv 10, ([bt (48 + (-((x).tmod 10)))]) ++ s) ?_ (by exact ⟨rfl, rfl, rfl, rfl, trivial⟩) (by (try dsimp only); omega)
        try dsimp only
        exact ⟨h2, fun hz => by rw [if_pos (by omega)] at hb; exact hb.symm, fun hz => by rw [if_neg (by omega), ← h4] at hb; exact hb.symm, B, S⟩
      · intro hneg
        have hb := hbt ((x).tmod 10) (by rw [h3, if_neg hneg])
        rw [hd] at hb
        refine w_skip ?_
        refine x_seq ?_
        refine w_region ?_
        refine t_move rfl ?_ rfl
        refine t_add rfl rfl (by omega) ?_ rfl
        refine t_conv Tryz.underlying3 Tryz.underlying5 rfl ?_ rfl
        refine t_lit (T := byteT) (l := [bt (48 + ((x).tmod 10))]) (css := [[.int .u8 (IntKind.u8.wrap (48 + ((x).tmod 10)))]]) byte_flat S (fun w => bs_byte1 _ w) rfl rfl rfl rfl (by simp [maxLen]) (litR_one fun _ => byte_lit _) ?_ rfl rfl
        intro u22 w13 x14 S
        have B := bx Hb B x14
        refine t_bts Tryz.underlying22 Tryz.underlying5 Tryz.underlying9 (S.sl) (Below.refl _ _) rfl ?_ rfl
        refine t_move rfl ?_ rfl
        refine t_cats rfl rfl (by first | omega | (simp; done) | (simp; omega)) ?_ rfl
        refine t_assign rfl ?_ rfl
        refine t_done ?_
        refine x_block_normal ?_
        refine x_seq ?_
        refine w_region ?_
        refine t_move rfl ?_ rfl
        refine t_quot rfl rfl (by decide) (by omega) ?_ rfl
        refine t_assign rfl ?_ rfl
        refine t_done ?_
        have S := S.tail
        refine x_round (X := Int × List UInt8) ((x).tdiv 10, ([bt (48 + ((x).tmod 10))]) ++ s) ?_ (by exact ⟨rfl, rfl, rfl, rfl, trivial⟩) (by (try dsimp only); omega)
        try dsimp only
        exact ⟨h2, fun hz => by rw [if_pos (by omega)] at hb; exact hb.symm, fun hz => by rw [if_neg (by omega), ← h4] at hb; exact hb.symm, B, S⟩
    · intro hxn
      have hs := hd0 (by simpa using hxn)
      have hsl : s.length ≤ 20 := by rw [hs]; exact hl
      refine w_exit ?_
      refine x_then_exit ?_
      refine x_then_exit ?_
      refine x_block_exit ?_
      refine x_seq ?_
      refine w_seq ?_
      refine w_seq ?_
      refine w_region ?_
      refine t_move rfl ?_ rfl
      refine t_lss rfl rfl ?_ rfl
      refine t_done ?_
      refine x_seq ?_
      refine w_if rfl ?_ ?_
      · intro hn
        refine w_seq ?_
        refine w_region ?_
        refine t_move rfl ?_ rfl
        refine t_cats rfl rfl (by first | omega | (simp; done) | (simp; omega)) ?_ rfl
        refine t_assign rfl ?_ rfl
        refine t_done ?_
        refine x_seq ?_
        refine w_ret ?_
        refine x_then_ret ?_
        refine x_ret1 rfl rfl ?_
        exact ⟨ret_str (by unfold fmtI; rw [if_pos hn, hs]), ext_trans X0 B⟩
      · intro hn
        refine w_skip ?_
        refine x_seq ?_
        refine w_seq ?_
        refine w_region ?_
        refine t_move rfl ?_ rfl
        refine t_assign rfl ?_ rfl
        refine t_done ?_
        refine x_seq ?_
        refine w_ret ?_
        refine x_ret1 rfl rfl ?_
        exact ⟨ret_str (by unfold fmtI; rw [if_neg hn, hs]; rfl), ext_trans X0 B⟩
end Go.Proofs.YtdaecknfahgddaaGreat
namespace Go.Proofs.YtdaecknfahgddaaGreat
open Go.RowKit
set_option linter.unusedVariables false
set_option maxRecDepth 20000
theorem in64_0 : In64 0 := ⟨by decide, by decide⟩
theorem partIn_in {x : Part} (h : rng_part x) (j : Nat) : In64 (partIn x j) := by
  unfold partIn
  cases hx : x.hops[j]? with
  | none => exact in64_0
  | some y =>
    have := h.2.2.2 y (List.mem_of_getElem? hx)
    simp only
    split
    · exact this.2.2.1
    · exact this.2.1
theorem partOut_in {x : Part} (h : rng_part x) (j : Nat) : In64 (partOut x j) := by
  unfold partOut
  cases hx : x.hops[j]? with
  | none => exact in64_0
  | some y =>
    have := h.2.2.2 y (List.mem_of_getElem? hx)
    simp only
    split
    · exact this.2.1
    · exact this.2.2.1
theorem hopIa_in {x : Part} (h : rng_part x) (j : Nat) : In64 (hopIa x j) := by
  unfold hopIa
  cases hx : x.hops[j]? with
  | none => exact in64_0
  | some y => exact (h.2.2.2 y (List.mem_of_getElem? hx)).1
def allS (l : List Stp) : Prop := ∀ s ∈ l, rng_step s
theorem allS_get {l : List Stp} (h : allS l) (k : Nat) : rng_step ((l[k]?).getD ⟨0, 0, 0⟩) := by
  cases hx : l[k]? with
  | none => exact ⟨in64_0, in64_0, in64_0⟩
  | some y => exact h y (List.mem_of_getElem? hx)
theorem allS_set {l : List Stp} (h : allS l) (k : Nat) {s : Stp} (hs : rng_step s) : allS (l.set k s) := fun y hy => by
  rcases List.mem_or_eq_of_mem_set hy with hy | hy
  · exact h y hy
  · rw [hy]; exact hs
theorem addHop_in {i : Nat} {x : Part} {l : List Stp} (hx : rng_part x) (h : allS l) (j : Nat) : allS (addHop i x l j) := by
  unfold addHop
  split
  · have := allS_get h (l.length - 1)
    exact allS_set h _ ⟨this.1, this.2.1, partOut_in hx j⟩
  · intro y hy
    rcases List.mem_append.1 hy with hy | hy
    · exact h y hy
    · rw [List.mem_singleton] at hy
      rw [hy]
      exact ⟨hopIa_in hx j, partIn_in hx j, partOut_in hx j⟩
theorem hopsTo_in {i : Nat} {x : Part} {l : List Stp} (hx : rng_part x) (h : allS l) : ∀ j, allS (hopsTo i x l j)
  | 0 => h
  | j + 1 => by rw [hopsTo_succ]; exact addHop_in hx (hopsTo_in hx h j) j
theorem rawSteps_in {p : Path} (hp : rng_path p) : ∀ k, allS (rawSteps p k)
  | 0 => fun y hy => by cases hy
  | k + 1 => by
    cases h : p[k]? with
    | none =>
      have e : rawSteps p (k + 1) = rawSteps p k := by
        unfold rawSteps; rw [List.range_succ, List.foldl_append]
        show addPart p _ k = _
        unfold addPart; rw [h]
      rw [e]
      exact rawSteps_in hp k
    | some x =>
      rw [rawSteps_succ h]
      exact hopsTo_in (hp x (List.mem_of_getElem? h)) (rawSteps_in hp k) _
theorem pathSteps_in {p : Path} (hp : rng_path p) : allS (pathSteps p) := by
  have h1 := rawSteps_in hp p.length
  have h2 : allS (cutFirst (rawSteps p p.length)) := by
    have := allS_get h1 0
    exact allS_set h1 _ ⟨this.1, in64_0, this.2.2⟩
  have := allS_get h2 ((cutFirst (rawSteps p p.length)).length - 1)
  exact allS_set h2 _ ⟨this.1, this.2.1, in64_0⟩
def fmtAS (t : Topo) (r : Int) : List UInt8 := if isAS t r = true then match t.ases[r.toNat]? with
    | some x => (fmtI x.isd ++ [45]) ++ fmtI r
    | none => []
  else [63]
theorem fmtAS_len {t : Topo} {r : Int} (hg : rng_topo t) (hr : In64 r) : (fmtAS t r).length ≤ 43 := by
  unfold fmtAS
  split
  · split
    · rename_i x hx
      have h1 := (fmtI_len (hg.1 x (List.mem_of_getElem? hx)).1).2
      have h2 := (fmtI_len hr).2
      simp only [List.length_append, List.length_singleton]
      omega
    · simp
  · simp
def stepTxt (t : Topo) (s : Stp) : List UInt8 := (((fmtI s.ing ++ [62]) ++ fmtAS t s.ia) ++ [62]) ++ fmtI s.eg
theorem stepTxt_len {t : Topo} {s : Stp} (hg : rng_topo t) (hs : rng_step s) : (stepTxt t s).length ≤ 87 := by
  have h1 := (fmtI_len hs.2.1).2
  have h2 := (fmtI_len hs.2.2).2
  have h3 := fmtAS_len hg hs.1
  unfold stepTxt
  simp only [List.length_append, List.length_singleton]
  omega
/-- Texts with another between them. -/
def jn (b : List UInt8) : List (List UInt8) → List UInt8
  | [] => []
  | x :: t => x ++ t.flatMap (b ++ ·)
theorem jn_first (b x : List UInt8) : jn b ([] ++ [x]) = x := by simp [jn]
theorem jn_snoc (b x : List UInt8) {l : List (List UInt8)} (h : l ≠ []) : jn b (l ++ [x]) = (jn b l ++ b) ++ x := by
  cases l with
  | nil => exact absurd rfl h
  | cons a t => simp [jn]
theorem jn_len (b : List UInt8) (m : Nat) (l : List (List UInt8)) (h : ∀ x ∈ l, x.length ≤ m) : (jn b l).length ≤ (m + b.length) * l.length := by
  cases l with
  | nil => simp [jn]
  | cons a t =>
    have h1 := h a (by simp)
    have h2 := len_flat_le (b ++ ·) (m + b.length) t fun x hx => by
      have := h x (by simp [hx])
      rw [List.length_append]
      omega
    simp only [jn, List.length_append, List.length_cons, Nat.mul_add, Nat.mul_one]
    omega
def fmtPath (t : Topo) (p : Path) : List UInt8 := if (pathSteps p).length = 0 then [45] else jn [32] ((pathSteps p).map (stepTxt t))
theorem impl_FormatAS (t : Topo) (v : Value) (r : Int) (w : World) (h : VA topoT w v t) (hz : sz_topo t ≤ 1048576) (hg : rng_topo t) (hr : In64 r) : Calls Tryz.prog 135 #[v, I r] w fun e w' => e = .returned (Sv (fmtAS t r)) ∧ Below w.heap.size w w' := by
  have X0 := Below.refl w.heap.size w
  refine enter Tryz.func135 rfl Tryz.ntmps135 rfl ?_
  refine w_seq ?_
  refine w_region ?_
  refine t_boxr (by assumption) rfl ?_ rfl rfl
  intro p2 w1 x2 hp2
  replace h := h.below x2
  have X0 := ext_trans X0 x2
  have S := Sep.nil w1
  have B := Below.refl w1.heap.size w1
  have Hb := Nat.le_refl w1.heap.size
  refine t_assign rfl ?_ rfl
  refine t_done ?_
  refine x_seq ?_
  refine w_seq ?_
  refine w_seq ?_
  refine w_region ?_
  refine t_lda (by assumption) ab_topo sb_topo B rfl ?_ rfl
  intro v5 hv5
  obtain ⟨v5_0, v5_1, rfl, hv5_0, hv5_1⟩ := topo_va hv5
  refine t_move rfl ?_ rfl
  refine t_callx Tryz.call157 rfl (impl_isAS _ _ _ _ (by first | assumption | exact VA.below (by assumption) B | exact topo_mkv (by first | assumption | exact SlR.below (by assumption) B) (by first | assumption | exact SlR.below (by assumption) B)) (by omega)) ?_ rfl rfl
  intro w3 x4
  have B := bx Hb B x4
  have S := S.below x4
  refine t_notb rfl ?_ rfl
  refine t_done ?_
  refine x_seq ?_
  refine w_ifb rfl ?_ ?_
  · intro h1
    refine w_seq ?_
    refine w_region ?_
    refine t_assign rfl ?_ rfl
    refine t_done ?_
    refine x_seq ?_
    refine w_ret ?_
    refine x_then_ret ?_
    refine x_ret1 rfl rfl ?_
    exact ⟨ret_str (by unfold fmtAS; rw [if_neg (by simpa using h1)]), ext_trans X0 B⟩
  · intro h1
    have h1' : isAS t r = true := by simpa using h1
    have h2 := h1'
    unfold isAS at h2
    have h3 := inR_iff.1 h2
    obtain ⟨x, hx⟩ : ∃ e, t.ases[r.toNat]? = some e := getx (by omega)
    have hxi : In64 x.isd := (hg.1 x (List.mem_of_getElem? hx)).1
    have hl1 := (fmtI_len hxi).2
    have hl2 := (fmtI_len hr).2
    refine w_skip ?_
    refine x_seq ?_
    refine w_seq ?_
    refine w_region ?_
    refine t_fld ln_topo_0 (by assumption) fb_topo_0 rfl ?_ rfl
    intro p9 hp9
    refine t_lds (by assumption) ab_s_asn B rfl ?_ rfl
    intro v10 hv10
    refine t_move rfl ?_ rfl
    refine t_idx e_asn (k := r.toNat) (by assumption) hx B rfl rfl (by first | rfl | omega) ?_ rfl
    intro p12 hp12
    refine t_fld ln_asn_0 (by assumption) fb_asn_0 rfl ?_ rfl
    intro p13 hp13
    refine t_ldi (by assumption) ab_int B rfl ?_ rfl
    refine t_callx Tryz.call104 rfl (impl_FormatInt _ _ (by assumption)) ?_ rfl rfl
    intro w5 x6
    have B := bx Hb B x6
    have S := S.below x6
    refine t_cats rfl rfl (by first | omega | (simp; done) | (simp; omega)) ?_ rfl
    refine t_move rfl ?_ rfl
    refine t_callx Tryz.call104 rfl (impl_FormatInt _ _ (by assumption)) ?_ rfl rfl
    intro w7 x8
    have B := bx Hb B x8
    have S := S.below x8
    refine t_cats rfl rfl (by first | omega | (simp; done) | (simp; omega)) ?_ rfl
    refine t_assign rfl ?_ rfl
    refine t_done ?_
    refine x_seq ?_
    refine w_ret ?_
    refine x_ret1 rfl rfl ?_
    exact ⟨ret_str (by unfold fmtAS; rw [if_pos h1', hx]), ext_trans X0 B⟩
theorem spec_FormatAS (t : Topo) (v : Value) (r : Int) (w : World) (h : VA topoT w v t) (hz : sz_topo t ≤ 1048576) (hg : rng_topo t) (hr : In64 r) : Calls Tryz.prog 78 #[v, I r] w fun e w' => e = .returned (Sv (fmtAS t r)) ∧ Below w.heap.size w w' := by
  have X0 := Below.refl w.heap.size w
  refine enter Tryz.func78 rfl Tryz.ntmps78 rfl ?_
  refine w_seq ?_
  refine w_region ?_
  refine t_boxr (by assumption) rfl ?_ rfl rfl
  intro p2 w9 x10 hp2
  replace h := h.below x10
  have X0 := ext_trans X0 x10
  have S := Sep.nil w9
  have B := Below.refl w9.heap.size w9
  have Hb := Nat.le_refl w9.heap.size
  refine t_assign rfl ?_ rfl
  refine t_done ?_
  refine x_seq ?_
  refine w_seq ?_
  refine w_seq ?_
  refine w_region ?_
  refine t_lda (by assumption) ab_topo sb_topo B rfl ?_ rfl
  intro v5 hv5
  obtain ⟨v5_0, v5_1, rfl, hv5_0, hv5_1⟩ := topo_va hv5
  refine t_move rfl ?_ rfl
  refine t_callx Tryz.call125 rfl (spec_l5Realm _ _ _ _ (by first | assumption | exact VA.below (by assumption) B | exact topo_mkv (by first | assumption | exact SlR.below (by assumption) B) (by first | assumption | exact SlR.below (by assumption) B)) (by omega)) ?_ rfl rfl
  intro w11 x12
  have B := bx Hb B x12
  have S := S.below x12
  refine t_notb rfl ?_ rfl
  refine t_done ?_
  refine x_seq ?_
  refine w_ifb rfl ?_ ?_
  · intro h1
    refine w_seq ?_
    refine w_region ?_
    refine t_assign rfl ?_ rfl
    refine t_done ?_
    refine x_seq ?_
    refine w_ret ?_
    refine x_then_ret ?_
    refine x_ret1 rfl rfl ?_
    exact ⟨ret_str (by unfold fmtAS; rw [if_neg (by simpa using h1)]), ext_trans X0 B⟩
  · intro h1
    have h1' : isAS t r = true := by simpa using h1
    have h2 := h1'
    unfold isAS at h2
    have h3 := inR_iff.1 h2
    obtain ⟨x, hx⟩ : ∃ e, t.ases[r.toNat]? = some e := getx (by omega)
    have hxi : In64 x.isd := (hg.1 x (List.mem_of_getElem? hx)).1
    have hl1 := (fmtI_len hxi).2
    have hl2 := (fmtI_len hr).2
    refine w_skip ?_
    refine x_seq ?_
    refine w_seq ?_
    refine w_region ?_
    refine t_fld ln_topo_0 (by assumption) fb_topo_0 rfl ?_ rfl
    intro p9 hp9
    refine t_lds (by assumption) ab_s_asn B rfl ?_ rfl
    intro v10 hv10
    refine t_move rfl ?_ rfl
    refine t_idx e_asn (k := r.toNat) (by assumption) hx B rfl rfl (by first | rfl | omega) ?_ rfl
    intro p12 hp12
    refine t_fld ln_asn_0 (by assumption) fb_asn_0 rfl ?_ rfl
    intro p13 hp13
    refine t_ldi (by assumption) ab_int B rfl ?_ rfl
    refine t_callx Tryz.call77 rfl (spec_FormatInt _ _ (by assumption)) ?_ rfl rfl
    intro w13 x14
    have B := bx Hb B x14
    have S := S.below x14
    refine t_cats rfl rfl (by first | omega | (simp; done) | (simp; omega)) ?_ rfl
    refine t_move rfl ?_ rfl
    refine t_callx Tryz.call77 rfl (spec_FormatInt _ _ (by assumption)) ?_ rfl rfl
    intro w15 x16
    have B := bx Hb B x16
    have S := S.below x16
    refine t_cats rfl rfl (by first | omega | (simp; done) | (simp; omega)) ?_ rfl
    refine t_assign rfl ?_ rfl
    refine t_done ?_
    refine x_seq ?_
    refine w_ret ?_
    refine x_ret1 rfl rfl ?_
    exact ⟨ret_str (by unfold fmtAS; rw [if_pos h1', hx]), ext_trans X0 B⟩
theorem impl_formatSteps (t : Topo) (v : Value) (l : List Stp) (u : Value) (w : World) (h : VA topoT w v t) (h' : SlR stepT w u l) (hz : sz_topo t ≤ 1048576) (hg : rng_topo t) (hl : l.length ≤ 1048576) (hs : allS l) : Calls Tryz.prog 76 #[v, u] w fun e w' => ∃ v fp, e = .returned v ∧ SlO strT 9 w.heap.size w' v (l.map (stepTxt t)) fp ∧ Below w.heap.size w w' := by
  have X0 := Below.refl w.heap.size w
  refine enter Tryz.func76 rfl Tryz.ntmps76 rfl ?_
  refine w_seq ?_
  refine w_region ?_
  refine t_boxr (by assumption) rfl ?_ rfl rfl
  intro p2 w17 x18 hp2
  replace h := h.below x18
  replace h' := h'.below x18
  have X0 := ext_trans X0 x18
  have S := Sep.nil w17
  have B := Below.refl w17.heap.size w17
  have Hb := Nat.le_refl w17.heap.size
  refine t_assign rfl ?_ rfl
  refine t_done ?_
  refine x_seq ?_
  refine w_seq ?_
  refine w_region ?_
  refine t_assign rfl ?_ rfl
  refine t_done ?_
  refine x_seq ?_
  refine w_seq ?_
  refine w_seq ?_
  refine w_region ?_
  refine t_move rfl ?_ rfl
  refine t_len e_step (by assumption) rfl rfl ?_ rfl
  refine t_move rfl ?_ rfl
  refine t_done ?_
  refine x_seq ?_
  refine w_block ?_
  refine w_loop (X := Nat × List (List UInt8) × Value) (fun x wq => (fun k acc q => k ≤ l.length ∧ acc = (l.take k).map (stepTxt t) ∧ Below w17.heap.size w17 wq ∧ Sep w17.heap.size wq [slO strT 9 q acc]) x.1 x.2.1 x.2.2) (fun x => (fun k acc q => [(10, I ((k : Int))), (5, q), (2, p2), (4, .slice none 0 0), (8, u), (9, I ((l.length : Int)))]) x.1 x.2.1 x.2.2) (fun x => (fun k acc q => l.length - k) x.1 x.2.1 x.2.2) (0, [], .slice none 0 0) ?_ ⟨rfl, rfl, rfl, rfl, rfl, rfl, trivial⟩ ?_
  · exact ⟨by omega, rfl, B, S.addNil⟩
  · rintro ⟨k, acc, q⟩ w19 hI
    try dsimp only at hI ⊢
    obtain ⟨hk, ha, B, S⟩ := hI
    refine w_seq ?_
    refine w_region ?_
    refine t_lss rfl rfl ?_ rfl
    refine t_done ?_
    refine x_seq ?_
    refine w_seq ?_
    refine w_if rfl ?_ ?_
    · intro hlt
      obtain ⟨x, hx⟩ : ∃ e, l[k]? = some e := getx (by omega)
      have hxs := hs x (List.mem_of_getElem? hx)
      have hx1 := hxs.1
      have hx2 := hxs.2.1
      have hx3 := hxs.2.2
      have hl1 := (fmtI_len hx2).2
      have hl2 := (fmtI_len hx3).2
      have hl3 := fmtAS_len hg hx1
      have hal : acc.length = k := by rw [ha, List.length_map, List.length_take]; omega
      refine w_skip ?_
      refine x_seq ?_
      refine w_seq ?_
      refine w_block ?_
      refine w_seq ?_
      refine w_region ?_
      refine t_idx e_step (k := k) (by assumption) hx B rfl rfl (by first | rfl | omega) ?_ rfl
      intro p12 hp12
      refine t_lda (by assumption) ab_step sb_step B rfl ?_ rfl
      intro v13 hv13
      obtain rfl := step_va hv13
      refine t_alloc S z_step rfl ?_ rfl rfl
      intro g7 w20 x21 S
      have B := bx Hb B x21
      refine t_stn S sb_step rfl rfl rfl rfl (by simp [Value.oneCell']) ?_
      intro w22 b23 S
      have B := B.trans b23
      refine t_done ?_
      refine x_seq ?_
      refine w_draw (.st .take 0 (.st .take 1 (.st .take 2 (.st .take 5 (.st .take 6 (.st .take 7 (.st .take 11 (.st .take 12 (.st .run 3 (.st .take 4 (.st .run 8 (.st .take 9 (.st .take 10 (.st .run 13 (.st .take 14 (.st .run 15 (.st .fin 16 (.st .fin 17 .done)))))))))))))))))) mixed (by kernel_rfl) ?_
      intro w24 x25
      have B := bx Hb B x25
      have S := S.below x25
      refine t_move rfl ?_ rfl
      refine t_fldx fb_step_1 rfl rfl ?_ rfl
      refine t_bx1 S.box ab_int rfl rfl ?_ rfl
      refine t_lda (by assumption) ab_topo sb_topo B rfl ?_ rfl
      intro v19 hv19
      obtain ⟨v19_0, v19_1, rfl, hv19_0, hv19_1⟩ := topo_va hv19
      refine t_fldx fb_step_0 rfl rfl ?_ rfl
      refine t_bx1 S.box ab_int rfl rfl ?_ rfl
      refine t_fldx fb_step_2 rfl rfl ?_ rfl
      refine t_bx1 S.box ab_int rfl rfl ?_ rfl
      refine t_callx Tryz.call104 rfl (impl_FormatInt _ _ (by assumption)) ?_ rfl rfl
      intro w26 x27
      have B := bx Hb B x27
      have S := S.below x27
      refine t_cats rfl rfl (by first | omega | (simp; done) | (simp; omega)) ?_ rfl
      refine t_callx Tryz.call135 rfl (impl_FormatAS _ _ _ _ (by first | assumption | exact VA.below (by assumption) B | exact topo_mkv (by first | assumption | exact SlR.below (by assumption) B) (by first | assumption | exact SlR.below (by assumption) B)) (by omega) (by assumption) (by assumption)) ?_ rfl rfl
      intro w28 x29
      have B := bx Hb B x29
      have S := S.below x29
      refine t_cats rfl rfl (by first | omega | (simp; done) | (simp; omega)) ?_ rfl
      refine t_cats rfl rfl (by first | omega | (simp; done) | (simp; omega)) ?_ rfl
      refine t_callx Tryz.call104 rfl (impl_FormatInt _ _ (by assumption)) ?_ rfl rfl
      intro w30 x31
      have B := bx Hb B x31
      have S := S.below x31
      refine t_cats rfl rfl (by first | omega | (simp; done) | (simp; omega)) ?_ rfl
      refine t_lit (T := strT) (l := [((((fmtI x.ing) ++ ([62])) ++ (fmtAS t x.ia)) ++ ([62])) ++ (fmtI x.eg)]) (css := [[Sv (((((fmtI x.ing) ++ ([62])) ++ (fmtAS t x.ia)) ++ ([62])) ++ (fmtI x.eg))]]) str_flat S (fun w => bs_str1 _ w) rfl rfl rfl rfl (by simp [maxLen]) (litR_one fun _ => rfl) ?_ rfl rfl
      intro u29 w32 x33 S
      have B := bx Hb B x33
      have hR := S.sl
      have S := S.f2
      refine t_cat str_flat e_str S hR rfl rfl rfl (by first | omega | (simp [-List.length_flatMap]; omega)) (by (simp [maxLen, -List.length_flatMap]; try omega)) ?_ rfl
      intro v30 w34 x35 S
      have B := B.trans x35
      clear hR
      have S := S.f1
      have S := S.tail
      refine t_assign rfl ?_ rfl
      refine t_done' ?_
      refine x_block_normal ?_
      refine x_seq ?_
      refine w_region ?_
      refine t_add rfl rfl (by omega) ?_ rfl
      refine t_move rfl ?_ rfl
      refine t_done ?_
      have S := S.f1
      have S := S.tail
      refine x_round (X := Nat × List (List UInt8) × Value) (k + 1, acc ++ [stepTxt t x], v30) ?_ (by exact ⟨rfl, rfl, rfl, rfl, rfl, rfl, trivial⟩) (by (try dsimp only); omega)
      try dsimp only
      exact ⟨by omega, by rw [take_succ hx, List.map_append, ha]; rfl, B, S⟩
    · intro hge
      refine w_exit ?_
      refine x_then_exit ?_
      refine x_then_exit ?_
      refine x_block_exit ?_
      refine x_seq ?_
      refine w_seq ?_
      refine w_region ?_
      refine t_move rfl ?_ rfl
      refine t_assign rfl ?_ rfl
      refine t_done ?_
      refine x_seq ?_
      refine w_ret ?_
      refine x_ret1 rfl rfl ?_
      rw [List.take_of_length_le (by omega)] at ha
      rw [← ha]
      obtain ⟨fp, hO⟩ := (S.mono X0.size).head
      exact ⟨_, fp, rfl, hO, ext_trans X0 B⟩
theorem impl_joinTexts (l : List (List UInt8)) (u : Value) (b : List UInt8) (w : World) (h : SlR strT w u l) (hl : l.length ≤ 1048576) (hb : b.length ≤ 100) (hm : ∀ x ∈ l, x.length ≤ 100) : Calls Tryz.prog 134 #[u, Sv b] w fun e w' => e = .returned (Sv (jn b l)) ∧ Below w.heap.size w w' := by
  have X0 := Below.refl w.heap.size w
  refine enter Tryz.func134 rfl Tryz.ntmps134 rfl ?_
  refine w_seq ?_
  refine w_region ?_
  have S := Sep.nil w
  have B := Below.refl w.heap.size w
  have Hb := Nat.le_refl w.heap.size
  refine t_assign rfl ?_ rfl
  refine t_done ?_
  refine x_seq ?_
  refine w_seq ?_
  refine w_region ?_
  refine t_assign rfl ?_ rfl
  refine t_done ?_
  refine x_seq ?_
  refine w_seq ?_
  refine w_seq ?_
  refine w_region ?_
  refine t_move rfl ?_ rfl
  refine t_len e_str (by assumption) rfl rfl ?_ rfl
  refine t_move rfl ?_ rfl
  refine t_done ?_
  refine x_seq ?_
  refine w_block ?_
  refine w_loop (X := Nat × List UInt8) (fun x wq => (fun k s => k ≤ l.length ∧ s = jn b (l.take k) ∧ Below w.heap.size w wq ∧ Sep w.heap.size wq []) x.1 x.2) (fun x => (fun k s => [(10, I ((k : Int))), (5, Sv s), (1, Sv b), (4, Sv []), (8, u), (9, I ((l.length : Int)))]) x.1 x.2) (fun x => (fun k s => l.length - k) x.1 x.2) (0, []) ?_ ⟨rfl, rfl, rfl, rfl, rfl, rfl, trivial⟩ ?_
  · exact ⟨by omega, rfl, B, S⟩
  · rintro ⟨k, s⟩ w36 hI
    try dsimp only at hI ⊢
    obtain ⟨hk, ha, B, S⟩ := hI
    have hsl : s.length ≤ 209715200 := by
      have h1 := jn_len b 100 (l.take k) fun x hx => hm x (List.mem_of_mem_take hx)
      rw [← ha] at h1
      have h2 : (100 + b.length) * (l.take k).length ≤ 200 * 1048576 := Nat.mul_le_mul (by omega) (by rw [List.length_take]; omega)
      omega
    refine w_seq ?_
    refine w_region ?_
    refine t_lss rfl rfl ?_ rfl
    refine t_done ?_
    refine x_seq ?_
    refine w_seq ?_
    refine w_if rfl ?_ ?_
    · intro hlt
      obtain ⟨x, hx⟩ : ∃ e, l[k]? = some e := getx (by omega)
      have hxl := hm x (List.mem_of_getElem? hx)
      refine w_skip ?_
      refine x_seq ?_
      refine w_seq ?_
      refine w_block ?_
      refine w_seq ?_
      refine w_region ?_
      refine t_move rfl ?_ rfl
      refine t_idx e_str (k := k) (by assumption) hx B rfl rfl (by first | rfl | omega) ?_ rfl
      intro p13 hp13
      refine t_ldstr (by assumption) ab_str B rfl ?_ rfl
      refine t_assign rfl ?_ rfl
      refine t_assign rfl ?_ rfl
      refine t_done ?_
      refine x_seq ?_
      refine w_seq ?_
      refine w_seq ?_
      refine w_region ?_
      refine t_move rfl ?_ rfl
      refine t_gtr rfl rfl ?_ rfl
      refine t_done ?_
      refine x_seq ?_
      refine w_if rfl ?_ ?_
      · intro hk0
        refine w_region ?_
        refine t_move rfl ?_ rfl
        refine t_move rfl ?_ rfl
        refine t_cats rfl rfl (by first | omega | (simp; done) | (simp; omega)) ?_ rfl
        refine t_assign rfl ?_ rfl
        refine t_done ?_
        refine x_seq ?_
        refine w_region ?_
        refine t_move rfl ?_ rfl
        refine t_move rfl ?_ rfl
        refine t_cats rfl rfl (by first | omega | (simp; done) | (simp; omega)) ?_ rfl
        refine t_assign rfl ?_ rfl
        refine t_done ?_
        refine x_block_normal ?_
        refine x_seq ?_
        refine w_region ?_
        refine t_add rfl rfl (by omega) ?_ rfl
        refine t_move rfl ?_ rfl
        refine t_done ?_
        refine x_round (X := Nat × List UInt8) (k + 1, (s ++ b) ++ x) ?_ (by exact ⟨rfl, rfl, rfl, rfl, rfl, rfl, trivial⟩) (by (try dsimp only); omega)
        try dsimp only
        refine ⟨by omega, ?_, B, S⟩
        rw [take_succ hx, jn_snoc b x (by intro h0; have h1 := congrArg List.length h0; rw [List.length_take, List.length_nil] at h1; omega), ← ha]
      · intro hk0
        have hk1 : k = 0 := by omega
        subst hk1
        refine w_skip ?_
        refine x_seq ?_
        refine w_region ?_
        refine t_move rfl ?_ rfl
        refine t_move rfl ?_ rfl
        refine t_cats rfl rfl (by first | omega | (simp; done) | (simp; omega)) ?_ rfl
        refine t_assign rfl ?_ rfl
        refine t_done ?_
        refine x_block_normal ?_
        refine x_seq ?_
        refine w_region ?_
        refine t_add rfl rfl (by omega) ?_ rfl
        refine t_move rfl ?_ rfl
        refine t_done ?_
        refine x_round (X := Nat × List UInt8) (0 + 1, s ++ x) ?_ (by exact ⟨rfl, rfl, rfl, rfl, rfl, rfl, trivial⟩) (by (try dsimp only); omega)
        try dsimp only
        refine ⟨by omega, ?_, B, S⟩
        rw [take_succ hx, ha]
        exact (jn_first b x).symm
    · intro hge
      refine w_exit ?_
      refine x_then_exit ?_
      refine x_then_exit ?_
      refine x_block_exit ?_
      refine x_seq ?_
      refine w_seq ?_
      refine w_region ?_
      refine t_move rfl ?_ rfl
      refine t_assign rfl ?_ rfl
      refine t_done ?_
      refine x_seq ?_
      refine w_ret ?_
      refine x_ret1 rfl rfl ?_
      rw [List.take_of_length_le (by omega)] at ha
      exact ⟨ret_str ha, ext_trans X0 B⟩
theorem impl_spaced (l : List (List UInt8)) (u : Value) (w : World) (h : SlR strT w u l) (hl : l.length ≤ 1048576) (hm : ∀ x ∈ l, x.length ≤ 100) : Calls Tryz.prog 75 #[u] w fun e w' => e = .returned (Sv (if l.length = 0 then [45] else jn [32] l)) ∧ Below w.heap.size w w' := by
  have X0 := Below.refl w.heap.size w
  refine enter Tryz.func75 rfl Tryz.ntmps75 rfl ?_
  refine w_seq ?_
  refine w_region ?_
  have S := Sep.nil w
  have B := Below.refl w.heap.size w
  have Hb := Nat.le_refl w.heap.size
  refine t_assign rfl ?_ rfl
  refine t_done ?_
  refine x_seq ?_
  refine w_seq ?_
  refine w_seq ?_
  refine w_region ?_
  refine t_move rfl ?_ rfl
  refine t_len e_str (by assumption) rfl rfl ?_ rfl
  refine t_eql rfl rfl ?_ rfl
  refine t_done ?_
  refine x_seq ?_
  refine w_if rfl ?_ ?_
  · intro h0
    refine w_seq ?_
    refine w_region ?_
    refine t_assign rfl ?_ rfl
    refine t_done ?_
    refine x_seq ?_
    refine w_ret ?_
    refine x_then_ret ?_
    refine x_ret1 rfl rfl ?_
    exact ⟨ret_str (by rw [if_pos (by omega)]), ext_trans X0 B⟩
  · intro h0
    refine w_skip ?_
    refine x_seq ?_
    refine w_seq ?_
    refine w_region ?_
    refine t_move rfl ?_ rfl
    refine t_callx Tryz.call134 rfl (impl_joinTexts _ _ _ _ (by first | assumption | exact SlR.below (by assumption) B) (by omega) (by simp) (by assumption)) ?_ rfl rfl
    intro w37 x38
    have B := bx Hb B x38
    have S := S.below x38
    refine t_assign rfl ?_ rfl
    refine t_done ?_
    refine x_seq ?_
    refine w_ret ?_
    refine x_ret1 rfl rfl ?_
    exact ⟨ret_str (by rw [if_neg (by omega)]), ext_trans X0 B⟩
theorem impl_FormatPath (t : Topo) (v : Value) (p : Path) (u : Value) (w : World) (h : VA topoT w v t) (hp : VA pathT w u p) (hz : sz_topo t ≤ 1048576) (hgt : rng_topo t) (hz' : sz_path p ≤ 1048576) (hl : lenOk_path p) (hg : rng_path p) : Calls Tryz.prog 22 #[v, u] w fun e w' => e = .returned (Sv (fmtPath t p)) ∧ Below w.heap.size w w' := by
  have hsl := pathSteps_len p
  have hsi := pathSteps_in hg
  have hmx : ∀ x ∈ (pathSteps p).map (stepTxt t), x.length ≤ 100 := fun x hx => by
    obtain ⟨s, hs, rfl⟩ := List.mem_map.1 hx
    have := stepTxt_len hgt (hsi s hs)
    omega
  have X0 := Below.refl w.heap.size w
  refine enter Tryz.func22 rfl Tryz.ntmps22 rfl ?_
  refine w_seq ?_
  refine w_region ?_
  refine t_boxr (by assumption) rfl ?_ rfl rfl
  intro p2 w39 x40 hp2
  replace h := h.below x40
  replace hp := hp.below x40
  have X0 := ext_trans X0 x40
  refine t_boxr (by assumption) rfl ?_ rfl rfl
  intro p3 w41 x42 hp3
  replace h := h.below x42
  replace hp := hp.below x42
  replace hp2 := hp2.below x42
  have X0 := ext_trans X0 x42
  have S := Sep.nil w41
  have B := Below.refl w41.heap.size w41
  have Hb := Nat.le_refl w41.heap.size
  refine t_assign rfl ?_ rfl
  refine t_done ?_
  refine x_seq ?_
  refine w_seq ?_
  refine w_draw (.st .take 0 (.st .take 1 (.st .run 2 (.st .run 3 (.st .run 4 (.st .take 5 .done)))))) mixed (by kernel_rfl) ?_
  intro w43 x44
  have B := bx Hb B x44
  have S := S.below x44
  refine t_lda (by assumption) ab_topo sb_topo B rfl ?_ rfl
  intro v5 hv5
  obtain ⟨v5_0, v5_1, rfl, hv5_0, hv5_1⟩ := topo_va hv5
  refine t_lda (by assumption) ab_path sb_path B rfl ?_ rfl
  intro v6 hv6
  obtain ⟨v6_0, rfl, hv6_0⟩ := path_va hv6
  refine t_call Tryz.call28 rfl (va1 (by first | assumption | exact VA.below (by assumption) B | exact path_mkv (by first | assumption | exact SlR.below (by assumption) B)) fun cs h => impl_PathSteps _ cs _ h (by omega) (by assumption) (by assumption)) ?_ rfl rfl
  rintro e w45 ⟨v7, fpv7, rfl, hOv7, x46⟩
  refine ⟨_, rfl, x46, ?_⟩
  have S := S.add (o := slO _ _ _ _) x46 hOv7
  have B := bx Hb B x46
  refine t_call Tryz.call76 rfl (impl_formatSteps _ _ _ _ _ (by first | assumption | exact VA.below (by assumption) B | exact topo_mkv (by first | assumption | exact SlR.below (by assumption) B) (by first | assumption | exact SlR.below (by assumption) B)) (S.sl) (by omega) (by assumption) (by omega) (by assumption)) ?_ rfl rfl
  rintro e w47 ⟨v8, fpv8, rfl, hOv8, x48⟩
  refine ⟨_, rfl, x48, ?_⟩
  have S := S.add (o := slO _ _ _ _) x48 hOv8
  have B := bx Hb B x48
  refine t_callx Tryz.call75 rfl (impl_spaced _ _ _ (S.sl) (by rw [List.length_map]; omega) (by assumption)) ?_ rfl rfl
  intro w49 x50
  have B := bx Hb B x50
  have S := S.below x50
  refine t_assign rfl ?_ rfl
  refine t_done' ?_
  refine x_seq ?_
  refine w_ret ?_
  refine x_ret1 rfl rfl ?_
  exact ⟨ret_str (by unfold fmtPath; rw [List.length_map]), ext_trans X0 B⟩
theorem spec_FormatPath (t : Topo) (v : Value) (p : Path) (u : Value) (w : World) (h : VA topoT w v t) (hp : VA pathT w u p) (hz : sz_topo t ≤ 1048576) (hgt : rng_topo t) (hz' : sz_path p ≤ 1048576) (hl : lenOk_path p) (hg : rng_path p) : Calls Tryz.prog 23 #[v, u] w fun e w' => e = .returned (Sv (fmtPath t p)) ∧ Below w.heap.size w w' := by
  have hsl := pathSteps_len p
  have hsi := pathSteps_in hg
  have X0 := Below.refl w.heap.size w
  refine enter Tryz.func23 rfl Tryz.ntmps23 rfl ?_
  refine w_seq ?_
  refine w_region ?_
  refine t_boxr (by assumption) rfl ?_ rfl rfl
  intro p2 w51 x52 hp2
  replace h := h.below x52
  replace hp := hp.below x52
  have X0 := ext_trans X0 x52
  refine t_boxr (by assumption) rfl ?_ rfl rfl
  intro p3 w53 x54 hp3
  replace h := h.below x54
  replace hp := hp.below x54
  replace hp2 := hp2.below x54
  have X0 := ext_trans X0 x54
  have S := Sep.nil w53
  have B := Below.refl w53.heap.size w53
  have Hb := Nat.le_refl w53.heap.size
  refine t_assign rfl ?_ rfl
  refine t_done ?_
  refine x_seq ?_
  refine w_seq ?_
  refine w_region ?_
  refine t_assign rfl ?_ rfl
  refine t_done ?_
  refine x_seq ?_
  refine w_seq ?_
  refine w_region ?_
  refine t_lda (by assumption) ab_path sb_path B rfl ?_ rfl
  intro v8 hv8
  obtain ⟨v8_0, rfl, hv8_0⟩ := path_va hv8
  refine t_call Tryz.call29 rfl (va1 (by first | assumption | exact VA.below (by assumption) B | exact path_mkv (by first | assumption | exact SlR.below (by assumption) B)) fun cs h => spec_PathSteps _ cs _ h (by omega) (by assumption) (by assumption)) ?_ rfl rfl
  rintro e w55 ⟨v9, fpv9, rfl, hOv9, x56⟩
  refine ⟨_, rfl, x56, ?_⟩
  have S := S.add (o := slO _ _ _ _) x56 hOv9
  have B := bx Hb B x56
  refine t_assign rfl ?_ rfl
  refine t_done ?_
  refine x_seq ?_
  refine w_seq ?_
  refine w_seq ?_
  refine w_region ?_
  refine t_assign rfl ?_ rfl
  refine t_done ?_
  refine x_seq ?_
  refine w_block ?_
  refine w_loop (X := Nat × List UInt8) (fun x wq => (fun k s => k ≤ (pathSteps p).length ∧ s = jn [32] (((pathSteps p).take k).map (stepTxt t)) ∧ Below w53.heap.size w53 wq ∧ Sep w53.heap.size wq [slO stepT 78 v9 (pathSteps p)]) x.1 x.2) (fun x => (fun k s => [(7, I ((k : Int))), (5, Sv s), (2, p2), (4, Sv []), (6, v9)]) x.1 x.2) (fun x => (fun k s => (pathSteps p).length - k) x.1 x.2) (0, []) ?_ ⟨rfl, rfl, rfl, rfl, rfl, trivial⟩ ?_
  · exact ⟨by omega, rfl, B, S⟩
  · rintro ⟨k, s⟩ w57 hI
    try dsimp only at hI ⊢
    obtain ⟨hk, ha, B, S⟩ := hI
    have hsz : s.length ≤ 209715200 := by
      have h1 := jn_len [32] 100 (((pathSteps p).take k).map (stepTxt t)) fun x hx => by
        obtain ⟨s, hs, rfl⟩ := List.mem_map.1 hx
        have := stepTxt_len hgt (hsi s (List.mem_of_mem_take hs))
        omega
      rw [← ha] at h1
      have h2 : (100 + [(32 : UInt8)].length) * (((pathSteps p).take k).map (stepTxt t)).length ≤ 101 * 1048576 := Nat.mul_le_mul (by simp) (by rw [List.length_map, List.length_take]; omega)
      omega
    refine w_seq ?_
    refine w_seq ?_
    refine w_region ?_
    refine t_move rfl ?_ rfl
    refine t_move rfl ?_ rfl
    refine t_len e_step (S.sl) rfl rfl ?_ rfl
    refine t_lss rfl rfl ?_ rfl
    refine t_done ?_
    refine x_seq ?_
    refine w_if rfl ?_ ?_
    · intro hlt
      obtain ⟨x, hx⟩ : ∃ e, (pathSteps p)[k]? = some e := getx (by omega)
      have hxs := hsi x (List.mem_of_getElem? hx)
      have hx1 := hxs.1
      have hx2 := hxs.2.1
      have hx3 := hxs.2.2
      have hl1 := (fmtI_len hx2).2
      have hl2 := (fmtI_len hx3).2
      have hl3 := fmtAS_len hgt hx1
      refine w_skip ?_
      refine x_seq ?_
      refine w_seq ?_
      refine w_block ?_
      refine w_seq ?_
      refine w_seq ?_
      refine w_region ?_
      refine t_move rfl ?_ rfl
      refine t_gtr rfl rfl ?_ rfl
      refine t_done ?_
      refine x_seq ?_
      refine w_if rfl ?_ ?_
      · intro hk0
        refine w_region ?_
        refine t_move rfl ?_ rfl
        refine t_cats rfl rfl (by first | omega | (simp; done) | (simp; omega)) ?_ rfl
        refine t_assign rfl ?_ rfl
        refine t_done ?_
        refine x_seq ?_
        refine w_draw (.st .take 0 (.st .take 1 (.st .take 2 (.st .take 3 (.st .take 4 (.st .take 5 (.st .take 9 (.st .take 10 (.st .take 11 (.st .take 12 (.st .take 13 (.st .take 14 (.st .take 18 (.st .take 19 (.st .take 20 (.st .take 21 (.st .take 22 (.st .run 6 (.st .take 7 (.st .take 8 (.st .run 15 (.st .take 16 (.st .take 17 (.st .run 23 (.st .take 24 (.st .take 25 .done)))))))))))))))))))))))))) mixed (by kernel_rfl) ?_
        intro w58 x59
        have B := bx Hb B x59
        have S := S.below x59
        refine t_move rfl ?_ rfl
        refine t_move rfl ?_ rfl
        refine t_move rfl ?_ rfl
        refine t_idx e_step (k := k) (S.sl) hx (Below.refl _ _) rfl rfl (by first | rfl | omega) ?_ rfl
        intro p23 hp23
        refine t_fld ln_step_1 (by assumption) fb_step_1 rfl ?_ rfl
        intro p24 hp24
        refine t_ldi (by assumption) ab_int (Below.refl _ _) rfl ?_ rfl
        refine t_lda (by assumption) ab_topo sb_topo B rfl ?_ rfl
        intro v29 hv29
        obtain ⟨v29_0, v29_1, rfl, hv29_0, hv29_1⟩ := topo_va hv29
        refine t_move rfl ?_ rfl
        refine t_move rfl ?_ rfl
        refine t_idx e_step (k := k) (S.sl) hx (Below.refl _ _) rfl rfl (by first | rfl | omega) ?_ rfl
        intro p32 hp32
        refine t_fld ln_step_0 (by assumption) fb_step_0 rfl ?_ rfl
        intro p33 hp33
        refine t_ldi (by assumption) ab_int (Below.refl _ _) rfl ?_ rfl
        refine t_move rfl ?_ rfl
        refine t_move rfl ?_ rfl
        refine t_idx e_step (k := k) (S.sl) hx (Below.refl _ _) rfl rfl (by first | rfl | omega) ?_ rfl
        intro p40 hp40
        refine t_fld ln_step_2 (by assumption) fb_step_2 rfl ?_ rfl
        intro p41 hp41
        refine t_ldi (by assumption) ab_int (Below.refl _ _) rfl ?_ rfl
        refine t_callx Tryz.call77 rfl (spec_FormatInt _ _ (by assumption)) ?_ rfl rfl
        intro w60 x61
        have B := bx Hb B x61
        have S := S.below x61
        refine t_cats rfl rfl (by first | omega | (simp; done) | (simp; omega)) ?_ rfl
        refine t_cats rfl rfl (by first | omega | (simp; done) | (simp; omega)) ?_ rfl
        refine t_callx Tryz.call78 rfl (spec_FormatAS _ _ _ _ (by first | assumption | exact VA.below (by assumption) B | exact topo_mkv (by first | assumption | exact SlR.below (by assumption) B) (by first | assumption | exact SlR.below (by assumption) B)) (by omega) (by assumption) (by assumption)) ?_ rfl rfl
        intro w62 x63
        have B := bx Hb B x63
        have S := S.below x63
        refine t_cats rfl rfl (by first | omega | (simp; done) | (simp; omega)) ?_ rfl
        refine t_cats rfl rfl (by first | omega | (simp; done) | (simp; omega)) ?_ rfl
        refine t_callx Tryz.call77 rfl (spec_FormatInt _ _ (by assumption)) ?_ rfl rfl
        intro w64 x65
        have B := bx Hb B x65
        have S := S.below x65
        refine t_cats rfl rfl (by first | omega | (simp; done) | (simp; omega)) ?_ rfl
        refine t_assign rfl ?_ rfl
        refine t_done' ?_
        refine x_block_normal ?_
        refine x_seq ?_
        refine w_region ?_
        refine t_move rfl ?_ rfl
        refine t_add rfl rfl (by omega) ?_ rfl
        refine t_assign rfl ?_ rfl
        refine t_done ?_
        refine x_round (X := Nat × List UInt8) (k + 1, (((((s ++ ([32])) ++ (fmtI x.ing)) ++ ([62])) ++ (fmtAS t x.ia)) ++ ([62])) ++ (fmtI x.eg)) ?_ (by exact ⟨rfl, rfl, rfl, rfl, rfl, trivial⟩) (by (try dsimp only); omega)
        try dsimp only
        refine ⟨by omega, ?_, B, S⟩
        rw [take_succ hx, List.map_append, List.map_cons, List.map_nil, jn_snoc [32] (stepTxt t x) (by intro h0; have h1 := congrArg List.length h0; rw [List.length_map, List.length_take, List.length_nil] at h1; omega), ← ha]
        unfold stepTxt
        simp only [List.append_assoc]
      · intro hk0
        have hk1 : k = 0 := by omega
        refine w_skip ?_
        refine x_seq ?_
        refine w_draw (.st .take 0 (.st .take 1 (.st .take 2 (.st .take 3 (.st .take 4 (.st .take 5 (.st .take 9 (.st .take 10 (.st .take 11 (.st .take 12 (.st .take 13 (.st .take 14 (.st .take 18 (.st .take 19 (.st .take 20 (.st .take 21 (.st .take 22 (.st .run 6 (.st .take 7 (.st .take 8 (.st .run 15 (.st .take 16 (.st .take 17 (.st .run 23 (.st .take 24 (.st .take 25 .done)))))))))))))))))))))))))) mixed (by kernel_rfl) ?_
        intro w66 x67
        have B := bx Hb B x67
        have S := S.below x67
        refine t_move rfl ?_ rfl
        refine t_move rfl ?_ rfl
        refine t_move rfl ?_ rfl
        refine t_idx e_step (k := k) (S.sl) hx (Below.refl _ _) rfl rfl (by first | rfl | omega) ?_ rfl
        intro p23 hp23
        refine t_fld ln_step_1 (by assumption) fb_step_1 rfl ?_ rfl
        intro p24 hp24
        refine t_ldi (by assumption) ab_int (Below.refl _ _) rfl ?_ rfl
        refine t_lda (by assumption) ab_topo sb_topo B rfl ?_ rfl
        intro v29 hv29
        obtain ⟨v29_0, v29_1, rfl, hv29_0, hv29_1⟩ := topo_va hv29
        refine t_move rfl ?_ rfl
        refine t_move rfl ?_ rfl
        refine t_idx e_step (k := k) (S.sl) hx (Below.refl _ _) rfl rfl (by first | rfl | omega) ?_ rfl
        intro p32 hp32
        refine t_fld ln_step_0 (by assumption) fb_step_0 rfl ?_ rfl
        intro p33 hp33
        refine t_ldi (by assumption) ab_int (Below.refl _ _) rfl ?_ rfl
        refine t_move rfl ?_ rfl
        refine t_move rfl ?_ rfl
        refine t_idx e_step (k := k) (S.sl) hx (Below.refl _ _) rfl rfl (by first | rfl | omega) ?_ rfl
        intro p40 hp40
        refine t_fld ln_step_2 (by assumption) fb_step_2 rfl ?_ rfl
        intro p41 hp41
        refine t_ldi (by assumption) ab_int (Below.refl _ _) rfl ?_ rfl
        refine t_callx Tryz.call77 rfl (spec_FormatInt _ _ (by assumption)) ?_ rfl rfl
        intro w68 x69
        have B := bx Hb B x69
        have S := S.below x69
        refine t_cats rfl rfl (by first | omega | (simp; done) | (simp; omega)) ?_ rfl
        refine t_cats rfl rfl (by first | omega | (simp; done) | (simp; omega)) ?_ rfl
        refine t_callx Tryz.call78 rfl (spec_FormatAS _ _ _ _ (by first | assumption | exact VA.below (by assumption) B | exact topo_mkv (by first | assumption | exact SlR.below (by assumption) B) (by first | assumption | exact SlR.below (by assumption) B)) (by omega) (by assumption) (by assumption)) ?_ rfl rfl
        intro w70 x71
        have B := bx Hb B x71
        have S := S.below x71
        refine t_cats rfl rfl (by first | omega | (simp; done) | (simp; omega)) ?_ rfl
        refine t_cats rfl rfl (by first | omega | (simp; done) | (simp; omega)) ?_ rfl
        refine t_callx Tryz.call77 rfl (spec_FormatInt _ _ (by assumption)) ?_ rfl rfl
        intro w72 x73
        have B := bx Hb B x73
        have S := S.below x73
        refine t_cats rfl rfl (by first | omega | (simp; done) | (simp; omega)) ?_ rfl
        refine t_assign rfl ?_ rfl
        refine t_done' ?_
        refine x_block_normal ?_
        refine x_seq ?_
        refine w_region ?_
        refine t_move rfl ?_ rfl
        refine t_add rfl rfl (by omega) ?_ rfl
        refine t_assign rfl ?_ rfl
        refine t_done ?_
        refine x_round (X := Nat × List UInt8) (k + 1, ((((s ++ (fmtI x.ing)) ++ ([62])) ++ (fmtAS t x.ia)) ++ ([62])) ++ (fmtI x.eg)) ?_ (by exact ⟨rfl, rfl, rfl, rfl, rfl, trivial⟩) (by (try dsimp only); omega)
        try dsimp only
        refine ⟨by omega, ?_, B, S⟩
        have hs0 : s = [] := by rw [ha, hk1]; rfl
        rw [take_succ hx, hk1, List.take_zero, List.nil_append, List.map_cons, List.map_nil, hs0]
        show _ = jn [32] ([] ++ [stepTxt t x])
        rw [jn_first]
        unfold stepTxt
        simp only [List.append_assoc, List.nil_append]
    · intro hge
      rw [List.take_of_length_le (by omega)] at ha
      refine w_exit ?_
      refine x_then_exit ?_
      refine x_then_exit ?_
      refine x_block_exit ?_
      refine x_seq ?_
      refine w_seq ?_
      refine w_seq ?_
      refine w_region ?_
      refine t_move rfl ?_ rfl
      refine t_len e_step (S.sl) rfl rfl ?_ rfl
      refine t_eql rfl rfl ?_ rfl
      refine t_done ?_
      refine x_seq ?_
      refine w_if rfl ?_ ?_
      · intro h0
        refine w_seq ?_
        refine w_region ?_
        refine t_assign rfl ?_ rfl
        refine t_done ?_
        refine x_seq ?_
        refine w_ret ?_
        refine x_then_ret ?_
        refine x_ret1 rfl rfl ?_
        exact ⟨ret_str (by unfold fmtPath; rw [if_pos (by omega)]), ext_trans X0 B⟩
      · intro h0
        refine w_skip ?_
        refine x_seq ?_
        refine w_seq ?_
        refine w_region ?_
        refine t_move rfl ?_ rfl
        refine t_assign rfl ?_ rfl
        refine t_done ?_
        refine x_seq ?_
        refine w_ret ?_
        refine x_ret1 rfl rfl ?_
        exact ⟨ret_str (by unfold fmtPath; rw [if_neg (by omega), ha]), ext_trans X0 B⟩
end Go.Proofs.YtdaecknfahgddaaGreat
namespace Go.Proofs.YtdaecknfahgddaaGreat
open Go.RowKit
set_option linter.unusedVariables false
/-- The ends of a path. -/
def endA (p : Path) : Int := if (pathSteps p).length = 0 then -1 else (firstOf (pathSteps p)).ia
def endB (p : Path) : Int := if (pathSteps p).length = 0 then -1 else (lastOf (pathSteps p)).ia
set_option maxRecDepth 100000 in
set_option maxHeartbeats 1000000 in
theorem impl_Endpoints (p : Path) (cs : List Value) (w : World) (h : pathT.R w cs p) (hz : sz_path p ≤ 1048576) (hl : lenOk_path p) (hg : rng_path p) :
    Calls Tryz.prog 10 #[.agg cs.toArray] w fun e w' => e = .returned (.tuple #[I (endA p), I (endB p)]) ∧ Below w.heap.size w w' := by
  have h0 := h
  obtain ⟨A, c, rfl, _⟩ := path_form h
  have hsl := Nat.le_trans (pathSteps_len p) hz
  have HC := hid fun w' (hw : Below w.heap.size w w') => impl_PathSteps p _ w' (pathT.kp h0 hw) hz hl hg
  clear hz hl hg h h0
  have hb0 : Below w.heap.size w (w.alloc (.cells #[.slice A (List.length p) c] 30)) := ext_alloc1 _ _
  obtain ⟨a, Ha⟩ : ∃ a, Hid (a = endA p) := ⟨_, rfl⟩
  obtain ⟨b, Hb⟩ : ∃ b, Hid (b = endB p) := ⟨_, rfl⟩
  rw [← Ha.out, ← Hb.out]
  go_enter Tryz.func10, Tryz.ntmps10
  go_wp2_with (fail)
  refine (HC.out _ hb0).mono ?_
  rintro e w1 ⟨v1, fp1, rfl, hO1, hb1⟩
  obtain ⟨Av, cv, ev, _⟩ := hO1.form
  subst ev
  obtain ⟨l, Hl⟩ : ∃ l, Hid (l = pathSteps p) := ⟨_, rfl⟩
  rw [← Hl.out] at hO1 hsl ⊢
  have x1 := hid (ext_trans hb0 hb1)
  clear hb0 hb1 HC
  rcases Nat.eq_zero_or_pos l.length with hl0 | hl0
  · have HA : Hid (a = -1) := by show _ = _; rw [Ha.out]; unfold endA; rw [← Hl.out, if_pos hl0]
    have HB : Hid (b = -1) := by show _ = _; rw [Hb.out]; unfold endB; rw [← Hl.out, if_pos hl0]
    rw [hl0]
    clear hl0 hO1 hsl
    go_wp2_with (fail)
    go_ret2
    exact ⟨by rw [HA.out, HB.out]; rfl, x1.out⟩
  · obtain ⟨L, HL⟩ : ∃ L, l.length = L + 1 := ⟨l.length - 1, by omega⟩
    obtain ⟨g, o, q, sf, e1, hg1, hsf, r0, r1, r2⟩ := step_at (k := 0) hO1.read (by omega)
    cases e1
    obtain ⟨g', o', q', sg, e2, hg2, hsg, s0, s1, s2⟩ := step_at (k := L) hO1.read (by omega)
    cases e2
    simp only [Nat.zero_mul, Nat.add_zero] at r0 r1 r2
    have HA : Hid (a = sf.ia) := by show _ = _; rw [Ha.out]; unfold endA; rw [← Hl.out, if_neg (by omega), firstOf_at hsf.out]
    have HB : Hid (b = sg.ia) := by show _ = _; rw [Hb.out]; unfold endB; rw [← Hl.out, if_neg (by omega), lastOf_at (by rw [HL]; exact hsg.out)]
    have hL2 : L ≤ 1048576 := by omega
    have hL3 : L < L + 1 := Nat.lt_succ_self L
    rw [HL] at hO1 ⊢
    clear hl0 HL r1 r2 s1 s2 hsl
    go_wp2_with (fail)
    go_quiet (fail)
    go_wp2_with (fail)
    go_ret2
    exact ⟨by rw [HA.out, HB.out]; rfl, below_drewN x1.out _⟩
set_option maxRecDepth 100000 in
set_option maxHeartbeats 1000000 in
theorem spec_Endpoints (p : Path) (cs : List Value) (w : World) (h : pathT.R w cs p) (hz : sz_path p ≤ 1048576) (hl : lenOk_path p) (hg : rng_path p) :
    Calls Tryz.prog 11 #[.agg cs.toArray] w fun e w' => e = .returned (.tuple #[I (endA p), I (endB p)]) ∧ Below w.heap.size w w' := by
  have h0 := h
  obtain ⟨A, c, rfl, _⟩ := path_form h
  have hsl := Nat.le_trans (pathSteps_len p) hz
  have HC := hid fun w' (hw : Below w.heap.size w w') => spec_PathSteps p _ w' (pathT.kp h0 hw) hz hl hg
  clear hz hl hg h h0
  have hb0 : Below w.heap.size w (w.alloc (.cells #[.slice A (List.length p) c] 30)) := ext_alloc1 _ _
  obtain ⟨a, Ha⟩ : ∃ a, Hid (a = endA p) := ⟨_, rfl⟩
  obtain ⟨b, Hb⟩ : ∃ b, Hid (b = endB p) := ⟨_, rfl⟩
  rw [← Ha.out, ← Hb.out]
  go_enter Tryz.func11, Tryz.ntmps11
  go_wp2_with (fail)
  refine (HC.out _ hb0).mono ?_
  rintro e w1 ⟨v1, fp1, rfl, hO1, hb1⟩
  obtain ⟨Av, cv, ev, _⟩ := hO1.form
  subst ev
  obtain ⟨l, Hl⟩ : ∃ l, Hid (l = pathSteps p) := ⟨_, rfl⟩
  rw [← Hl.out] at hO1 hsl ⊢
  have x1 := hid (ext_trans hb0 hb1)
  clear hb0 hb1 HC
  rcases Nat.eq_zero_or_pos l.length with hl0 | hl0
  · have HA : Hid (a = -1) := by show _ = _; rw [Ha.out]; unfold endA; rw [← Hl.out, if_pos hl0]
    have HB : Hid (b = -1) := by show _ = _; rw [Hb.out]; unfold endB; rw [← Hl.out, if_pos hl0]
    rw [hl0]
    clear hl0 hO1 hsl
    go_wp2_with (fail)
    go_ret2
    exact ⟨by rw [HA.out, HB.out]; rfl, x1.out⟩
  · obtain ⟨L, HL⟩ : ∃ L, l.length = L + 1 := ⟨l.length - 1, by omega⟩
    obtain ⟨g, o, q, sf, e1, hg1, hsf, r0, r1, r2⟩ := step_at (k := 0) hO1.read (by omega)
    cases e1
    obtain ⟨g', o', q', sg, e2, hg2, hsg, s0, s1, s2⟩ := step_at (k := L) hO1.read (by omega)
    cases e2
    simp only [Nat.zero_mul, Nat.add_zero] at r0 r1 r2
    have HA : Hid (a = sf.ia) := by show _ = _; rw [Ha.out]; unfold endA; rw [← Hl.out, if_neg (by omega), firstOf_at hsf.out]
    have HB : Hid (b = sg.ia) := by show _ = _; rw [Hb.out]; unfold endB; rw [← Hl.out, if_neg (by omega), lastOf_at (by rw [HL]; exact hsg.out)]
    have hL2 : L ≤ 1048576 := by omega
    have hL3 : L < L + 1 := Nat.lt_succ_self L
    rw [HL] at hO1 ⊢
    clear hl0 HL r1 r2 s1 s2 hsl
    go_wp2_with (fail)
    go_quiet (fail)
    go_wp2_with (fail)
    go_ret2
    exact ⟨by rw [HA.out, HB.out]; rfl, below_drewN x1.out _⟩
end Go.Proofs.YtdaecknfahgddaaGreat
namespace Go.Proofs.YtdaecknfahgddaaGreat
set_option linter.unusedVariables false
section
variable (P : Program) (f : FuncId) (fn : Func) (s : ChangeSpec) (c : OpenClaim)
def jnA : Bool := c.wf (OpenSpec.ofChange s) && laidOutB P && mapsRowed P && fn.params.all (P.readableRec ·) && namedTie P c.named s.vars && (c.stops == []) && (P.stops == []) && (c.knobs == []) && (P.stopKnobs == [])
def jnB : Bool := (c.inPlace == P.inPlace f) && (c.unfollowed == P.unfollowed f) && (c.recurses == P.recurses f) && (c.named == P.varsNamed f)
def jnC : Bool := (c.maps == (fn.params.toList ++ s.plain.varTypes P).any (P.mapsRec ·)) && (c.ifaces == (fn.params.toList ++ s.plain.varTypes P).any (P.ifacesRec ·)) && (c.mapsOut == P.mapsAmong fn.resultTypes.toList) &&
  (c.loops == (fn.params.toList ++ s.plain.varTypes P).any (P.loopsFrom ·)) && (c.wideKeys == (fn.params.toList ++ s.plain.varTypes P ++ fn.resultTypes.toList).any (P.wideKeysFrom ·)) &&
  s.vars.all (P.varReadable ·) && fn.resultTypes.all (fun t => P.readableRec t && decide (t < P.types.size)) && (c.ifacesOut == fn.resultTypes.toList.any (P.ifacesRec ·)) && (c.loopsOut == fn.resultTypes.toList.any (P.loopsFrom ·)) && (c.plainKeys == P.plainKeys) && c.shortTexts.isNone
def jnD : Bool := P.stopsHeard
def jnE : Bool := P.mayEnter
def jnF : Bool := c.lifted == P.liftsFinal
def jnG : Bool := P.make == some c.make
def jnH : Bool := (c.kinds == (if c.domain.isEmpty then [] else fn.params.toList.map fun t => match P.underlying t with | some (.int k) => some k | _ => none))
def jnI : Bool := c.pinned == c.pinnedBy
def jnJ : Bool := (c.veiled == (fn.params.toList ++ s.plain.varTypes P ++ fn.resultTypes.toList).any (P.veiledRec ·)) && c.veiledFits P fn.params.toList (fn.params.toList ++ s.plain.varTypes P ++ fn.resultTypes.toList)
end
theorem joined_of {P : Program} {f : FuncId} {fn : Func} {s : ChangeSpec} {c : OpenClaim} (hA : jnA P fn s c = true) (hB : jnB P f c = true) (hC : jnC P fn s c = true) (hD : jnD P = true) (hE : jnE P = true) (hF : jnF P c = true) (hG : jnG P c = true) (hH : jnH P fn c = true) (hI : jnI c = true) (hJ : jnJ P fn s c = true) : joinedFacts P f fn s c = true := by
  unfold jnA at hA
  unfold jnB at hB
  unfold jnC at hC
  unfold jnD at hD
  unfold jnE at hE
  unfold jnF at hF
  unfold jnG at hG
  unfold jnH at hH
  unfold jnI at hI
  unfold jnJ at hJ
  simp only [Bool.and_eq_true] at hA hB hC hJ
  unfold joinedFacts
  simp only [Bool.and_eq_true]
  obtain ⟨⟨⟨⟨⟨⟨⟨⟨a1, a2⟩, a3⟩, a4⟩, a5⟩, a6⟩, a7⟩, a8⟩, a9⟩ := hA
  obtain ⟨⟨⟨b1, b2⟩, b3⟩, b4⟩ := hB
  obtain ⟨⟨⟨⟨⟨⟨⟨⟨⟨⟨c1, c2⟩, c3⟩, c4⟩, c5⟩, c6⟩, c7⟩, c8⟩, c9⟩, c10⟩, c11⟩ := hC
  obtain ⟨d1, d2⟩ := hJ
  exact ⟨⟨⟨⟨⟨⟨⟨⟨⟨⟨⟨⟨⟨⟨⟨⟨⟨⟨⟨⟨⟨⟨⟨⟨⟨⟨⟨⟨⟨⟨⟨a1, a2⟩, a3⟩, a4⟩, a5⟩, a6⟩, a7⟩, a8⟩, a9⟩, b1⟩, b2⟩, b3⟩, b4⟩, c1⟩, c2⟩, c3⟩, c4⟩, c5⟩, c6⟩, c7⟩, c8⟩, c9⟩, c10⟩, c11⟩, hD⟩, hE⟩, hF⟩, hG⟩, hH⟩, hI⟩, d1⟩, d2⟩
end Go.Proofs.YtdaecknfahgddaaGreat
namespace Go.Proofs.YtdaecknfahgddaaGreat
open Go.ChangeShapes Go.WideShapes Go.ChangeAt Go.RowKit Go.Deep
set_option linter.unusedVariables false
set_option maxRecDepth 100000
theorem knob : ownKnob Tryz.prog.godebug = none := by kernel_rfl
theorem laidOut : laidOutB Tryz.prog = true := by kernel_rfl
section
variable {H : Type} {enc : TypeId × Value → H} {P : Program} {w : World} {base : Nat} {spare : Nat → Bool} {held : Bool}
/-- A slice, by its elements. -/
theorem open_sl {α : Type} (T : Ty α) (good : α → Prop) {t e : TypeId} (ht : P.underlying t = some (.slice e)) (hC : P.cellsOf e = T.size)
    (hel : ∀ (n : Nat) cs y, DataW.trod enc P w base spare held n e cs = some y → ∃ a, T.R w cs a ∧ good a) {fuel : Nat} {cs : List Value} {x : DataW H × List MemPlace} (h : DataW.trod enc P w base spare held fuel t cs = some x) :
    ∃ A c l, cs = [.slice A l.length c] ∧ SlR T w (.slice A l.length c) l ∧ l.length ≤ 9223372036854775807 ∧ ∀ a ∈ l, good a := by
  rcases open_slice ht h with ⟨h0, _⟩ | ⟨a, len, cap, m, n, D, Pl, hcs, hb, hl, hm, hmm, hx, hi⟩
  · exact ⟨none, 0, [], h0, ⟨none, 0, [], rfl, Nat.le_refl _, rfl, Rd.nil, fun i cs a hi => by simp at hi⟩, by simp, by simp⟩
  · have hlm : len ≤ m := by rw [hmm]; split <;> omega
    have hall : ∀ i : Fin len, ∃ (cs : List Value) (x : α), T.R w cs x ∧ good x ∧ cs.length = T.size ∧ ∀ j, j < T.size → w.cell? ((a.add (i * T.size)).add j) = cs[j]? := fun i => by
      obtain ⟨cs', h1, h2⟩ := hi i (by omega)
      obtain ⟨x, h3, h4⟩ := hel _ _ _ h2
      obtain ⟨_, h5, h6⟩ := World.cells?_some h1
      rw [hC] at h5 h6
      exact ⟨cs', x, h3, h4, h5, h6⟩
    obtain ⟨f, hf⟩ := Classical.axiomOfChoice hall
    obtain ⟨g, hg⟩ := Classical.axiomOfChoice hf
    have hlen : (List.ofFn g).length = len := List.length_ofFn
    refine ⟨some a, cap, List.ofFn g, by rw [hlen]; exact hcs, ⟨some a, cap, List.ofFn f, rfl, by rw [hlen]; exact hl, by simp, ?_, ?_⟩, by rw [hlen]; simp only [maxLen] at hm; omega, ?_⟩
    · intro hpos
      have hp : 0 < len := by
        rcases Nat.eq_zero_or_pos len with h0 | h0
        · subst h0; simp at hpos
        · exact h0
      have hsz := T.pos
      have hc0 := (hg ⟨0, hp⟩).2.2.2 0 hsz
      simp only [Nat.zero_mul] at hc0
      have hspot : a.spot = none := by
        have hsome : (w.cell? a).isSome = true := by
          have h9 : w.cell? a = (f ⟨0, hp⟩)[0]? := by
            have : (a.add 0).add 0 = a := by simp [Addr.add]
            rw [← this]; exact hc0
          rw [h9, List.getElem?_eq_getElem (by rw [(hg ⟨0, hp⟩).2.2.1]; exact hsz)]
          rfl
        unfold World.cell? at hsome
        split at hsome
        · split at hsome
          · simp at hsome
          · rename_i hs; simpa using hs
        · simp at hsome
      obtain ⟨ab, ao, as'⟩ := a
      simp only at hspot
      subst hspot
      refine ⟨ab, ao, rfl, fun j u hu => ?_⟩
      have hfl : ∀ (i : Nat) cs, (List.ofFn f)[i]? = some cs → cs.length = T.size := fun i cs hi => by
        obtain ⟨hlt, rfl⟩ := List.getElem?_eq_some_iff.1 hi
        rw [List.getElem_ofFn]
        exact (hg _).2.2.1
      have hj : j < len * T.size := by
        have := (List.getElem?_eq_some_iff.1 hu).1
        rw [flatten_len hfl, List.length_ofFn] at this
        exact this
      have hq : j / T.size < len := Nat.div_lt_of_lt_mul (by rw [Nat.mul_comm]; exact hj)
      have hr := Nat.mod_lt j hsz
      have ej : j / T.size * T.size + j % T.size = j := by rw [Nat.mul_comm]; exact Nat.div_add_mod j T.size
      have h1 := (hg ⟨j / T.size, hq⟩).2.2.2 (j % T.size) hr
      have h2 := flatten_at hfl (j / T.size) (f ⟨j / T.size, hq⟩) (by rw [List.getElem?_ofFn, dif_pos hq]) (j % T.size) hr
      rw [ej] at h2
      rw [Addr.add_lit, Addr.add_lit] at h1
      simp only [Nat.add_assoc] at h1
      rw [ej] at h1
      rw [h1, ← h2]
      exact hu
    · intro i cs x hi hx
      have hlt : i < len := by
        have := (List.getElem?_eq_some_iff.1 hi).1
        simpa using this
      rw [List.getElem?_ofFn, dif_pos hlt] at hi hx
      injection hi with hi
      injection hx with hx
      subst hi hx
      exact (hg _).1
    · intro x hx
      obtain ⟨i, hi, rfl⟩ := List.getElem_of_mem hx
      rw [List.getElem_ofFn]
      exact (hg _).2.1
end
section
variable {H : Type} {enc : TypeId × Value → H} {w : World} {base : Nat} {spare : Nat → Bool} {held : Bool}
end
end Go.Proofs.YtdaecknfahgddaaGreat
namespace Go.Proofs.YtdaecknfahgddaaGreat
open Go.ChangeShapes Go.WideShapes Go.ChangeAt Go.RowKit Go.Deep
set_option linter.unusedVariables false
set_option maxRecDepth 100000
section
variable {H : Type} {enc : TypeId × Value → H} {w : World} {base : Nat} {spare : Nat → Bool} {held : Bool}
theorem byte_of (n : Nat) (cs : List Value) (y : DataW H × List MemPlace) (h : DataW.trod enc Tryz.prog w base spare held n 5 cs = some y) : ∃ a : UInt8, byteT.R w cs a ∧ True := by
  obtain ⟨a, e, _, wf⟩ := DataW.trod_int Tryz.underlying5 h
  have hb := bounds_u8 wf
  refine ⟨UInt8.ofNat a.toNat, ?_, trivial⟩
  show cs = [.int .u8 ((UInt8.ofNat a.toNat).toNat : Int)]
  rw [e, UInt8.toNat_ofNat', Nat.mod_eq_of_lt (by omega), Int.toNat_of_nonneg hb.1]
end
end Go.Proofs.YtdaecknfahgddaaGreat
namespace Go.Proofs.YtdaecknfahgddaaGreat
open Go.ChangeShapes Go.WideShapes Go.ChangeAt Go.RowKit Go.Deep
set_option linter.unusedVariables false
set_option maxRecDepth 100000
section
variable {H : Type} {enc : TypeId × Value → H} {w : World} {base : Nat} {spare : Nat → Bool} {held : Bool}
theorem open_byteS {r : Reach} {b0 : Nat} {v : Value} {d : DataW H} {p : List MemPlace} (hv : Value.okWide Tryz.prog w r b0 22 v) (h : DataW.Trod enc Tryz.prog w base spare held 22 v d p) :
    ∃ l, SlR byteT w v l ∧ l.length ≤ 9223372036854775807 := by
  obtain ⟨a0, len, cap, rfl⟩ := okWide_slice Tryz.underlying22 hv
  obtain ⟨fuel, hf⟩ := h
  obtain ⟨A, c, l, e, hR, hn, hg⟩ := open_sl byteT (fun _ => True) Tryz.underlying22 (by kernel_rfl) byte_of hf
  simp [Value.cells] at e
  obtain ⟨rfl, rfl, rfl⟩ := e
  exact ⟨l, hR, hn⟩
end
end Go.Proofs.YtdaecknfahgddaaGreat
