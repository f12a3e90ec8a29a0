/- laws.FnExactNewPacket returns true, for all arguments: the walk of the law out of contracts, and the row. No condition. (Printed by law2.py.) -/
import Derived.Test.YtfgobdejlfojiaaWkU
import Derived.Test.YtfgobdejlfojiaaJoined
import Derived.Test.YtfgobdejlfojiaaEqs
import Derived.Test.YtfgobdejlfojiaaHole
import Derived.Test.YtfgobdejlfojiaaMarks2
import Derived.Test.YtfgobdejlfojiaaSepN
import Derived.Test.YtfgobdejlfojiaaOkz
import Derived.Test.YtfgobdejlfojiaaMarks3
import Derived.Test.YtfgobdejlfojiaaFamPath
import Derived.Test.YtfgobdejlfojiaaFamByte
import Derived.Test.YtfgobdejlfojiaaOpenVrd
import Derived.Test.YtfgobdejlfojiaaOpen
namespace Go.Proofs.Ytfgobdejlfojiaa
open Go.RowKit
set_option linter.unusedVariables false

set_option maxRecDepth 20000

theorem szI_pos {left : Int} {n : Nat} (h0 : 0 ≤ left) (h : ¬ szI left n < 0) : (n : Int) ≤ left ∧ szI left n = left - n := by
  unfold szI at *
  split at h
  · rename_i h1; exact ⟨h1, by rw [if_pos h1]⟩
  · omega

set_option maxHeartbeats 1000000 in
theorem lawNewPacket (d0 : Int) (d1 : Path) (cs1 : List Value) (d2 : Int) (d3 : Int) (d4 : List UInt8) (v4 : Value) (w : World) (g0 : In64 d0) (h1 : pathT.R w cs1 d1) (l1 : lenOk_path d1) (g1 : rng_path d1) (g2 : In64 d2) (g3 : In64 d3) (f4 : SlR byteT w v4 d4) (l4 : d4.length ≤ 9223372036854775807) :
    Calls Try.prog 8 #[I d0, .agg cs1.toArray, I d2, I d3, v4] w fun r w' => r = .returned (.bool true) ∧ Below w.heap.size w w' := by
  have f1 : VA pathT w (.agg cs1.toArray) d1 := ⟨cs1, rfl, h1⟩
  generalize Value.agg cs1.toArray = v1 at f1 ⊢
  clear h1
  have hcb1 : 0 ≤ cnt_parts d1 ∧ cnt_parts d1 ≤ 5 * (sz_path d1 : Int) := cnt_parts_bd d1
  have hr0 : sz_pkt (newPkt d0 d1 d2 d3 d4) = sz_path d1 + d4.length := rfl
  have hr1 : cnt_pkt (newPkt d0 d1 d2 d3 d4) = cnt_parts d1 + 1 * (d4.length : Int) := rfl
  have X0 := Below.refl w.heap.size w
  refine enter Try.func8 rfl Try.ntmps8 rfl ?_
  refine w_seq ?_
  refine w_region ?_
  refine t_boxr (by assumption) rfl ?_ rfl rfl
  intro p6 w1 x2 hp6
  replace f1 := f1.below x2
  replace f4 := f4.below x2
  have X0 := ext_trans X0 x2
  have S := Sep.nil w1
  have B := Below.refl w1.heap.size w1
  have Hb := Nat.le_refl w1.heap.size
  refine t_assign rfl ?_ rfl
  refine t_done ?_
  refine x_seq ?_
  refine w_seq ?_
  refine w_seq ?_
  refine w_region ?_
  refine t_move rfl ?_ rfl
  refine t_len e_byte (by assumption) rfl rfl ?_ rfl
  refine t_gtr rfl rfl ?_ rfl
  refine t_done ?_
  refine x_seq ?_
  refine w_if rfl ?_ ?_
  · intro _
    refine w_seq ?_
    refine w_region ?_
    refine t_assign rfl ?_ rfl
    refine t_done ?_
    refine x_seq ?_
    refine w_ret ?_
    refine x_then_ret ?_
    refine x_ret1 rfl rfl ?_
    exact ⟨rfl, ext_trans X0 B⟩
  intro hz3
  refine w_skip ?_
  refine x_seq ?_
  refine w_seq ?_
  refine w_region ?_
  refine t_assign rfl ?_ rfl
  refine t_done ?_
  refine x_seq ?_
  refine w_seq ?_
  refine w_region ?_
  refine t_lda (by assumption) ab_l_path sb_l_path B rfl ?_ rfl
  intro v23 hv23
  obtain ⟨v23_0, rfl, hv23_0⟩ := path_va hv23
  refine t_move rfl ?_ rfl
  refine t_callx Try.call16 rfl (va1 (by first | assumption | exact VA.below (by assumption) B | exact path_mkv (by first | assumption | exact SlR.below (by assumption) B)) fun cs h => szc_path _ cs _ _ h (by omega) (by omega) (by assumption)) ?_ rfl rfl
  intro w4 x5
  have B := bx Hb B x5
  have S := S.below x5
  refine t_assign rfl ?_ rfl
  refine t_done ?_
  refine x_seq ?_
  refine w_seq ?_
  refine w_seq ?_
  refine w_region ?_
  refine t_move rfl ?_ rfl
  refine t_lss rfl rfl ?_ rfl
  refine t_done ?_
  refine x_seq ?_
  refine w_if rfl ?_ ?_
  · intro _
    refine w_seq ?_
    refine w_region ?_
    refine t_assign rfl ?_ rfl
    refine t_done ?_
    refine x_seq ?_
    refine w_ret ?_
    refine x_then_ret ?_
    refine x_ret1 rfl rfl ?_
    exact ⟨rfl, ext_trans X0 B⟩
  intro hz6
  have hz6 := szI_pos (by omega) hz6
  refine w_skip ?_
  refine x_seq ?_
  refine w_seq ?_
  refine w_region ?_
  refine t_move rfl ?_ rfl
  refine t_lda (by assumption) ab_l_path sb_l_path B rfl ?_ rfl
  intro v29 hv29
  obtain ⟨v29_0, rfl, hv29_0⟩ := path_va hv29
  refine t_call Try.call19 rfl (va1 (by first | assumption | exact VA.below (by assumption) B | exact path_mkv (by first | assumption | exact SlR.below (by assumption) B)) fun cs h => to_path _ cs _ h (by omega)) ?_ rfl rfl
  rintro e w7 ⟨cs30, fp30, rfl, hO30, x8⟩
  refine ⟨_, rfl, x8, ?_⟩
  have S := S.add (o := tyO pathT _ _) x8 hO30
  have B := bx Hb B x8
  obtain ⟨u30_0, heq, S2⟩ := S.pathOpen
  subst heq
  have S := S2
  clear S2
  refine t_move rfl ?_ rfl
  refine t_move rfl ?_ rfl
  refine t_move rfl ?_ rfl
  refine t_call Try.call35 rfl (to_byteS _ _ _ (by first | assumption | exact SlR.below (by assumption) B) (by omega)) ?_ rfl rfl
  rintro e w9 ⟨v34, fpv34, rfl, hOv34, x10⟩
  refine ⟨_, rfl, x10, ?_⟩
  have S := S.add (o := slO _ _ _ _) x10 hOv34
  have B := bx Hb B x10
  refine t_call Try.call41 rfl (spec_NewPacket _ _ _ _ _ _ _ _ (path_mkv (S.tail.sl)) (S.sl) (by omega) (by omega) (by assumption) (by assumption)) ?_ rfl rfl
  rintro e w11 ⟨cs35, fp35, rfl, hO35, x12⟩
  refine ⟨_, rfl, x12, ?_⟩
  have S := S.add (o := tyO pktT _ _) x12 hO35
  have B := bx Hb B x12
  obtain ⟨u35_3, u35_9, heq, S2⟩ := S.pktOpen
  subst heq
  have S := S2
  clear S2
  refine t_alloc S z_pkt rfl ?_ rfl rfl
  intro g12 w13 x14 S
  have B := bx Hb B x14
  refine t_stn S sb_pkt rfl rfl rfl rfl (by intro zz hu; have hu : zz ∈ ([I ((newPkt d0 d1 d2 d3 d4).kind), I ((newPkt d0 d1 d2 d3 d4).src), I ((newPkt d0 d1 d2 d3 d4).dst), u35_3, I ((newPkt d0 d1 d2 d3 d4).pidx), I ((newPkt d0 d1 d2 d3 d4).hidx), I ((newPkt d0 d1 d2 d3 d4).beta), I ((newPkt d0 d1 d2 d3 d4).rid), I ((newPkt d0 d1 d2 d3 d4).seq), u35_9] : List Value) := hu; simp only [List.mem_cons, List.not_mem_nil, or_false] at hu; rcases hu with rfl | rfl | rfl | rfl | rfl | rfl | rfl | rfl | rfl | rfl <;> first | rfl | exact (SlR.cells (by first | assumption | exact S.tail.sl | exact S.tail.tail.sl | exact S.tail.tail.tail.sl | exact S.tail.tail.tail.tail.sl | exact S.tail.tail.tail.tail.tail.sl | exact S.tail.tail.tail.tail.tail.tail.sl | exact S.tail.tail.tail.tail.tail.tail.tail.sl | exact S.tail.tail.tail.tail.tail.tail.tail.tail.sl)).2) ?_
  intro w15 b16 S
  have B := B.trans b16
  refine t_done ?_
  refine x_seq ?_
  refine w_seq ?_
  refine w_region ?_
  refine t_lda (by assumption) ab_l_path sb_l_path B rfl ?_ rfl
  intro v36 hv36
  obtain ⟨v36_0, rfl, hv36_0⟩ := path_va hv36
  refine t_call Try.call19 rfl (va1 (by first | assumption | exact VA.below (by assumption) B | exact path_mkv (by first | assumption | exact SlR.below (by assumption) B)) fun cs h => to_path _ cs _ h (by omega)) ?_ rfl rfl
  rintro e w17 ⟨cs37, fp37, rfl, hO37, x18⟩
  refine ⟨_, rfl, x18, ?_⟩
  have S := S.add (o := tyO pathT _ _) x18 hO37
  have B := bx Hb B x18
  obtain ⟨u37_0, heq, S2⟩ := S.pathOpen
  subst heq
  have S := S2
  clear S2
  refine t_alloc S z_path rfl ?_ rfl rfl
  intro g13 w19 x20 S
  have B := bx Hb B x20
  refine t_stn S sb_path rfl rfl rfl rfl (by intro zz hu; have hu : zz ∈ ([u37_0] : List Value) := hu; simp only [List.mem_cons, List.not_mem_nil, or_false] at hu; rcases hu with rfl <;> first | rfl | exact (SlR.cells (by first | assumption | exact S.tail.sl | exact S.tail.tail.sl | exact S.tail.tail.tail.sl | exact S.tail.tail.tail.tail.sl | exact S.tail.tail.tail.tail.tail.sl | exact S.tail.tail.tail.tail.tail.tail.sl | exact S.tail.tail.tail.tail.tail.tail.tail.sl | exact S.tail.tail.tail.tail.tail.tail.tail.tail.sl)).2) ?_
  intro w21 b22 S
  have B := B.trans b22
  refine t_done ?_
  refine x_seq ?_
  refine w_seq ?_
  refine w_region ?_
  refine t_move rfl ?_ rfl
  refine t_call Try.call35 rfl (to_byteS _ _ _ (by first | assumption | exact SlR.below (by assumption) B) (by omega)) ?_ rfl rfl
  rintro e w23 ⟨v39, fpv39, rfl, hOv39, x24⟩
  refine ⟨_, rfl, x24, ?_⟩
  have S := S.add (o := slO _ _ _ _) x24 hOv39
  have B := bx Hb B x24
  refine t_assign rfl ?_ rfl
  refine t_done ?_
  refine x_seq ?_
  refine w_seq ?_
  refine w_region ?_
  refine t_move rfl ?_ rfl
  refine t_bxn S.tail.box ab_path sb_path rfl rfl ?_ rfl
  refine t_move rfl ?_ rfl
  refine t_move rfl ?_ rfl
  refine t_move rfl ?_ rfl
  refine t_call Try.call42 rfl (impl_NewPacket _ _ _ _ _ _ _ _ (path_mkv (S.tail.tail.sl)) (S.sl) (by omega) (by omega) (by assumption) (by assumption)) ?_ rfl rfl
  rintro e w25 ⟨cs45, fp45, rfl, hO45, x26⟩
  refine ⟨_, rfl, x26, ?_⟩
  have S := S.add (o := tyO pktT _ _) x26 hO45
  have B := bx Hb B x26
  obtain ⟨u45_3, u45_9, heq, S2⟩ := S.pktOpen
  subst heq
  have S := S2
  clear S2
  refine t_alloc S z_pkt rfl ?_ rfl rfl
  intro g15 w27 x28 S
  have B := bx Hb B x28
  refine t_stn S sb_pkt rfl rfl rfl rfl (by intro zz hu; have hu : zz ∈ ([I ((newPkt d0 d1 d2 d3 d4).kind), I ((newPkt d0 d1 d2 d3 d4).src), I ((newPkt d0 d1 d2 d3 d4).dst), u45_3, I ((newPkt d0 d1 d2 d3 d4).pidx), I ((newPkt d0 d1 d2 d3 d4).hidx), I ((newPkt d0 d1 d2 d3 d4).beta), I ((newPkt d0 d1 d2 d3 d4).rid), I ((newPkt d0 d1 d2 d3 d4).seq), u45_9] : List Value) := hu; simp only [List.mem_cons, List.not_mem_nil, or_false] at hu; rcases hu with rfl | rfl | rfl | rfl | rfl | rfl | rfl | rfl | rfl | rfl <;> first | rfl | exact (SlR.cells (by first | assumption | exact S.tail.sl | exact S.tail.tail.sl | exact S.tail.tail.tail.sl | exact S.tail.tail.tail.tail.sl | exact S.tail.tail.tail.tail.tail.sl | exact S.tail.tail.tail.tail.tail.tail.sl | exact S.tail.tail.tail.tail.tail.tail.tail.sl | exact S.tail.tail.tail.tail.tail.tail.tail.tail.sl)).2) ?_
  intro w29 b30 S
  have B := B.trans b30
  refine t_done ?_
  refine x_seq ?_
  refine w_seq ?_
  refine w_seq ?_
  refine w_region ?_
  refine t_bxn S.box ab_pkt sb_pkt rfl rfl ?_ rfl
  refine t_bxn S.tail.tail.tail.tail.tail.tail.box ab_pkt sb_pkt rfl rfl ?_ rfl
  refine t_callx Try.call31 rfl (eqv_pkt _ _ _ _ (pkt_mkv (S.tail.sl) (S.tail.tail.sl)) (pkt_mkv (S.tail.tail.tail.tail.tail.tail.tail.sl) (S.tail.tail.tail.tail.tail.tail.tail.tail.sl)) (by omega)) ?_ rfl rfl
  intro w31 x32
  have B := bx Hb B x32
  have S := S.below x32
  refine t_notb rfl ?_ rfl
  refine t_done ?_
  refine x_seq ?_
  refine w_no rfl ?_
  refine w_skip ?_
  refine x_seq ?_
  refine w_seq ?_
  refine w_seq ?_
  refine w_draw (.st .take 0 (.st .take 1 (.st .run 2 (.st .run 3 (.st .take 4 .done))))) mixed (by kernel_rfl) ?_
  intro w33 x34
  have B := bx Hb B x34
  have S := S.below x34
  refine t_bxn S.tail.tail.tail.tail.box ab_path sb_path rfl rfl ?_ rfl
  refine t_lda (by assumption) ab_l_path sb_l_path B rfl ?_ rfl
  intro v51 hv51
  obtain ⟨v51_0, rfl, hv51_0⟩ := path_va hv51
  refine t_call Try.call19 rfl (va1 (by first | assumption | exact VA.below (by assumption) B | exact path_mkv (by first | assumption | exact SlR.below (by assumption) B)) fun cs h => to_path _ cs _ h (by omega)) ?_ rfl rfl
  rintro e w35 ⟨cs52, fp52, rfl, hO52, x36⟩
  refine ⟨_, rfl, x36, ?_⟩
  have S := S.add (o := tyO pathT _ _) x36 hO52
  have B := bx Hb B x36
  obtain ⟨u52_0, heq, S2⟩ := S.pathOpen
  subst heq
  have S := S2
  clear S2
  refine t_callx Try.call22 rfl (eqv_path _ _ _ _ (path_mkv (S.tail.tail.tail.tail.tail.tail.sl)) (path_mkv (S.sl)) (ok_path_big (by omega))) ?_ rfl rfl
  intro w37 x38
  have B := bx Hb B x38
  have S := S.below x38
  refine t_notb rfl ?_ rfl
  refine t_done' ?_
  refine x_seq ?_
  refine w_no rfl ?_
  refine w_skip ?_
  refine x_seq ?_
  refine w_seq ?_
  refine w_seq ?_
  refine w_region ?_
  refine t_move rfl ?_ rfl
  refine t_move rfl ?_ rfl
  refine t_call Try.call35 rfl (to_byteS _ _ _ (by first | assumption | exact SlR.below (by assumption) B) (by omega)) ?_ rfl rfl
  rintro e w39 ⟨v57, fpv57, rfl, hOv57, x40⟩
  refine ⟨_, rfl, x40, ?_⟩
  have S := S.add (o := slO _ _ _ _) x40 hOv57
  have B := bx Hb B x40
  refine t_callx Try.call37 rfl (eqv_bytes _ _ _ _ (S.tail.tail.tail.tail.tail.sl) (S.sl) (by omega)) ?_ rfl rfl
  intro w41 x42
  have B := bx Hb B x42
  have S := S.below x42
  refine t_notb rfl ?_ rfl
  refine t_done ?_
  refine x_seq ?_
  refine w_no rfl ?_
  refine w_skip ?_
  refine x_seq ?_
  refine w_seq ?_
  refine w_region ?_
  refine t_assign rfl ?_ rfl
  refine t_done ?_
  refine x_seq ?_
  refine w_seq ?_
  refine w_region ?_
  refine t_bxn S.tail.tail.tail.tail.tail.tail.box ab_path sb_path rfl rfl ?_ rfl
  refine t_move rfl ?_ rfl
  have S := S.f7
  refine t_callf Try.call39 rfl (mark_path _ _ _ _ _ _ S (by omega) (by omega)) ?_ rfl
  rintro e w43 ⟨rfl, S, x44⟩
  refine ⟨_, rfl, ?_⟩
  have B := B.trans x44
  refine t_assign rfl ?_ rfl
  refine t_done ?_
  refine x_seq ?_
  refine w_seq ?_
  refine w_region ?_
  refine t_move rfl ?_ rfl
  refine t_move rfl ?_ rfl
  have S := S.f6
  refine t_callf Try.call38 rfl (mark_byte _ _ _ _ _ _ S (by omega) (by omega)) ?_ rfl
  rintro e w45 ⟨rfl, S, x46⟩
  refine ⟨_, rfl, ?_⟩
  have B := B.trans x46
  refine t_assign rfl ?_ rfl
  refine t_done ?_
  refine x_seq ?_
  refine w_seq ?_
  refine w_seq ?_
  refine w_region ?_
  refine t_move rfl ?_ rfl
  refine t_lss rfl rfl ?_ rfl
  refine t_move rfl ?_ rfl
  refine t_partp (t := 68) rfl (fun h => (by exfalso; omega)) ?_
  intro hc68
  refine t_on rfl rfl ?_
  refine t_bxn S.tail.tail.tail.tail.box ab_pkt sb_pkt rfl rfl ?_ rfl
  refine t_on rfl rfl ?_
  refine t_bxn S.tail.tail.tail.tail.tail.tail.tail.tail.box ab_pkt sb_pkt rfl rfl ?_ rfl
  refine t_on rfl rfl ?_
  refine t_callx Try.call31 rfl (eqv_pkt _ _ _ _ (pkt_mkv (S.tail.tail.tail.tail.tail.sl) (S.tail.tail.tail.tail.tail.tail.sl)) (pkt_mkv (S.tail.tail.tail.tail.tail.tail.tail.tail.tail.sl) (S.tail.tail.tail.tail.tail.tail.tail.tail.tail.tail.sl)) (by omega)) ?_ rfl rfl
  intro w47 x48
  have B := bx Hb B x48
  have S := S.below x48
  refine t_on rfl rfl ?_
  refine t_notb rfl ?_ rfl
  refine t_pickf rfl rfl ?_ rfl
  refine t_done ?_
  refine x_seq ?_
  refine w_no rfl ?_
  refine w_skip ?_
  refine x_seq ?_
  refine w_seq ?_
  refine w_region ?_
  refine t_assign rfl ?_ rfl
  refine t_done ?_
  refine x_seq ?_
  refine w_seq ?_
  refine w_region ?_
  refine t_bxn S.tail.tail.tail.tail.box ab_pkt sb_pkt rfl rfl ?_ rfl
  refine t_move rfl ?_ rfl
  have S := S.f6
  have S := S.f6
  refine t_callf Try.call32 rfl (mark_pkt _ _ _ _ _ _ _ S (by omega) (by omega)) ?_ rfl
  rintro e w49 ⟨rfl, S, x50⟩
  refine ⟨_, rfl, ?_⟩
  have B := B.trans x50
  refine t_assign rfl ?_ rfl
  refine t_done ?_
  refine x_seq ?_
  refine w_seq ?_
  refine w_region ?_
  refine t_assign rfl ?_ rfl
  refine t_done ?_
  refine x_seq ?_
  refine w_seq ?_
  refine w_region ?_
  refine t_bxn S.tail.tail.tail.tail.tail.tail.box ab_pkt sb_pkt rfl rfl ?_ rfl
  refine t_move rfl ?_ rfl
  refine t_callx Try.call33 rfl (held_pkt (newPkt d0 d1 d2 d3 d4) _ _ _ _ _ _ _ _ _ _ _ _ (S.sl) (S.tail.sl) (by omega) (by omega)) ?_ rfl rfl
  intro w51 x52
  have B := bx Hb B x52
  have S := S.below x52
  refine t_assign rfl ?_ rfl
  refine t_done ?_
  refine x_seq ?_
  refine w_seq ?_
  refine w_seq ?_
  refine w_region ?_
  refine t_move rfl ?_ rfl
  refine t_lss rfl rfl ?_ rfl
  refine t_done ?_
  refine x_seq ?_
  refine w_if rfl (fun h => (by exfalso; omega)) ?_
  intro hc81
  refine w_skip ?_
  refine x_seq ?_
  refine w_seq ?_
  refine w_seq ?_
  refine w_region ?_
  refine t_move rfl ?_ rfl
  refine t_move rfl ?_ rfl
  refine t_neq rfl rfl ?_ rfl
  refine t_done ?_
  refine x_seq ?_
  refine w_if rfl (fun h => absurd rfl h) ?_
  intro _
  refine w_skip ?_
  refine x_seq ?_
  refine w_seq ?_
  refine w_region ?_
  refine t_move rfl ?_ rfl
  refine t_lda (by assumption) ab_l_path sb_l_path B rfl ?_ rfl
  intro v86 hv86
  obtain ⟨v86_0, rfl, hv86_0⟩ := path_va hv86
  refine t_call Try.call19 rfl (va1 (by first | assumption | exact VA.below (by assumption) B | exact path_mkv (by first | assumption | exact SlR.below (by assumption) B)) fun cs h => to_path _ cs _ h (by omega)) ?_ rfl rfl
  rintro e w53 ⟨cs87, fp87, rfl, hO87, x54⟩
  refine ⟨_, rfl, x54, ?_⟩
  have S := S.add (o := tyO pathT _ _) x54 hO87
  have B := bx Hb B x54
  obtain ⟨u87_0, heq, S2⟩ := S.pathOpen
  subst heq
  have S := S2
  clear S2
  refine t_move rfl ?_ rfl
  refine t_move rfl ?_ rfl
  refine t_move rfl ?_ rfl
  refine t_call Try.call35 rfl (to_byteS _ _ _ (by first | assumption | exact SlR.below (by assumption) B) (by omega)) ?_ rfl rfl
  rintro e w55 ⟨v91, fpv91, rfl, hOv91, x56⟩
  refine ⟨_, rfl, x56, ?_⟩
  have S := S.add (o := slO _ _ _ _) x56 hOv91
  have B := bx Hb B x56
  refine t_call Try.call42 rfl (impl_NewPacket _ _ _ _ _ _ _ _ (path_mkv (S.tail.sl)) (S.sl) (by omega) (by omega) (by assumption) (by assumption)) ?_ rfl rfl
  rintro e w57 ⟨cs92, fp92, rfl, hO92, x58⟩
  refine ⟨_, rfl, x58, ?_⟩
  have S := S.add (o := tyO pktT _ _) x58 hO92
  have B := bx Hb B x58
  obtain ⟨u92_3, u92_9, heq, S2⟩ := S.pktOpen
  subst heq
  have S := S2
  clear S2
  refine t_alloc S z_pkt rfl ?_ rfl rfl
  intro g19 w59 x60 S
  have B := bx Hb B x60
  refine t_stn S sb_pkt rfl rfl rfl rfl (by intro zz hu; have hu : zz ∈ ([I ((newPkt d0 d1 d2 d3 d4).kind), I ((newPkt d0 d1 d2 d3 d4).src), I ((newPkt d0 d1 d2 d3 d4).dst), u92_3, I ((newPkt d0 d1 d2 d3 d4).pidx), I ((newPkt d0 d1 d2 d3 d4).hidx), I ((newPkt d0 d1 d2 d3 d4).beta), I ((newPkt d0 d1 d2 d3 d4).rid), I ((newPkt d0 d1 d2 d3 d4).seq), u92_9] : List Value) := hu; simp only [List.mem_cons, List.not_mem_nil, or_false] at hu; rcases hu with rfl | rfl | rfl | rfl | rfl | rfl | rfl | rfl | rfl | rfl <;> first | rfl | exact (SlR.cells (by first | assumption | exact S.tail.sl | exact S.tail.tail.sl | exact S.tail.tail.tail.sl | exact S.tail.tail.tail.tail.sl | exact S.tail.tail.tail.tail.tail.sl | exact S.tail.tail.tail.tail.tail.tail.sl | exact S.tail.tail.tail.tail.tail.tail.tail.sl | exact S.tail.tail.tail.tail.tail.tail.tail.tail.sl)).2) ?_
  intro w61 b62 S
  have B := B.trans b62
  refine t_done ?_
  refine x_seq ?_
  refine w_seq ?_
  refine w_seq ?_
  refine w_region ?_
  refine t_bxn S.box ab_pkt sb_pkt rfl rfl ?_ rfl
  refine t_bxn S.tail.tail.tail.tail.tail.tail.tail.tail.tail.tail.tail.tail.tail.box ab_pkt sb_pkt rfl rfl ?_ rfl
  refine t_callx Try.call31 rfl (eqv_pkt _ _ _ _ (pkt_mkv (S.tail.sl) (S.tail.tail.sl)) (pkt_mkv (S.tail.tail.tail.tail.tail.tail.tail.tail.tail.tail.tail.tail.tail.tail.sl) (S.tail.tail.tail.tail.tail.tail.tail.tail.tail.tail.tail.tail.tail.tail.tail.sl)) (by omega)) ?_ rfl rfl
  intro w63 x64
  have B := bx Hb B x64
  have S := S.below x64
  refine t_notb rfl ?_ rfl
  refine t_done ?_
  refine x_seq ?_
  refine w_no rfl ?_
  refine w_skip ?_
  refine x_seq ?_
  refine w_seq ?_
  refine w_region ?_
  refine t_assign rfl ?_ rfl
  refine t_done ?_
  refine x_seq ?_
  refine w_seq ?_
  refine w_region ?_
  refine t_bxn S.tail.tail.tail.tail.tail.tail.tail.tail.tail.tail.tail.box ab_pkt sb_pkt rfl rfl ?_ rfl
  refine t_move rfl ?_ rfl
  refine t_callx Try.call33 rfl (held_pkt (newPkt d0 d1 d2 d3 d4) _ _ _ _ _ _ _ _ _ _ _ _ (S.tail.tail.tail.tail.tail.sl) (S.tail.tail.tail.tail.tail.tail.sl) (by omega) (by omega)) ?_ rfl rfl
  intro w65 x66
  have B := bx Hb B x66
  have S := S.below x66
  refine t_assign rfl ?_ rfl
  refine t_done ?_
  refine x_seq ?_
  refine w_seq ?_
  refine w_seq ?_
  refine w_region ?_
  refine t_move rfl ?_ rfl
  refine t_lss rfl rfl ?_ rfl
  refine t_done ?_
  refine x_seq ?_
  refine w_if rfl (fun h => (by exfalso; omega)) ?_
  intro hc101
  refine w_skip ?_
  refine x_seq ?_
  refine w_seq ?_
  refine w_seq ?_
  refine w_region ?_
  refine t_move rfl ?_ rfl
  refine t_move rfl ?_ rfl
  refine t_neq rfl rfl ?_ rfl
  refine t_done ?_
  refine x_seq ?_
  refine w_if rfl (fun h => absurd rfl h) ?_
  intro _
  refine w_skip ?_
  refine x_seq ?_
  refine w_seq ?_
  refine w_region ?_
  refine t_assign rfl ?_ rfl
  refine t_done ?_
  refine x_seq ?_
  refine w_ret ?_
  refine x_ret1 rfl rfl ?_
  exact ⟨rfl, ext_trans X0 B⟩

namespace fnExactNewPacket
open Go.ChangeShapes Go.WideShapes Go.ChangeAt

set_option maxRecDepth 100000 in
theorem lifted (os : Os) (started : os.Started) (H : Type) (enc : TypeId × Value → H) :
    ReturnsInHanded {} Try.checked os 8 .any (Rows.fnExactNewPacketSpec.pre6 enc Try.prog Try.f8 Rows.fnExactNewPacketRow.domain false) (Rows.fnExactNewPacketSpec.post enc Try.prog Try.f8 false true false false) := by
  refine returnsInHanded_of_change (C := Try.checked) knob started (by kernel_rfl) Try.func8
    (ChangeSpec.witness6 (enc := enc) (C := Try.checked) false ⟨#[], #[I 0, .agg #[.slice none 0 0], I 0, I 0, .slice none 0 0], []⟩ 8 (by kernel_rfl) (by kernel_rfl) (by kernel_rfl) (by kernel_rfl)) ?_
  intro W base args ds gs before hval0 hW hcnd _
  have hval : ∀ (j : Nat) t v, Try.f8.params[j]? = some t → args[j]? = some v → Value.okWide Try.prog W .any base t v := hval0
  have hW' := hW
  obtain ⟨p, q, hA0, hV, rfl, hfz, hnd⟩ := hW
  have hA : DataW.TrodAll enc Try.prog W 0 (fun _ => true) true Try.f8.params.toList args.toList ds p := hA0
  rw [Try.params8] at hA hval
  obtain ⟨v0, vs0, d0, ds0, p0, q0, hargs, rfl, rfl, h0, r0⟩ := trodAll_cons hA
  obtain ⟨v1, vs1, d1, ds1, p1, q1, rfl, rfl, rfl, h1, r1⟩ := trodAll_cons r0
  obtain ⟨v2, vs2, d2, ds2, p2, q2, rfl, rfl, rfl, h2, r2⟩ := trodAll_cons r1
  obtain ⟨v3, vs3, d3, ds3, p3, q3, rfl, rfl, rfl, h3, r3⟩ := trodAll_cons r2
  obtain ⟨v4, vs4, d4, ds4, p4, q4, rfl, rfl, rfl, h4, r4⟩ := trodAll_cons r3
  obtain ⟨rfl, rfl, rfl⟩ := trodAll_nil r4
  obtain rfl : args = #[v0, v1, v2, v3, v4] := by cases args; simp_all
  obtain ⟨rfl, rfl⟩ := trodVars_none hV
  have k0 := h0
  have lt0 : ∀ x ∈ p0, x.block < W.heap.size := by obtain ⟨m, hm⟩ := k0; exact DataW.trod_lt m _ _ _ hm
  obtain ⟨x0, rfl, G0⟩ := open_i64 (hval 0 3 v0 rfl rfl) h0
  have k1 := h1
  have lt1 : ∀ x ∈ p1, x.block < W.heap.size := by obtain ⟨m, hm⟩ := k1; exact DataW.trod_lt m _ _ _ hm
  obtain ⟨cs1, x1, rfl, R1, L1, G1⟩ := open_path (hval 1 28 v1 rfl rfl) h1
  have k2 := h2
  have lt2 : ∀ x ∈ p2, x.block < W.heap.size := by obtain ⟨m, hm⟩ := k2; exact DataW.trod_lt m _ _ _ hm
  obtain ⟨x2, rfl, G2⟩ := open_i64 (hval 2 3 v2 rfl rfl) h2
  have k3 := h3
  have lt3 : ∀ x ∈ p3, x.block < W.heap.size := by obtain ⟨m, hm⟩ := k3; exact DataW.trod_lt m _ _ _ hm
  obtain ⟨x3, rfl, G3⟩ := open_i64 (hval 3 3 v3 rfl rfl) h3
  have k4 := h4
  have lt4 : ∀ x ∈ p4, x.block < W.heap.size := by obtain ⟨m, hm⟩ := k4; exact DataW.trod_lt m _ _ _ hm
  obtain ⟨x4, R4, L4⟩ := open_byteS (hval 4 46 v4 rfl rfl) h4
  clear hA0 hval0
  refine (lawNewPacket x0 x1 _ x2 x3 x4 _ W G0 R1 L1 G1 G2 G3 R4 L4).mono fun e W' ⟨he, bel⟩ => ?_
  subst he
  exact ⟨_, rfl, _, _, _, [], _, [], hW', trodAll_mk1 (shut_bool Try.underlying4 _), (trodAll_cons_mk (Below.trod laidOut (by kernel_rfl) (of_decide_eq_true (by kernel_rfl)) k0 bel lt0) (trodAll_cons_mk (Below.trod laidOut (by kernel_rfl) (of_decide_eq_true (by kernel_rfl)) k1 bel lt1) (trodAll_cons_mk (Below.trod laidOut (by kernel_rfl) (of_decide_eq_true (by kernel_rfl)) k2 bel lt2) (trodAll_cons_mk (Below.trod laidOut (by kernel_rfl) (of_decide_eq_true (by kernel_rfl)) k3 bel lt3) (trodAll_cons_mk (Below.trod laidOut (by kernel_rfl) (of_decide_eq_true (by kernel_rfl)) k4 bel lt4) trodAll_mk0))))), rfl, bel.frame _, fun h => by cases h⟩

theorem jA : jnA Try.pinned.checked.prog Try.f8 Rows.fnExactNewPacketSpec Rows.fnExactNewPacketRow = true := by kernel_rfl
theorem jB : jnB Try.pinned.checked.prog 8 Rows.fnExactNewPacketRow = true := by kernel_rfl
theorem jC : jnC Try.pinned.checked.prog Try.f8 Rows.fnExactNewPacketSpec Rows.fnExactNewPacketRow = true := by kernel_rfl
theorem jD : jnD Try.pinned.checked.prog = true := by kernel_rfl
theorem jE : jnE Try.pinned.checked.prog = true := by kernel_rfl
theorem jF : jnF Try.pinned.checked.prog Rows.fnExactNewPacketRow = true := by kernel_rfl
theorem jG : jnG Try.pinned.checked.prog Rows.fnExactNewPacketRow = true := by kernel_rfl
theorem jH : jnH Try.pinned.checked.prog Try.f8 Rows.fnExactNewPacketRow = true := by kernel_rfl
theorem jI : jnI Rows.fnExactNewPacketRow = true := by kernel_rfl
theorem jJ : jnJ Try.pinned.checked.prog Try.f8 Rows.fnExactNewPacketSpec Rows.fnExactNewPacketRow = true := by kernel_rfl

theorem over : Rows.fnExactNewPacketRow.holds Try.pinned (OpenSpec.ofChange Rows.fnExactNewPacketSpec) :=
  OpenClaim.holds_of_wide 8 Try.f8 rfl rfl rfl rfl rfl rfl rfl ⟨rfl, rfl, rfl, rfl, rfl⟩ rfl rfl rfl rfl rfl (by kernel_rfl) Try.func8 (joined_of jA jB jC jD jE jF jG jH jI jJ)
    (of_decide_eq_true (by kernel_rfl)) (by unfold Func.isWrapper; first | (rw [if_pos (by decide +kernel)]; kernel_rfl) | (rw [if_neg (by decide +kernel)]; exact ⟨rfl, rfl⟩))
    (fun os started H enc _ => lifted os started H enc)

theorem proved : Rows.FnExactNewPacketSaid := over
#print axioms proved
end fnExactNewPacket
end Go.Proofs.Ytfgobdejlfojiaa
