/- laws.FnExactFormatPacket returns true, for all arguments: the walk of the law out of contracts, and the row. No condition. (Printed by law2.py.) -/
import Derived.Test.YtfgobdejlfojiaaWkF2
import Derived.Test.YtfgobdejlfojiaaJoined
import Derived.Test.YtfgobdejlfojiaaEqs
import Derived.Test.YtfgobdejlfojiaaHole
import Derived.Test.YtfgobdejlfojiaaMarks2
import Derived.Test.YtfgobdejlfojiaaSepN
import Derived.Test.YtfgobdejlfojiaaOkz
import Derived.Test.YtfgobdejlfojiaaMarks3
import Derived.Test.YtfgobdejlfojiaaFamTopo
import Derived.Test.YtfgobdejlfojiaaFamPkt
import Derived.Test.YtfgobdejlfojiaaOpenPkt
import Derived.Test.YtfgobdejlfojiaaOpen
namespace Go.Proofs.Ytfgobdejlfojiaa
open Go.RowKit
set_option linter.unusedVariables false

set_option maxRecDepth 20000

theorem szI_pos {left : Int} {n : Nat} (h0 : 0 ≤ left) (h : ¬ szI left n < 0) : (n : Int) ≤ left ∧ szI left n = left - n := by
  unfold szI at *
  split at h
  · rename_i h1; exact ⟨h1, by rw [if_pos h1]⟩
  · omega

set_option maxHeartbeats 1000000 in
theorem lawFormatPacket (d0 : Topo) (cs0 : List Value) (d1 : Pkt) (cs1 : List Value) (w : World) (h0 : topoT.R w cs0 d0) (l0 : lenOk_topo d0) (g0 : rng_topo d0) (h1 : pktT.R w cs1 d1) (l1 : lenOk_pkt d1) (g1 : rng_pkt d1) :
    Calls Try.prog 14 #[.agg cs0.toArray, .agg cs1.toArray] w fun r w' => r = .returned (.bool true) ∧ Below w.heap.size w w' := by
  have f0 : VA topoT w (.agg cs0.toArray) d0 := ⟨cs0, rfl, h0⟩
  generalize Value.agg cs0.toArray = v0 at f0 ⊢
  clear h0
  have f1 : VA pktT w (.agg cs1.toArray) d1 := ⟨cs1, rfl, h1⟩
  generalize Value.agg cs1.toArray = v1 at f1 ⊢
  clear h1
  have hcb1 : 0 ≤ cnt_parts d1.path ∧ cnt_parts d1.path ≤ 5 * (sz_path d1.path : Int) := cnt_parts_bd d1.path
  have hcp1 : cnt_pkt d1 = cnt_parts d1.path + 1 * (d1.pay.length : Int) := rfl
  have hcz1 : sz_pkt d1 = sz_path d1.path + d1.pay.length := rfl
  have X0 := Below.refl w.heap.size w
  refine enter Try.func14 rfl Try.ntmps14 rfl ?_
  refine w_seq ?_
  refine w_region ?_
  refine t_boxr (by assumption) rfl ?_ rfl rfl
  intro p2 w1 x2 hp2
  replace f0 := f0.below x2
  replace f1 := f1.below x2
  have X0 := ext_trans X0 x2
  refine t_boxr (by assumption) rfl ?_ rfl rfl
  intro p3 w3 x4 hp3
  replace f0 := f0.below x4
  replace f1 := f1.below x4
  replace hp2 := hp2.below x4
  have X0 := ext_trans X0 x4
  have S := Sep.nil w3
  have B := Below.refl w3.heap.size w3
  have Hb := Nat.le_refl w3.heap.size
  refine t_assign rfl ?_ rfl
  refine t_done ?_
  refine x_seq ?_
  refine w_seq ?_
  refine w_region ?_
  refine t_assign rfl ?_ rfl
  refine t_done ?_
  refine x_seq ?_
  refine w_seq ?_
  refine w_region ?_
  refine t_lda (by assumption) ab_l_topo sb_l_topo B rfl ?_ rfl
  intro v10 hv10
  obtain ⟨v10_0, v10_1, rfl, hv10_0, hv10_1⟩ := topo_va hv10
  refine t_move rfl ?_ rfl
  refine t_callx Try.call15 rfl (va1 (by first | assumption | exact VA.below (by assumption) B | exact topo_mkv (by first | assumption | exact SlR.below (by assumption) B) (by first | assumption | exact SlR.below (by assumption) B)) fun cs h => szc_topo _ cs _ _ h (by omega) (by omega) (by assumption)) ?_ rfl rfl
  intro w5 x6
  have B := bx Hb B x6
  have S := S.below x6
  refine t_assign rfl ?_ rfl
  refine t_done ?_
  refine x_seq ?_
  refine w_seq ?_
  refine w_seq ?_
  refine w_region ?_
  refine t_move rfl ?_ rfl
  refine t_lss rfl rfl ?_ rfl
  refine t_done ?_
  refine x_seq ?_
  refine w_if rfl ?_ ?_
  · intro _
    refine w_seq ?_
    refine w_region ?_
    refine t_assign rfl ?_ rfl
    refine t_done ?_
    refine x_seq ?_
    refine w_ret ?_
    refine x_then_ret ?_
    refine x_ret1 rfl rfl ?_
    exact ⟨rfl, ext_trans X0 B⟩
  intro hz7
  have hz7 := szI_pos (by omega) hz7
  refine w_skip ?_
  refine x_seq ?_
  refine w_seq ?_
  refine w_region ?_
  refine t_lda (by assumption) ab_l_pkt sb_l_pkt B rfl ?_ rfl
  intro v15 hv15
  obtain ⟨v15_3, v15_9, rfl, hv15_3, hv15_9⟩ := pkt_va hv15
  refine t_move rfl ?_ rfl
  refine t_callx Try.call27 rfl (va1 (by first | assumption | exact VA.below (by assumption) B | exact pkt_mkv (by first | assumption | exact SlR.below (by assumption) B) (by first | assumption | exact SlR.below (by assumption) B)) fun cs h => szc_pkt _ cs _ _ h (by omega) (by omega) (by assumption)) ?_ rfl rfl
  intro w8 x9
  have B := bx Hb B x9
  have S := S.below x9
  refine t_assign rfl ?_ rfl
  refine t_done ?_
  refine x_seq ?_
  refine w_seq ?_
  refine w_seq ?_
  refine w_region ?_
  refine t_move rfl ?_ rfl
  refine t_lss rfl rfl ?_ rfl
  refine t_done ?_
  refine x_seq ?_
  refine w_if rfl ?_ ?_
  · intro _
    refine w_seq ?_
    refine w_region ?_
    refine t_assign rfl ?_ rfl
    refine t_done ?_
    refine x_seq ?_
    refine w_ret ?_
    refine x_then_ret ?_
    refine x_ret1 rfl rfl ?_
    exact ⟨rfl, ext_trans X0 B⟩
  intro hz10
  have hz10 := szI_pos (by omega) hz10
  refine w_skip ?_
  refine x_seq ?_
  refine w_seq ?_
  refine w_draw (.st .take 0 (.st .take 2 (.st .run 1 (.st .run 3 (.st .run 4 (.st .take 5 .done)))))) mixed (by kernel_rfl) ?_
  intro w11 x12
  have B := bx Hb B x12
  have S := S.below x12
  refine t_lda (by assumption) ab_l_topo sb_l_topo B rfl ?_ rfl
  intro v20 hv20
  obtain ⟨v20_0, v20_1, rfl, hv20_0, hv20_1⟩ := topo_va hv20
  refine t_lda (by assumption) ab_l_pkt sb_l_pkt B rfl ?_ rfl
  intro v22 hv22
  obtain ⟨v22_3, v22_9, rfl, hv22_3, hv22_9⟩ := pkt_va hv22
  refine t_call Try.call18 rfl (va1 (by first | assumption | exact VA.below (by assumption) B | exact topo_mkv (by first | assumption | exact SlR.below (by assumption) B) (by first | assumption | exact SlR.below (by assumption) B)) fun cs h => to_topo _ cs _ h (by omega)) ?_ rfl rfl
  rintro e w13 ⟨cs21, fp21, rfl, hO21, x14⟩
  refine ⟨_, rfl, x14, ?_⟩
  have S := S.add (o := tyO topoT _ _) x14 hO21
  have B := bx Hb B x14
  obtain ⟨u21_0, u21_1, heq, S2⟩ := S.topoOpen
  subst heq
  have S := S2
  clear S2
  refine t_call Try.call29 rfl (va1 (by first | assumption | exact VA.below (by assumption) B | exact pkt_mkv (by first | assumption | exact SlR.below (by assumption) B) (by first | assumption | exact SlR.below (by assumption) B)) fun cs h => to_pkt _ cs _ h (by omega)) ?_ rfl rfl
  rintro e w15 ⟨cs23, fp23, rfl, hO23, x16⟩
  refine ⟨_, rfl, x16, ?_⟩
  have S := S.add (o := tyO pktT _ _) x16 hO23
  have B := bx Hb B x16
  obtain ⟨u23_3, u23_9, heq, S2⟩ := S.pktOpen
  subst heq
  have S := S2
  clear S2
  refine t_callx Try.call59 rfl (spec_FormatPacket _ _ _ _ _ (topo_mkv (S.tail.tail.sl) (S.tail.tail.tail.sl)) (pkt_mkv (S.sl) (S.tail.sl)) (by omega) (by assumption) (by omega) (by assumption) (by assumption)) ?_ rfl rfl
  intro w17 x18
  have B := bx Hb B x18
  have S := S.below x18
  refine t_assign rfl ?_ rfl
  refine t_done' ?_
  refine x_seq ?_
  refine w_seq ?_
  refine w_region ?_
  refine t_lda (by assumption) ab_l_topo sb_l_topo B rfl ?_ rfl
  intro v25 hv25
  obtain ⟨v25_0, v25_1, rfl, hv25_0, hv25_1⟩ := topo_va hv25
  refine t_call Try.call18 rfl (va1 (by first | assumption | exact VA.below (by assumption) B | exact topo_mkv (by first | assumption | exact SlR.below (by assumption) B) (by first | assumption | exact SlR.below (by assumption) B)) fun cs h => to_topo _ cs _ h (by omega)) ?_ rfl rfl
  rintro e w19 ⟨cs26, fp26, rfl, hO26, x20⟩
  refine ⟨_, rfl, x20, ?_⟩
  have S := S.add (o := tyO topoT _ _) x20 hO26
  have B := bx Hb B x20
  obtain ⟨u26_0, u26_1, heq, S2⟩ := S.topoOpen
  subst heq
  have S := S2
  clear S2
  refine t_alloc S z_topo rfl ?_ rfl rfl
  intro g7 w21 x22 S
  have B := bx Hb B x22
  refine t_stn S sb_topo rfl rfl rfl rfl (by intro zz hu; have hu : zz ∈ ([u26_0, u26_1] : List Value) := hu; simp only [List.mem_cons, List.not_mem_nil, or_false] at hu; rcases hu with rfl | rfl <;> first | rfl | exact (SlR.cells (by first | assumption | exact S.tail.sl | exact S.tail.tail.sl | exact S.tail.tail.tail.sl | exact S.tail.tail.tail.tail.sl | exact S.tail.tail.tail.tail.tail.sl | exact S.tail.tail.tail.tail.tail.tail.sl | exact S.tail.tail.tail.tail.tail.tail.tail.sl | exact S.tail.tail.tail.tail.tail.tail.tail.tail.sl)).2) ?_
  intro w23 b24 S
  have B := B.trans b24
  refine t_done ?_
  refine x_seq ?_
  refine w_seq ?_
  refine w_region ?_
  refine t_lda (by assumption) ab_l_pkt sb_l_pkt B rfl ?_ rfl
  intro v27 hv27
  obtain ⟨v27_3, v27_9, rfl, hv27_3, hv27_9⟩ := pkt_va hv27
  refine t_call Try.call29 rfl (va1 (by first | assumption | exact VA.below (by assumption) B | exact pkt_mkv (by first | assumption | exact SlR.below (by assumption) B) (by first | assumption | exact SlR.below (by assumption) B)) fun cs h => to_pkt _ cs _ h (by omega)) ?_ rfl rfl
  rintro e w25 ⟨cs28, fp28, rfl, hO28, x26⟩
  refine ⟨_, rfl, x26, ?_⟩
  have S := S.add (o := tyO pktT _ _) x26 hO28
  have B := bx Hb B x26
  obtain ⟨u28_3, u28_9, heq, S2⟩ := S.pktOpen
  subst heq
  have S := S2
  clear S2
  refine t_alloc S z_pkt rfl ?_ rfl rfl
  intro g8 w27 x28 S
  have B := bx Hb B x28
  refine t_stn S sb_pkt rfl rfl rfl rfl (by intro zz hu; have hu : zz ∈ ([I d1.kind, I d1.src, I d1.dst, u28_3, I d1.pidx, I d1.hidx, I d1.beta, I d1.rid, I d1.seq, u28_9] : List Value) := hu; simp only [List.mem_cons, List.not_mem_nil, or_false] at hu; rcases hu with rfl | rfl | rfl | rfl | rfl | rfl | rfl | rfl | rfl | rfl <;> first | rfl | exact (SlR.cells (by first | assumption | exact S.tail.sl | exact S.tail.tail.sl | exact S.tail.tail.tail.sl | exact S.tail.tail.tail.tail.sl | exact S.tail.tail.tail.tail.tail.sl | exact S.tail.tail.tail.tail.tail.tail.sl | exact S.tail.tail.tail.tail.tail.tail.tail.sl | exact S.tail.tail.tail.tail.tail.tail.tail.tail.sl)).2) ?_
  intro w29 b30 S
  have B := B.trans b30
  refine t_done ?_
  refine x_seq ?_
  refine w_seq ?_
  refine w_region ?_
  refine t_bxn S.tail.tail.tail.box ab_topo sb_topo rfl rfl ?_ rfl
  refine t_bxn S.box ab_pkt sb_pkt rfl rfl ?_ rfl
  refine t_callx Try.call60 rfl (impl_FormatPacket _ _ _ _ _ (topo_mkv (S.tail.tail.tail.tail.sl) (S.tail.tail.tail.tail.tail.sl)) (pkt_mkv (S.tail.sl) (S.tail.tail.sl)) (by omega) (by assumption) (by omega) (by assumption) (by assumption)) ?_ rfl rfl
  intro w31 x32
  have B := bx Hb B x32
  have S := S.below x32
  refine t_assign rfl ?_ rfl
  refine t_done ?_
  refine x_seq ?_
  refine w_seq ?_
  refine w_seq ?_
  refine w_region ?_
  refine t_move rfl ?_ rfl
  refine t_move rfl ?_ rfl
  refine t_neqs rfl rfl ?_ rfl
  refine t_done ?_
  refine x_seq ?_
  refine w_if rfl (fun h => absurd rfl h) ?_
  intro _
  refine w_skip ?_
  refine x_seq ?_
  refine w_seq ?_
  refine w_seq ?_
  refine w_draw (.st .take 0 (.st .take 1 (.st .run 2 (.st .run 3 (.st .take 4 .done))))) mixed (by kernel_rfl) ?_
  intro w33 x34
  have B := bx Hb B x34
  have S := S.below x34
  refine t_bxn S.tail.tail.tail.box ab_topo sb_topo rfl rfl ?_ rfl
  refine t_lda (by assumption) ab_l_topo sb_l_topo B rfl ?_ rfl
  intro v36 hv36
  obtain ⟨v36_0, v36_1, rfl, hv36_0, hv36_1⟩ := topo_va hv36
  refine t_call Try.call18 rfl (va1 (by first | assumption | exact VA.below (by assumption) B | exact topo_mkv (by first | assumption | exact SlR.below (by assumption) B) (by first | assumption | exact SlR.below (by assumption) B)) fun cs h => to_topo _ cs _ h (by omega)) ?_ rfl rfl
  rintro e w35 ⟨cs37, fp37, rfl, hO37, x36⟩
  refine ⟨_, rfl, x36, ?_⟩
  have S := S.add (o := tyO topoT _ _) x36 hO37
  have B := bx Hb B x36
  obtain ⟨u37_0, u37_1, heq, S2⟩ := S.topoOpen
  subst heq
  have S := S2
  clear S2
  refine t_callx Try.call21 rfl (va2 (topo_mkv (S.tail.tail.tail.tail.tail.tail.sl) (S.tail.tail.tail.tail.tail.tail.tail.sl)) (topo_mkv (S.sl) (S.tail.sl)) fun cs ds h h2 => eq_topo _ cs ds _ h h2 (by omega)) ?_ rfl rfl
  intro w37 x38
  have B := bx Hb B x38
  have S := S.below x38
  refine t_notb rfl ?_ rfl
  refine t_done' ?_
  refine x_seq ?_
  refine w_no rfl ?_
  refine w_skip ?_
  refine x_seq ?_
  refine w_seq ?_
  refine w_seq ?_
  refine w_draw (.st .take 0 (.st .take 1 (.st .run 2 (.st .run 3 (.st .take 4 .done))))) mixed (by kernel_rfl) ?_
  intro w39 x40
  have B := bx Hb B x40
  have S := S.below x40
  refine t_bxn S.tail.tail.box ab_pkt sb_pkt rfl rfl ?_ rfl
  refine t_lda (by assumption) ab_l_pkt sb_l_pkt B rfl ?_ rfl
  intro v41 hv41
  obtain ⟨v41_3, v41_9, rfl, hv41_3, hv41_9⟩ := pkt_va hv41
  refine t_call Try.call29 rfl (va1 (by first | assumption | exact VA.below (by assumption) B | exact pkt_mkv (by first | assumption | exact SlR.below (by assumption) B) (by first | assumption | exact SlR.below (by assumption) B)) fun cs h => to_pkt _ cs _ h (by omega)) ?_ rfl rfl
  rintro e w41 ⟨cs42, fp42, rfl, hO42, x42⟩
  refine ⟨_, rfl, x42, ?_⟩
  have S := S.add (o := tyO pktT _ _) x42 hO42
  have B := bx Hb B x42
  obtain ⟨u42_3, u42_9, heq, S2⟩ := S.pktOpen
  subst heq
  have S := S2
  clear S2
  refine t_callx Try.call31 rfl (eqv_pkt _ _ _ _ (pkt_mkv (S.tail.tail.tail.tail.tail.sl) (S.tail.tail.tail.tail.tail.tail.sl)) (pkt_mkv (S.sl) (S.tail.sl)) (by omega)) ?_ rfl rfl
  intro w43 x44
  have B := bx Hb B x44
  have S := S.below x44
  refine t_notb rfl ?_ rfl
  refine t_done' ?_
  refine x_seq ?_
  refine w_no rfl ?_
  refine w_skip ?_
  refine x_seq ?_
  refine w_seq ?_
  refine w_region ?_
  refine t_assign rfl ?_ rfl
  refine t_done ?_
  refine x_seq ?_
  refine w_ret ?_
  refine x_ret1 rfl rfl ?_
  exact ⟨rfl, ext_trans X0 B⟩

namespace fnExactFormatPacket
open Go.ChangeShapes Go.WideShapes Go.ChangeAt

set_option maxRecDepth 100000 in
theorem lifted (os : Os) (started : os.Started) (H : Type) (enc : TypeId × Value → H) :
    ReturnsInHanded {} Try.checked os 14 .any (Rows.fnExactFormatPacketSpec.pre6 enc Try.prog Try.f14 Rows.fnExactFormatPacketRow.domain false) (Rows.fnExactFormatPacketSpec.post enc Try.prog Try.f14 false true false false) := by
  refine returnsInHanded_of_change (C := Try.checked) knob started (by kernel_rfl) Try.func14
    (ChangeSpec.witness6 (enc := enc) (C := Try.checked) false ⟨#[], #[.agg #[.slice none 0 0, .slice none 0 0], .agg #[I 0, I 0, I 0, .slice none 0 0, I 0, I 0, I 0, I 0, I 0, .slice none 0 0]], []⟩ 8 (by kernel_rfl) (by kernel_rfl) (by kernel_rfl) (by kernel_rfl)) ?_
  intro W base args ds gs before hval0 hW hcnd _
  have hval : ∀ (j : Nat) t v, Try.f14.params[j]? = some t → args[j]? = some v → Value.okWide Try.prog W .any base t v := hval0
  have hW' := hW
  obtain ⟨p, q, hA0, hV, rfl, hfz, hnd⟩ := hW
  have hA : DataW.TrodAll enc Try.prog W 0 (fun _ => true) true Try.f14.params.toList args.toList ds p := hA0
  rw [Try.params14] at hA hval
  obtain ⟨v0, vs0, d0, ds0, p0, q0, hargs, rfl, rfl, h0, r0⟩ := trodAll_cons hA
  obtain ⟨v1, vs1, d1, ds1, p1, q1, rfl, rfl, rfl, h1, r1⟩ := trodAll_cons r0
  obtain ⟨rfl, rfl, rfl⟩ := trodAll_nil r1
  obtain rfl : args = #[v0, v1] := by cases args; simp_all
  obtain ⟨rfl, rfl⟩ := trodVars_none hV
  have k0 := h0
  have lt0 : ∀ x ∈ p0, x.block < W.heap.size := by obtain ⟨m, hm⟩ := k0; exact DataW.trod_lt m _ _ _ hm
  obtain ⟨cs0, x0, rfl, R0, L0, G0⟩ := open_topo (hval 0 25 v0 rfl rfl) h0
  have k1 := h1
  have lt1 : ∀ x ∈ p1, x.block < W.heap.size := by obtain ⟨m, hm⟩ := k1; exact DataW.trod_lt m _ _ _ hm
  obtain ⟨cs1, x1, rfl, R1, L1, G1⟩ := open_pkt (hval 1 48 v1 rfl rfl) h1
  clear hA0 hval0
  refine (lawFormatPacket x0 _ x1 _ W R0 L0 G0 R1 L1 G1).mono fun e W' ⟨he, bel⟩ => ?_
  subst he
  exact ⟨_, rfl, _, _, _, [], _, [], hW', trodAll_mk1 (shut_bool Try.underlying4 _), (trodAll_cons_mk (Below.trod laidOut (by kernel_rfl) (of_decide_eq_true (by kernel_rfl)) k0 bel lt0) (trodAll_cons_mk (Below.trod laidOut (by kernel_rfl) (of_decide_eq_true (by kernel_rfl)) k1 bel lt1) trodAll_mk0)), rfl, bel.frame _, fun h => by cases h⟩

theorem jA : jnA Try.pinned.checked.prog Try.f14 Rows.fnExactFormatPacketSpec Rows.fnExactFormatPacketRow = true := by kernel_rfl
theorem jB : jnB Try.pinned.checked.prog 14 Rows.fnExactFormatPacketRow = true := by kernel_rfl
theorem jC : jnC Try.pinned.checked.prog Try.f14 Rows.fnExactFormatPacketSpec Rows.fnExactFormatPacketRow = true := by kernel_rfl
theorem jD : jnD Try.pinned.checked.prog = true := by kernel_rfl
theorem jE : jnE Try.pinned.checked.prog = true := by kernel_rfl
theorem jF : jnF Try.pinned.checked.prog Rows.fnExactFormatPacketRow = true := by kernel_rfl
theorem jG : jnG Try.pinned.checked.prog Rows.fnExactFormatPacketRow = true := by kernel_rfl
theorem jH : jnH Try.pinned.checked.prog Try.f14 Rows.fnExactFormatPacketRow = true := by kernel_rfl
theorem jI : jnI Rows.fnExactFormatPacketRow = true := by kernel_rfl
theorem jJ : jnJ Try.pinned.checked.prog Try.f14 Rows.fnExactFormatPacketSpec Rows.fnExactFormatPacketRow = true := by kernel_rfl

theorem over : Rows.fnExactFormatPacketRow.holds Try.pinned (OpenSpec.ofChange Rows.fnExactFormatPacketSpec) :=
  OpenClaim.holds_of_wide 14 Try.f14 rfl rfl rfl rfl rfl rfl rfl ⟨rfl, rfl, rfl, rfl, rfl⟩ rfl rfl rfl rfl rfl (by kernel_rfl) Try.func14 (joined_of jA jB jC jD jE jF jG jH jI jJ)
    (of_decide_eq_true (by kernel_rfl)) (by unfold Func.isWrapper; first | (rw [if_pos (by decide +kernel)]; kernel_rfl) | (rw [if_neg (by decide +kernel)]; exact ⟨rfl, rfl⟩))
    (fun os started H enc _ => lifted os started H enc)

theorem proved : Rows.FnExactFormatPacketSaid := over
#print axioms proved
end fnExactFormatPacket
end Go.Proofs.Ytfgobdejlfojiaa
