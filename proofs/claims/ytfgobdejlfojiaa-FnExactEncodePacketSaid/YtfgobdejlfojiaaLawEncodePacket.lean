/- laws.FnExactEncodePacket returns true, for all arguments: the walk of the law out of contracts, and the row. No condition. (Printed by law2.py.) -/
import Derived.Test.YtfgobdejlfojiaaWkV
import Derived.Test.YtfgobdejlfojiaaJoined
import Derived.Test.YtfgobdejlfojiaaEqs
import Derived.Test.YtfgobdejlfojiaaHole
import Derived.Test.YtfgobdejlfojiaaMarks2
import Derived.Test.YtfgobdejlfojiaaSepN
import Derived.Test.YtfgobdejlfojiaaOkz
import Derived.Test.YtfgobdejlfojiaaMarks3
import Derived.Test.YtfgobdejlfojiaaFamPkt
import Derived.Test.YtfgobdejlfojiaaOpenPkt
import Derived.Test.YtfgobdejlfojiaaOpen
namespace Go.Proofs.Ytfgobdejlfojiaa
open Go.RowKit
set_option linter.unusedVariables false

set_option maxRecDepth 20000

theorem szI_pos {left : Int} {n : Nat} (h0 : 0 ≤ left) (h : ¬ szI left n < 0) : (n : Int) ≤ left ∧ szI left n = left - n := by
  unfold szI at *
  split at h
  · rename_i h1; exact ⟨h1, by rw [if_pos h1]⟩
  · omega

set_option maxHeartbeats 1000000 in
theorem lawEncodePacket (d0 : Pkt) (cs0 : List Value) (w : World) (h0 : pktT.R w cs0 d0) (l0 : lenOk_pkt d0) (g0 : rng_pkt d0) :
    Calls Try.prog 9 #[.agg cs0.toArray] w fun r w' => r = .returned (.bool true) ∧ Below w.heap.size w w' := by
  have f0 : VA pktT w (.agg cs0.toArray) d0 := ⟨cs0, rfl, h0⟩
  generalize Value.agg cs0.toArray = v0 at f0 ⊢
  clear h0
  have hcb0 : 0 ≤ cnt_parts d0.path ∧ cnt_parts d0.path ≤ 5 * (sz_path d0.path : Int) := cnt_parts_bd d0.path
  have hcp0 : cnt_pkt d0 = cnt_parts d0.path + 1 * (d0.pay.length : Int) := rfl
  have hcz0 : sz_pkt d0 = sz_path d0.path + d0.pay.length := rfl
  have hr0 := pktEnc_len d0
  have X0 := Below.refl w.heap.size w
  refine enter Try.func9 rfl Try.ntmps9 rfl ?_
  refine w_seq ?_
  refine w_region ?_
  refine t_boxr (by assumption) rfl ?_ rfl rfl
  intro p1 w1 x2 hp1
  replace f0 := f0.below x2
  have X0 := ext_trans X0 x2
  have S := Sep.nil w1
  have B := Below.refl w1.heap.size w1
  have Hb := Nat.le_refl w1.heap.size
  refine t_assign rfl ?_ rfl
  refine t_done ?_
  refine x_seq ?_
  refine w_seq ?_
  refine w_region ?_
  refine t_assign rfl ?_ rfl
  refine t_done ?_
  refine x_seq ?_
  refine w_seq ?_
  refine w_region ?_
  refine t_lda (by assumption) ab_l_pkt sb_l_pkt B rfl ?_ rfl
  intro v11 hv11
  obtain ⟨v11_3, v11_9, rfl, hv11_3, hv11_9⟩ := pkt_va hv11
  refine t_move rfl ?_ rfl
  refine t_callx Try.call27 rfl (va1 (by first | assumption | exact VA.below (by assumption) B | exact pkt_mkv (by first | assumption | exact SlR.below (by assumption) B) (by first | assumption | exact SlR.below (by assumption) B)) fun cs h => szc_pkt _ cs _ _ h (by omega) (by omega) (by assumption)) ?_ rfl rfl
  intro w3 x4
  have B := bx Hb B x4
  have S := S.below x4
  refine t_assign rfl ?_ rfl
  refine t_done ?_
  refine x_seq ?_
  refine w_seq ?_
  refine w_seq ?_
  refine w_region ?_
  refine t_move rfl ?_ rfl
  refine t_lss rfl rfl ?_ rfl
  refine t_done ?_
  refine x_seq ?_
  refine w_if rfl ?_ ?_
  · intro _
    refine w_seq ?_
    refine w_region ?_
    refine t_assign rfl ?_ rfl
    refine t_done ?_
    refine x_seq ?_
    refine w_ret ?_
    refine x_then_ret ?_
    refine x_ret1 rfl rfl ?_
    exact ⟨rfl, ext_trans X0 B⟩
  intro hz5
  have hz5 := szI_pos (by omega) hz5
  refine w_skip ?_
  refine x_seq ?_
  refine w_seq ?_
  refine w_region ?_
  refine t_lda (by assumption) ab_l_pkt sb_l_pkt B rfl ?_ rfl
  intro v16 hv16
  obtain ⟨v16_3, v16_9, rfl, hv16_3, hv16_9⟩ := pkt_va hv16
  refine t_call Try.call29 rfl (va1 (by first | assumption | exact VA.below (by assumption) B | exact pkt_mkv (by first | assumption | exact SlR.below (by assumption) B) (by first | assumption | exact SlR.below (by assumption) B)) fun cs h => to_pkt _ cs _ h (by omega)) ?_ rfl rfl
  rintro e w6 ⟨cs17, fp17, rfl, hO17, x7⟩
  refine ⟨_, rfl, x7, ?_⟩
  have S := S.add (o := tyO pktT _ _) x7 hO17
  have B := bx Hb B x7
  obtain ⟨u17_3, u17_9, heq, S2⟩ := S.pktOpen
  subst heq
  have S := S2
  clear S2
  refine t_call Try.call43 rfl (spec_EncodePacket _ _ _ (pkt_mkv (S.sl) (S.tail.sl)) (by omega) (by assumption) (by assumption)) ?_ rfl rfl
  rintro e w8 ⟨v18, fpv18, rfl, hOv18, x9⟩
  refine ⟨_, rfl, x9, ?_⟩
  have S := S.add (o := slO _ _ _ _) x9 hOv18
  have B := bx Hb B x9
  refine t_assign rfl ?_ rfl
  refine t_done ?_
  refine x_seq ?_
  refine w_seq ?_
  refine w_region ?_
  refine t_lda (by assumption) ab_l_pkt sb_l_pkt B rfl ?_ rfl
  intro v19 hv19
  obtain ⟨v19_3, v19_9, rfl, hv19_3, hv19_9⟩ := pkt_va hv19
  refine t_call Try.call29 rfl (va1 (by first | assumption | exact VA.below (by assumption) B | exact pkt_mkv (by first | assumption | exact SlR.below (by assumption) B) (by first | assumption | exact SlR.below (by assumption) B)) fun cs h => to_pkt _ cs _ h (by omega)) ?_ rfl rfl
  rintro e w10 ⟨cs20, fp20, rfl, hO20, x11⟩
  refine ⟨_, rfl, x11, ?_⟩
  have S := S.add (o := tyO pktT _ _) x11 hO20
  have B := bx Hb B x11
  obtain ⟨u20_3, u20_9, heq, S2⟩ := S.pktOpen
  subst heq
  have S := S2
  clear S2
  refine t_alloc S z_pkt rfl ?_ rfl rfl
  intro g5 w12 x13 S
  have B := bx Hb B x13
  refine t_stn S sb_pkt rfl rfl rfl rfl (by intro zz hu; have hu : zz ∈ ([I d0.kind, I d0.src, I d0.dst, u20_3, I d0.pidx, I d0.hidx, I d0.beta, I d0.rid, I d0.seq, u20_9] : List Value) := hu; simp only [List.mem_cons, List.not_mem_nil, or_false] at hu; rcases hu with rfl | rfl | rfl | rfl | rfl | rfl | rfl | rfl | rfl | rfl <;> first | rfl | exact (SlR.cells (by first | assumption | exact S.tail.sl | exact S.tail.tail.sl | exact S.tail.tail.tail.sl | exact S.tail.tail.tail.tail.sl | exact S.tail.tail.tail.tail.tail.sl | exact S.tail.tail.tail.tail.tail.tail.sl | exact S.tail.tail.tail.tail.tail.tail.tail.sl | exact S.tail.tail.tail.tail.tail.tail.tail.tail.sl)).2) ?_
  intro w14 b15 S
  have B := B.trans b15
  refine t_done ?_
  refine x_seq ?_
  refine w_seq ?_
  refine w_region ?_
  refine t_bxn S.box ab_pkt sb_pkt rfl rfl ?_ rfl
  refine t_call Try.call44 rfl (impl_EncodePacket _ _ _ (pkt_mkv (S.tail.sl) (S.tail.tail.sl)) (by omega) (by assumption) (by assumption)) ?_ rfl rfl
  rintro e w16 ⟨v22, fpv22, rfl, hOv22, x17⟩
  refine ⟨_, rfl, x17, ?_⟩
  have S := S.add (o := slO _ _ _ _) x17 hOv22
  have B := bx Hb B x17
  refine t_assign rfl ?_ rfl
  refine t_done ?_
  refine x_seq ?_
  refine w_seq ?_
  refine w_seq ?_
  refine w_region ?_
  refine t_move rfl ?_ rfl
  refine t_move rfl ?_ rfl
  refine t_callx Try.call37 rfl (eqv_bytes _ _ _ _ (S.sl) (S.tail.tail.tail.tail.sl) (by omega)) ?_ rfl rfl
  intro w18 x19
  have B := bx Hb B x19
  have S := S.below x19
  refine t_notb rfl ?_ rfl
  refine t_done ?_
  refine x_seq ?_
  refine w_no rfl ?_
  refine w_skip ?_
  refine x_seq ?_
  refine w_seq ?_
  refine w_seq ?_
  refine w_draw (.st .take 0 (.st .take 1 (.st .run 2 (.st .run 3 (.st .take 4 .done))))) mixed (by kernel_rfl) ?_
  intro w20 x21
  have B := bx Hb B x21
  have S := S.below x21
  refine t_bxn S.tail.box ab_pkt sb_pkt rfl rfl ?_ rfl
  refine t_lda (by assumption) ab_l_pkt sb_l_pkt B rfl ?_ rfl
  intro v28 hv28
  obtain ⟨v28_3, v28_9, rfl, hv28_3, hv28_9⟩ := pkt_va hv28
  refine t_call Try.call29 rfl (va1 (by first | assumption | exact VA.below (by assumption) B | exact pkt_mkv (by first | assumption | exact SlR.below (by assumption) B) (by first | assumption | exact SlR.below (by assumption) B)) fun cs h => to_pkt _ cs _ h (by omega)) ?_ rfl rfl
  rintro e w22 ⟨cs29, fp29, rfl, hO29, x23⟩
  refine ⟨_, rfl, x23, ?_⟩
  have S := S.add (o := tyO pktT _ _) x23 hO29
  have B := bx Hb B x23
  obtain ⟨u29_3, u29_9, heq, S2⟩ := S.pktOpen
  subst heq
  have S := S2
  clear S2
  refine t_callx Try.call31 rfl (eqv_pkt _ _ _ _ (pkt_mkv (S.tail.tail.tail.tail.sl) (S.tail.tail.tail.tail.tail.sl)) (pkt_mkv (S.sl) (S.tail.sl)) (by omega)) ?_ rfl rfl
  intro w24 x25
  have B := bx Hb B x25
  have S := S.below x25
  refine t_notb rfl ?_ rfl
  refine t_done' ?_
  refine x_seq ?_
  refine w_no rfl ?_
  refine w_skip ?_
  refine x_seq ?_
  refine w_seq ?_
  refine w_region ?_
  refine t_assign rfl ?_ rfl
  refine t_done ?_
  refine x_seq ?_
  refine w_seq ?_
  refine w_region ?_
  refine t_bxn S.tail.tail.tail.box ab_pkt sb_pkt rfl rfl ?_ rfl
  refine t_move rfl ?_ rfl
  have S := S.f5
  have S := S.f5
  refine t_callf Try.call32 rfl (mark_pkt _ _ _ _ _ _ _ S (by omega) (by omega)) ?_ rfl
  rintro e w26 ⟨rfl, S, x27⟩
  refine ⟨_, rfl, ?_⟩
  have B := B.trans x27
  refine t_assign rfl ?_ rfl
  refine t_done ?_
  refine x_seq ?_
  refine w_seq ?_
  refine w_seq ?_
  refine w_region ?_
  refine t_move rfl ?_ rfl
  refine t_lss rfl rfl ?_ rfl
  refine t_move rfl ?_ rfl
  refine t_partp (t := 37) rfl (fun h => (by exfalso; omega)) ?_
  intro hc37
  refine t_on rfl rfl ?_
  refine t_move rfl ?_ rfl
  refine t_on rfl rfl ?_
  refine t_move rfl ?_ rfl
  refine t_on rfl rfl ?_
  refine t_callx Try.call37 rfl (eqv_bytes _ _ _ _ (S.tail.tail.tail.tail.sl) (S.tail.tail.tail.tail.tail.tail.sl) (by omega)) ?_ rfl rfl
  intro w28 x29
  have B := bx Hb B x29
  have S := S.below x29
  refine t_on rfl rfl ?_
  refine t_notb rfl ?_ rfl
  refine t_pickf rfl rfl ?_ rfl
  refine t_done ?_
  refine x_seq ?_
  refine w_no rfl ?_
  refine w_skip ?_
  refine x_seq ?_
  refine w_seq ?_
  refine w_region ?_
  refine t_assign rfl ?_ rfl
  refine t_done ?_
  refine x_seq ?_
  refine w_seq ?_
  refine w_region ?_
  refine t_move rfl ?_ rfl
  refine t_move rfl ?_ rfl
  have S := S.f4
  refine t_callf Try.call38 rfl (mark_byte _ _ _ _ _ _ S (by omega) (by omega)) ?_ rfl
  rintro e w30 ⟨rfl, S, x31⟩
  refine ⟨_, rfl, ?_⟩
  have B := B.trans x31
  refine t_assign rfl ?_ rfl
  refine t_done ?_
  refine x_seq ?_
  refine w_seq ?_
  refine w_region ?_
  refine t_assign rfl ?_ rfl
  refine t_done ?_
  refine x_seq ?_
  refine w_seq ?_
  refine w_region ?_
  refine t_move rfl ?_ rfl
  refine t_move rfl ?_ rfl
  refine t_callx Try.call45 rfl (held_byte _ _ _ _ (S.sl) (by omega) (by omega)) ?_ rfl rfl
  intro w32 x33
  have B := bx Hb B x33
  have S := S.below x33
  refine t_assign rfl ?_ rfl
  refine t_done ?_
  refine x_seq ?_
  refine w_seq ?_
  refine w_seq ?_
  refine w_region ?_
  refine t_move rfl ?_ rfl
  refine t_lss rfl rfl ?_ rfl
  refine t_done ?_
  refine x_seq ?_
  refine w_if rfl (fun h => (by exfalso; omega)) ?_
  intro hc50
  refine w_skip ?_
  refine x_seq ?_
  refine w_seq ?_
  refine w_seq ?_
  refine w_region ?_
  refine t_move rfl ?_ rfl
  refine t_move rfl ?_ rfl
  refine t_neq rfl rfl ?_ rfl
  refine t_done ?_
  refine x_seq ?_
  refine w_if rfl (fun h => absurd rfl h) ?_
  intro _
  refine w_skip ?_
  refine x_seq ?_
  refine w_seq ?_
  refine w_region ?_
  refine t_lda (by assumption) ab_l_pkt sb_l_pkt B rfl ?_ rfl
  intro v54 hv54
  obtain ⟨v54_3, v54_9, rfl, hv54_3, hv54_9⟩ := pkt_va hv54
  refine t_call Try.call29 rfl (va1 (by first | assumption | exact VA.below (by assumption) B | exact pkt_mkv (by first | assumption | exact SlR.below (by assumption) B) (by first | assumption | exact SlR.below (by assumption) B)) fun cs h => to_pkt _ cs _ h (by omega)) ?_ rfl rfl
  rintro e w34 ⟨cs55, fp55, rfl, hO55, x35⟩
  refine ⟨_, rfl, x35, ?_⟩
  have S := S.add (o := tyO pktT _ _) x35 hO55
  have B := bx Hb B x35
  obtain ⟨u55_3, u55_9, heq, S2⟩ := S.pktOpen
  subst heq
  have S := S2
  clear S2
  refine t_call Try.call44 rfl (impl_EncodePacket _ _ _ (pkt_mkv (S.sl) (S.tail.sl)) (by omega) (by assumption) (by assumption)) ?_ rfl rfl
  rintro e w36 ⟨v56, fpv56, rfl, hOv56, x37⟩
  refine ⟨_, rfl, x37, ?_⟩
  have S := S.add (o := slO _ _ _ _) x37 hOv56
  have B := bx Hb B x37
  refine t_assign rfl ?_ rfl
  refine t_done ?_
  refine x_seq ?_
  refine w_seq ?_
  refine w_seq ?_
  refine w_region ?_
  refine t_move rfl ?_ rfl
  refine t_move rfl ?_ rfl
  refine t_callx Try.call37 rfl (eqv_bytes _ _ _ _ (S.sl) (S.tail.tail.tail.tail.tail.tail.tail.tail.tail.sl) (by omega)) ?_ rfl rfl
  intro w38 x39
  have B := bx Hb B x39
  have S := S.below x39
  refine t_notb rfl ?_ rfl
  refine t_done ?_
  refine x_seq ?_
  refine w_no rfl ?_
  refine w_skip ?_
  refine x_seq ?_
  refine w_seq ?_
  refine w_region ?_
  refine t_assign rfl ?_ rfl
  refine t_done ?_
  refine x_seq ?_
  refine w_seq ?_
  refine w_region ?_
  refine t_move rfl ?_ rfl
  refine t_move rfl ?_ rfl
  refine t_callx Try.call45 rfl (held_byte _ _ _ _ (S.tail.tail.tail.sl) (by omega) (by omega)) ?_ rfl rfl
  intro w40 x41
  have B := bx Hb B x41
  have S := S.below x41
  refine t_assign rfl ?_ rfl
  refine t_done ?_
  refine x_seq ?_
  refine w_seq ?_
  refine w_seq ?_
  refine w_region ?_
  refine t_move rfl ?_ rfl
  refine t_lss rfl rfl ?_ rfl
  refine t_done ?_
  refine x_seq ?_
  refine w_if rfl (fun h => (by exfalso; omega)) ?_
  intro hc65
  refine w_skip ?_
  refine x_seq ?_
  refine w_seq ?_
  refine w_seq ?_
  refine w_region ?_
  refine t_move rfl ?_ rfl
  refine t_move rfl ?_ rfl
  refine t_neq rfl rfl ?_ rfl
  refine t_done ?_
  refine x_seq ?_
  refine w_if rfl (fun h => absurd rfl h) ?_
  intro _
  refine w_skip ?_
  refine x_seq ?_
  refine w_seq ?_
  refine w_region ?_
  refine t_assign rfl ?_ rfl
  refine t_done ?_
  refine x_seq ?_
  refine w_ret ?_
  refine x_ret1 rfl rfl ?_
  exact ⟨rfl, ext_trans X0 B⟩

namespace fnExactEncodePacket
open Go.ChangeShapes Go.WideShapes Go.ChangeAt

set_option maxRecDepth 100000 in
theorem lifted (os : Os) (started : os.Started) (H : Type) (enc : TypeId × Value → H) :
    ReturnsInHanded {} Try.checked os 9 .any (Rows.fnExactEncodePacketSpec.pre6 enc Try.prog Try.f9 Rows.fnExactEncodePacketRow.domain false) (Rows.fnExactEncodePacketSpec.post enc Try.prog Try.f9 false true false false) := by
  refine returnsInHanded_of_change (C := Try.checked) knob started (by kernel_rfl) Try.func9
    (ChangeSpec.witness6 (enc := enc) (C := Try.checked) false ⟨#[], #[.agg #[I 0, I 0, I 0, .slice none 0 0, I 0, I 0, I 0, I 0, I 0, .slice none 0 0]], []⟩ 8 (by kernel_rfl) (by kernel_rfl) (by kernel_rfl) (by kernel_rfl)) ?_
  intro W base args ds gs before hval0 hW hcnd _
  have hval : ∀ (j : Nat) t v, Try.f9.params[j]? = some t → args[j]? = some v → Value.okWide Try.prog W .any base t v := hval0
  have hW' := hW
  obtain ⟨p, q, hA0, hV, rfl, hfz, hnd⟩ := hW
  have hA : DataW.TrodAll enc Try.prog W 0 (fun _ => true) true Try.f9.params.toList args.toList ds p := hA0
  rw [Try.params9] at hA hval
  obtain ⟨v0, vs0, d0, ds0, p0, q0, hargs, rfl, rfl, h0, r0⟩ := trodAll_cons hA
  obtain ⟨rfl, rfl, rfl⟩ := trodAll_nil r0
  obtain rfl : args = #[v0] := by cases args; simp_all
  obtain ⟨rfl, rfl⟩ := trodVars_none hV
  have k0 := h0
  have lt0 : ∀ x ∈ p0, x.block < W.heap.size := by obtain ⟨m, hm⟩ := k0; exact DataW.trod_lt m _ _ _ hm
  obtain ⟨cs0, x0, rfl, R0, L0, G0⟩ := open_pkt (hval 0 48 v0 rfl rfl) h0
  clear hA0 hval0
  refine (lawEncodePacket x0 _ W R0 L0 G0).mono fun e W' ⟨he, bel⟩ => ?_
  subst he
  exact ⟨_, rfl, _, _, _, [], _, [], hW', trodAll_mk1 (shut_bool Try.underlying4 _), (trodAll_cons_mk (Below.trod laidOut (by kernel_rfl) (of_decide_eq_true (by kernel_rfl)) k0 bel lt0) trodAll_mk0), rfl, bel.frame _, fun h => by cases h⟩

theorem jA : jnA Try.pinned.checked.prog Try.f9 Rows.fnExactEncodePacketSpec Rows.fnExactEncodePacketRow = true := by kernel_rfl
theorem jB : jnB Try.pinned.checked.prog 9 Rows.fnExactEncodePacketRow = true := by kernel_rfl
theorem jC : jnC Try.pinned.checked.prog Try.f9 Rows.fnExactEncodePacketSpec Rows.fnExactEncodePacketRow = true := by kernel_rfl
theorem jD : jnD Try.pinned.checked.prog = true := by kernel_rfl
theorem jE : jnE Try.pinned.checked.prog = true := by kernel_rfl
theorem jF : jnF Try.pinned.checked.prog Rows.fnExactEncodePacketRow = true := by kernel_rfl
theorem jG : jnG Try.pinned.checked.prog Rows.fnExactEncodePacketRow = true := by kernel_rfl
theorem jH : jnH Try.pinned.checked.prog Try.f9 Rows.fnExactEncodePacketRow = true := by kernel_rfl
theorem jI : jnI Rows.fnExactEncodePacketRow = true := by kernel_rfl
theorem jJ : jnJ Try.pinned.checked.prog Try.f9 Rows.fnExactEncodePacketSpec Rows.fnExactEncodePacketRow = true := by kernel_rfl

theorem over : Rows.fnExactEncodePacketRow.holds Try.pinned (OpenSpec.ofChange Rows.fnExactEncodePacketSpec) :=
  OpenClaim.holds_of_wide 9 Try.f9 rfl rfl rfl rfl rfl rfl rfl ⟨rfl, rfl, rfl, rfl, rfl⟩ rfl rfl rfl rfl rfl (by kernel_rfl) Try.func9 (joined_of jA jB jC jD jE jF jG jH jI jJ)
    (of_decide_eq_true (by kernel_rfl)) (by unfold Func.isWrapper; first | (rw [if_pos (by decide +kernel)]; kernel_rfl) | (rw [if_neg (by decide +kernel)]; exact ⟨rfl, rfl⟩))
    (fun os started H enc _ => lifted os started H enc)

theorem proved : Rows.FnExactEncodePacketSaid := over
#print axioms proved
end fnExactEncodePacket
end Go.Proofs.Ytfgobdejlfojiaa
