/- laws.FnExactDecodePacket returns true, for all arguments: the walk of the law out of contracts, and the row. No condition. (Printed by law2.py.) -/
import Derived.Test.YtfgobdejlfojiaaWkY
import Derived.Test.YtfgobdejlfojiaaJoined
import Derived.Test.YtfgobdejlfojiaaEqs
import Derived.Test.YtfgobdejlfojiaaHole
import Derived.Test.YtfgobdejlfojiaaMarks2
import Derived.Test.YtfgobdejlfojiaaSepN
import Derived.Test.YtfgobdejlfojiaaOkz
import Derived.Test.YtfgobdejlfojiaaMarks3
import Derived.Test.YtfgobdejlfojiaaFamByte
import Derived.Test.YtfgobdejlfojiaaOpenVrd
import Derived.Test.YtfgobdejlfojiaaOpen
namespace Go.Proofs.Ytfgobdejlfojiaa
open Go.RowKit
set_option linter.unusedVariables false

set_option maxRecDepth 20000

theorem szI_pos {left : Int} {n : Nat} (h0 : 0 ≤ left) (h : ¬ szI left n < 0) : (n : Int) ≤ left ∧ szI left n = left - n := by
  unfold szI at *
  split at h
  · rename_i h1; exact ⟨h1, by rw [if_pos h1]⟩
  · omega

set_option maxHeartbeats 1000000 in
theorem lawDecodePacket (d0 : List UInt8) (v0 : Value) (w : World) (f0 : SlR byteT w v0 d0) (l0 : d0.length ≤ 9223372036854775807) :
    Calls Try.prog 10 #[v0] w fun r w' => r = .returned (.bool true) ∧ Below w.heap.size w w' := by
  obtain ⟨x0, ok0, hrp⟩ : ∃ p ok, dp2 (decPkt d0) = (p, ok) := ⟨_, _, rfl⟩
  have hr0 := dp2_sz hrp
  have hr1 : 0 ≤ cnt_parts x0.path ∧ cnt_parts x0.path ≤ 5 * (sz_path x0.path : Int) := cnt_parts_bd x0.path
  have hr2 : cnt_pkt x0 = cnt_parts x0.path + 1 * (x0.pay.length : Int) := rfl
  have hr3 : sz_pkt x0 = sz_path x0.path + x0.pay.length := rfl
  have X0 := Below.refl w.heap.size w
  refine enter Try.func10 rfl Try.ntmps10 rfl ?_
  refine w_seq ?_
  refine w_region ?_
  have S := Sep.nil w
  have B := Below.refl w.heap.size w
  have Hb := Nat.le_refl w.heap.size
  refine t_assign rfl ?_ rfl
  refine t_done ?_
  refine x_seq ?_
  refine w_seq ?_
  refine w_seq ?_
  refine w_region ?_
  refine t_move rfl ?_ rfl
  refine t_len e_byte (by assumption) rfl rfl ?_ rfl
  refine t_gtr rfl rfl ?_ rfl
  refine t_done ?_
  refine x_seq ?_
  refine w_if rfl ?_ ?_
  · intro _
    refine w_seq ?_
    refine w_region ?_
    refine t_assign rfl ?_ rfl
    refine t_done ?_
    refine x_seq ?_
    refine w_ret ?_
    refine x_then_ret ?_
    refine x_ret1 rfl rfl ?_
    exact ⟨rfl, ext_trans X0 B⟩
  intro hz1
  refine w_skip ?_
  refine x_seq ?_
  refine w_seq ?_
  refine w_region ?_
  refine t_move rfl ?_ rfl
  refine t_call Try.call35 rfl (to_byteS _ _ _ (by first | assumption | exact SlR.below (by assumption) B) (by omega)) ?_ rfl rfl
  rintro e w2 ⟨v18, fpv18, rfl, hOv18, x3⟩
  refine ⟨_, rfl, x3, ?_⟩
  have S := S.add (o := slO _ _ _ _) x3 hOv18
  have B := bx Hb B x3
  refine t_call Try.call46 rfl (spec_DecodePacket _ _ _ (S.sl) (by omega) hrp) ?_ rfl rfl
  rintro e w4 ⟨cs19, fp19, rfl, hO19, x5⟩
  refine ⟨_, rfl, x5, ?_⟩
  have S := S.add (o := tyO pktT _ _) x5 hO19
  have B := bx Hb B x5
  obtain ⟨u19_3, u19_9, heq, S2⟩ := S.pktOpen
  subst heq
  have S := S2
  clear S2
  refine t_move rfl ?_ rfl
  refine t_extract rfl rfl ?_ rfl
  refine t_extract rfl rfl ?_ rfl
  refine t_alloc S z_pkt rfl ?_ rfl rfl
  intro g3 w6 x7 S
  have B := bx Hb B x7
  refine t_stn S sb_pkt rfl rfl rfl rfl (by intro zz hu; have hu : zz ∈ ([I x0.kind, I x0.src, I x0.dst, u19_3, I x0.pidx, I x0.hidx, I x0.beta, I x0.rid, I x0.seq, u19_9] : List Value) := hu; simp only [List.mem_cons, List.not_mem_nil, or_false] at hu; rcases hu with rfl | rfl | rfl | rfl | rfl | rfl | rfl | rfl | rfl | rfl <;> first | rfl | exact (SlR.cells (by first | assumption | exact S.tail.sl | exact S.tail.tail.sl | exact S.tail.tail.tail.sl | exact S.tail.tail.tail.tail.sl | exact S.tail.tail.tail.tail.tail.sl | exact S.tail.tail.tail.tail.tail.tail.sl | exact S.tail.tail.tail.tail.tail.tail.tail.sl | exact S.tail.tail.tail.tail.tail.tail.tail.tail.sl)).2) ?_
  intro w8 b9 S
  have B := B.trans b9
  refine t_assign rfl ?_ rfl
  refine t_done ?_
  refine x_seq ?_
  refine w_seq ?_
  refine w_region ?_
  refine t_move rfl ?_ rfl
  refine t_call Try.call35 rfl (to_byteS _ _ _ (by first | assumption | exact SlR.below (by assumption) B) (by omega)) ?_ rfl rfl
  rintro e w10 ⟨v23, fpv23, rfl, hOv23, x11⟩
  refine ⟨_, rfl, x11, ?_⟩
  have S := S.add (o := slO _ _ _ _) x11 hOv23
  have B := bx Hb B x11
  refine t_assign rfl ?_ rfl
  refine t_done ?_
  refine x_seq ?_
  refine w_seq ?_
  refine w_region ?_
  refine t_move rfl ?_ rfl
  refine t_call Try.call47 rfl (impl_DecodePacket _ _ _ (S.sl) (by omega) hrp) ?_ rfl rfl
  rintro e w12 ⟨cs26, fp26, rfl, hO26, x13⟩
  refine ⟨_, rfl, x13, ?_⟩
  have S := S.add (o := tyO pktT _ _) x13 hO26
  have B := bx Hb B x13
  obtain ⟨u26_3, u26_9, heq, S2⟩ := S.pktOpen
  subst heq
  have S := S2
  clear S2
  refine t_move rfl ?_ rfl
  refine t_extract rfl rfl ?_ rfl
  refine t_extract rfl rfl ?_ rfl
  refine t_alloc S z_pkt rfl ?_ rfl rfl
  intro g6 w14 x15 S
  have B := bx Hb B x15
  refine t_stn S sb_pkt rfl rfl rfl rfl (by intro zz hu; have hu : zz ∈ ([I x0.kind, I x0.src, I x0.dst, u26_3, I x0.pidx, I x0.hidx, I x0.beta, I x0.rid, I x0.seq, u26_9] : List Value) := hu; simp only [List.mem_cons, List.not_mem_nil, or_false] at hu; rcases hu with rfl | rfl | rfl | rfl | rfl | rfl | rfl | rfl | rfl | rfl <;> first | rfl | exact (SlR.cells (by first | assumption | exact S.tail.sl | exact S.tail.tail.sl | exact S.tail.tail.tail.sl | exact S.tail.tail.tail.tail.sl | exact S.tail.tail.tail.tail.tail.sl | exact S.tail.tail.tail.tail.tail.tail.sl | exact S.tail.tail.tail.tail.tail.tail.tail.sl | exact S.tail.tail.tail.tail.tail.tail.tail.tail.sl)).2) ?_
  intro w16 b17 S
  have B := B.trans b17
  refine t_assign rfl ?_ rfl
  refine t_done ?_
  refine x_seq ?_
  refine w_seq ?_
  refine w_seq ?_
  refine w_region ?_
  refine t_bxn S.box ab_pkt sb_pkt rfl rfl ?_ rfl
  refine t_bxn S.tail.tail.tail.tail.box ab_pkt sb_pkt rfl rfl ?_ rfl
  refine t_callx Try.call31 rfl (eqv_pkt _ _ _ _ (pkt_mkv (S.tail.sl) (S.tail.tail.sl)) (pkt_mkv (S.tail.tail.tail.tail.tail.sl) (S.tail.tail.tail.tail.tail.tail.sl)) (by omega)) ?_ rfl rfl
  intro w18 x19
  have B := bx Hb B x19
  have S := S.below x19
  refine t_notb rfl ?_ rfl
  refine t_move rfl ?_ rfl
  refine t_on rfl rfl ?_
  refine t_move rfl ?_ rfl
  refine t_on rfl rfl ?_
  refine t_move rfl ?_ rfl
  refine t_on rfl rfl ?_
  refine t_neqb Try.underlying4 rfl rfl ?_ rfl
  refine t_pickf rfl rfl ?_ rfl
  refine t_done ?_
  refine x_seq ?_
  refine w_if rfl (fun h => absurd rfl h) ?_
  intro _
  refine w_skip ?_
  refine x_seq ?_
  refine w_seq ?_
  refine w_seq ?_
  refine w_region ?_
  refine t_move rfl ?_ rfl
  refine t_move rfl ?_ rfl
  refine t_call Try.call35 rfl (to_byteS _ _ _ (by first | assumption | exact SlR.below (by assumption) B) (by omega)) ?_ rfl rfl
  rintro e w20 ⟨v40, fpv40, rfl, hOv40, x21⟩
  refine ⟨_, rfl, x21, ?_⟩
  have S := S.add (o := slO _ _ _ _) x21 hOv40
  have B := bx Hb B x21
  refine t_callx Try.call37 rfl (eqv_bytes _ _ _ _ (S.tail.tail.tail.tail.sl) (S.sl) (by omega)) ?_ rfl rfl
  intro w22 x23
  have B := bx Hb B x23
  have S := S.below x23
  refine t_notb rfl ?_ rfl
  refine t_done ?_
  refine x_seq ?_
  refine w_no rfl ?_
  refine w_skip ?_
  refine x_seq ?_
  refine w_seq ?_
  refine w_region ?_
  refine t_assign rfl ?_ rfl
  refine t_done ?_
  refine x_seq ?_
  refine w_seq ?_
  refine w_region ?_
  refine t_move rfl ?_ rfl
  refine t_move rfl ?_ rfl
  have S := S.f4
  refine t_callf Try.call38 rfl (mark_byte _ _ _ _ _ _ S (by omega) (by omega)) ?_ rfl
  rintro e w24 ⟨rfl, S, x25⟩
  refine ⟨_, rfl, ?_⟩
  have B := B.trans x25
  refine t_assign rfl ?_ rfl
  refine t_done ?_
  refine x_seq ?_
  refine w_seq ?_
  refine w_seq ?_
  refine w_region ?_
  refine t_move rfl ?_ rfl
  refine t_lss rfl rfl ?_ rfl
  refine t_move rfl ?_ rfl
  refine t_partp (t := 48) rfl (fun h => (by exfalso; omega)) ?_
  intro hc48
  refine t_on rfl rfl ?_
  refine t_bxn S.tail.tail.box ab_pkt sb_pkt rfl rfl ?_ rfl
  refine t_on rfl rfl ?_
  refine t_bxn S.tail.tail.tail.tail.tail.box ab_pkt sb_pkt rfl rfl ?_ rfl
  refine t_on rfl rfl ?_
  refine t_callx Try.call31 rfl (eqv_pkt _ _ _ _ (pkt_mkv (S.tail.tail.tail.sl) (S.tail.tail.tail.tail.sl)) (pkt_mkv (S.tail.tail.tail.tail.tail.tail.sl) (S.tail.tail.tail.tail.tail.tail.tail.sl)) (by omega)) ?_ rfl rfl
  intro w26 x27
  have B := bx Hb B x27
  have S := S.below x27
  refine t_on rfl rfl ?_
  refine t_notb rfl ?_ rfl
  refine t_pickf rfl rfl ?_ rfl
  refine t_move rfl ?_ rfl
  refine t_on rfl rfl ?_
  refine t_move rfl ?_ rfl
  refine t_on rfl rfl ?_
  refine t_move rfl ?_ rfl
  refine t_on rfl rfl ?_
  refine t_neqb Try.underlying4 rfl rfl ?_ rfl
  refine t_pickf rfl rfl ?_ rfl
  refine t_done ?_
  refine x_seq ?_
  refine w_if rfl (fun h => absurd rfl h) ?_
  intro _
  refine w_skip ?_
  refine x_seq ?_
  refine w_seq ?_
  refine w_region ?_
  refine t_assign rfl ?_ rfl
  refine t_done ?_
  refine x_seq ?_
  refine w_seq ?_
  refine w_region ?_
  refine t_bxn S.tail.tail.box ab_pkt sb_pkt rfl rfl ?_ rfl
  refine t_move rfl ?_ rfl
  have S := S.f4
  have S := S.f4
  refine t_callf Try.call32 rfl (mark_pkt _ _ _ _ _ _ _ S (by omega) (by omega)) ?_ rfl
  rintro e w28 ⟨rfl, S, x29⟩
  refine ⟨_, rfl, ?_⟩
  have B := B.trans x29
  refine t_assign rfl ?_ rfl
  refine t_done ?_
  refine x_seq ?_
  refine w_seq ?_
  refine w_region ?_
  refine t_assign rfl ?_ rfl
  refine t_done ?_
  refine x_seq ?_
  refine w_seq ?_
  refine w_region ?_
  refine t_bxn S.tail.tail.tail.tail.box ab_pkt sb_pkt rfl rfl ?_ rfl
  refine t_move rfl ?_ rfl
  refine t_callx Try.call33 rfl (held_pkt x0 _ _ _ _ _ _ _ _ _ _ _ _ (S.sl) (S.tail.sl) (by omega) (by omega)) ?_ rfl rfl
  intro w30 x31
  have B := bx Hb B x31
  have S := S.below x31
  refine t_assign rfl ?_ rfl
  refine t_done ?_
  refine x_seq ?_
  refine w_seq ?_
  refine w_seq ?_
  refine w_region ?_
  refine t_move rfl ?_ rfl
  refine t_lss rfl rfl ?_ rfl
  refine t_done ?_
  refine x_seq ?_
  refine w_if rfl (fun h => (by exfalso; omega)) ?_
  intro hc66
  refine w_skip ?_
  refine x_seq ?_
  refine w_seq ?_
  refine w_seq ?_
  refine w_region ?_
  refine t_move rfl ?_ rfl
  refine t_move rfl ?_ rfl
  refine t_neq rfl rfl ?_ rfl
  refine t_done ?_
  refine x_seq ?_
  refine w_if rfl (fun h => absurd rfl h) ?_
  intro _
  refine w_skip ?_
  refine x_seq ?_
  refine w_seq ?_
  refine w_region ?_
  refine t_move rfl ?_ rfl
  refine t_call Try.call35 rfl (to_byteS _ _ _ (by first | assumption | exact SlR.below (by assumption) B) (by omega)) ?_ rfl rfl
  rintro e w32 ⟨v72, fpv72, rfl, hOv72, x33⟩
  refine ⟨_, rfl, x33, ?_⟩
  have S := S.add (o := slO _ _ _ _) x33 hOv72
  have B := bx Hb B x33
  refine t_call Try.call47 rfl (impl_DecodePacket _ _ _ (S.sl) (by omega) hrp) ?_ rfl rfl
  rintro e w34 ⟨cs73, fp73, rfl, hO73, x35⟩
  refine ⟨_, rfl, x35, ?_⟩
  have S := S.add (o := tyO pktT _ _) x35 hO73
  have B := bx Hb B x35
  obtain ⟨u73_3, u73_9, heq, S2⟩ := S.pktOpen
  subst heq
  have S := S2
  clear S2
  refine t_move rfl ?_ rfl
  refine t_extract rfl rfl ?_ rfl
  refine t_extract rfl rfl ?_ rfl
  refine t_alloc S z_pkt rfl ?_ rfl rfl
  intro g11 w36 x37 S
  have B := bx Hb B x37
  refine t_stn S sb_pkt rfl rfl rfl rfl (by intro zz hu; have hu : zz ∈ ([I x0.kind, I x0.src, I x0.dst, u73_3, I x0.pidx, I x0.hidx, I x0.beta, I x0.rid, I x0.seq, u73_9] : List Value) := hu; simp only [List.mem_cons, List.not_mem_nil, or_false] at hu; rcases hu with rfl | rfl | rfl | rfl | rfl | rfl | rfl | rfl | rfl | rfl <;> first | rfl | exact (SlR.cells (by first | assumption | exact S.tail.sl | exact S.tail.tail.sl | exact S.tail.tail.tail.sl | exact S.tail.tail.tail.tail.sl | exact S.tail.tail.tail.tail.tail.sl | exact S.tail.tail.tail.tail.tail.tail.sl | exact S.tail.tail.tail.tail.tail.tail.tail.sl | exact S.tail.tail.tail.tail.tail.tail.tail.tail.sl)).2) ?_
  intro w38 b39 S
  have B := B.trans b39
  refine t_assign rfl ?_ rfl
  refine t_done ?_
  refine x_seq ?_
  refine w_seq ?_
  refine w_seq ?_
  refine w_region ?_
  refine t_bxn S.box ab_pkt sb_pkt rfl rfl ?_ rfl
  refine t_bxn S.tail.tail.tail.tail.tail.tail.tail.tail.tail.box ab_pkt sb_pkt rfl rfl ?_ rfl
  refine t_callx Try.call31 rfl (eqv_pkt _ _ _ _ (pkt_mkv (S.tail.sl) (S.tail.tail.sl)) (pkt_mkv (S.tail.tail.tail.tail.tail.tail.tail.tail.tail.tail.sl) (S.tail.tail.tail.tail.tail.tail.tail.tail.tail.tail.tail.sl)) (by omega)) ?_ rfl rfl
  intro w40 x41
  have B := bx Hb B x41
  have S := S.below x41
  refine t_notb rfl ?_ rfl
  refine t_move rfl ?_ rfl
  refine t_on rfl rfl ?_
  refine t_move rfl ?_ rfl
  refine t_on rfl rfl ?_
  refine t_move rfl ?_ rfl
  refine t_on rfl rfl ?_
  refine t_neqb Try.underlying4 rfl rfl ?_ rfl
  refine t_pickf rfl rfl ?_ rfl
  refine t_done ?_
  refine x_seq ?_
  refine w_if rfl (fun h => absurd rfl h) ?_
  intro _
  refine w_skip ?_
  refine x_seq ?_
  refine w_seq ?_
  refine w_region ?_
  refine t_assign rfl ?_ rfl
  refine t_done ?_
  refine x_seq ?_
  refine w_seq ?_
  refine w_region ?_
  refine t_bxn S.tail.tail.tail.tail.tail.tail.tail.tail.box ab_pkt sb_pkt rfl rfl ?_ rfl
  refine t_move rfl ?_ rfl
  refine t_callx Try.call33 rfl (held_pkt x0 _ _ _ _ _ _ _ _ _ _ _ _ (S.tail.tail.tail.tail.sl) (S.tail.tail.tail.tail.tail.sl) (by omega) (by omega)) ?_ rfl rfl
  intro w42 x43
  have B := bx Hb B x43
  have S := S.below x43
  refine t_assign rfl ?_ rfl
  refine t_done ?_
  refine x_seq ?_
  refine w_seq ?_
  refine w_seq ?_
  refine w_region ?_
  refine t_move rfl ?_ rfl
  refine t_lss rfl rfl ?_ rfl
  refine t_done ?_
  refine x_seq ?_
  refine w_if rfl (fun h => (by exfalso; omega)) ?_
  intro hc89
  refine w_skip ?_
  refine x_seq ?_
  refine w_seq ?_
  refine w_seq ?_
  refine w_region ?_
  refine t_move rfl ?_ rfl
  refine t_move rfl ?_ rfl
  refine t_neq rfl rfl ?_ rfl
  refine t_done ?_
  refine x_seq ?_
  refine w_if rfl (fun h => absurd rfl h) ?_
  intro _
  refine w_skip ?_
  refine x_seq ?_
  refine w_seq ?_
  refine w_region ?_
  refine t_assign rfl ?_ rfl
  refine t_done ?_
  refine x_seq ?_
  refine w_ret ?_
  refine x_ret1 rfl rfl ?_
  exact ⟨rfl, ext_trans X0 B⟩

namespace fnExactDecodePacket
open Go.ChangeShapes Go.WideShapes Go.ChangeAt

set_option maxRecDepth 100000 in
theorem lifted (os : Os) (started : os.Started) (H : Type) (enc : TypeId × Value → H) :
    ReturnsInHanded {} Try.checked os 10 .any (Rows.fnExactDecodePacketSpec.pre6 enc Try.prog Try.f10 Rows.fnExactDecodePacketRow.domain false) (Rows.fnExactDecodePacketSpec.post enc Try.prog Try.f10 false true false false) := by
  refine returnsInHanded_of_change (C := Try.checked) knob started (by kernel_rfl) Try.func10
    (ChangeSpec.witness6 (enc := enc) (C := Try.checked) false ⟨#[], #[.slice none 0 0], []⟩ 8 (by kernel_rfl) (by kernel_rfl) (by kernel_rfl) (by kernel_rfl)) ?_
  intro W base args ds gs before hval0 hW hcnd _
  have hval : ∀ (j : Nat) t v, Try.f10.params[j]? = some t → args[j]? = some v → Value.okWide Try.prog W .any base t v := hval0
  have hW' := hW
  obtain ⟨p, q, hA0, hV, rfl, hfz, hnd⟩ := hW
  have hA : DataW.TrodAll enc Try.prog W 0 (fun _ => true) true Try.f10.params.toList args.toList ds p := hA0
  rw [Try.params10] at hA hval
  obtain ⟨v0, vs0, d0, ds0, p0, q0, hargs, rfl, rfl, h0, r0⟩ := trodAll_cons hA
  obtain ⟨rfl, rfl, rfl⟩ := trodAll_nil r0
  obtain rfl : args = #[v0] := by cases args; simp_all
  obtain ⟨rfl, rfl⟩ := trodVars_none hV
  have k0 := h0
  have lt0 : ∀ x ∈ p0, x.block < W.heap.size := by obtain ⟨m, hm⟩ := k0; exact DataW.trod_lt m _ _ _ hm
  obtain ⟨x0, R0, L0⟩ := open_byteS (hval 0 46 v0 rfl rfl) h0
  clear hA0 hval0
  refine (lawDecodePacket x0 _ W R0 L0).mono fun e W' ⟨he, bel⟩ => ?_
  subst he
  exact ⟨_, rfl, _, _, _, [], _, [], hW', trodAll_mk1 (shut_bool Try.underlying4 _), (trodAll_cons_mk (Below.trod laidOut (by kernel_rfl) (of_decide_eq_true (by kernel_rfl)) k0 bel lt0) trodAll_mk0), rfl, bel.frame _, fun h => by cases h⟩

theorem jA : jnA Try.pinned.checked.prog Try.f10 Rows.fnExactDecodePacketSpec Rows.fnExactDecodePacketRow = true := by kernel_rfl
theorem jB : jnB Try.pinned.checked.prog 10 Rows.fnExactDecodePacketRow = true := by kernel_rfl
theorem jC : jnC Try.pinned.checked.prog Try.f10 Rows.fnExactDecodePacketSpec Rows.fnExactDecodePacketRow = true := by kernel_rfl
theorem jD : jnD Try.pinned.checked.prog = true := by kernel_rfl
theorem jE : jnE Try.pinned.checked.prog = true := by kernel_rfl
theorem jF : jnF Try.pinned.checked.prog Rows.fnExactDecodePacketRow = true := by kernel_rfl
theorem jG : jnG Try.pinned.checked.prog Rows.fnExactDecodePacketRow = true := by kernel_rfl
theorem jH : jnH Try.pinned.checked.prog Try.f10 Rows.fnExactDecodePacketRow = true := by kernel_rfl
theorem jI : jnI Rows.fnExactDecodePacketRow = true := by kernel_rfl
theorem jJ : jnJ Try.pinned.checked.prog Try.f10 Rows.fnExactDecodePacketSpec Rows.fnExactDecodePacketRow = true := by kernel_rfl

theorem over : Rows.fnExactDecodePacketRow.holds Try.pinned (OpenSpec.ofChange Rows.fnExactDecodePacketSpec) :=
  OpenClaim.holds_of_wide 10 Try.f10 rfl rfl rfl rfl rfl rfl rfl ⟨rfl, rfl, rfl, rfl, rfl⟩ rfl rfl rfl rfl rfl (by kernel_rfl) Try.func10 (joined_of jA jB jC jD jE jF jG jH jI jJ)
    (of_decide_eq_true (by kernel_rfl)) (by unfold Func.isWrapper; first | (rw [if_pos (by decide +kernel)]; kernel_rfl) | (rw [if_neg (by decide +kernel)]; exact ⟨rfl, rfl⟩))
    (fun os started H enc _ => lifted os started H enc)

theorem proved : Rows.FnExactDecodePacketSaid := over
#print axioms proved
end fnExactDecodePacket
end Go.Proofs.Ytfgobdejlfojiaa
