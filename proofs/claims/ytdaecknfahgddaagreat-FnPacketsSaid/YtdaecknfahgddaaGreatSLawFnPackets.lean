/- laws.FnPackets returns true, for all arguments: the walk of the law out of contracts of the draws and of what it calls, and the row. No condition. (The row: printed by law3.py.) -/
import Derived.Test.YtdaecknfahgddaaGreatSLawFnPackets6
namespace Go.Proofs.YtdaecknfahgddaaGreat
open Go.RowKit
set_option linter.unusedVariables false
set_option maxRecDepth 20000
theorem laws_big (l : List UInt8) (v : Value) (w : World) (h : SlR byteT w v l) : Calls Tryz.prog 5 #[v] w fun e w' => e = .returned (.bool (decide ((1048576 : Int) < (l.length : Int)))) ∧ w = w' := by
  have X0 := Below.refl w.heap.size w
  refine enter Tryz.func5 rfl Tryz.ntmps5 rfl ?_
  refine w_s ?_
  refine w_g ?_
  have S := Sep.nil w
  have B := Below.refl w.heap.size w
  have Hb := Nat.le_refl w.heap.size
  refine t_a rfl ?_ rfl
  refine t_d ?_
  refine x_s ?_
  refine w_s ?_
  refine w_g ?_
  refine t_m rfl ?_ rfl
  refine t_len e_byte ‹_› rfl rfl ?_ rfl
  refine t_gtr rfl rfl ?_ rfl
  refine t_a rfl ?_ rfl
  refine t_d ?_
  refine x_s ?_
  refine w_r ?_
  refine x_ret1 rfl rfl ?_
  exact ⟨rfl, rfl⟩
theorem valid_rng {x : Pkt} (h : validPkt x = true) : rng_pkt x ∧ lenOk_pkt x := by
  obtain ⟨hi, he, hp⟩ := pktInts_in h
  have g : ∀ y ∈ pktInts x, In64 y := fun y hy => by have := hi y hy; exact in64 (by omega) (by omega)
  have hq := encPath_part he
  have hl : lenOk_path x.path := ⟨by have := hq.1; omega, fun z hz => by
    have := hq.2 z hz
    unfold encPart encHops at this
    simp only [Bool.and_eq_true, decide_eq_true_eq] at this
    show z.hops.length ≤ _
    omega⟩
  exact ⟨⟨g _ (by simp [pktInts]), g _ (by simp [pktInts]), g _ (by simp [pktInts]), encPath_rng he, g _ (by simp [pktInts]), g _ (by simp [pktInts]), g _ (by simp [pktInts]), g _ (by simp [pktInts]), g _ (by simp [pktInts])⟩, hl, by omega⟩
theorem valid_at {x : Pkt} (h : validPkt x = true) : 0 ≤ currentAS x := by
  unfold validPkt at h
  simp only [Bool.and_eq_true, Bool.not_eq_true', decide_eq_false_iff_not] at h
  omega
theorem dp2_yes {c : List UInt8} {x : Pkt} (h : dp2 (decPkt c) = (x, true)) : decPkt c = some x := by
  cases hd : decPkt c with
  | none => rw [hd] at h; cases h
  | some y => rw [hd] at h; cases h; rfl
set_option maxHeartbeats 16000000 in
theorem lawFnPackets (d0 : List UInt8) (v0 : Value) (w : World) (f0 : SlR byteT w v0 d0) (l0 : d0.length ≤ 9223372036854775807) :
  Calls Tryz.prog 4 #[v0] w fun r w' => r = .returned (.bool true) ∧ Below w.heap.size w w' := by
 have X0 := Below.refl w.heap.size w
 refine enter Tryz.func4 rfl Tryz.ntmps4 rfl ?_
 refine w_s ?_
 refine w_g ?_
 have S := Sep.nil w
 have B := Below.refl w.heap.size w
 have Hb := Nat.le_refl w.heap.size
 refine t_a rfl ?_ rfl
 refine t_d ?_
 refine x_s ?_
 iterate 2 refine w_s ?_
 refine w_g ?_
 refine t_m rfl ?_ rfl
 refine t_calls Tryz.call5 rfl (laws_big _ _ _ (by first | assumption | exact SlR.below ‹_› B)) ?_ rfl rfl
 refine t_d ?_
 refine x_s ?_
 refine w_if rfl ?_ ?_
 ·intro hb
  refine w_s ?_
  refine w_g ?_
  refine t_a rfl ?_ rfl
  refine t_d ?_
  refine x_s ?_
  refine w_r ?_
  refine x_t ?_
  refine x_ret1 rfl rfl ?_
  exact ⟨rfl, ext_trans X0 B⟩
 ·intro hb
  refine w_k ?_
  refine x_s ?_
  refine w_s ?_
  refine w_g ?_
  refine t_m rfl ?_ rfl
  refine t_c Tryz.call31 rfl (spec_DrawEncodePacket _ _ _ (by first | assumption | exact SlR.below ‹_› B) (by omega)) ?_ rfl rfl
  rintro e w1 ⟨v3_24, v9_24, pk24, rfl, hf24, S9, x2⟩
  refine ⟨_, rfl, x2, ?_⟩
  have S := S.join2 x2 S9
  clear S9
  have B := bx Hb B x2
  refine t_w S z_pkt rfl ?_ rfl rfl
  intro g3 w3 x4 S
  have B := bx Hb B x4
  refine t_stn S sb_pkt rfl rfl rfl rfl (by repeat first | exact oc0 | refine oc rfl ?_ | refine oc (SlR.cells S.tail.rd).2 ?_ | refine oc (SlR.cells S.tail.tail.sl).2 ?_) ?_
  intro w5 b6 S
  have B := B.trans b6
  refine t_d ?_
  refine x_s ?_
  refine w_s ?_
  have hz1 := hf24.sz
  have hr1 := hf24.rng
  have hn1 := hf24.lenOk
  have hpe := pkt_enc hf24
  refine w_g ?_
  refine t_b S.box ab_pkt sb_pkt rfl rfl ?_ rfl
  refine t_c Tryz.call32 rfl (impl_EncodePacket pk24 _ _ (pkt_mkv (S.tail.rd) (S.tail.tail.sl)) (by omega) ‹_› ‹_›) ?_ rfl rfl
  rintro e w7 ⟨v26, fpv26, rfl, hOv26, x8⟩
  refine ⟨_, rfl, x8, ?_⟩
  have S := S.add (o := slO _ _ _ _) x8 hOv26
  have B := bx Hb B x8
  refine t_a rfl ?_ rfl
  refine t_d ?_
  refine x_s ?_
  refine w_s ?_
  refine w_g ?_
  refine t_m rfl ?_ rfl
  refine t_c Tryz.call33 rfl (spec_DrawDecodePacket _ _ _ (by first | assumption | exact SlR.below ‹_› B) (by omega)) ?_ rfl rfl
  rintro e w9 ⟨vb28, bs28, rfl, hf28, S9, x10⟩
  refine ⟨_, rfl, x10, ?_⟩
  have S := S.join2 x10 S9
  clear S9
  have B := bx Hb B x10
  refine t_a rfl ?_ rfl
  refine t_d ?_
  refine x_s ?_
  refine w_s ?_
  obtain ⟨px, okx, hrp⟩ : ∃ x ok, dp2 (decPkt bs28) = (x, ok) := ⟨_, _, rfl⟩
  have hz2 := dp2_sz hrp
  refine w_g ?_
  refine t_m rfl ?_ rfl
  refine t_c Tryz.call34 rfl (impl_DecodePacket _ _ _ (S.rd) (by omega) hrp) ?_ rfl rfl
  rintro e w11 ⟨cs31, fp31, rfl, hO31, x12⟩
  refine ⟨_, rfl, x12, ?_⟩
  have S := S.add (o := tyO pktT _ _) x12 hO31
  have B := bx Hb B x12
  obtain ⟨u31_3, u31_9, heq, S2⟩ := S.pktOpen
  subst heq
  have S := S2
  clear S2
  refine t_m rfl ?_ rfl
  iterate 2 refine t_extract rfl rfl ?_ rfl
  refine t_w S z_pkt rfl ?_ rfl rfl
  intro g6 w13 x14 S
  have B := bx Hb B x14
  refine t_stn S sb_pkt rfl rfl rfl rfl (by repeat first | exact oc0 | refine oc rfl ?_ | refine oc (SlR.cells S.tail.sl).2 ?_ | refine oc (SlR.cells S.tail.tail.sl).2 ?_) ?_
  intro w15 b16 S
  have B := B.trans b16
  refine t_a rfl ?_ rfl
  refine t_d ?_
  refine x_s ?_
  refine w_s ?_
  refine w_g ?_
  refine t_m rfl ?_ rfl
  refine t_c Tryz.call35 rfl (spec_DecodePacket _ _ _ (S.tail.tail.tail.rd) (by omega) hrp) ?_ rfl rfl
  rintro e w17 ⟨cs36, fp36, rfl, hO36, x18⟩
  refine ⟨_, rfl, x18, ?_⟩
  have S := S.add (o := tyO pktT _ _) x18 hO36
  have B := bx Hb B x18
  obtain ⟨u36_3, u36_9, heq, S2⟩ := S.pktOpen
  subst heq
  have S := S2
  clear S2
  refine t_m rfl ?_ rfl
  iterate 2 refine t_extract rfl rfl ?_ rfl
  refine t_w S z_pkt rfl ?_ rfl rfl
  intro g8 w19 x20 S
  have B := bx Hb B x20
  refine t_stn S sb_pkt rfl rfl rfl rfl (by repeat first | exact oc0 | refine oc rfl ?_ | refine oc (SlR.cells S.tail.sl).2 ?_ | refine oc (SlR.cells S.tail.tail.sl).2 ?_) ?_
  intro w21 b22 S
  have B := B.trans b22
  refine t_a rfl ?_ rfl
  refine t_d ?_
  refine x_s ?_
  refine w_s ?_
  refine w_g ?_
  refine t_m rfl ?_ rfl
  refine t_c Tryz.call36 rfl (spec_DrawNewPacket _ _ _ (by first | assumption | exact SlR.below ‹_› B) (by omega)) ?_ rfl rfl
  rintro e w23 ⟨vp41, vb41, kd41, rr41, ss41, p41, bs41, rfl, hf41, S9, x24⟩
  refine ⟨_, rfl, x24, ?_⟩
  have S := S.join2 x24 S9
  clear S9
  have B := bx Hb B x24
  refine t_m rfl ?_ rfl
  iterate 5 refine t_extract rfl rfl ?_ rfl
  refine t_w S z_path rfl ?_ rfl rfl
  intro g11 w25 x26 S
  have B := bx Hb B x26
  refine t_a rfl ?_ rfl
  refine t_stn S sb_path rfl rfl rfl rfl (by repeat first | exact oc0 | refine oc rfl ?_ | refine oc (SlR.cells S.tail.rd).2 ?_) ?_
  intro w27 b28 S
  have B := B.trans b28
  iterate 3 refine t_a rfl ?_ rfl
  refine t_d ?_
  refine x_s ?_
  refine w_s ?_
  obtain ⟨hP3, hb3, hk3, hr3, hs3⟩ := hf41
  have hsz3 := hP3.sz
  have hrg3 := hP3.rng
  have hln3 := hP3.lenOk
  have hzn : sz_pkt (newPkt kd41 p41 rr41 ss41 bs41) ≤ 1000 := by
   show sz_path p41 + bs41.length ≤ 1000
   omega
  refine w_g ?_
  refine t_m rfl ?_ rfl
  refine t_c Tryz.call37 rfl (spec_DrawEqualPackets _ _ _ (by first | assumption | exact SlR.below ‹_› B) (by omega)) ?_ rfl rfl
  rintro e w29 ⟨u3_49, u9_49, v3_49, v9_49, pa49, pb49, rfl, hf49, S9, x30⟩
  refine ⟨_, rfl, x30, ?_⟩
  have S := S.join2 x30 S9
  clear S9
  have B := bx Hb B x30
  refine t_m rfl ?_ rfl
  iterate 2 refine t_extract rfl rfl ?_ rfl
  refine t_w S z_pkt rfl ?_ rfl rfl
  intro g15 w31 x32 S
  have B := bx Hb B x32
  refine t_w S z_pkt rfl ?_ rfl rfl
  intro g16 w33 x34 S
  have B := bx Hb B x34
  have S := S.f1
  refine t_stn S sb_pkt rfl rfl rfl rfl (by repeat first | exact oc0 | refine oc rfl ?_ | refine oc (SlR.cells S.tail.tail.rd).2 ?_ | refine oc (SlR.cells S.tail.tail.tail.sl).2 ?_) ?_
  intro w35 b36 S
  have B := B.trans b36
  have S := S.f1
  refine t_stn S sb_pkt rfl rfl rfl rfl (by repeat first | exact oc0 | refine oc rfl ?_ | refine oc (SlR.cells S.t4.rd).2 ?_ | refine oc (SlR.cells S.t4.tail.sl).2 ?_) ?_
  intro w37 b38 S
  have B := B.trans b38
  refine t_d ?_
  refine x_s ?_
  refine w_s ?_
  have hz4 := hf49.1.sz
  have hz5 := hf49.2.sz
  refine w_g ?_
  refine t_m rfl ?_ rfl
  refine t_c Tryz.call38 rfl (spec_DrawFormatPacket _ _ _ (by first | assumption | exact SlR.below ‹_› B) (by omega)) ?_ rfl rfl
  rintro e w39 ⟨va54, vl54, v3_54, v9_54, A54, L54, pk54, rfl, hf54, S9, x40⟩
  refine ⟨_, rfl, x40, ?_⟩
  have S := S.join2 x40 S9
  clear S9
  have B := bx Hb B x40
  refine t_m rfl ?_ rfl
  iterate 2 refine t_extract rfl rfl ?_ rfl
  refine t_w S z_topo rfl ?_ rfl rfl
  intro g17 w41 x42 S
  have B := bx Hb B x42
  refine t_w S z_pkt rfl ?_ rfl rfl
  intro g18 w43 x44 S
  have B := bx Hb B x44
  have S := S.f1
  refine t_stn S sb_topo rfl rfl rfl rfl (by repeat first | exact oc0 | refine oc rfl ?_ | refine oc (SlR.cells S.t4.sl).2 ?_ | refine oc (SlR.cells S.t4.tail.sl).2 ?_) ?_
  intro w45 b46 S
  have B := B.trans b46
  have S := S.f1
  refine t_stn S sb_pkt rfl rfl rfl rfl (by repeat first | exact oc0 | refine oc rfl ?_ | refine oc (SlR.cells S.tail.tail.rd).2 ?_ | refine oc (SlR.cells S.tail.tail.tail.sl).2 ?_) ?_
  intro w47 b48 S
  have B := B.trans b48
  refine t_d ?_
  refine x_s ?_
  refine w_s ?_
  obtain ⟨T, hX⟩ := hf54
  have hz6 := hX.sz
  have hr6 := hX.rng
  have hn6 := hX.lenOk
  have hst : sz_topo (⟨A54, L54⟩ : Topo) ≤ 1048576 := by have := T.1.2.1; have := T.len; simp only [sz_topo]; omega
  have hrt := T.rng
  refine w_s ?_
  refine w_draw (.st .take 0 (.st .take 1 (.st .run 2 (.st .run 3 (.st .take 4 (.st .take 5 (.st .take 6 (.st .take 7 (.st .run 8 (.st .take 9 (.st .take 10 (.st .take 11 (.st .take 12 (.st .take 13 (.st .take 14 (.st .take 15 (.st .take 16 (.st .take 17 (.st .take 18 (.st .take 19 (.st .take 20 (.st .take 21 (.st .take 23 (.st .take 24 (.st .take 25 (.st .take 26 (.st .take 27 (.st .run 22 (.st .run 28 (.st .run 29 (.st .take 30 (.st .take 31 (.st .take 32 (.st .take 33 (.st .take 34 (.st .take 36 (.st .take 37 (.st .run 35 (.st .run 38 (.st .take 39 (.st .take 40 (.st .take 41 (.st .take 42 (.st .take 43 (.st .take 45 (.st .take 46 (.st .run 44 (.st .run 47 (.st .take 48 (.st .take 49 (.st .take 50 (.st .take 51 (.st .take 53 (.st .run 52 (.st .run 54 (.st .take 55 (.st .take 56 (.st .take 57 (.st .take 58 (.st .take 60 (.st .run 59 (.st .run 61 (.st .take 62 (.st .take 63 (.st .take 64 (.st .take 65 (.st .take 67 (.st .run 66 (.st .run 68 (.st .take 69 (.st .take 70 .done))))))))))))))))))))))))))))))))))))))))))))))))))))))))))))))))))))))) mixed (by kernel_rfl) ?_
  intro w49 x50
  have B := bx Hb B x50
  have S := S.below x50
  refine t_m rfl ?_ rfl
  refine t_b S.t4.t4.t4.t4.t4.tail.tail.tail.box ab_pkt sb_pkt rfl rfl ?_ rfl
  refine t_c Tryz.call40 rfl (spec_EncodePacket pk24 _ _ (pkt_mkv (S.t4.t4.t4.t4.t4.t4.rd) (S.t4.t4.t4.t4.t4.t4.tail.sl)) (by omega) ‹_› ‹_›) ?_ rfl rfl
  rintro e w51 ⟨v59, fpv59, rfl, hOv59, x52⟩
  refine ⟨_, rfl, x52, ?_⟩
  have S := S.add (o := slO _ _ _ _) x52 hOv59
  have B := bx Hb B x52
  refine t_x Tryz.call39 rfl (laws_same (pktEnc pk24) (pktEnc pk24) _ _ _ (S.t4.t4.t4.t4.t4.tail.tail.tail.sl) (S.sl) (by omega) (by omega)) ?_ rfl rfl
  intro w53 x54
  have B := bx Hb B x54
  have S := S.below x54
  refine t_not rfl ?_ rfl
  refine t_m rfl ?_ rfl
  refine t_partp (t := 62) rfl (fun h => absurd rfl h) ?_
  intro _
  refine t_on rfl rfl ?_
  refine t_b S.t4.t4.t4.t4.tail.tail.tail.box ab_pkt sb_pkt rfl rfl ?_ rfl
  refine t_on rfl rfl ?_
  refine t_b S.t4.t4.t4.t4.box ab_pkt sb_pkt rfl rfl ?_ rfl
  refine t_on rfl rfl ?_
  refine t_x Tryz.call41 rfl (laws_samePacket px px _ _ _ (pkt_mkv (S.t4.t4.t4.t4.t4.sl) (S.t4.t4.t4.t4.t4.tail.sl)) (pkt_mkv (S.t4.t4.t4.t4.tail.sl) (S.t4.t4.t4.t4.tail.tail.sl)) (by omega) (by omega)) ?_ rfl rfl
  intro w55 x56
  have B := bx Hb B x56
  have S := S.below x56
  refine t_on rfl rfl ?_
  refine t_not rfl ?_ rfl
  refine t_p rfl rfl ?_ rfl
  refine t_m rfl ?_ rfl
  refine t_partp (t := 68) rfl (fun h => absurd rfl h) ?_
  intro _
  refine t_on rfl rfl ?_
  refine t_m rfl ?_ rfl
  refine t_on rfl rfl ?_
  refine t_m rfl ?_ rfl
  refine t_on rfl rfl ?_
  refine t_neqb Tryz.underlying4 rfl rfl ?_ rfl
  refine t_p rfl rfl ?_ rfl
  refine t_m rfl ?_ rfl
  refine t_partp (t := 73) rfl (fun h => absurd rfl h) ?_
  intro _
  refine t_on rfl rfl ?_
  refine t_m rfl ?_ rfl
  refine t_on rfl rfl ?_
  refine t_b S.t4.t4.t4.tail.box ab_path sb_path rfl rfl ?_ rfl
  refine t_on rfl rfl ?_
  refine t_m rfl ?_ rfl
  refine t_on rfl rfl ?_
  refine t_m rfl ?_ rfl
  refine t_on rfl rfl ?_
  refine t_m rfl ?_ rfl
  refine t_on rfl rfl ?_
  refine t_m rfl ?_ rfl
  refine t_on rfl rfl ?_
  refine t_b S.t4.t4.t4.tail.box ab_path sb_path rfl rfl ?_ rfl
  refine t_on rfl rfl ?_
  refine t_m rfl ?_ rfl
  refine t_on rfl rfl ?_
  refine t_m rfl ?_ rfl
  refine t_on rfl rfl ?_
  refine t_m rfl ?_ rfl
  refine t_on rfl rfl ?_
  refine t_c Tryz.call42 rfl (impl_NewPacket kd41 p41 _ rr41 ss41 bs41 _ _ (path_mkv (S.t4.t4.t4.tail.tail.rd)) (S.t4.t4.t4.tail.tail.tail.sl) (by omega) (by omega) ‹_› ‹_›) ?_ rfl rfl
  rintro e w57 ⟨cs79, fp79, rfl, hO79, x58⟩
  refine ⟨_, rfl, x58, ?_⟩
  have S := S.add (o := tyO pktT _ _) x58 hO79
  have B := bx Hb B x58
  obtain ⟨u79_3, u79_9, heq, S2⟩ := S.pktOpen
  subst heq
  have S := S2
  clear S2
  refine t_on rfl rfl ?_
  refine t_c Tryz.call43 rfl (spec_NewPacket kd41 p41 _ rr41 ss41 bs41 _ _ (path_mkv (S.t4.t4.t4.t4.rd)) (S.t4.t4.t4.t4.tail.sl) (by omega) (by omega) ‹_› ‹_›) ?_ rfl rfl
  rintro e w59 ⟨cs85, fp85, rfl, hO85, x60⟩
  refine ⟨_, rfl, x60, ?_⟩
  have S := S.add (o := tyO pktT _ _) x60 hO85
  have B := bx Hb B x60
  obtain ⟨u85_3, u85_9, heq, S2⟩ := S.pktOpen
  subst heq
  have S := S2
  clear S2
  refine t_on rfl rfl ?_
  refine t_x Tryz.call41 rfl (laws_samePacket (newPkt kd41 p41 rr41 ss41 bs41) (newPkt kd41 p41 rr41 ss41 bs41) _ _ _ (pkt_mkv (S.tail.tail.sl) (S.tail.tail.tail.sl)) (pkt_mkv (S.sl) (S.tail.sl)) (by omega) (by omega)) ?_ rfl rfl
  intro w61 x62
  have B := bx Hb B x62
  have S := S.below x62
  refine t_on rfl rfl ?_
  refine t_not rfl ?_ rfl
  refine t_p rfl rfl ?_ rfl
  refine t_m rfl ?_ rfl
  refine t_partp (t := 89) rfl (fun h => absurd rfl h) ?_
  intro _
  refine t_on rfl rfl ?_
  refine t_b S.t4.t4.t4.box ab_pkt sb_pkt rfl rfl ?_ rfl
  refine t_on rfl rfl ?_
  refine t_b S.t4.t4.tail.tail.tail.box ab_pkt sb_pkt rfl rfl ?_ rfl
  refine t_on rfl rfl ?_
  refine t_b S.t4.t4.t4.box ab_pkt sb_pkt rfl rfl ?_ rfl
  refine t_on rfl rfl ?_
  refine t_b S.t4.t4.tail.tail.tail.box ab_pkt sb_pkt rfl rfl ?_ rfl
  refine t_on rfl rfl ?_
  refine t_x Tryz.call44 rfl (impl_eqPkt pa49 pb49 _ _ _ (pkt_mkv (S.t4.t4.t4.tail.rd) (S.t4.t4.t4.tail.tail.sl)) (pkt_mkv (S.t4.t4.t4.tail.tail.tail.rd) (S.t4.t4.t4.t4.sl)) (by omega) (by omega)) ?_ rfl rfl
  intro w63 x64
  have B := bx Hb B x64
  have S := S.below x64
  refine t_on rfl rfl ?_
  refine t_x Tryz.call41 rfl (laws_samePacket pa49 pb49 _ _ _ (pkt_mkv (S.t4.t4.t4.tail.rd) (S.t4.t4.t4.tail.tail.sl)) (pkt_mkv (S.t4.t4.t4.tail.tail.tail.rd) (S.t4.t4.t4.t4.sl)) (by omega) (by omega)) ?_ rfl rfl
  intro w65 x66
  have B := bx Hb B x66
  have S := S.below x66
  refine t_on rfl rfl ?_
  refine t_neqb Tryz.underlying4 rfl rfl ?_ rfl
  refine t_p rfl rfl ?_ rfl
  refine t_m rfl ?_ rfl
  refine t_partp (t := 98) rfl (fun h => absurd rfl h) ?_
  intro _
  refine t_on rfl rfl ?_
  refine t_b S.t4.tail.tail.box ab_topo sb_topo rfl rfl ?_ rfl
  refine t_on rfl rfl ?_
  refine t_b S.t4.tail.box ab_pkt sb_pkt rfl rfl ?_ rfl
  refine t_on rfl rfl ?_
  refine t_b S.t4.tail.tail.box ab_topo sb_topo rfl rfl ?_ rfl
  refine t_on rfl rfl ?_
  refine t_b S.t4.tail.box ab_pkt sb_pkt rfl rfl ?_ rfl
  refine t_on rfl rfl ?_
  refine t_x Tryz.call45 rfl (impl_FormatPacket (⟨A54, L54⟩ : Topo) _ pk54 _ _ (topo_mkv (S.t4.t4.tail.sl) (S.t4.t4.tail.tail.sl)) (pkt_mkv (S.t4.tail.tail.tail.rd) (S.t4.t4.sl)) ‹_› ‹_› (by omega) ‹_› ‹_›) ?_ rfl rfl
  intro w67 x68
  have B := bx Hb B x68
  have S := S.below x68
  refine t_on rfl rfl ?_
  refine t_x Tryz.call46 rfl (spec_FormatPacket (⟨A54, L54⟩ : Topo) _ pk54 _ _ (topo_mkv (S.t4.t4.tail.sl) (S.t4.t4.tail.tail.sl)) (pkt_mkv (S.t4.tail.tail.tail.rd) (S.t4.t4.sl)) ‹_› ‹_› (by omega) ‹_› ‹_›) ?_ rfl rfl
  intro w69 x70
  have B := bx Hb B x70
  have S := S.below x70
  refine t_on rfl rfl ?_
  refine t_neqs rfl rfl ?_ rfl
  refine t_p rfl rfl ?_ rfl
  refine t_m rfl ?_ rfl
  refine t_partp (t := 107) rfl (fun h => absurd rfl h) ?_
  intro _
  refine t_on rfl rfl ?_
  refine t_b S.t4.t4.t4.t4.t4.t4.t4.box ab_pkt sb_pkt rfl rfl ?_ rfl
  refine t_on rfl rfl ?_
  refine t_b S.t4.t4.t4.t4.t4.t4.t4.box ab_pkt sb_pkt rfl rfl ?_ rfl
  refine t_on rfl rfl ?_
  refine t_x Tryz.call47 rfl (va1 (pkt_mkv (S.t4.t4.t4.t4.t4.t4.t4.tail.rd) (S.t4.t4.t4.t4.t4.t4.t4.tail.tail.sl)) fun cs h => impl_ValidPacket pk24 cs _ h (by omega) ‹_› ‹_›) ?_ rfl rfl
  intro w71 x72
  have B := bx Hb B x72
  have S := S.below x72
  refine t_on rfl rfl ?_
  refine t_x Tryz.call48 rfl (va1 (pkt_mkv (S.t4.t4.t4.t4.t4.t4.t4.tail.rd) (S.t4.t4.t4.t4.t4.t4.t4.tail.tail.sl)) fun cs h => spec_ValidPacket pk24 cs _ h (by omega) ‹_› ‹_›) ?_ rfl rfl
  intro w73 x74
  have B := bx Hb B x74
  have S := S.below x74
  refine t_on rfl rfl ?_
  refine t_neqb Tryz.underlying4 rfl rfl ?_ rfl
  refine t_p rfl rfl ?_ rfl
  refine t_m rfl ?_ rfl
  refine t_partp (t := 114) rfl (fun h => absurd rfl h) ?_
  intro _
  refine t_on rfl rfl ?_
  refine t_b S.t4.t4.t4.t4.t4.t4.t4.box ab_pkt sb_pkt rfl rfl ?_ rfl
  refine t_on rfl rfl ?_
  refine t_b S.t4.t4.t4.t4.t4.t4.t4.box ab_pkt sb_pkt rfl rfl ?_ rfl
  refine t_on rfl rfl ?_
  refine t_x Tryz.call49 rfl (va1 (pkt_mkv (S.t4.t4.t4.t4.t4.t4.t4.tail.rd) (S.t4.t4.t4.t4.t4.t4.t4.tail.tail.sl)) fun cs h => impl_CurrentAS pk24 cs _ h (by omega) ‹_› ‹_›) ?_ rfl rfl
  intro w75 x76
  have B := bx Hb B x76
  have S := S.below x76
  refine t_on rfl rfl ?_
  refine t_x Tryz.call50 rfl (va1 (pkt_mkv (S.t4.t4.t4.t4.t4.t4.t4.tail.rd) (S.t4.t4.t4.t4.t4.t4.t4.tail.tail.sl)) fun cs h => spec_CurrentAS pk24 cs _ h (by omega) ‹_› ‹_›) ?_ rfl rfl
  intro w77 x78
  have B := bx Hb B x78
  have S := S.below x78
  refine t_on rfl rfl ?_
  refine t_neq rfl rfl ?_ rfl
  refine t_p rfl rfl ?_ rfl
  refine t_m rfl ?_ rfl
  refine t_partp (t := 121) rfl (fun h => absurd rfl h) ?_
  intro _
  refine t_on rfl rfl ?_
  refine t_b S.t4.t4.t4.t4.t4.t4.t4.box ab_pkt sb_pkt rfl rfl ?_ rfl
  refine t_on rfl rfl ?_
  refine t_b S.t4.t4.t4.t4.t4.t4.t4.box ab_pkt sb_pkt rfl rfl ?_ rfl
  refine t_on rfl rfl ?_
  refine t_x Tryz.call51 rfl (va1 (pkt_mkv (S.t4.t4.t4.t4.t4.t4.t4.tail.rd) (S.t4.t4.t4.t4.t4.t4.t4.tail.tail.sl)) fun cs h => impl_AtLastHop pk24 cs _ h (by omega) ‹_› ‹_›) ?_ rfl rfl
  intro w79 x80
  have B := bx Hb B x80
  have S := S.below x80
  refine t_on rfl rfl ?_
  refine t_x Tryz.call52 rfl (va1 (pkt_mkv (S.t4.t4.t4.t4.t4.t4.t4.tail.rd) (S.t4.t4.t4.t4.t4.t4.t4.tail.tail.sl)) fun cs h => spec_AtLastHop pk24 cs _ h (by omega) ‹_› ‹_›) ?_ rfl rfl
  intro w81 x82
  have B := bx Hb B x82
  have S := S.below x82
  refine t_on rfl rfl ?_
  refine t_neqb Tryz.underlying4 rfl rfl ?_ rfl
  refine t_p rfl rfl ?_ rfl
  refine t_d' ?_
  refine x_s ?_
  refine w_if rfl (fun h => absurd rfl h) ?_
  intro _
  refine w_k ?_
  refine x_s ?_
  refine w_s ?_
  refine w_cut (X := Unit) (fun u wq => Below w.heap.size w wq ∧ Sep w.heap.size wq [slO partT 82 u85_3 ((newPkt kd41 p41 rr41 ss41 bs41).path), slO byteT 5 u85_9 ((newPkt kd41 p41 rr41 ss41 bs41).pay), slO partT 82 u79_3 ((newPkt kd41 p41 rr41 ss41 bs41).path), slO byteT 5 u79_9 ((newPkt kd41 p41 rr41 ss41 bs41).pay), slO byteT 5 v59 (pktEnc pk24), bxO g18 51 #[I pk54.kind, I pk54.src, I pk54.dst, v3_54, I pk54.pidx, I pk54.hidx, I pk54.beta, I pk54.rid, I pk54.seq, v9_54], bxO g17 27 #[va54, vl54], rdO partT v3_54 pk54.path, slO byteT 5 v9_54 pk54.pay, slO asnT 135 va54 A54, slO linkT 152 vl54 L54, bxO g16 51 #[I pb49.kind, I pb49.src, I pb49.dst, v3_49, I pb49.pidx, I pb49.hidx, I pb49.beta, I pb49.rid, I pb49.seq, v9_49], bxO g15 51 #[I pa49.kind, I pa49.src, I pa49.dst, u3_49, I pa49.pidx, I pa49.hidx, I pa49.beta, I pa49.rid, I pa49.seq, u9_49], rdO partT u3_49 pa49.path, slO byteT 5 u9_49 pa49.pay, rdO partT v3_49 pb49.path, slO byteT 5 v9_49 pb49.pay, bxO g11 30 #[vp41], rdO partT vp41 p41, slO byteT 5 vb41 bs41, bxO g8 51 #[I px.kind, I px.src, I px.dst, u36_3, I px.pidx, I px.hidx, I px.beta, I px.rid, I px.seq, u36_9], slO partT 82 u36_3 px.path, slO byteT 5 u36_9 px.pay, bxO g6 51 #[I px.kind, I px.src, I px.dst, u31_3, I px.pidx, I px.hidx, I px.beta, I px.rid, I px.seq, u31_9], slO partT 82 u31_3 px.path, slO byteT 5 u31_9 px.pay, rdO byteT vb28 bs28, slO byteT 5 v26 (pktEnc pk24), bxO g3 51 #[I pk24.kind, I pk24.src, I pk24.dst, v3_24, I pk24.pidx, I pk24.hidx, I pk24.beta, I pk24.rid, I pk24.seq, v9_24], rdO partT v3_24 pk24.path, slO byteT 5 v9_24 pk24.pay]) (fun u => [(3, .pointer (some ⟨g3, 0, none⟩)), (4, v26)]) ?_ ?_
  ·refine w_s ?_
   refine w_g ?_
   iterate 2 refine t_m rfl ?_ rfl
   refine t_part (t := 129) rfl ?_ ?_
   ·intro hok
    have hd := dp2_yes (hrp.trans (by rw [hok]))
    have hback := decPkt_back hd
    obtain ⟨hr7, hn7⟩ := valid_rng hback.1
    have hpx : (pktEnc px).length ≤ 3000 := by rw [hback.2]; omega
    refine t_on rfl rfl ?_
    refine t_b S.t4.t4.t4.t4.t4.tail.tail.tail.box ab_pkt sb_pkt rfl rfl ?_ rfl
    refine t_on rfl rfl ?_
    refine t_x Tryz.call47 rfl (va1 (pkt_mkv (S.t4.t4.t4.t4.t4.t4.sl) (S.t4.t4.t4.t4.t4.t4.tail.sl)) fun cs h => impl_ValidPacket px cs _ h (by omega) ‹_› ‹_›) ?_ rfl rfl
    intro w83 x84
    have B := bx Hb B x84
    have S := S.below x84
    refine t_on rfl rfl ?_
    refine t_notb rfl ?_ rfl
    refine t_on rfl rfl ?_
    refine t_m rfl ?_ rfl
    refine t_part (t := 133) rfl (fun h => (by rw [hback.1] at h; cases h)) ?_
    intro hc133
    refine t_on rfl rfl ?_
    refine t_b S.t4.t4.t4.t4.t4.tail.tail.tail.box ab_pkt sb_pkt rfl rfl ?_ rfl
    refine t_on rfl rfl ?_
    refine t_c Tryz.call32 rfl (impl_EncodePacket px _ _ (pkt_mkv (S.t4.t4.t4.t4.t4.t4.sl) (S.t4.t4.t4.t4.t4.t4.tail.sl)) (by omega) ‹_› ‹_›) ?_ rfl rfl
    rintro e w85 ⟨v135, fpv135, rfl, hOv135, x86⟩
    refine ⟨_, rfl, x86, ?_⟩
    have S := S.add (o := slO _ _ _ _) x86 hOv135
    have B := bx Hb B x86
    refine t_on rfl rfl ?_
    refine t_m rfl ?_ rfl
    refine t_on rfl rfl ?_
    refine t_x Tryz.call39 rfl (laws_same (pktEnc px) bs28 _ _ _ (S.sl) (S.t4.t4.t4.t4.t4.t4.tail.tail.tail.rd) (by omega) (by omega)) ?_ rfl rfl
    intro w87 x88
    have B := bx Hb B x88
    have S := S.below x88
    refine t_on rfl rfl ?_
    refine t_not rfl ?_ rfl
    refine t_on rfl rfl ?_
    refine t_p rfl rfl ?_ rfl
    refine t_q rfl rfl ?_ rfl
    refine t_d ?_
    refine x_s ?_
    refine w_if rfl (fun h => (by exact absurd hback.2 h)) ?_
    intro hc140
    refine w_k ?_
    have S := S.tail
    refine x_cut (X := Unit) (()) ?_ ?_
    rotate_left
    ·exact ⟨rfl, rfl, trivial⟩
    try dsimp only
    exact ⟨B, S⟩
   ·intro hok
    iterate 4 refine t_off rfl rfl rfl ?_ rfl
    iterate 5 refine t_offu rfl rfl ?_ rfl
    refine t_off rfl rfl rfl ?_ rfl
    refine t_p rfl rfl ?_ rfl
    refine t_d ?_
    refine x_s ?_
    refine w_no rfl ?_
    refine w_k ?_
    refine x_cut (X := Unit) (()) ?_ ?_
    rotate_left
    ·exact ⟨rfl, rfl, trivial⟩
    try dsimp only
    exact ⟨B, S⟩
  rintro u w89 hI
  try dsimp only at hI ⊢
  obtain ⟨B, S⟩ := hI
  iterate 2 refine w_s ?_
  refine w_g ?_
  refine t_b S.t4.t4.t4.t4.t4.t4.t4.box ab_pkt sb_pkt rfl rfl ?_ rfl
  refine t_x Tryz.call47 rfl (va1 (pkt_mkv (S.t4.t4.t4.t4.t4.t4.t4.tail.rd) (S.t4.t4.t4.t4.t4.t4.t4.tail.tail.sl)) fun cs h => impl_ValidPacket pk24 cs _ h (by omega) ‹_› ‹_›) ?_ rfl rfl
  intro w90 x91
  have B := bx Hb B x91
  have S := S.below x91
  refine t_notb rfl ?_ rfl
  refine t_d ?_
  refine x_s ?_
  refine w_ifb rfl ?_ ?_
  ·intro hv
   refine w_s ?_
   refine w_g ?_
   refine t_m rfl ?_ rfl
   refine t_len e_byte (S.t4.t4.t4.t4.t4.t4.tail.tail.tail.sl) rfl rfl ?_ rfl
   refine t_eql rfl rfl ?_ rfl
   refine t_a rfl ?_ rfl
   refine t_d ?_
   refine x_s ?_
   refine w_r ?_
   refine x_t ?_
   refine x_ret1 rfl rfl ?_
   exact ⟨ret_bool (decide_eq_true (by unfold pktEnc; rw [if_neg (by simpa using hv)]; rfl)), ext_trans X0 B⟩
  ·intro hv
   have hv' : validPkt pk24 = true := by simpa using hv
   have hdw : dp2 (decPkt (pktEnc pk24)) = (pk24, true) := by rw [decPkt_write hv']; rfl
   have hca := valid_at hv'
   refine w_k ?_
   refine x_s ?_
   refine w_s ?_
   refine w_g ?_
   refine t_m rfl ?_ rfl
   refine t_c Tryz.call34 rfl (impl_DecodePacket _ _ _ (S.t4.t4.t4.t4.t4.t4.tail.tail.tail.sl) (by omega) hdw) ?_ rfl rfl
   rintro e w92 ⟨cs149, fp149, rfl, hO149, x93⟩
   refine ⟨_, rfl, x93, ?_⟩
   have S := S.add (o := tyO pktT _ _) x93 hO149
   have B := bx Hb B x93
   obtain ⟨u149_3, u149_9, heq, S2⟩ := S.pktOpen
   subst heq
   have S := S2
   clear S2
   refine t_m rfl ?_ rfl
   iterate 2 refine t_extract rfl rfl ?_ rfl
   refine t_w S z_pkt rfl ?_ rfl rfl
   intro g19 w94 x95 S
   have B := bx Hb B x95
   refine t_stn S sb_pkt rfl rfl rfl rfl (by repeat first | exact oc0 | refine oc rfl ?_ | refine oc (SlR.cells S.tail.sl).2 ?_ | refine oc (SlR.cells S.tail.tail.sl).2 ?_) ?_
   intro w96 b97 S
   have B := B.trans b97
   refine t_a rfl ?_ rfl
   refine t_d ?_
   refine x_s ?_
   refine w_s ?_
   refine w_g ?_
   iterate 2 refine t_m rfl ?_ rfl
   refine t_on rfl rfl ?_
   refine t_b S.box ab_pkt sb_pkt rfl rfl ?_ rfl
   refine t_on rfl rfl ?_
   refine t_b S.t4.t4.t4.t4.t4.t4.t4.tail.tail.tail.box ab_pkt sb_pkt rfl rfl ?_ rfl
   refine t_on rfl rfl ?_
   refine t_x Tryz.call41 rfl (laws_samePacket pk24 pk24 _ _ _ (pkt_mkv (S.tail.sl) (S.tail.tail.sl)) (pkt_mkv (S.t4.t4.t4.t4.t4.t4.t4.t4.rd) (S.t4.t4.t4.t4.t4.t4.t4.t4.tail.sl)) (by omega) (by omega)) ?_ rfl rfl
   intro w98 x99
   have B := bx Hb B x99
   have S := S.below x99
   refine t_q rfl rfl ?_ rfl
   refine t_m rfl ?_ rfl
   refine t_partp (t := 158) rfl ?_ (fun h => absurd rfl h)
   intro _
   refine t_on rfl rfl ?_
   refine t_b S.t4.t4.t4.t4.t4.t4.t4.tail.tail.tail.box ab_pkt sb_pkt rfl rfl ?_ rfl
   refine t_on rfl rfl ?_
   refine t_x Tryz.call49 rfl (va1 (pkt_mkv (S.t4.t4.t4.t4.t4.t4.t4.t4.rd) (S.t4.t4.t4.t4.t4.t4.t4.t4.tail.sl)) fun cs h => impl_CurrentAS pk24 cs _ h (by omega) ‹_› ‹_›) ?_ rfl rfl
   intro w100 x101
   have B := bx Hb B x101
   have S := S.below x101
   refine t_on rfl rfl ?_
   refine t_geq rfl rfl ?_ rfl
   refine t_q rfl rfl ?_ rfl
   refine t_a rfl ?_ rfl
   refine t_d ?_
   refine x_s ?_
   refine w_r ?_
   refine x_ret1 rfl rfl ?_
   exact ⟨ret_bool (decide_eq_true (by omega)), ext_trans X0 B⟩
namespace fnPackets
open Go.ChangeShapes Go.WideShapes Go.ChangeAt
set_option maxRecDepth 100000 in
theorem lifted (os : Os) (started : os.Started) (H : Type) (enc : TypeId × Value → H) :
    ReturnsInHanded {} Tryz.checked os 4 .any (Rows.fnPacketsSpec.pre6 enc Tryz.prog Tryz.f4 Rows.fnPacketsRow.domain false) (Rows.fnPacketsSpec.post enc Tryz.prog Tryz.f4 false true false false) := by
  refine returnsInHanded_of_change (C := Tryz.checked) knob started (by kernel_rfl) Tryz.func4
    (ChangeSpec.witness6 (enc := enc) (C := Tryz.checked) false ⟨#[], #[.slice none 0 0], []⟩ 8 (by kernel_rfl) (by kernel_rfl) (by kernel_rfl) (by kernel_rfl)) ?_
  intro W base args ds gs before hval0 hW hcnd _
  have hval : ∀ (j : Nat) t v, Tryz.f4.params[j]? = some t → args[j]? = some v → Value.okWide Tryz.prog W .any base t v := hval0
  have hW' := hW
  obtain ⟨p, q, hA0, hV, rfl, hfz, hnd⟩ := hW
  have hA : DataW.TrodAll enc Tryz.prog W 0 (fun _ => true) true Tryz.f4.params.toList args.toList ds p := hA0
  rw [Tryz.params4] at hA hval
  obtain ⟨v0, vs0, d0, ds0, p0, q0, hargs, rfl, rfl, h0, r0⟩ := trodAll_cons hA
  obtain ⟨rfl, rfl, rfl⟩ := trodAll_nil r0
  obtain rfl : args = #[v0] := by cases args; simp_all
  obtain ⟨rfl, rfl⟩ := trodVars_none hV
  have k0 := h0
  have lt0 : ∀ x ∈ p0, x.block < W.heap.size := by obtain ⟨m, hm⟩ := k0; exact DataW.trod_lt m _ _ _ hm
  obtain ⟨x0, R0, L0⟩ := open_byteS (hval 0 22 v0 rfl rfl) h0
  clear hA0 hval0
  refine (lawFnPackets x0 _ W R0 L0).mono fun e W' ⟨he, bel⟩ => ?_
  subst he
  exact ⟨_, rfl, _, _, _, [], _, [], hW', trodAll_mk1 (shut_bool Tryz.underlying4 _), (trodAll_cons_mk (Below.trod laidOut (by kernel_rfl) (of_decide_eq_true (by kernel_rfl)) k0 bel lt0) trodAll_mk0), rfl, bel.frame _, fun h => by cases h⟩
theorem jA : jnA Tryz.pinned.checked.prog Tryz.f4 Rows.fnPacketsSpec Rows.fnPacketsRow = true := by kernel_rfl
theorem jB : jnB Tryz.pinned.checked.prog 4 Rows.fnPacketsRow = true := by kernel_rfl
theorem jC : jnC Tryz.pinned.checked.prog Tryz.f4 Rows.fnPacketsSpec Rows.fnPacketsRow = true := by kernel_rfl
theorem jD : jnD Tryz.pinned.checked.prog = true := by kernel_rfl
theorem jE : jnE Tryz.pinned.checked.prog = true := by kernel_rfl
theorem jF : jnF Tryz.pinned.checked.prog Rows.fnPacketsRow = true := by kernel_rfl
theorem jG : jnG Tryz.pinned.checked.prog Rows.fnPacketsRow = true := by kernel_rfl
theorem jH : jnH Tryz.pinned.checked.prog Tryz.f4 Rows.fnPacketsRow = true := by kernel_rfl
theorem jI : jnI Rows.fnPacketsRow = true := by kernel_rfl
theorem jJ : jnJ Tryz.pinned.checked.prog Tryz.f4 Rows.fnPacketsSpec Rows.fnPacketsRow = true := by kernel_rfl
theorem over : Rows.fnPacketsRow.holds Tryz.pinned (OpenSpec.ofChange Rows.fnPacketsSpec) :=
  OpenClaim.holds_of_wide 4 Tryz.f4 rfl rfl rfl rfl rfl rfl rfl ⟨rfl, rfl, rfl, rfl, rfl⟩ rfl rfl rfl rfl rfl (by kernel_rfl) Tryz.func4 (joined_of jA jB jC jD jE jF jG jH jI jJ)
    (of_decide_eq_true (by kernel_rfl)) (by unfold Func.isWrapper; first | (rw [if_pos (by decide +kernel)]; kernel_rfl) | (rw [if_neg (by decide +kernel)]; exact ⟨rfl, rfl⟩))
    (fun os started H enc _ => lifted os started H enc)
theorem proved : Rows.FnPacketsSaid := over
#print axioms proved
end fnPackets
end Go.Proofs.YtdaecknfahgddaaGreat
