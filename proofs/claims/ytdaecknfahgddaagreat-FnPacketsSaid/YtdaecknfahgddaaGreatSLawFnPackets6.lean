/- What LawFnPackets needs of the texts below it, part 6: contracts of functions, plain lemmas. (Put together by slim.py.) -/
import Derived.Test.YtdaecknfahgddaaGreatSLawFnPackets5
namespace Go.Proofs.YtdaecknfahgddaaGreat
open Go.RowKit
set_option linter.unusedVariables false
set_option maxRecDepth 20000
theorem PathS.enc {p : Path} (h : PathS p) : (pathEnc p).length ≤ 1000 := by
  have hT := pathInts_len p
  have hs := h.sz
  have hv0 := vint_len (List.length p : Int)
  have hf1 := flat_vint (pathInts p)
  unfold pathEnc
  split
  · rw [List.length_append]; omega
  · simp
/-- A small packet. -/
def PktS (x : Pkt) : Prop := PathS x.path ∧ x.pay.length ≤ 3 ∧ (In64 x.kind ∧ In64 x.src ∧ In64 x.dst) ∧ In64 x.pidx ∧ In64 x.hidx ∧ In64 x.beta ∧ In64 x.rid ∧ In64 x.seq
theorem PktS.rng {x : Pkt} (h : PktS x) : rng_pkt x := by
  obtain ⟨h1, h2, ⟨h3, h4, h5⟩, h6, h7, h8, h9, h10⟩ := h
  exact ⟨h3, h4, h5, h1.rng, h6, h7, h8, h9, h10⟩
theorem PktS.lenOk {x : Pkt} (h : PktS x) : lenOk_pkt x := ⟨h.1.lenOk, by have := h.2.1; omega⟩
theorem PktS.sz {x : Pkt} (h : PktS x) : sz_pkt x ≤ 30 := by
  have := h.1.sz
  have := h.2.1
  show sz_path x.path + x.pay.length ≤ 30
  omega
theorem ends_rng {p : Path} (h : PathS p) : In64 (endA p) ∧ In64 (endB p) := by
  have hs := pathSteps_in h.rng
  unfold endA endB
  constructor
  · split
    · exact in64 (by omega) (by omega)
    · exact (allS_get hs 0).1
  · split
    · exact in64 (by omega) (by omega)
    · exact (allS_get hs _).1
theorem beta_rng {p : Path} (h : PathS p) (k : Nat) : In64 (betaOf p k) := by
  unfold betaOf
  split
  · rename_i x hx
    exact (h.2 x (List.mem_of_getElem? hx)).2.2.2.1
  · exact in64 (by omega) (by omega)
theorem new_S {k r s : Int} {p : Path} {b : List UInt8} (hp : PathS p) (hb : b.length ≤ 3) (hk : In64 k) (hr : In64 r) (hs : In64 s) : PktS (newPkt k p r s b) :=
  ⟨hp, hb, ⟨hk, (ends_rng hp).1, (ends_rng hp).2⟩, in64 (by show -9223372036854775808 ≤ (0 : Int); omega) (by show (0 : Int) ≤ _; omega), in64 (by show -9223372036854775808 ≤ (0 : Int); omega) (by show (0 : Int) ≤ _; omega), beta_rng hp 0, hr, hs⟩
set_option maxHeartbeats 8000000 in
theorem spec_l26Draw {b n c : Nat} {w : World} {v : Value} {os : List Ow} (S : Sep b w (curO v n c 115 :: os)) (K : CodeK b w v n) : Calls Tryz.prog 144 #[.pointer (some ⟨c, 0, none⟩)] w fun e w' =>
  ∃ (va vl v3 v9 : Value) (A : List ASd) (L : List Lnk) (x : Pkt), e = .returned (.tuple #[.agg #[va, vl], .agg #[I x.kind, I x.src, I x.dst, v3, I x.pidx, I x.hidx, I x.beta, I x.rid, I x.seq, v9]]) ∧ (TopK A L ∧ PktS x) ∧ Sep b w' (slO partT 82 v3 x.path :: slO byteT 5 v9 x.pay :: slO asnT 135 va A :: slO linkT 152 vl L :: curO v n c 115 :: os) ∧ Below b w w' := by
 have X0 := Below.refl w.heap.size w
 refine enter Tryz.func144 rfl Tryz.ntmps144 rfl ?_
 have B := Below.refl b w
 have Hb := S.base
 refine w_s ?_
 refine w_g ?_
 refine t_w S z_topo rfl ?_ rfl rfl
 intro g2 w1 x2 S
 have B := bx Hb B x2
 refine t_w S z_pkt rfl ?_ rfl rfl
 intro g3 w3 x4 S
 have B := bx Hb B x4
 refine t_d ?_
 refine x_s ?_
 refine w_s ?_
 refine w_g ?_
 refine t_m rfl ?_ rfl
 have S := S.f2
 refine t_f Tryz.call54 rfl (spec_l22Draw S (K.below B)) ?_ rfl
 rintro e w5 ⟨va10, vl10, vp10, A10, L10, p10, rfl, hf10, S, x6⟩
 refine ⟨_, rfl, ?_⟩
 have B := B.trans x6
 refine t_m rfl ?_ rfl
 iterate 2 refine t_extract rfl rfl ?_ rfl
 refine t_w S z_topo rfl ?_ rfl rfl
 intro g4 w7 x8 S
 have B := bx Hb B x8
 refine t_w S z_path rfl ?_ rfl rfl
 intro g5 w9 x10 S
 have B := bx Hb B x10
 have S := S.f1
 refine t_stn S sb_topo rfl rfl rfl rfl (by repeat first | exact oc0 | refine oc rfl ?_ | refine oc (SlR.cells S.tail.tail.tail.sl).2 ?_ | refine oc (SlR.cells S.t4.sl).2 ?_) ?_
 intro w11 b12 S
 have B := B.trans b12
 have S := S.f1
 refine t_stn S sb_path rfl rfl rfl rfl (by repeat first | exact oc0 | refine oc rfl ?_ | refine oc (SlR.cells S.tail.tail.sl).2 ?_) ?_
 intro w13 b14 S
 have B := B.trans b14
 refine t_d ?_
 refine x_s ?_
 refine w_s ?_
 refine w_g ?_
 refine t_m rfl ?_ rfl
 have S := S.f5
 refine t_f Tryz.call57 rfl (spec_l1Below 3 S (K.below B)) ?_ rfl
 rintro e w15 ⟨y14, rfl, hf14, S, x16⟩
 refine ⟨_, rfl, ?_⟩
 have B := B.trans x16
 refine t_add rfl rfl (by omega) ?_ rfl
 refine t_a rfl ?_ rfl
 refine t_d ?_
 refine x_s ?_
 refine w_s ?_
 refine w_g ?_
 refine t_m rfl ?_ rfl
 refine t_f Tryz.call57 rfl (spec_l1Below 9 S (K.below B)) ?_ rfl
 rintro e w17 ⟨y17, rfl, hf17, S, x18⟩
 refine ⟨_, rfl, ?_⟩
 have B := B.trans x18
 refine t_a rfl ?_ rfl
 refine t_d ?_
 refine x_s ?_
 refine w_s ?_
 obtain ⟨T, hP⟩ := hf10
 have hQ := hP.toS
 have hsz := hQ.sz
 have hrg := hQ.rng
 have hln := hQ.lenOk
 refine w_drawP [1, 3, 5, 6, 7] (.alt (.st .fin 0 (.alt (.st .fin 2 (.st .fin 4 (.st .fin 8 (.st .fin 9 (.st .fin 10 (.st .fin 11 (.st .fin 12 .done))))))) (.st .fin 4 (.alt (.st .fin 2 (.st .fin 8 (.st .fin 9 (.st .fin 10 (.st .fin 11 (.st .fin 12 .done)))))) (.st .fin 8 (.alt (.st .fin 2 (.st .fin 9 (.st .fin 10 (.st .fin 11 (.st .fin 12 .done))))) (.st .fin 9 (.st .fin 2 (.st .fin 10 (.st .fin 11 (.st .fin 12 .done))))))))))) (.alt (.st .fin 2 (.alt (.st .fin 0 (.st .fin 4 (.st .fin 8 (.st .fin 9 (.st .fin 10 (.st .fin 11 (.st .fin 12 .done))))))) (.st .fin 4 (.alt (.st .fin 0 (.st .fin 8 (.st .fin 9 (.st .fin 10 (.st .fin 11 (.st .fin 12 .done)))))) (.st .fin 8 (.alt (.st .fin 0 (.st .fin 9 (.st .fin 10 (.st .fin 11 (.st .fin 12 .done))))) (.st .fin 9 (.alt (.st .fin 0 (.st .fin 10 (.st .fin 11 (.st .fin 12 .done)))) (.st .fin 10 (.st .fin 0 (.st .fin 11 (.st .fin 12 .done)))))))))))) (.st .fin 4 (.alt (.st .fin 0 (.alt (.st .fin 2 (.st .fin 8 (.st .fin 9 (.st .fin 10 (.st .fin 11 (.st .fin 12 .done)))))) (.st .fin 8 (.alt (.st .fin 2 (.st .fin 9 (.st .fin 10 (.st .fin 11 (.st .fin 12 .done))))) (.st .fin 9 (.st .fin 2 (.st .fin 10 (.st .fin 11 (.st .fin 12 .done))))))))) (.alt (.st .fin 2 (.alt (.st .fin 0 (.st .fin 8 (.st .fin 9 (.st .fin 10 (.st .fin 11 (.st .fin 12 .done)))))) (.st .fin 8 (.alt (.st .fin 0 (.st .fin 9 (.st .fin 10 (.st .fin 11 (.st .fin 12 .done))))) (.st .fin 9 (.alt (.st .fin 0 (.st .fin 10 (.st .fin 11 (.st .fin 12 .done)))) (.st .fin 10 (.st .fin 0 (.st .fin 11 (.st .fin 12 .done)))))))))) (.st .fin 8 (.alt (.st .fin 0 (.alt (.st .fin 2 (.st .fin 9 (.st .fin 10 (.st .fin 11 (.st .fin 12 .done))))) (.st .fin 9 (.st .fin 2 (.st .fin 10 (.st .fin 11 (.st .fin 12 .done))))))) (.alt (.st .fin 2 (.alt (.st .fin 0 (.st .fin 9 (.st .fin 10 (.st .fin 11 (.st .fin 12 .done))))) (.st .fin 9 (.alt (.st .fin 0 (.st .fin 10 (.st .fin 11 (.st .fin 12 .done)))) (.st .fin 10 (.st .fin 0 (.st .fin 11 (.st .fin 12 .done)))))))) (.st .fin 9 (.alt (.st .fin 0 (.st .fin 2 (.st .fin 10 (.st .fin 11 (.st .fin 12 .done))))) (.st .fin 2 (.alt (.st .fin 0 (.st .fin 10 (.st .fin 11 (.st .fin 12 .done)))) (.st .fin 10 (.st .fin 0 (.st .fin 11 (.st .fin 12 .done)))))))))))))))) mixed (by kernel_rfl) ?_
 intro w19 x20
 have B := bx Hb B x20
 have S := S.below x20
 iterate 5 refine p_move rfl ?_ rfl
 refine p_done ?_
 refine t_alt ?_ (t_alt ?_ ?_)
 ·refine t_b S.tail.tail.box ab_topo sb_topo rfl rfl ?_ rfl
  refine t_alt ?_ ?_
  ·refine t_b S.tail.box ab_path sb_path rfl rfl ?_ rfl
   refine t_f Tryz.call57 rfl (spec_l1Below 3 S (K.below B)) ?_ rfl
   rintro e w21 ⟨y22, rfl, hf22, S, x22⟩
   refine ⟨_, rfl, ?_⟩
   have B := B.trans x22
   refine t_f Tryz.call57 rfl (spec_l1Below 4 S (K.below B)) ?_ rfl
   rintro e w23 ⟨y26, rfl, hf26, S, x24⟩
   refine ⟨_, rfl, ?_⟩
   have B := B.trans x24
   refine t_f Tryz.call95 rfl (spec_l1Bytes y26 S (K.below B) (by omega)) ?_ rfl
   rintro e w25 ⟨v27, l27, rfl, hf27, S, x26⟩
   refine ⟨_, rfl, ?_⟩
   have B := B.trans x26
   refine t_c Tryz.call43 rfl (spec_NewPacket (1 + y14) p10 _ y22 y17 l27 _ _ (path_mkv (S.t4.sl)) (S.sl) (by omega) (by omega) ‹_› ‹_›) ?_ rfl rfl
   rintro e w27 ⟨cs28, fp28, rfl, hO28, x28⟩
   refine ⟨_, rfl, x28, ?_⟩
   have S := S.add (o := tyO pktT _ _) x28 hO28
   have B := bx Hb B x28
   obtain ⟨u28_3, u28_9, heq, S2⟩ := S.pktOpen
   subst heq
   have S := S2
   clear S2
   have S := S.f10
   refine t_stn S sb_topo rfl rfl rfl rfl (by repeat first | exact oc0 | refine oc rfl ?_ | refine oc (SlR.cells S.t4.t4.sl).2 ?_ | refine oc (SlR.cells S.t4.t4.tail.sl).2 ?_) ?_
   intro w29 b30 S
   have B := B.trans b30
   have S := S.f10
   refine t_stn S sb_pkt rfl rfl rfl rfl (by repeat first | exact oc0 | refine oc rfl ?_ | refine oc (SlR.cells S.tail.tail.sl).2 ?_ | refine oc (SlR.cells S.tail.tail.tail.sl).2 ?_) ?_
   intro w31 b32 S
   have B := B.trans b32
   refine t_d' ?_
   refine x_s ?_
   refine w_r ?_
   refine x_retcc rfl rfl S.tail.box ab_topo sb_topo rfl rfl S.box ab_pkt sb_pkt rfl ?_
   have S := S.tail.tail.f2.tail.f3.tail.f3.tail.f3.tail.f2.f4.f4.f4.f4
   exact ⟨_, _, _, _, _, _, newPkt (1 + y14) p10 y22 y17 l27, rfl, ⟨T, new_S hQ (by omega) (in64 (by omega) (by omega)) (in64 (by omega) (by omega)) (in64 (by omega) (by omega))⟩, S, B⟩
  ·refine t_f Tryz.call57 rfl (spec_l1Below 3 S (K.below B)) ?_ rfl
   rintro e w33 ⟨y22, rfl, hf22, S, x34⟩
   refine ⟨_, rfl, ?_⟩
   have B := B.trans x34
   refine t_alt ?_ ?_
   ·refine t_b S.tail.box ab_path sb_path rfl rfl ?_ rfl
    refine t_f Tryz.call57 rfl (spec_l1Below 4 S (K.below B)) ?_ rfl
    rintro e w35 ⟨y26, rfl, hf26, S, x36⟩
    refine ⟨_, rfl, ?_⟩
    have B := B.trans x36
    refine t_f Tryz.call95 rfl (spec_l1Bytes y26 S (K.below B) (by omega)) ?_ rfl
    rintro e w37 ⟨v27, l27, rfl, hf27, S, x38⟩
    refine ⟨_, rfl, ?_⟩
    have B := B.trans x38
    refine t_c Tryz.call43 rfl (spec_NewPacket (1 + y14) p10 _ y22 y17 l27 _ _ (path_mkv (S.t4.sl)) (S.sl) (by omega) (by omega) ‹_› ‹_›) ?_ rfl rfl
    rintro e w39 ⟨cs28, fp28, rfl, hO28, x40⟩
    refine ⟨_, rfl, x40, ?_⟩
    have S := S.add (o := tyO pktT _ _) x40 hO28
    have B := bx Hb B x40
    obtain ⟨u28_3, u28_9, heq, S2⟩ := S.pktOpen
    subst heq
    have S := S2
    clear S2
    have S := S.f10
    refine t_stn S sb_topo rfl rfl rfl rfl (by repeat first | exact oc0 | refine oc rfl ?_ | refine oc (SlR.cells S.t4.t4.sl).2 ?_ | refine oc (SlR.cells S.t4.t4.tail.sl).2 ?_) ?_
    intro w41 b42 S
    have B := B.trans b42
    have S := S.f10
    refine t_stn S sb_pkt rfl rfl rfl rfl (by repeat first | exact oc0 | refine oc rfl ?_ | refine oc (SlR.cells S.tail.tail.sl).2 ?_ | refine oc (SlR.cells S.tail.tail.tail.sl).2 ?_) ?_
    intro w43 b44 S
    have B := B.trans b44
    refine t_d' ?_
    refine x_s ?_
    refine w_r ?_
    refine x_retcc rfl rfl S.tail.box ab_topo sb_topo rfl rfl S.box ab_pkt sb_pkt rfl ?_
    have S := S.tail.tail.f2.tail.f3.tail.f3.tail.f3.tail.f2.f4.f4.f4.f4
    exact ⟨_, _, _, _, _, _, newPkt (1 + y14) p10 y22 y17 l27, rfl, ⟨T, new_S hQ (by omega) (in64 (by omega) (by omega)) (in64 (by omega) (by omega)) (in64 (by omega) (by omega))⟩, S, B⟩
   ·refine t_f Tryz.call57 rfl (spec_l1Below 4 S (K.below B)) ?_ rfl
    rintro e w45 ⟨y26, rfl, hf26, S, x46⟩
    refine ⟨_, rfl, ?_⟩
    have B := B.trans x46
    refine t_alt ?_ ?_
    ·refine t_b S.tail.box ab_path sb_path rfl rfl ?_ rfl
     refine t_f Tryz.call95 rfl (spec_l1Bytes y26 S (K.below B) (by omega)) ?_ rfl
     rintro e w47 ⟨v27, l27, rfl, hf27, S, x48⟩
     refine ⟨_, rfl, ?_⟩
     have B := B.trans x48
     refine t_c Tryz.call43 rfl (spec_NewPacket (1 + y14) p10 _ y22 y17 l27 _ _ (path_mkv (S.t4.sl)) (S.sl) (by omega) (by omega) ‹_› ‹_›) ?_ rfl rfl
     rintro e w49 ⟨cs28, fp28, rfl, hO28, x50⟩
     refine ⟨_, rfl, x50, ?_⟩
     have S := S.add (o := tyO pktT _ _) x50 hO28
     have B := bx Hb B x50
     obtain ⟨u28_3, u28_9, heq, S2⟩ := S.pktOpen
     subst heq
     have S := S2
     clear S2
     have S := S.f10
     refine t_stn S sb_topo rfl rfl rfl rfl (by repeat first | exact oc0 | refine oc rfl ?_ | refine oc (SlR.cells S.t4.t4.sl).2 ?_ | refine oc (SlR.cells S.t4.t4.tail.sl).2 ?_) ?_
     intro w51 b52 S
     have B := B.trans b52
     have S := S.f10
     refine t_stn S sb_pkt rfl rfl rfl rfl (by repeat first | exact oc0 | refine oc rfl ?_ | refine oc (SlR.cells S.tail.tail.sl).2 ?_ | refine oc (SlR.cells S.tail.tail.tail.sl).2 ?_) ?_
     intro w53 b54 S
     have B := B.trans b54
     refine t_d' ?_
     refine x_s ?_
     refine w_r ?_
     refine x_retcc rfl rfl S.tail.box ab_topo sb_topo rfl rfl S.box ab_pkt sb_pkt rfl ?_
     have S := S.tail.tail.f2.tail.f3.tail.f3.tail.f3.tail.f2.f4.f4.f4.f4
     exact ⟨_, _, _, _, _, _, newPkt (1 + y14) p10 y22 y17 l27, rfl, ⟨T, new_S hQ (by omega) (in64 (by omega) (by omega)) (in64 (by omega) (by omega)) (in64 (by omega) (by omega))⟩, S, B⟩
    ·refine t_f Tryz.call95 rfl (spec_l1Bytes y26 S (K.below B) (by omega)) ?_ rfl
     rintro e w55 ⟨v27, l27, rfl, hf27, S, x56⟩
     refine ⟨_, rfl, ?_⟩
     have B := B.trans x56
     refine t_b S.tail.tail.box ab_path sb_path rfl rfl ?_ rfl
     refine t_c Tryz.call43 rfl (spec_NewPacket (1 + y14) p10 _ y22 y17 l27 _ _ (path_mkv (S.t4.sl)) (S.sl) (by omega) (by omega) ‹_› ‹_›) ?_ rfl rfl
     rintro e w57 ⟨cs28, fp28, rfl, hO28, x58⟩
     refine ⟨_, rfl, x58, ?_⟩
     have S := S.add (o := tyO pktT _ _) x58 hO28
     have B := bx Hb B x58
     obtain ⟨u28_3, u28_9, heq, S2⟩ := S.pktOpen
     subst heq
     have S := S2
     clear S2
     have S := S.f10
     refine t_stn S sb_topo rfl rfl rfl rfl (by repeat first | exact oc0 | refine oc rfl ?_ | refine oc (SlR.cells S.t4.t4.sl).2 ?_ | refine oc (SlR.cells S.t4.t4.tail.sl).2 ?_) ?_
     intro w59 b60 S
     have B := B.trans b60
     have S := S.f10
     refine t_stn S sb_pkt rfl rfl rfl rfl (by repeat first | exact oc0 | refine oc rfl ?_ | refine oc (SlR.cells S.tail.tail.sl).2 ?_ | refine oc (SlR.cells S.tail.tail.tail.sl).2 ?_) ?_
     intro w61 b62 S
     have B := B.trans b62
     refine t_d' ?_
     refine x_s ?_
     refine w_r ?_
     refine x_retcc rfl rfl S.tail.box ab_topo sb_topo rfl rfl S.box ab_pkt sb_pkt rfl ?_
     have S := S.tail.tail.f2.tail.f3.tail.f3.tail.f3.tail.f2.f4.f4.f4.f4
     exact ⟨_, _, _, _, _, _, newPkt (1 + y14) p10 y22 y17 l27, rfl, ⟨T, new_S hQ (by omega) (in64 (by omega) (by omega)) (in64 (by omega) (by omega)) (in64 (by omega) (by omega))⟩, S, B⟩
 ·refine t_b S.tail.box ab_path sb_path rfl rfl ?_ rfl
  refine t_alt ?_ ?_
  ·refine t_b S.tail.tail.box ab_topo sb_topo rfl rfl ?_ rfl
   refine t_f Tryz.call57 rfl (spec_l1Below 3 S (K.below B)) ?_ rfl
   rintro e w63 ⟨y22, rfl, hf22, S, x64⟩
   refine ⟨_, rfl, ?_⟩
   have B := B.trans x64
   refine t_f Tryz.call57 rfl (spec_l1Below 4 S (K.below B)) ?_ rfl
   rintro e w65 ⟨y26, rfl, hf26, S, x66⟩
   refine ⟨_, rfl, ?_⟩
   have B := B.trans x66
   refine t_f Tryz.call95 rfl (spec_l1Bytes y26 S (K.below B) (by omega)) ?_ rfl
   rintro e w67 ⟨v27, l27, rfl, hf27, S, x68⟩
   refine ⟨_, rfl, ?_⟩
   have B := B.trans x68
   refine t_c Tryz.call43 rfl (spec_NewPacket (1 + y14) p10 _ y22 y17 l27 _ _ (path_mkv (S.t4.sl)) (S.sl) (by omega) (by omega) ‹_› ‹_›) ?_ rfl rfl
   rintro e w69 ⟨cs28, fp28, rfl, hO28, x70⟩
   refine ⟨_, rfl, x70, ?_⟩
   have S := S.add (o := tyO pktT _ _) x70 hO28
   have B := bx Hb B x70
   obtain ⟨u28_3, u28_9, heq, S2⟩ := S.pktOpen
   subst heq
   have S := S2
   clear S2
   have S := S.f10
   refine t_stn S sb_topo rfl rfl rfl rfl (by repeat first | exact oc0 | refine oc rfl ?_ | refine oc (SlR.cells S.t4.t4.sl).2 ?_ | refine oc (SlR.cells S.t4.t4.tail.sl).2 ?_) ?_
   intro w71 b72 S
   have B := B.trans b72
   have S := S.f10
   refine t_stn S sb_pkt rfl rfl rfl rfl (by repeat first | exact oc0 | refine oc rfl ?_ | refine oc (SlR.cells S.tail.tail.sl).2 ?_ | refine oc (SlR.cells S.tail.tail.tail.sl).2 ?_) ?_
   intro w73 b74 S
   have B := B.trans b74
   refine t_d' ?_
   refine x_s ?_
   refine w_r ?_
   refine x_retcc rfl rfl S.tail.box ab_topo sb_topo rfl rfl S.box ab_pkt sb_pkt rfl ?_
   have S := S.tail.tail.f2.tail.f3.tail.f3.tail.f3.tail.f2.f4.f4.f4.f4
   exact ⟨_, _, _, _, _, _, newPkt (1 + y14) p10 y22 y17 l27, rfl, ⟨T, new_S hQ (by omega) (in64 (by omega) (by omega)) (in64 (by omega) (by omega)) (in64 (by omega) (by omega))⟩, S, B⟩
  ·refine t_f Tryz.call57 rfl (spec_l1Below 3 S (K.below B)) ?_ rfl
   rintro e w75 ⟨y22, rfl, hf22, S, x76⟩
   refine ⟨_, rfl, ?_⟩
   have B := B.trans x76
   refine t_alt ?_ ?_
   ·refine t_b S.tail.tail.box ab_topo sb_topo rfl rfl ?_ rfl
    refine t_f Tryz.call57 rfl (spec_l1Below 4 S (K.below B)) ?_ rfl
    rintro e w77 ⟨y26, rfl, hf26, S, x78⟩
    refine ⟨_, rfl, ?_⟩
    have B := B.trans x78
    refine t_f Tryz.call95 rfl (spec_l1Bytes y26 S (K.below B) (by omega)) ?_ rfl
    rintro e w79 ⟨v27, l27, rfl, hf27, S, x80⟩
    refine ⟨_, rfl, ?_⟩
    have B := B.trans x80
    refine t_c Tryz.call43 rfl (spec_NewPacket (1 + y14) p10 _ y22 y17 l27 _ _ (path_mkv (S.t4.sl)) (S.sl) (by omega) (by omega) ‹_› ‹_›) ?_ rfl rfl
    rintro e w81 ⟨cs28, fp28, rfl, hO28, x82⟩
    refine ⟨_, rfl, x82, ?_⟩
    have S := S.add (o := tyO pktT _ _) x82 hO28
    have B := bx Hb B x82
    obtain ⟨u28_3, u28_9, heq, S2⟩ := S.pktOpen
    subst heq
    have S := S2
    clear S2
    have S := S.f10
    refine t_stn S sb_topo rfl rfl rfl rfl (by repeat first | exact oc0 | refine oc rfl ?_ | refine oc (SlR.cells S.t4.t4.sl).2 ?_ | refine oc (SlR.cells S.t4.t4.tail.sl).2 ?_) ?_
    intro w83 b84 S
    have B := B.trans b84
    have S := S.f10
    refine t_stn S sb_pkt rfl rfl rfl rfl (by repeat first | exact oc0 | refine oc rfl ?_ | refine oc (SlR.cells S.tail.tail.sl).2 ?_ | refine oc (SlR.cells S.tail.tail.tail.sl).2 ?_) ?_
    intro w85 b86 S
    have B := B.trans b86
    refine t_d' ?_
    refine x_s ?_
    refine w_r ?_
    refine x_retcc rfl rfl S.tail.box ab_topo sb_topo rfl rfl S.box ab_pkt sb_pkt rfl ?_
    have S := S.tail.tail.f2.tail.f3.tail.f3.tail.f3.tail.f2.f4.f4.f4.f4
    exact ⟨_, _, _, _, _, _, newPkt (1 + y14) p10 y22 y17 l27, rfl, ⟨T, new_S hQ (by omega) (in64 (by omega) (by omega)) (in64 (by omega) (by omega)) (in64 (by omega) (by omega))⟩, S, B⟩
   ·refine t_f Tryz.call57 rfl (spec_l1Below 4 S (K.below B)) ?_ rfl
    rintro e w87 ⟨y26, rfl, hf26, S, x88⟩
    refine ⟨_, rfl, ?_⟩
    have B := B.trans x88
    refine t_alt ?_ ?_
    ·refine t_b S.tail.tail.box ab_topo sb_topo rfl rfl ?_ rfl
     refine t_f Tryz.call95 rfl (spec_l1Bytes y26 S (K.below B) (by omega)) ?_ rfl
     rintro e w89 ⟨v27, l27, rfl, hf27, S, x90⟩
     refine ⟨_, rfl, ?_⟩
     have B := B.trans x90
     refine t_c Tryz.call43 rfl (spec_NewPacket (1 + y14) p10 _ y22 y17 l27 _ _ (path_mkv (S.t4.sl)) (S.sl) (by omega) (by omega) ‹_› ‹_›) ?_ rfl rfl
     rintro e w91 ⟨cs28, fp28, rfl, hO28, x92⟩
     refine ⟨_, rfl, x92, ?_⟩
     have S := S.add (o := tyO pktT _ _) x92 hO28
     have B := bx Hb B x92
     obtain ⟨u28_3, u28_9, heq, S2⟩ := S.pktOpen
     subst heq
     have S := S2
     clear S2
     have S := S.f10
     refine t_stn S sb_topo rfl rfl rfl rfl (by repeat first | exact oc0 | refine oc rfl ?_ | refine oc (SlR.cells S.t4.t4.sl).2 ?_ | refine oc (SlR.cells S.t4.t4.tail.sl).2 ?_) ?_
     intro w93 b94 S
     have B := B.trans b94
     have S := S.f10
     refine t_stn S sb_pkt rfl rfl rfl rfl (by repeat first | exact oc0 | refine oc rfl ?_ | refine oc (SlR.cells S.tail.tail.sl).2 ?_ | refine oc (SlR.cells S.tail.tail.tail.sl).2 ?_) ?_
     intro w95 b96 S
     have B := B.trans b96
     refine t_d' ?_
     refine x_s ?_
     refine w_r ?_
     refine x_retcc rfl rfl S.tail.box ab_topo sb_topo rfl rfl S.box ab_pkt sb_pkt rfl ?_
     have S := S.tail.tail.f2.tail.f3.tail.f3.tail.f3.tail.f2.f4.f4.f4.f4
     exact ⟨_, _, _, _, _, _, newPkt (1 + y14) p10 y22 y17 l27, rfl, ⟨T, new_S hQ (by omega) (in64 (by omega) (by omega)) (in64 (by omega) (by omega)) (in64 (by omega) (by omega))⟩, S, B⟩
    ·refine t_f Tryz.call95 rfl (spec_l1Bytes y26 S (K.below B) (by omega)) ?_ rfl
     rintro e w97 ⟨v27, l27, rfl, hf27, S, x98⟩
     refine ⟨_, rfl, ?_⟩
     have B := B.trans x98
     refine t_alt ?_ ?_
     ·refine t_b S.tail.tail.tail.box ab_topo sb_topo rfl rfl ?_ rfl
      refine t_c Tryz.call43 rfl (spec_NewPacket (1 + y14) p10 _ y22 y17 l27 _ _ (path_mkv (S.t4.sl)) (S.sl) (by omega) (by omega) ‹_› ‹_›) ?_ rfl rfl
      rintro e w99 ⟨cs28, fp28, rfl, hO28, x100⟩
      refine ⟨_, rfl, x100, ?_⟩
      have S := S.add (o := tyO pktT _ _) x100 hO28
      have B := bx Hb B x100
      obtain ⟨u28_3, u28_9, heq, S2⟩ := S.pktOpen
      subst heq
      have S := S2
      clear S2
      have S := S.f10
      refine t_stn S sb_topo rfl rfl rfl rfl (by repeat first | exact oc0 | refine oc rfl ?_ | refine oc (SlR.cells S.t4.t4.sl).2 ?_ | refine oc (SlR.cells S.t4.t4.tail.sl).2 ?_) ?_
      intro w101 b102 S
      have B := B.trans b102
      have S := S.f10
      refine t_stn S sb_pkt rfl rfl rfl rfl (by repeat first | exact oc0 | refine oc rfl ?_ | refine oc (SlR.cells S.tail.tail.sl).2 ?_ | refine oc (SlR.cells S.tail.tail.tail.sl).2 ?_) ?_
      intro w103 b104 S
      have B := B.trans b104
      refine t_d' ?_
      refine x_s ?_
      refine w_r ?_
      refine x_retcc rfl rfl S.tail.box ab_topo sb_topo rfl rfl S.box ab_pkt sb_pkt rfl ?_
      have S := S.tail.tail.f2.tail.f3.tail.f3.tail.f3.tail.f2.f4.f4.f4.f4
      exact ⟨_, _, _, _, _, _, newPkt (1 + y14) p10 y22 y17 l27, rfl, ⟨T, new_S hQ (by omega) (in64 (by omega) (by omega)) (in64 (by omega) (by omega)) (in64 (by omega) (by omega))⟩, S, B⟩
     ·refine t_c Tryz.call43 rfl (spec_NewPacket (1 + y14) p10 _ y22 y17 l27 _ _ (path_mkv (S.t4.sl)) (S.sl) (by omega) (by omega) ‹_› ‹_›) ?_ rfl rfl
      rintro e w105 ⟨cs28, fp28, rfl, hO28, x106⟩
      refine ⟨_, rfl, x106, ?_⟩
      have S := S.add (o := tyO pktT _ _) x106 hO28
      have B := bx Hb B x106
      obtain ⟨u28_3, u28_9, heq, S2⟩ := S.pktOpen
      subst heq
      have S := S2
      clear S2
      refine t_b S.t4.tail.box ab_topo sb_topo rfl rfl ?_ rfl
      have S := S.f10
      refine t_stn S sb_topo rfl rfl rfl rfl (by repeat first | exact oc0 | refine oc rfl ?_ | refine oc (SlR.cells S.t4.t4.sl).2 ?_ | refine oc (SlR.cells S.t4.t4.tail.sl).2 ?_) ?_
      intro w107 b108 S
      have B := B.trans b108
      have S := S.f10
      refine t_stn S sb_pkt rfl rfl rfl rfl (by repeat first | exact oc0 | refine oc rfl ?_ | refine oc (SlR.cells S.tail.tail.sl).2 ?_ | refine oc (SlR.cells S.tail.tail.tail.sl).2 ?_) ?_
      intro w109 b110 S
      have B := B.trans b110
      refine t_d' ?_
      refine x_s ?_
      refine w_r ?_
      refine x_retcc rfl rfl S.tail.box ab_topo sb_topo rfl rfl S.box ab_pkt sb_pkt rfl ?_
      have S := S.tail.tail.f2.tail.f3.tail.f3.tail.f3.tail.f2.f4.f4.f4.f4
      exact ⟨_, _, _, _, _, _, newPkt (1 + y14) p10 y22 y17 l27, rfl, ⟨T, new_S hQ (by omega) (in64 (by omega) (by omega)) (in64 (by omega) (by omega)) (in64 (by omega) (by omega))⟩, S, B⟩
 ·refine t_f Tryz.call57 rfl (spec_l1Below 3 S (K.below B)) ?_ rfl
  rintro e w111 ⟨y22, rfl, hf22, S, x112⟩
  refine ⟨_, rfl, ?_⟩
  have B := B.trans x112
  refine t_alt ?_ (t_alt ?_ ?_)
  ·refine t_b S.tail.tail.box ab_topo sb_topo rfl rfl ?_ rfl
   refine t_alt ?_ ?_
   ·refine t_b S.tail.box ab_path sb_path rfl rfl ?_ rfl
    refine t_f Tryz.call57 rfl (spec_l1Below 4 S (K.below B)) ?_ rfl
    rintro e w113 ⟨y26, rfl, hf26, S, x114⟩
    refine ⟨_, rfl, ?_⟩
    have B := B.trans x114
    refine t_f Tryz.call95 rfl (spec_l1Bytes y26 S (K.below B) (by omega)) ?_ rfl
    rintro e w115 ⟨v27, l27, rfl, hf27, S, x116⟩
    refine ⟨_, rfl, ?_⟩
    have B := B.trans x116
    refine t_c Tryz.call43 rfl (spec_NewPacket (1 + y14) p10 _ y22 y17 l27 _ _ (path_mkv (S.t4.sl)) (S.sl) (by omega) (by omega) ‹_› ‹_›) ?_ rfl rfl
    rintro e w117 ⟨cs28, fp28, rfl, hO28, x118⟩
    refine ⟨_, rfl, x118, ?_⟩
    have S := S.add (o := tyO pktT _ _) x118 hO28
    have B := bx Hb B x118
    obtain ⟨u28_3, u28_9, heq, S2⟩ := S.pktOpen
    subst heq
    have S := S2
    clear S2
    have S := S.f10
    refine t_stn S sb_topo rfl rfl rfl rfl (by repeat first | exact oc0 | refine oc rfl ?_ | refine oc (SlR.cells S.t4.t4.sl).2 ?_ | refine oc (SlR.cells S.t4.t4.tail.sl).2 ?_) ?_
    intro w119 b120 S
    have B := B.trans b120
    have S := S.f10
    refine t_stn S sb_pkt rfl rfl rfl rfl (by repeat first | exact oc0 | refine oc rfl ?_ | refine oc (SlR.cells S.tail.tail.sl).2 ?_ | refine oc (SlR.cells S.tail.tail.tail.sl).2 ?_) ?_
    intro w121 b122 S
    have B := B.trans b122
    refine t_d' ?_
    refine x_s ?_
    refine w_r ?_
    refine x_retcc rfl rfl S.tail.box ab_topo sb_topo rfl rfl S.box ab_pkt sb_pkt rfl ?_
    have S := S.tail.tail.f2.tail.f3.tail.f3.tail.f3.tail.f2.f4.f4.f4.f4
    exact ⟨_, _, _, _, _, _, newPkt (1 + y14) p10 y22 y17 l27, rfl, ⟨T, new_S hQ (by omega) (in64 (by omega) (by omega)) (in64 (by omega) (by omega)) (in64 (by omega) (by omega))⟩, S, B⟩
   ·refine t_f Tryz.call57 rfl (spec_l1Below 4 S (K.below B)) ?_ rfl
    rintro e w123 ⟨y26, rfl, hf26, S, x124⟩
    refine ⟨_, rfl, ?_⟩
    have B := B.trans x124
    refine t_alt ?_ ?_
    ·refine t_b S.tail.box ab_path sb_path rfl rfl ?_ rfl
     refine t_f Tryz.call95 rfl (spec_l1Bytes y26 S (K.below B) (by omega)) ?_ rfl
     rintro e w125 ⟨v27, l27, rfl, hf27, S, x126⟩
     refine ⟨_, rfl, ?_⟩
     have B := B.trans x126
     refine t_c Tryz.call43 rfl (spec_NewPacket (1 + y14) p10 _ y22 y17 l27 _ _ (path_mkv (S.t4.sl)) (S.sl) (by omega) (by omega) ‹_› ‹_›) ?_ rfl rfl
     rintro e w127 ⟨cs28, fp28, rfl, hO28, x128⟩
     refine ⟨_, rfl, x128, ?_⟩
     have S := S.add (o := tyO pktT _ _) x128 hO28
     have B := bx Hb B x128
     obtain ⟨u28_3, u28_9, heq, S2⟩ := S.pktOpen
     subst heq
     have S := S2
     clear S2
     have S := S.f10
     refine t_stn S sb_topo rfl rfl rfl rfl (by repeat first | exact oc0 | refine oc rfl ?_ | refine oc (SlR.cells S.t4.t4.sl).2 ?_ | refine oc (SlR.cells S.t4.t4.tail.sl).2 ?_) ?_
     intro w129 b130 S
     have B := B.trans b130
     have S := S.f10
     refine t_stn S sb_pkt rfl rfl rfl rfl (by repeat first | exact oc0 | refine oc rfl ?_ | refine oc (SlR.cells S.tail.tail.sl).2 ?_ | refine oc (SlR.cells S.tail.tail.tail.sl).2 ?_) ?_
     intro w131 b132 S
     have B := B.trans b132
     refine t_d' ?_
     refine x_s ?_
     refine w_r ?_
     refine x_retcc rfl rfl S.tail.box ab_topo sb_topo rfl rfl S.box ab_pkt sb_pkt rfl ?_
     have S := S.tail.tail.f2.tail.f3.tail.f3.tail.f3.tail.f2.f4.f4.f4.f4
     exact ⟨_, _, _, _, _, _, newPkt (1 + y14) p10 y22 y17 l27, rfl, ⟨T, new_S hQ (by omega) (in64 (by omega) (by omega)) (in64 (by omega) (by omega)) (in64 (by omega) (by omega))⟩, S, B⟩
    ·refine t_f Tryz.call95 rfl (spec_l1Bytes y26 S (K.below B) (by omega)) ?_ rfl
     rintro e w133 ⟨v27, l27, rfl, hf27, S, x134⟩
     refine ⟨_, rfl, ?_⟩
     have B := B.trans x134
     refine t_b S.tail.tail.box ab_path sb_path rfl rfl ?_ rfl
     refine t_c Tryz.call43 rfl (spec_NewPacket (1 + y14) p10 _ y22 y17 l27 _ _ (path_mkv (S.t4.sl)) (S.sl) (by omega) (by omega) ‹_› ‹_›) ?_ rfl rfl
     rintro e w135 ⟨cs28, fp28, rfl, hO28, x136⟩
     refine ⟨_, rfl, x136, ?_⟩
     have S := S.add (o := tyO pktT _ _) x136 hO28
     have B := bx Hb B x136
     obtain ⟨u28_3, u28_9, heq, S2⟩ := S.pktOpen
     subst heq
     have S := S2
     clear S2
     have S := S.f10
     refine t_stn S sb_topo rfl rfl rfl rfl (by repeat first | exact oc0 | refine oc rfl ?_ | refine oc (SlR.cells S.t4.t4.sl).2 ?_ | refine oc (SlR.cells S.t4.t4.tail.sl).2 ?_) ?_
     intro w137 b138 S
     have B := B.trans b138
     have S := S.f10
     refine t_stn S sb_pkt rfl rfl rfl rfl (by repeat first | exact oc0 | refine oc rfl ?_ | refine oc (SlR.cells S.tail.tail.sl).2 ?_ | refine oc (SlR.cells S.tail.tail.tail.sl).2 ?_) ?_
     intro w139 b140 S
     have B := B.trans b140
     refine t_d' ?_
     refine x_s ?_
     refine w_r ?_
     refine x_retcc rfl rfl S.tail.box ab_topo sb_topo rfl rfl S.box ab_pkt sb_pkt rfl ?_
     have S := S.tail.tail.f2.tail.f3.tail.f3.tail.f3.tail.f2.f4.f4.f4.f4
     exact ⟨_, _, _, _, _, _, newPkt (1 + y14) p10 y22 y17 l27, rfl, ⟨T, new_S hQ (by omega) (in64 (by omega) (by omega)) (in64 (by omega) (by omega)) (in64 (by omega) (by omega))⟩, S, B⟩
  ·refine t_b S.tail.box ab_path sb_path rfl rfl ?_ rfl
   refine t_alt ?_ ?_
   ·refine t_b S.tail.tail.box ab_topo sb_topo rfl rfl ?_ rfl
    refine t_f Tryz.call57 rfl (spec_l1Below 4 S (K.below B)) ?_ rfl
    rintro e w141 ⟨y26, rfl, hf26, S, x142⟩
    refine ⟨_, rfl, ?_⟩
    have B := B.trans x142
    refine t_f Tryz.call95 rfl (spec_l1Bytes y26 S (K.below B) (by omega)) ?_ rfl
    rintro e w143 ⟨v27, l27, rfl, hf27, S, x144⟩
    refine ⟨_, rfl, ?_⟩
    have B := B.trans x144
    refine t_c Tryz.call43 rfl (spec_NewPacket (1 + y14) p10 _ y22 y17 l27 _ _ (path_mkv (S.t4.sl)) (S.sl) (by omega) (by omega) ‹_› ‹_›) ?_ rfl rfl
    rintro e w145 ⟨cs28, fp28, rfl, hO28, x146⟩
    refine ⟨_, rfl, x146, ?_⟩
    have S := S.add (o := tyO pktT _ _) x146 hO28
    have B := bx Hb B x146
    obtain ⟨u28_3, u28_9, heq, S2⟩ := S.pktOpen
    subst heq
    have S := S2
    clear S2
    have S := S.f10
    refine t_stn S sb_topo rfl rfl rfl rfl (by repeat first | exact oc0 | refine oc rfl ?_ | refine oc (SlR.cells S.t4.t4.sl).2 ?_ | refine oc (SlR.cells S.t4.t4.tail.sl).2 ?_) ?_
    intro w147 b148 S
    have B := B.trans b148
    have S := S.f10
    refine t_stn S sb_pkt rfl rfl rfl rfl (by repeat first | exact oc0 | refine oc rfl ?_ | refine oc (SlR.cells S.tail.tail.sl).2 ?_ | refine oc (SlR.cells S.tail.tail.tail.sl).2 ?_) ?_
    intro w149 b150 S
    have B := B.trans b150
    refine t_d' ?_
    refine x_s ?_
    refine w_r ?_
    refine x_retcc rfl rfl S.tail.box ab_topo sb_topo rfl rfl S.box ab_pkt sb_pkt rfl ?_
    have S := S.tail.tail.f2.tail.f3.tail.f3.tail.f3.tail.f2.f4.f4.f4.f4
    exact ⟨_, _, _, _, _, _, newPkt (1 + y14) p10 y22 y17 l27, rfl, ⟨T, new_S hQ (by omega) (in64 (by omega) (by omega)) (in64 (by omega) (by omega)) (in64 (by omega) (by omega))⟩, S, B⟩
   ·refine t_f Tryz.call57 rfl (spec_l1Below 4 S (K.below B)) ?_ rfl
    rintro e w151 ⟨y26, rfl, hf26, S, x152⟩
    refine ⟨_, rfl, ?_⟩
    have B := B.trans x152
    refine t_alt ?_ ?_
    ·refine t_b S.tail.tail.box ab_topo sb_topo rfl rfl ?_ rfl
     refine t_f Tryz.call95 rfl (spec_l1Bytes y26 S (K.below B) (by omega)) ?_ rfl
     rintro e w153 ⟨v27, l27, rfl, hf27, S, x154⟩
     refine ⟨_, rfl, ?_⟩
     have B := B.trans x154
     refine t_c Tryz.call43 rfl (spec_NewPacket (1 + y14) p10 _ y22 y17 l27 _ _ (path_mkv (S.t4.sl)) (S.sl) (by omega) (by omega) ‹_› ‹_›) ?_ rfl rfl
     rintro e w155 ⟨cs28, fp28, rfl, hO28, x156⟩
     refine ⟨_, rfl, x156, ?_⟩
     have S := S.add (o := tyO pktT _ _) x156 hO28
     have B := bx Hb B x156
     obtain ⟨u28_3, u28_9, heq, S2⟩ := S.pktOpen
     subst heq
     have S := S2
     clear S2
     have S := S.f10
     refine t_stn S sb_topo rfl rfl rfl rfl (by repeat first | exact oc0 | refine oc rfl ?_ | refine oc (SlR.cells S.t4.t4.sl).2 ?_ | refine oc (SlR.cells S.t4.t4.tail.sl).2 ?_) ?_
     intro w157 b158 S
     have B := B.trans b158
     have S := S.f10
     refine t_stn S sb_pkt rfl rfl rfl rfl (by repeat first | exact oc0 | refine oc rfl ?_ | refine oc (SlR.cells S.tail.tail.sl).2 ?_ | refine oc (SlR.cells S.tail.tail.tail.sl).2 ?_) ?_
     intro w159 b160 S
     have B := B.trans b160
     refine t_d' ?_
     refine x_s ?_
     refine w_r ?_
     refine x_retcc rfl rfl S.tail.box ab_topo sb_topo rfl rfl S.box ab_pkt sb_pkt rfl ?_
     have S := S.tail.tail.f2.tail.f3.tail.f3.tail.f3.tail.f2.f4.f4.f4.f4
     exact ⟨_, _, _, _, _, _, newPkt (1 + y14) p10 y22 y17 l27, rfl, ⟨T, new_S hQ (by omega) (in64 (by omega) (by omega)) (in64 (by omega) (by omega)) (in64 (by omega) (by omega))⟩, S, B⟩
    ·refine t_f Tryz.call95 rfl (spec_l1Bytes y26 S (K.below B) (by omega)) ?_ rfl
     rintro e w161 ⟨v27, l27, rfl, hf27, S, x162⟩
     refine ⟨_, rfl, ?_⟩
     have B := B.trans x162
     refine t_alt ?_ ?_
     ·refine t_b S.tail.tail.tail.box ab_topo sb_topo rfl rfl ?_ rfl
      refine t_c Tryz.call43 rfl (spec_NewPacket (1 + y14) p10 _ y22 y17 l27 _ _ (path_mkv (S.t4.sl)) (S.sl) (by omega) (by omega) ‹_› ‹_›) ?_ rfl rfl
      rintro e w163 ⟨cs28, fp28, rfl, hO28, x164⟩
      refine ⟨_, rfl, x164, ?_⟩
      have S := S.add (o := tyO pktT _ _) x164 hO28
      have B := bx Hb B x164
      obtain ⟨u28_3, u28_9, heq, S2⟩ := S.pktOpen
      subst heq
      have S := S2
      clear S2
      have S := S.f10
      refine t_stn S sb_topo rfl rfl rfl rfl (by repeat first | exact oc0 | refine oc rfl ?_ | refine oc (SlR.cells S.t4.t4.sl).2 ?_ | refine oc (SlR.cells S.t4.t4.tail.sl).2 ?_) ?_
      intro w165 b166 S
      have B := B.trans b166
      have S := S.f10
      refine t_stn S sb_pkt rfl rfl rfl rfl (by repeat first | exact oc0 | refine oc rfl ?_ | refine oc (SlR.cells S.tail.tail.sl).2 ?_ | refine oc (SlR.cells S.tail.tail.tail.sl).2 ?_) ?_
      intro w167 b168 S
      have B := B.trans b168
      refine t_d' ?_
      refine x_s ?_
      refine w_r ?_
      refine x_retcc rfl rfl S.tail.box ab_topo sb_topo rfl rfl S.box ab_pkt sb_pkt rfl ?_
      have S := S.tail.tail.f2.tail.f3.tail.f3.tail.f3.tail.f2.f4.f4.f4.f4
      exact ⟨_, _, _, _, _, _, newPkt (1 + y14) p10 y22 y17 l27, rfl, ⟨T, new_S hQ (by omega) (in64 (by omega) (by omega)) (in64 (by omega) (by omega)) (in64 (by omega) (by omega))⟩, S, B⟩
     ·refine t_c Tryz.call43 rfl (spec_NewPacket (1 + y14) p10 _ y22 y17 l27 _ _ (path_mkv (S.t4.sl)) (S.sl) (by omega) (by omega) ‹_› ‹_›) ?_ rfl rfl
      rintro e w169 ⟨cs28, fp28, rfl, hO28, x170⟩
      refine ⟨_, rfl, x170, ?_⟩
      have S := S.add (o := tyO pktT _ _) x170 hO28
      have B := bx Hb B x170
      obtain ⟨u28_3, u28_9, heq, S2⟩ := S.pktOpen
      subst heq
      have S := S2
      clear S2
      refine t_b S.t4.tail.box ab_topo sb_topo rfl rfl ?_ rfl
      have S := S.f10
      refine t_stn S sb_topo rfl rfl rfl rfl (by repeat first | exact oc0 | refine oc rfl ?_ | refine oc (SlR.cells S.t4.t4.sl).2 ?_ | refine oc (SlR.cells S.t4.t4.tail.sl).2 ?_) ?_
      intro w171 b172 S
      have B := B.trans b172
      have S := S.f10
      refine t_stn S sb_pkt rfl rfl rfl rfl (by repeat first | exact oc0 | refine oc rfl ?_ | refine oc (SlR.cells S.tail.tail.sl).2 ?_ | refine oc (SlR.cells S.tail.tail.tail.sl).2 ?_) ?_
      intro w173 b174 S
      have B := B.trans b174
      refine t_d' ?_
      refine x_s ?_
      refine w_r ?_
      refine x_retcc rfl rfl S.tail.box ab_topo sb_topo rfl rfl S.box ab_pkt sb_pkt rfl ?_
      have S := S.tail.tail.f2.tail.f3.tail.f3.tail.f3.tail.f2.f4.f4.f4.f4
      exact ⟨_, _, _, _, _, _, newPkt (1 + y14) p10 y22 y17 l27, rfl, ⟨T, new_S hQ (by omega) (in64 (by omega) (by omega)) (in64 (by omega) (by omega)) (in64 (by omega) (by omega))⟩, S, B⟩
  ·refine t_f Tryz.call57 rfl (spec_l1Below 4 S (K.below B)) ?_ rfl
   rintro e w175 ⟨y26, rfl, hf26, S, x176⟩
   refine ⟨_, rfl, ?_⟩
   have B := B.trans x176
   refine t_alt ?_ (t_alt ?_ ?_)
   ·refine t_b S.tail.tail.box ab_topo sb_topo rfl rfl ?_ rfl
    refine t_alt ?_ ?_
    ·refine t_b S.tail.box ab_path sb_path rfl rfl ?_ rfl
     refine t_f Tryz.call95 rfl (spec_l1Bytes y26 S (K.below B) (by omega)) ?_ rfl
     rintro e w177 ⟨v27, l27, rfl, hf27, S, x178⟩
     refine ⟨_, rfl, ?_⟩
     have B := B.trans x178
     refine t_c Tryz.call43 rfl (spec_NewPacket (1 + y14) p10 _ y22 y17 l27 _ _ (path_mkv (S.t4.sl)) (S.sl) (by omega) (by omega) ‹_› ‹_›) ?_ rfl rfl
     rintro e w179 ⟨cs28, fp28, rfl, hO28, x180⟩
     refine ⟨_, rfl, x180, ?_⟩
     have S := S.add (o := tyO pktT _ _) x180 hO28
     have B := bx Hb B x180
     obtain ⟨u28_3, u28_9, heq, S2⟩ := S.pktOpen
     subst heq
     have S := S2
     clear S2
     have S := S.f10
     refine t_stn S sb_topo rfl rfl rfl rfl (by repeat first | exact oc0 | refine oc rfl ?_ | refine oc (SlR.cells S.t4.t4.sl).2 ?_ | refine oc (SlR.cells S.t4.t4.tail.sl).2 ?_) ?_
     intro w181 b182 S
     have B := B.trans b182
     have S := S.f10
     refine t_stn S sb_pkt rfl rfl rfl rfl (by repeat first | exact oc0 | refine oc rfl ?_ | refine oc (SlR.cells S.tail.tail.sl).2 ?_ | refine oc (SlR.cells S.tail.tail.tail.sl).2 ?_) ?_
     intro w183 b184 S
     have B := B.trans b184
     refine t_d' ?_
     refine x_s ?_
     refine w_r ?_
     refine x_retcc rfl rfl S.tail.box ab_topo sb_topo rfl rfl S.box ab_pkt sb_pkt rfl ?_
     have S := S.tail.tail.f2.tail.f3.tail.f3.tail.f3.tail.f2.f4.f4.f4.f4
     exact ⟨_, _, _, _, _, _, newPkt (1 + y14) p10 y22 y17 l27, rfl, ⟨T, new_S hQ (by omega) (in64 (by omega) (by omega)) (in64 (by omega) (by omega)) (in64 (by omega) (by omega))⟩, S, B⟩
    ·refine t_f Tryz.call95 rfl (spec_l1Bytes y26 S (K.below B) (by omega)) ?_ rfl
     rintro e w185 ⟨v27, l27, rfl, hf27, S, x186⟩
     refine ⟨_, rfl, ?_⟩
     have B := B.trans x186
     refine t_b S.tail.tail.box ab_path sb_path rfl rfl ?_ rfl
     refine t_c Tryz.call43 rfl (spec_NewPacket (1 + y14) p10 _ y22 y17 l27 _ _ (path_mkv (S.t4.sl)) (S.sl) (by omega) (by omega) ‹_› ‹_›) ?_ rfl rfl
     rintro e w187 ⟨cs28, fp28, rfl, hO28, x188⟩
     refine ⟨_, rfl, x188, ?_⟩
     have S := S.add (o := tyO pktT _ _) x188 hO28
     have B := bx Hb B x188
     obtain ⟨u28_3, u28_9, heq, S2⟩ := S.pktOpen
     subst heq
     have S := S2
     clear S2
     have S := S.f10
     refine t_stn S sb_topo rfl rfl rfl rfl (by repeat first | exact oc0 | refine oc rfl ?_ | refine oc (SlR.cells S.t4.t4.sl).2 ?_ | refine oc (SlR.cells S.t4.t4.tail.sl).2 ?_) ?_
     intro w189 b190 S
     have B := B.trans b190
     have S := S.f10
     refine t_stn S sb_pkt rfl rfl rfl rfl (by repeat first | exact oc0 | refine oc rfl ?_ | refine oc (SlR.cells S.tail.tail.sl).2 ?_ | refine oc (SlR.cells S.tail.tail.tail.sl).2 ?_) ?_
     intro w191 b192 S
     have B := B.trans b192
     refine t_d' ?_
     refine x_s ?_
     refine w_r ?_
     refine x_retcc rfl rfl S.tail.box ab_topo sb_topo rfl rfl S.box ab_pkt sb_pkt rfl ?_
     have S := S.tail.tail.f2.tail.f3.tail.f3.tail.f3.tail.f2.f4.f4.f4.f4
     exact ⟨_, _, _, _, _, _, newPkt (1 + y14) p10 y22 y17 l27, rfl, ⟨T, new_S hQ (by omega) (in64 (by omega) (by omega)) (in64 (by omega) (by omega)) (in64 (by omega) (by omega))⟩, S, B⟩
   ·refine t_b S.tail.box ab_path sb_path rfl rfl ?_ rfl
    refine t_alt ?_ ?_
    ·refine t_b S.tail.tail.box ab_topo sb_topo rfl rfl ?_ rfl
     refine t_f Tryz.call95 rfl (spec_l1Bytes y26 S (K.below B) (by omega)) ?_ rfl
     rintro e w193 ⟨v27, l27, rfl, hf27, S, x194⟩
     refine ⟨_, rfl, ?_⟩
     have B := B.trans x194
     refine t_c Tryz.call43 rfl (spec_NewPacket (1 + y14) p10 _ y22 y17 l27 _ _ (path_mkv (S.t4.sl)) (S.sl) (by omega) (by omega) ‹_› ‹_›) ?_ rfl rfl
     rintro e w195 ⟨cs28, fp28, rfl, hO28, x196⟩
     refine ⟨_, rfl, x196, ?_⟩
     have S := S.add (o := tyO pktT _ _) x196 hO28
     have B := bx Hb B x196
     obtain ⟨u28_3, u28_9, heq, S2⟩ := S.pktOpen
     subst heq
     have S := S2
     clear S2
     have S := S.f10
     refine t_stn S sb_topo rfl rfl rfl rfl (by repeat first | exact oc0 | refine oc rfl ?_ | refine oc (SlR.cells S.t4.t4.sl).2 ?_ | refine oc (SlR.cells S.t4.t4.tail.sl).2 ?_) ?_
     intro w197 b198 S
     have B := B.trans b198
     have S := S.f10
     refine t_stn S sb_pkt rfl rfl rfl rfl (by repeat first | exact oc0 | refine oc rfl ?_ | refine oc (SlR.cells S.tail.tail.sl).2 ?_ | refine oc (SlR.cells S.tail.tail.tail.sl).2 ?_) ?_
     intro w199 b200 S
     have B := B.trans b200
     refine t_d' ?_
     refine x_s ?_
     refine w_r ?_
     refine x_retcc rfl rfl S.tail.box ab_topo sb_topo rfl rfl S.box ab_pkt sb_pkt rfl ?_
     have S := S.tail.tail.f2.tail.f3.tail.f3.tail.f3.tail.f2.f4.f4.f4.f4
     exact ⟨_, _, _, _, _, _, newPkt (1 + y14) p10 y22 y17 l27, rfl, ⟨T, new_S hQ (by omega) (in64 (by omega) (by omega)) (in64 (by omega) (by omega)) (in64 (by omega) (by omega))⟩, S, B⟩
    ·refine t_f Tryz.call95 rfl (spec_l1Bytes y26 S (K.below B) (by omega)) ?_ rfl
     rintro e w201 ⟨v27, l27, rfl, hf27, S, x202⟩
     refine ⟨_, rfl, ?_⟩
     have B := B.trans x202
     refine t_alt ?_ ?_
     ·refine t_b S.tail.tail.tail.box ab_topo sb_topo rfl rfl ?_ rfl
      refine t_c Tryz.call43 rfl (spec_NewPacket (1 + y14) p10 _ y22 y17 l27 _ _ (path_mkv (S.t4.sl)) (S.sl) (by omega) (by omega) ‹_› ‹_›) ?_ rfl rfl
      rintro e w203 ⟨cs28, fp28, rfl, hO28, x204⟩
      refine ⟨_, rfl, x204, ?_⟩
      have S := S.add (o := tyO pktT _ _) x204 hO28
      have B := bx Hb B x204
      obtain ⟨u28_3, u28_9, heq, S2⟩ := S.pktOpen
      subst heq
      have S := S2
      clear S2
      have S := S.f10
      refine t_stn S sb_topo rfl rfl rfl rfl (by repeat first | exact oc0 | refine oc rfl ?_ | refine oc (SlR.cells S.t4.t4.sl).2 ?_ | refine oc (SlR.cells S.t4.t4.tail.sl).2 ?_) ?_
      intro w205 b206 S
      have B := B.trans b206
      have S := S.f10
      refine t_stn S sb_pkt rfl rfl rfl rfl (by repeat first | exact oc0 | refine oc rfl ?_ | refine oc (SlR.cells S.tail.tail.sl).2 ?_ | refine oc (SlR.cells S.tail.tail.tail.sl).2 ?_) ?_
      intro w207 b208 S
      have B := B.trans b208
      refine t_d' ?_
      refine x_s ?_
      refine w_r ?_
      refine x_retcc rfl rfl S.tail.box ab_topo sb_topo rfl rfl S.box ab_pkt sb_pkt rfl ?_
      have S := S.tail.tail.f2.tail.f3.tail.f3.tail.f3.tail.f2.f4.f4.f4.f4
      exact ⟨_, _, _, _, _, _, newPkt (1 + y14) p10 y22 y17 l27, rfl, ⟨T, new_S hQ (by omega) (in64 (by omega) (by omega)) (in64 (by omega) (by omega)) (in64 (by omega) (by omega))⟩, S, B⟩
     ·refine t_c Tryz.call43 rfl (spec_NewPacket (1 + y14) p10 _ y22 y17 l27 _ _ (path_mkv (S.t4.sl)) (S.sl) (by omega) (by omega) ‹_› ‹_›) ?_ rfl rfl
      rintro e w209 ⟨cs28, fp28, rfl, hO28, x210⟩
      refine ⟨_, rfl, x210, ?_⟩
      have S := S.add (o := tyO pktT _ _) x210 hO28
      have B := bx Hb B x210
      obtain ⟨u28_3, u28_9, heq, S2⟩ := S.pktOpen
      subst heq
      have S := S2
      clear S2
      refine t_b S.t4.tail.box ab_topo sb_topo rfl rfl ?_ rfl
      have S := S.f10
      refine t_stn S sb_topo rfl rfl rfl rfl (by repeat first | exact oc0 | refine oc rfl ?_ | refine oc (SlR.cells S.t4.t4.sl).2 ?_ | refine oc (SlR.cells S.t4.t4.tail.sl).2 ?_) ?_
      intro w211 b212 S
      have B := B.trans b212
      have S := S.f10
      refine t_stn S sb_pkt rfl rfl rfl rfl (by repeat first | exact oc0 | refine oc rfl ?_ | refine oc (SlR.cells S.tail.tail.sl).2 ?_ | refine oc (SlR.cells S.tail.tail.tail.sl).2 ?_) ?_
      intro w213 b214 S
      have B := B.trans b214
      refine t_d' ?_
      refine x_s ?_
      refine w_r ?_
      refine x_retcc rfl rfl S.tail.box ab_topo sb_topo rfl rfl S.box ab_pkt sb_pkt rfl ?_
      have S := S.tail.tail.f2.tail.f3.tail.f3.tail.f3.tail.f2.f4.f4.f4.f4
      exact ⟨_, _, _, _, _, _, newPkt (1 + y14) p10 y22 y17 l27, rfl, ⟨T, new_S hQ (by omega) (in64 (by omega) (by omega)) (in64 (by omega) (by omega)) (in64 (by omega) (by omega))⟩, S, B⟩
   ·refine t_f Tryz.call95 rfl (spec_l1Bytes y26 S (K.below B) (by omega)) ?_ rfl
    rintro e w215 ⟨v27, l27, rfl, hf27, S, x216⟩
    refine ⟨_, rfl, ?_⟩
    have B := B.trans x216
    refine t_alt ?_ ?_
    ·refine t_b S.tail.tail.tail.box ab_topo sb_topo rfl rfl ?_ rfl
     refine t_b S.tail.tail.box ab_path sb_path rfl rfl ?_ rfl
     refine t_c Tryz.call43 rfl (spec_NewPacket (1 + y14) p10 _ y22 y17 l27 _ _ (path_mkv (S.t4.sl)) (S.sl) (by omega) (by omega) ‹_› ‹_›) ?_ rfl rfl
     rintro e w217 ⟨cs28, fp28, rfl, hO28, x218⟩
     refine ⟨_, rfl, x218, ?_⟩
     have S := S.add (o := tyO pktT _ _) x218 hO28
     have B := bx Hb B x218
     obtain ⟨u28_3, u28_9, heq, S2⟩ := S.pktOpen
     subst heq
     have S := S2
     clear S2
     have S := S.f10
     refine t_stn S sb_topo rfl rfl rfl rfl (by repeat first | exact oc0 | refine oc rfl ?_ | refine oc (SlR.cells S.t4.t4.sl).2 ?_ | refine oc (SlR.cells S.t4.t4.tail.sl).2 ?_) ?_
     intro w219 b220 S
     have B := B.trans b220
     have S := S.f10
     refine t_stn S sb_pkt rfl rfl rfl rfl (by repeat first | exact oc0 | refine oc rfl ?_ | refine oc (SlR.cells S.tail.tail.sl).2 ?_ | refine oc (SlR.cells S.tail.tail.tail.sl).2 ?_) ?_
     intro w221 b222 S
     have B := B.trans b222
     refine t_d' ?_
     refine x_s ?_
     refine w_r ?_
     refine x_retcc rfl rfl S.tail.box ab_topo sb_topo rfl rfl S.box ab_pkt sb_pkt rfl ?_
     have S := S.tail.tail.f2.tail.f3.tail.f3.tail.f3.tail.f2.f4.f4.f4.f4
     exact ⟨_, _, _, _, _, _, newPkt (1 + y14) p10 y22 y17 l27, rfl, ⟨T, new_S hQ (by omega) (in64 (by omega) (by omega)) (in64 (by omega) (by omega)) (in64 (by omega) (by omega))⟩, S, B⟩
    ·refine t_b S.tail.tail.box ab_path sb_path rfl rfl ?_ rfl
     refine t_alt ?_ ?_
     ·refine t_b S.tail.tail.tail.box ab_topo sb_topo rfl rfl ?_ rfl
      refine t_c Tryz.call43 rfl (spec_NewPacket (1 + y14) p10 _ y22 y17 l27 _ _ (path_mkv (S.t4.sl)) (S.sl) (by omega) (by omega) ‹_› ‹_›) ?_ rfl rfl
      rintro e w223 ⟨cs28, fp28, rfl, hO28, x224⟩
      refine ⟨_, rfl, x224, ?_⟩
      have S := S.add (o := tyO pktT _ _) x224 hO28
      have B := bx Hb B x224
      obtain ⟨u28_3, u28_9, heq, S2⟩ := S.pktOpen
      subst heq
      have S := S2
      clear S2
      have S := S.f10
      refine t_stn S sb_topo rfl rfl rfl rfl (by repeat first | exact oc0 | refine oc rfl ?_ | refine oc (SlR.cells S.t4.t4.sl).2 ?_ | refine oc (SlR.cells S.t4.t4.tail.sl).2 ?_) ?_
      intro w225 b226 S
      have B := B.trans b226
      have S := S.f10
      refine t_stn S sb_pkt rfl rfl rfl rfl (by repeat first | exact oc0 | refine oc rfl ?_ | refine oc (SlR.cells S.tail.tail.sl).2 ?_ | refine oc (SlR.cells S.tail.tail.tail.sl).2 ?_) ?_
      intro w227 b228 S
      have B := B.trans b228
      refine t_d' ?_
      refine x_s ?_
      refine w_r ?_
      refine x_retcc rfl rfl S.tail.box ab_topo sb_topo rfl rfl S.box ab_pkt sb_pkt rfl ?_
      have S := S.tail.tail.f2.tail.f3.tail.f3.tail.f3.tail.f2.f4.f4.f4.f4
      exact ⟨_, _, _, _, _, _, newPkt (1 + y14) p10 y22 y17 l27, rfl, ⟨T, new_S hQ (by omega) (in64 (by omega) (by omega)) (in64 (by omega) (by omega)) (in64 (by omega) (by omega))⟩, S, B⟩
     ·refine t_c Tryz.call43 rfl (spec_NewPacket (1 + y14) p10 _ y22 y17 l27 _ _ (path_mkv (S.t4.sl)) (S.sl) (by omega) (by omega) ‹_› ‹_›) ?_ rfl rfl
      rintro e w229 ⟨cs28, fp28, rfl, hO28, x230⟩
      refine ⟨_, rfl, x230, ?_⟩
      have S := S.add (o := tyO pktT _ _) x230 hO28
      have B := bx Hb B x230
      obtain ⟨u28_3, u28_9, heq, S2⟩ := S.pktOpen
      subst heq
      have S := S2
      clear S2
      refine t_b S.t4.tail.box ab_topo sb_topo rfl rfl ?_ rfl
      have S := S.f10
      refine t_stn S sb_topo rfl rfl rfl rfl (by repeat first | exact oc0 | refine oc rfl ?_ | refine oc (SlR.cells S.t4.t4.sl).2 ?_ | refine oc (SlR.cells S.t4.t4.tail.sl).2 ?_) ?_
      intro w231 b232 S
      have B := B.trans b232
      have S := S.f10
      refine t_stn S sb_pkt rfl rfl rfl rfl (by repeat first | exact oc0 | refine oc rfl ?_ | refine oc (SlR.cells S.tail.tail.sl).2 ?_ | refine oc (SlR.cells S.tail.tail.tail.sl).2 ?_) ?_
      intro w233 b234 S
      have B := B.trans b234
      refine t_d' ?_
      refine x_s ?_
      refine w_r ?_
      refine x_retcc rfl rfl S.tail.box ab_topo sb_topo rfl rfl S.box ab_pkt sb_pkt rfl ?_
      have S := S.tail.tail.f2.tail.f3.tail.f3.tail.f3.tail.f2.f4.f4.f4.f4
      exact ⟨_, _, _, _, _, _, newPkt (1 + y14) p10 y22 y17 l27, rfl, ⟨T, new_S hQ (by omega) (in64 (by omega) (by omega)) (in64 (by omega) (by omega)) (in64 (by omega) (by omega))⟩, S, B⟩
set_option maxHeartbeats 8000000 in
theorem spec_l26Any {b n c : Nat} {w : World} {v : Value} {os : List Ow} (S : Sep b w (curO v n c 115 :: os)) (K : CodeK b w v n) : Calls Tryz.prog 97 #[.pointer (some ⟨c, 0, none⟩)] w fun e w' =>
  ∃ (va vl v3 v9 : Value) (A : List ASd) (L : List Lnk) (x : Pkt), e = .returned (.tuple #[.agg #[va, vl], .agg #[I x.kind, I x.src, I x.dst, v3, I x.pidx, I x.hidx, I x.beta, I x.rid, I x.seq, v9]]) ∧ (TopK A L ∧ PktS x) ∧ Sep b w' (rdO partT v3 x.path :: slO byteT 5 v9 x.pay :: slO asnT 135 va A :: slO linkT 152 vl L :: curO v n c 115 :: os) ∧ Below b w w' := by
 have X0 := Below.refl w.heap.size w
 refine enter Tryz.func97 rfl Tryz.ntmps97 rfl ?_
 have B := Below.refl b w
 have Hb := S.base
 refine w_s ?_
 refine w_g ?_
 refine t_w S z_topo rfl ?_ rfl rfl
 intro g2 w235 x236 S
 have B := bx Hb B x236
 refine t_w S z_pkt rfl ?_ rfl rfl
 intro g3 w237 x238 S
 have B := bx Hb B x238
 refine t_d ?_
 refine x_s ?_
 refine w_s ?_
 refine w_g ?_
 refine t_m rfl ?_ rfl
 have S := S.f2
 refine t_f Tryz.call144 rfl (spec_l26Draw S (K.below B)) ?_ rfl
 rintro e w239 ⟨va10, vl10, v3_10, v9_10, A10, L10, pk10, rfl, hf10, S, x240⟩
 refine ⟨_, rfl, ?_⟩
 have B := B.trans x240
 refine t_m rfl ?_ rfl
 iterate 2 refine t_extract rfl rfl ?_ rfl
 refine t_w S z_topo rfl ?_ rfl rfl
 intro g4 w241 x242 S
 have B := bx Hb B x242
 refine t_w S z_pkt rfl ?_ rfl rfl
 intro g5 w243 x244 S
 have B := bx Hb B x244
 have S := S.f1
 refine t_stn S sb_topo rfl rfl rfl rfl (by repeat first | exact oc0 | refine oc rfl ?_ | refine oc (SlR.cells S.t4.sl).2 ?_ | refine oc (SlR.cells S.t4.tail.sl).2 ?_) ?_
 intro w245 b246 S
 have B := B.trans b246
 have S := S.f1
 refine t_stn S sb_pkt rfl rfl rfl rfl (by repeat first | exact oc0 | refine oc rfl ?_ | refine oc (SlR.cells S.tail.tail.sl).2 ?_ | refine oc (SlR.cells S.tail.tail.tail.sl).2 ?_) ?_
 intro w247 b248 S
 have B := B.trans b248
 refine t_d ?_
 refine x_s ?_
 refine w_s ?_
 obtain ⟨T, h1, h2, ⟨h3, h4, h5⟩, h6, h7, h8, h9, h10⟩ := hf10
 refine w_cut (X := Pkt × Value × Value) (fun x wq => (fun x v3 v9 => PktS x ∧ Below b w wq ∧ Sep b wq (rdO partT v3 x.path :: slO byteT 5 v9 x.pay :: bxO g5 51 #[I x.kind, I x.src, I x.dst, v3, I x.pidx, I x.hidx, I x.beta, I x.rid, I x.seq, v9] :: slO asnT 135 va10 A10 :: slO linkT 152 vl10 L10 :: curO v n c 115 :: bxO g4 27 #[va10, vl10] :: bxO g3 51 #[I 0, I 0, I 0, .slice none 0 0, I 0, I 0, I 0, I 0, I 0, .slice none 0 0] :: bxO g2 27 #[.slice none 0 0, .slice none 0 0] :: os)) x.1 x.2.1 x.2.2) (fun x => (fun x v3 v9 => [(2, .pointer (some ⟨g2, 0, none⟩)), (3, .pointer (some ⟨g3, 0, none⟩)), (4, .pointer (some ⟨g4, 0, none⟩)), (5, .pointer (some ⟨g5, 0, none⟩))]) x.1 x.2.1 x.2.2) ?_ ?_
 ·refine w_s ?_
  refine w_g ?_
  refine t_m rfl ?_ rfl
  have S := S.f6
  refine t_f Tryz.call57 rfl (spec_l1Below 14 S (K.below B)) ?_ rfl
  rintro e w249 ⟨y14, rfl, hf14, S, x250⟩
  refine ⟨_, rfl, ?_⟩
  have B := B.trans x250
  refine t_d ?_
  refine x_s ?_
  refine w_block ?_
  refine w_s ?_
  refine w_g ?_
  refine t_eql rfl rfl ?_ rfl
  refine t_a rfl ?_ rfl
  refine t_d ?_
  refine x_s ?_
  refine w_if rfl ?_ ?_
  ·intro c0
   refine w_g ?_
   refine t_m rfl ?_ rfl
   refine t_f Tryz.call57 rfl (spec_l1Below 4 S (K.below B)) ?_ rfl
   rintro e w251 ⟨y18, rfl, hf18, S, x252⟩
   refine ⟨_, rfl, ?_⟩
   have B := B.trans x252
   refine t_sub rfl rfl (by omega) ?_ rfl
   refine t_y fb_pkt_4 rfl rfl ?_ rfl
   have S := S.f1
   refine t_st1 S sb_int rfl rfl rfl rfl rfl ?_
   intro w253 b254 S
   have B := B.trans b254
   refine t_d ?_
   refine x_b ?_
   have S := S.f3
   have S := S.toRd (fun _ h => h)
   have S := S.f8.f8.f5.f5.f8.f8.f7.f8.f8
   refine x_cut (X := Pkt × Value × Value) ({ pk10 with pidx := y18 - 1 }, v3_10, v9_10) ?_ ?_
   rotate_left
   ·exact ⟨rfl, rfl, rfl, rfl, trivial⟩
   try dsimp only
   exact ⟨⟨h1, h2, ⟨h3, h4, h5⟩, in64 (by dsimp only; omega) (by dsimp only; omega), h7, h8, h9, h10⟩, B, S⟩
  ·intro c0
   refine w_s ?_
   refine w_g ?_
   refine t_eql rfl rfl ?_ rfl
   refine t_a rfl ?_ rfl
   refine t_d ?_
   refine x_s ?_
   refine w_if rfl ?_ ?_
   ·intro c1
    refine w_g ?_
    refine t_m rfl ?_ rfl
    refine t_f Tryz.call57 rfl (spec_l1Below 4 S (K.below B)) ?_ rfl
    rintro e w255 ⟨y24, rfl, hf24, S, x256⟩
    refine ⟨_, rfl, ?_⟩
    have B := B.trans x256
    refine t_sub rfl rfl (by omega) ?_ rfl
    refine t_y fb_pkt_5 rfl rfl ?_ rfl
    have S := S.f1
    refine t_st1 S sb_int rfl rfl rfl rfl rfl ?_
    intro w257 b258 S
    have B := B.trans b258
    refine t_d ?_
    refine x_b ?_
    have S := S.f3
    have S := S.toRd (fun _ h => h)
    have S := S.f8.f8.f5.f5.f8.f8.f7.f8.f8
    refine x_cut (X := Pkt × Value × Value) ({ pk10 with hidx := y24 - 1 }, v3_10, v9_10) ?_ ?_
    rotate_left
    ·exact ⟨rfl, rfl, rfl, rfl, trivial⟩
    try dsimp only
    exact ⟨⟨h1, h2, ⟨h3, h4, h5⟩, h6, in64 (by dsimp only; omega) (by dsimp only; omega), h8, h9, h10⟩, B, S⟩
   ·intro c1
    refine w_s ?_
    refine w_g ?_
    refine t_eql rfl rfl ?_ rfl
    refine t_a rfl ?_ rfl
    refine t_d ?_
    refine x_s ?_
    refine w_if rfl ?_ ?_
    ·intro c2
     refine w_g ?_
     refine t_m rfl ?_ rfl
     refine t_f Tryz.call120 rfl (spec_l3Word S (K.below B)) ?_ rfl
     rintro e w259 ⟨y30, rfl, hf30, S, x260⟩
     refine ⟨_, rfl, ?_⟩
     have B := B.trans x260
     refine t_y fb_pkt_6 rfl rfl ?_ rfl
     have S := S.f1
     refine t_st1 S sb_int rfl rfl rfl rfl rfl ?_
     intro w261 b262 S
     have B := B.trans b262
     refine t_d ?_
     refine x_b ?_
     have S := S.f3
     have S := S.toRd (fun _ h => h)
     have S := S.f8.f8.f5.f5.f8.f8.f7.f8.f8
     refine x_cut (X := Pkt × Value × Value) ({ pk10 with beta := y30 }, v3_10, v9_10) ?_ ?_
     rotate_left
     ·exact ⟨rfl, rfl, rfl, rfl, trivial⟩
     try dsimp only
     exact ⟨⟨h1, h2, ⟨h3, h4, h5⟩, h6, h7, in64 (by dsimp only; omega) (by dsimp only; omega), h9, h10⟩, B, S⟩
    ·intro c2
     refine w_s ?_
     refine w_g ?_
     refine t_eql rfl rfl ?_ rfl
     refine t_a rfl ?_ rfl
     refine t_d ?_
     refine x_s ?_
     refine w_if rfl ?_ ?_
     ·intro c3
      refine w_g ?_
      refine t_m rfl ?_ rfl
      refine t_f Tryz.call57 rfl (spec_l1Below 9 S (K.below B)) ?_ rfl
      rintro e w263 ⟨y35, rfl, hf35, S, x264⟩
      refine ⟨_, rfl, ?_⟩
      have B := B.trans x264
      refine t_y fb_pkt_2 rfl rfl ?_ rfl
      have S := S.f1
      refine t_st1 S sb_int rfl rfl rfl rfl rfl ?_
      intro w265 b266 S
      have B := B.trans b266
      refine t_d ?_
      refine x_b ?_
      have S := S.f3
      have S := S.toRd (fun _ h => h)
      have S := S.f8.f8.f5.f5.f8.f8.f7.f8.f8
      refine x_cut (X := Pkt × Value × Value) ({ pk10 with dst := y35 }, v3_10, v9_10) ?_ ?_
      rotate_left
      ·exact ⟨rfl, rfl, rfl, rfl, trivial⟩
      try dsimp only
      exact ⟨⟨h1, h2, ⟨h3, h4, in64 (by dsimp only; omega) (by dsimp only; omega)⟩, h6, h7, h8, h9, h10⟩, B, S⟩
     ·intro c3
      refine w_s ?_
      refine w_g ?_
      refine t_eql rfl rfl ?_ rfl
      refine t_a rfl ?_ rfl
      refine t_d ?_
      refine x_s ?_
      refine w_if rfl ?_ ?_
      ·intro c4
       refine w_g ?_
       refine t_m rfl ?_ rfl
       refine t_lit (T := intT) (l := [(-1), 100000, 100001]) (css := ([(-1), 100000, 100001]).map fun a => [I a]) int_flat S (fun w => bs_int3 _ _ _ w) rfl rfl rfl rfl (by simp [maxLen]) (litR_int _) ?_ rfl rfl
       intro u40 w267 x268 S
       have B := bx Hb B x268
       have S := S.f1
       refine t_f Tryz.call115 rfl (spec_l1Int S (K.below B) (by simp)) ?_ rfl
       rintro e w269 ⟨y41, rfl, hf41, S, x270⟩
       refine ⟨_, rfl, ?_⟩
       have B := B.trans x270
       refine t_y fb_pkt_8 rfl rfl ?_ rfl
       have S := S.f2
       refine t_st1 S sb_int rfl rfl rfl rfl rfl ?_
       intro w271 b272 S
       have B := B.trans b272
       refine t_d ?_
       refine x_b ?_
       have S := S.f4
       have S := S.toRd (fun _ h => h)
       have S := S.f3.tail.f8.f8.f5.f5.f8.f8.f7.f8.f8
       refine x_cut (X := Pkt × Value × Value) ({ pk10 with seq := y41 }, v3_10, v9_10) ?_ ?_
       rotate_left
       ·exact ⟨rfl, rfl, rfl, rfl, trivial⟩
       try dsimp only
       have hz : -1 ≤ y41 ∧ y41 ≤ 100001 := by simp at hf41; omega
       exact ⟨⟨h1, h2, ⟨h3, h4, h5⟩, h6, h7, h8, h9, in64 (by dsimp only; omega) (by dsimp only; omega)⟩, B, S⟩
      ·intro c4
       refine w_s ?_
       refine w_g ?_
       refine t_eql rfl rfl ?_ rfl
       refine t_a rfl ?_ rfl
       refine t_d ?_
       refine x_s ?_
       refine w_if rfl ?_ ?_
       ·intro c5
        refine w_s ?_
        refine w_g ?_
        refine t_m rfl ?_ rfl
        refine t_f Tryz.call60 rfl (spec_l22Any S (K.below B)) ?_ rfl
        rintro e w273 ⟨va47, vl47, vp47, A47, L47, p47, rfl, hf47, S, x274⟩
        refine ⟨_, rfl, ?_⟩
        have B := B.trans x274
        refine t_m rfl ?_ rfl
        iterate 2 refine t_extract rfl rfl ?_ rfl
        refine t_w S z_topo rfl ?_ rfl rfl
        intro g6 w275 x276 S
        have B := bx Hb B x276
        refine t_w S z_path rfl ?_ rfl rfl
        intro g7 w277 x278 S
        have B := bx Hb B x278
        have S := S.f1
        refine t_stn S sb_topo rfl rfl rfl rfl (by repeat first | exact oc0 | refine oc rfl ?_ | refine oc (SlR.cells S.tail.tail.tail.sl).2 ?_ | refine oc (SlR.cells S.t4.sl).2 ?_) ?_
        intro w279 b280 S
        have B := B.trans b280
        have S := S.f1
        refine t_stn S sb_path rfl rfl rfl rfl (by repeat first | exact oc0 | refine oc rfl ?_ | refine oc (SlR.cells S.tail.tail.rd).2 ?_) ?_
        intro w281 b282 S
        have B := B.trans b282
        refine t_d ?_
        refine x_s ?_
        refine w_g ?_
        refine t_b S.box ab_path sb_path rfl rfl ?_ rfl
        refine t_y fb_pkt_3 rfl rfl ?_ rfl
        obtain ⟨Avp47, cvp47, rfl, _⟩ := S.tail.tail.rd.form
        have S := S.f6
        refine t_stp S sb_path rfl rfl rfl rfl rfl ?_
        intro w283 b284 S
        have B := B.trans b284
        refine t_d ?_
        refine x_b ?_
        have S := S.f1.tail.f1.tail.f2.tail.f2.tail.f4.tail.f8.f8.f5.f5.f8.f8.f6.f8.f8
        refine x_cut (X := Pkt × Value × Value) ({ pk10 with path := p47 }, .slice Avp47 p47.length cvp47, v9_10) ?_ ?_
        rotate_left
        ·exact ⟨rfl, rfl, rfl, rfl, trivial⟩
        try dsimp only
        exact ⟨⟨hf47.2, h2, ⟨h3, h4, h5⟩, h6, h7, h8, h9, h10⟩, B, S⟩
       ·intro c5
        refine w_s ?_
        refine w_g ?_
        refine t_eql rfl rfl ?_ rfl
        refine t_a rfl ?_ rfl
        refine t_d ?_
        refine x_s ?_
        refine w_if rfl ?_ ?_
        ·intro c6
         refine w_g ?_
         refine t_m rfl ?_ rfl
         refine t_f Tryz.call57 rfl (spec_l1Below 6 S (K.below B)) ?_ rfl
         rintro e w285 ⟨y55, rfl, hf55, S, x286⟩
         refine ⟨_, rfl, ?_⟩
         have B := B.trans x286
         refine t_sub rfl rfl (by omega) ?_ rfl
         refine t_y fb_pkt_0 rfl rfl ?_ rfl
         have S := S.f1
         refine t_st1 S sb_int rfl rfl rfl rfl rfl ?_
         intro w287 b288 S
         have B := B.trans b288
         refine t_d ?_
         refine x_b ?_
         have S := S.f3
         have S := S.toRd (fun _ h => h)
         have S := S.f8.f8.f5.f5.f8.f8.f7.f8.f8
         refine x_cut (X := Pkt × Value × Value) ({ pk10 with kind := y55 - 1 }, v3_10, v9_10) ?_ ?_
         rotate_left
         ·exact ⟨rfl, rfl, rfl, rfl, trivial⟩
         try dsimp only
         exact ⟨⟨h1, h2, ⟨in64 (by dsimp only; omega) (by dsimp only; omega), h4, h5⟩, h6, h7, h8, h9, h10⟩, B, S⟩
        ·intro c6
         refine w_k ?_
         refine x_b ?_
         have S := S.f3
         have S := S.toRd (fun _ h => h)
         have S := S.f8.f8.f5.f4.f8.f8.f7.f8.f8
         refine x_cut (X := Pkt × Value × Value) (pk10, v3_10, v9_10) ?_ ?_
         rotate_left
         ·exact ⟨rfl, rfl, rfl, rfl, trivial⟩
         try dsimp only
         exact ⟨⟨h1, h2, ⟨h3, h4, h5⟩, h6, h7, h8, h9, h10⟩, B, S⟩
 rintro ⟨x, v3, v9⟩ w289 hI
 try dsimp only at hI ⊢
 obtain ⟨hx, B, S⟩ := hI
 refine w_s ?_
 refine w_drawP [] (.alt (.st .fin 0 (.alt (.st .fin 1 (.st .fin 2 (.st .fin 3 .done))) (.st .fin 2 (.st .fin 1 (.st .fin 3 .done))))) (.st .fin 1 (.st .fin 0 (.st .fin 2 (.st .fin 3 .done))))) mixed (by kernel_rfl) ?_
 intro w290 x291
 have B := bx Hb B x291
 have S := S.below x291
 refine t_alt ?_ ?_
 ·refine t_b S.t4.tail.tail.box ab_topo sb_topo rfl rfl ?_ rfl
  refine t_alt ?_ ?_
  ·refine t_b S.tail.tail.box ab_pkt sb_pkt rfl rfl ?_ rfl
   have S := S.f8
   refine t_stn S sb_topo rfl rfl rfl rfl (by repeat first | exact oc0 | refine oc rfl ?_ | refine oc (SlR.cells S.t4.sl).2 ?_ | refine oc (SlR.cells S.t4.tail.sl).2 ?_) ?_
   intro w292 b293 S
   have B := B.trans b293
   have S := S.f8
   refine t_stn S sb_pkt rfl rfl rfl rfl (by repeat first | exact oc0 | refine oc rfl ?_ | refine oc (SlR.cells S.tail.tail.rd).2 ?_ | refine oc (SlR.cells S.tail.tail.tail.sl).2 ?_) ?_
   intro w294 b295 S
   have B := B.trans b295
   refine t_d' ?_
   refine x_s ?_
   refine w_r ?_
   refine x_retcc rfl rfl S.tail.box ab_topo sb_topo rfl rfl S.box ab_pkt sb_pkt rfl ?_
   have S := S.tail.tail.f2.tail.f5.tail.f4.f4.f4.f4.f4
   exact ⟨_, _, _, _, _, _, x, rfl, ⟨T, hx⟩, S, B⟩
  ·have S := S.f8
   refine t_stn S sb_topo rfl rfl rfl rfl (by repeat first | exact oc0 | refine oc rfl ?_ | refine oc (SlR.cells S.t4.sl).2 ?_ | refine oc (SlR.cells S.t4.tail.sl).2 ?_) ?_
   intro w296 b297 S
   have B := B.trans b297
   refine t_b S.tail.tail.tail.box ab_pkt sb_pkt rfl rfl ?_ rfl
   have S := S.f8
   refine t_stn S sb_pkt rfl rfl rfl rfl (by repeat first | exact oc0 | refine oc rfl ?_ | refine oc (SlR.cells S.tail.tail.rd).2 ?_ | refine oc (SlR.cells S.tail.tail.tail.sl).2 ?_) ?_
   intro w298 b299 S
   have B := B.trans b299
   refine t_d' ?_
   refine x_s ?_
   refine w_r ?_
   refine x_retcc rfl rfl S.tail.box ab_topo sb_topo rfl rfl S.box ab_pkt sb_pkt rfl ?_
   have S := S.tail.tail.f2.tail.f5.tail.f4.f4.f4.f4.f4
   exact ⟨_, _, _, _, _, _, x, rfl, ⟨T, hx⟩, S, B⟩
 ·refine t_b S.tail.tail.box ab_pkt sb_pkt rfl rfl ?_ rfl
  refine t_b S.t4.tail.tail.box ab_topo sb_topo rfl rfl ?_ rfl
  have S := S.f8
  refine t_stn S sb_topo rfl rfl rfl rfl (by repeat first | exact oc0 | refine oc rfl ?_ | refine oc (SlR.cells S.t4.sl).2 ?_ | refine oc (SlR.cells S.t4.tail.sl).2 ?_) ?_
  intro w300 b301 S
  have B := B.trans b301
  have S := S.f8
  refine t_stn S sb_pkt rfl rfl rfl rfl (by repeat first | exact oc0 | refine oc rfl ?_ | refine oc (SlR.cells S.tail.tail.rd).2 ?_ | refine oc (SlR.cells S.tail.tail.tail.sl).2 ?_) ?_
  intro w302 b303 S
  have B := B.trans b303
  refine t_d' ?_
  refine x_s ?_
  refine w_r ?_
  refine x_retcc rfl rfl S.tail.box ab_topo sb_topo rfl rfl S.box ab_pkt sb_pkt rfl ?_
  have S := S.tail.tail.f2.tail.f5.tail.f4.f4.f4.f4.f4
  exact ⟨_, _, _, _, _, _, x, rfl, ⟨T, hx⟩, S, B⟩
theorem spec_l26One (code : List UInt8) (v : Value) (w : World) (h : SlR byteT w v code) (hz : code.length ≤ 1048576) : Calls Tryz.prog 84 #[v] w fun e w' => ∃ (g : Nat) (va vl v3 v9 : Value) (A : List ASd) (L : List Lnk) (x : Pkt), e = .returned (.tuple #[.pointer (some ⟨g, 0, none⟩), .agg #[va, vl], .agg #[I x.kind, I x.src, I x.dst, v3, I x.pidx, I x.hidx, I x.beta, I x.rid, I x.seq, v9]]) ∧ (TopK A L ∧ PktS x) ∧ Sep w.heap.size w' [rdO partT v3 x.path, slO byteT 5 v9 x.pay, slO asnT 135 va A, slO linkT 152 vl L, curO v code.length g 115] ∧ Ext w w' := by
 have K := CodeK.of h hz
 have X0 := Below.refl w.heap.size w
 refine enter Tryz.func84 rfl Tryz.ntmps84 rfl ?_
 have S := Sep.nil w
 have B := Below.refl w.heap.size w
 have Hb := Nat.le_refl w.heap.size
 refine w_s ?_
 refine w_g ?_
 refine t_a rfl ?_ rfl
 refine t_w S z_topo rfl ?_ rfl rfl
 intro g3 w304 x305 S
 have B := bx Hb B x305
 refine t_w S z_pkt rfl ?_ rfl rfl
 intro g4 w306 x307 S
 have B := bx Hb B x307
 refine t_d ?_
 refine x_s ?_
 refine w_s ?_
 refine w_g ?_
 refine t_m rfl ?_ rfl
 refine t_c Tryz.call53 rfl (spec_l1New _ _ _ (by first | assumption | exact SlR.below ‹_› B) (by omega)) ?_ rfl rfl
 rintro e w308 ⟨g9, fpg9, rfl, hOg9, x309⟩
 refine ⟨_, rfl, x309, ?_⟩
 have S := S.add (o := curO _ _ _ _) x309 hOg9
 have B := bx Hb B x309
 refine t_a rfl ?_ rfl
 refine t_d ?_
 refine x_s ?_
 refine w_s ?_
 refine w_g ?_
 refine t_m rfl ?_ rfl
 refine t_f Tryz.call97 rfl (spec_l26Any S (K.below B)) ?_ rfl
 rintro e w310 ⟨va12, vl12, v3_12, v9_12, A12, L12, pk12, rfl, hf12, S, x311⟩
 refine ⟨_, rfl, ?_⟩
 have B := B.trans x311
 refine t_m rfl ?_ rfl
 iterate 2 refine t_extract rfl rfl ?_ rfl
 refine t_w S z_topo rfl ?_ rfl rfl
 intro g6 w312 x313 S
 have B := bx Hb B x313
 refine t_w S z_pkt rfl ?_ rfl rfl
 intro g7 w314 x315 S
 have B := bx Hb B x315
 have S := S.f1
 refine t_stn S sb_topo rfl rfl rfl rfl (by repeat first | exact oc0 | refine oc rfl ?_ | refine oc (SlR.cells S.t4.sl).2 ?_ | refine oc (SlR.cells S.t4.tail.sl).2 ?_) ?_
 intro w316 b317 S
 have B := B.trans b317
 have S := S.f1
 refine t_stn S sb_pkt rfl rfl rfl rfl (by repeat first | exact oc0 | refine oc rfl ?_ | refine oc (SlR.cells S.tail.tail.rd).2 ?_ | refine oc (SlR.cells S.tail.tail.tail.sl).2 ?_) ?_
 intro w318 b319 S
 have B := B.trans b319
 refine t_d ?_
 refine x_s ?_
 refine w_s ?_
 refine w_drawP [0] (.alt (.st .fin 1 (.alt (.st .fin 2 (.st .fin 3 (.st .fin 4 (.st .fin 5 .done)))) (.st .fin 3 (.alt (.st .fin 2 (.st .fin 4 (.st .fin 5 .done))) (.st .fin 4 (.st .fin 2 (.st .fin 5 .done))))))) (.alt (.st .fin 2 (.alt (.st .fin 1 (.st .fin 3 (.st .fin 4 (.st .fin 5 .done)))) (.st .fin 3 (.st .fin 1 (.st .fin 4 (.st .fin 5 .done)))))) (.st .fin 3 (.alt (.st .fin 1 (.alt (.st .fin 2 (.st .fin 4 (.st .fin 5 .done))) (.st .fin 4 (.st .fin 2 (.st .fin 5 .done))))) (.st .fin 2 (.st .fin 1 (.st .fin 4 (.st .fin 5 .done)))))))) mixed (by kernel_rfl) ?_
 intro w320 x321
 have B := bx Hb B x321
 have S := S.below x321
 refine p_move rfl ?_ rfl
 refine p_done ?_
 refine t_alt ?_ (t_alt ?_ ?_)
 ·refine t_b S.tail.box ab_topo sb_topo rfl rfl ?_ rfl
  refine t_alt ?_ ?_
  ·refine t_b S.box ab_pkt sb_pkt rfl rfl ?_ rfl
   refine t_a rfl ?_ rfl
   have S := S.f8
   refine t_stn S sb_topo rfl rfl rfl rfl (by repeat first | exact oc0 | refine oc rfl ?_ | refine oc (SlR.cells S.t4.tail.sl).2 ?_ | refine oc (SlR.cells S.t4.tail.tail.sl).2 ?_) ?_
   intro w322 b323 S
   have B := B.trans b323
   have S := S.f8
   refine t_stn S sb_pkt rfl rfl rfl rfl (by repeat first | exact oc0 | refine oc rfl ?_ | refine oc (SlR.cells S.t4.rd).2 ?_ | refine oc (SlR.cells S.t4.tail.sl).2 ?_) ?_
   intro w324 b325 S
   have B := B.trans b325
   refine t_d' ?_
   refine x_s ?_
   refine w_r ?_
   refine x_rettcc rfl rfl rfl S.tail.box ab_topo sb_topo rfl rfl S.box ab_pkt sb_pkt rfl ?_
   have S := S.tail.tail.tail.tail.f4.f4.f4.f4.f4
   exact ⟨_, _, _, _, _, _, _, _, rfl, hf12, S, ext_trans X0 B⟩
  ·refine t_a rfl ?_ rfl
   refine t_alt ?_ ?_
   ·refine t_b S.box ab_pkt sb_pkt rfl rfl ?_ rfl
    have S := S.f8
    refine t_stn S sb_topo rfl rfl rfl rfl (by repeat first | exact oc0 | refine oc rfl ?_ | refine oc (SlR.cells S.t4.tail.sl).2 ?_ | refine oc (SlR.cells S.t4.tail.tail.sl).2 ?_) ?_
    intro w326 b327 S
    have B := B.trans b327
    have S := S.f8
    refine t_stn S sb_pkt rfl rfl rfl rfl (by repeat first | exact oc0 | refine oc rfl ?_ | refine oc (SlR.cells S.t4.rd).2 ?_ | refine oc (SlR.cells S.t4.tail.sl).2 ?_) ?_
    intro w328 b329 S
    have B := B.trans b329
    refine t_d' ?_
    refine x_s ?_
    refine w_r ?_
    refine x_rettcc rfl rfl rfl S.tail.box ab_topo sb_topo rfl rfl S.box ab_pkt sb_pkt rfl ?_
    have S := S.tail.tail.tail.tail.f4.f4.f4.f4.f4
    exact ⟨_, _, _, _, _, _, _, _, rfl, hf12, S, ext_trans X0 B⟩
   ·have S := S.f8
    refine t_stn S sb_topo rfl rfl rfl rfl (by repeat first | exact oc0 | refine oc rfl ?_ | refine oc (SlR.cells S.t4.tail.sl).2 ?_ | refine oc (SlR.cells S.t4.tail.tail.sl).2 ?_) ?_
    intro w330 b331 S
    have B := B.trans b331
    refine t_b S.tail.box ab_pkt sb_pkt rfl rfl ?_ rfl
    have S := S.f8
    refine t_stn S sb_pkt rfl rfl rfl rfl (by repeat first | exact oc0 | refine oc rfl ?_ | refine oc (SlR.cells S.t4.rd).2 ?_ | refine oc (SlR.cells S.t4.tail.sl).2 ?_) ?_
    intro w332 b333 S
    have B := B.trans b333
    refine t_d' ?_
    refine x_s ?_
    refine w_r ?_
    refine x_rettcc rfl rfl rfl S.tail.box ab_topo sb_topo rfl rfl S.box ab_pkt sb_pkt rfl ?_
    have S := S.tail.tail.tail.tail.f4.f4.f4.f4.f4
    exact ⟨_, _, _, _, _, _, _, _, rfl, hf12, S, ext_trans X0 B⟩
 ·refine t_b S.box ab_pkt sb_pkt rfl rfl ?_ rfl
  refine t_alt ?_ ?_
  ·refine t_b S.tail.box ab_topo sb_topo rfl rfl ?_ rfl
   refine t_a rfl ?_ rfl
   have S := S.f8
   refine t_stn S sb_topo rfl rfl rfl rfl (by repeat first | exact oc0 | refine oc rfl ?_ | refine oc (SlR.cells S.t4.tail.sl).2 ?_ | refine oc (SlR.cells S.t4.tail.tail.sl).2 ?_) ?_
   intro w334 b335 S
   have B := B.trans b335
   have S := S.f8
   refine t_stn S sb_pkt rfl rfl rfl rfl (by repeat first | exact oc0 | refine oc rfl ?_ | refine oc (SlR.cells S.t4.rd).2 ?_ | refine oc (SlR.cells S.t4.tail.sl).2 ?_) ?_
   intro w336 b337 S
   have B := B.trans b337
   refine t_d' ?_
   refine x_s ?_
   refine w_r ?_
   refine x_rettcc rfl rfl rfl S.tail.box ab_topo sb_topo rfl rfl S.box ab_pkt sb_pkt rfl ?_
   have S := S.tail.tail.tail.tail.f4.f4.f4.f4.f4
   exact ⟨_, _, _, _, _, _, _, _, rfl, hf12, S, ext_trans X0 B⟩
  ·refine t_a rfl ?_ rfl
   refine t_b S.tail.box ab_topo sb_topo rfl rfl ?_ rfl
   have S := S.f8
   refine t_stn S sb_topo rfl rfl rfl rfl (by repeat first | exact oc0 | refine oc rfl ?_ | refine oc (SlR.cells S.t4.tail.sl).2 ?_ | refine oc (SlR.cells S.t4.tail.tail.sl).2 ?_) ?_
   intro w338 b339 S
   have B := B.trans b339
   have S := S.f8
   refine t_stn S sb_pkt rfl rfl rfl rfl (by repeat first | exact oc0 | refine oc rfl ?_ | refine oc (SlR.cells S.t4.rd).2 ?_ | refine oc (SlR.cells S.t4.tail.sl).2 ?_) ?_
   intro w340 b341 S
   have B := B.trans b341
   refine t_d' ?_
   refine x_s ?_
   refine w_r ?_
   refine x_rettcc rfl rfl rfl S.tail.box ab_topo sb_topo rfl rfl S.box ab_pkt sb_pkt rfl ?_
   have S := S.tail.tail.tail.tail.f4.f4.f4.f4.f4
   exact ⟨_, _, _, _, _, _, _, _, rfl, hf12, S, ext_trans X0 B⟩
 ·refine t_a rfl ?_ rfl
  refine t_alt ?_ ?_
  ·refine t_b S.tail.box ab_topo sb_topo rfl rfl ?_ rfl
   refine t_alt ?_ ?_
   ·refine t_b S.box ab_pkt sb_pkt rfl rfl ?_ rfl
    have S := S.f8
    refine t_stn S sb_topo rfl rfl rfl rfl (by repeat first | exact oc0 | refine oc rfl ?_ | refine oc (SlR.cells S.t4.tail.sl).2 ?_ | refine oc (SlR.cells S.t4.tail.tail.sl).2 ?_) ?_
    intro w342 b343 S
    have B := B.trans b343
    have S := S.f8
    refine t_stn S sb_pkt rfl rfl rfl rfl (by repeat first | exact oc0 | refine oc rfl ?_ | refine oc (SlR.cells S.t4.rd).2 ?_ | refine oc (SlR.cells S.t4.tail.sl).2 ?_) ?_
    intro w344 b345 S
    have B := B.trans b345
    refine t_d' ?_
    refine x_s ?_
    refine w_r ?_
    refine x_rettcc rfl rfl rfl S.tail.box ab_topo sb_topo rfl rfl S.box ab_pkt sb_pkt rfl ?_
    have S := S.tail.tail.tail.tail.f4.f4.f4.f4.f4
    exact ⟨_, _, _, _, _, _, _, _, rfl, hf12, S, ext_trans X0 B⟩
   ·have S := S.f8
    refine t_stn S sb_topo rfl rfl rfl rfl (by repeat first | exact oc0 | refine oc rfl ?_ | refine oc (SlR.cells S.t4.tail.sl).2 ?_ | refine oc (SlR.cells S.t4.tail.tail.sl).2 ?_) ?_
    intro w346 b347 S
    have B := B.trans b347
    refine t_b S.tail.box ab_pkt sb_pkt rfl rfl ?_ rfl
    have S := S.f8
    refine t_stn S sb_pkt rfl rfl rfl rfl (by repeat first | exact oc0 | refine oc rfl ?_ | refine oc (SlR.cells S.t4.rd).2 ?_ | refine oc (SlR.cells S.t4.tail.sl).2 ?_) ?_
    intro w348 b349 S
    have B := B.trans b349
    refine t_d' ?_
    refine x_s ?_
    refine w_r ?_
    refine x_rettcc rfl rfl rfl S.tail.box ab_topo sb_topo rfl rfl S.box ab_pkt sb_pkt rfl ?_
    have S := S.tail.tail.tail.tail.f4.f4.f4.f4.f4
    exact ⟨_, _, _, _, _, _, _, _, rfl, hf12, S, ext_trans X0 B⟩
  ·refine t_b S.box ab_pkt sb_pkt rfl rfl ?_ rfl
   refine t_b S.tail.box ab_topo sb_topo rfl rfl ?_ rfl
   have S := S.f8
   refine t_stn S sb_topo rfl rfl rfl rfl (by repeat first | exact oc0 | refine oc rfl ?_ | refine oc (SlR.cells S.t4.tail.sl).2 ?_ | refine oc (SlR.cells S.t4.tail.tail.sl).2 ?_) ?_
   intro w350 b351 S
   have B := B.trans b351
   have S := S.f8
   refine t_stn S sb_pkt rfl rfl rfl rfl (by repeat first | exact oc0 | refine oc rfl ?_ | refine oc (SlR.cells S.t4.rd).2 ?_ | refine oc (SlR.cells S.t4.tail.sl).2 ?_) ?_
   intro w352 b353 S
   have B := B.trans b353
   refine t_d' ?_
   refine x_s ?_
   refine w_r ?_
   refine x_rettcc rfl rfl rfl S.tail.box ab_topo sb_topo rfl rfl S.box ab_pkt sb_pkt rfl ?_
   have S := S.tail.tail.tail.tail.f4.f4.f4.f4.f4
   exact ⟨_, _, _, _, _, _, _, _, rfl, hf12, S, ext_trans X0 B⟩
theorem spec_DrawEncodePacket (code : List UInt8) (v : Value) (w : World) (h : SlR byteT w v code) (hz : code.length ≤ 1048576) : Calls Tryz.prog 31 #[v] w fun e w' => ∃ (v3 v9 : Value) (x : Pkt), e = .returned (.agg #[I x.kind, I x.src, I x.dst, v3, I x.pidx, I x.hidx, I x.beta, I x.rid, I x.seq, v9]) ∧ PktS x ∧ Sep w.heap.size w' [rdO partT v3 x.path, slO byteT 5 v9 x.pay] ∧ Ext w w' := by
 have X0 := Below.refl w.heap.size w
 refine enter Tryz.func31 rfl Tryz.ntmps31 rfl ?_
 have S := Sep.nil w
 have B := Below.refl w.heap.size w
 have Hb := Nat.le_refl w.heap.size
 refine w_s ?_
 refine w_g ?_
 refine t_w S z_pkt rfl ?_ rfl rfl
 intro g2 w354 x355 S
 have B := bx Hb B x355
 refine t_d ?_
 refine x_s ?_
 refine w_s ?_
 refine w_g ?_
 refine t_m rfl ?_ rfl
 refine t_c Tryz.call84 rfl (spec_l26One _ _ _ (by first | assumption | exact SlR.below ‹_› B) (by omega)) ?_ rfl rfl
 rintro e w356 ⟨g8, va8, vl8, v3_8, v9_8, A8, L8, pk8, rfl, hf8, S9, x357⟩
 refine ⟨_, rfl, x357, ?_⟩
 have S := S.join2 x357 S9
 clear S9
 have B := bx Hb B x357
 refine t_m rfl ?_ rfl
 iterate 3 refine t_extract rfl rfl ?_ rfl
 refine t_w S z_topo rfl ?_ rfl rfl
 intro g4 w358 x359 S
 have B := bx Hb B x359
 refine t_w S z_pkt rfl ?_ rfl rfl
 intro g5 w360 x361 S
 have B := bx Hb B x361
 refine t_a rfl ?_ rfl
 have S := S.f1
 refine t_stn S sb_topo rfl rfl rfl rfl (by repeat first | exact oc0 | refine oc rfl ?_ | refine oc (SlR.cells S.t4.sl).2 ?_ | refine oc (SlR.cells S.t4.tail.sl).2 ?_) ?_
 intro w362 b363 S
 have B := B.trans b363
 have S := S.f1
 refine t_stn S sb_pkt rfl rfl rfl rfl (by repeat first | exact oc0 | refine oc rfl ?_ | refine oc (SlR.cells S.tail.tail.rd).2 ?_ | refine oc (SlR.cells S.tail.tail.tail.sl).2 ?_) ?_
 intro w364 b365 S
 have B := B.trans b365
 refine t_d ?_
 refine x_s ?_
 refine w_s ?_
 refine w_g ?_
 refine t_b S.box ab_pkt sb_pkt rfl rfl ?_ rfl
 have S := S.f7
 refine t_stn S sb_pkt rfl rfl rfl rfl (by repeat first | exact oc0 | refine oc rfl ?_ | refine oc (SlR.cells S.tail.tail.tail.rd).2 ?_ | refine oc (SlR.cells S.t4.sl).2 ?_) ?_
 intro w366 b367 S
 have B := B.trans b367
 refine t_d ?_
 refine x_s ?_
 refine w_r ?_
 refine x_retc rfl rfl S.box ab_pkt sb_pkt rfl ?_
 have S := S.tail.tail.tail.f2.tail.f2.tail.f2.tail.f1.f1
 exact ⟨_, _, _, rfl, hf8.2, S, ext_trans X0 B⟩
theorem pkt_enc {x : Pkt} (h : PktS x) : (pktEnc x).length ≤ 2000 := by
  have h1 := pktInts_enc x
  have h2 := vint_len (x.pay.length : Int)
  have h3 := h.2.1
  have h4 := h.1.enc
  unfold pktEnc
  split
  · simp only [List.length_append]; omega
  · simp
theorem spec_DrawDecodePacket (code : List UInt8) (v : Value) (w : World) (h : SlR byteT w v code) (hz : code.length ≤ 1048576) : Calls Tryz.prog 33 #[v] w fun e w' => ∃ (vb : Value) (bs : List UInt8), e = .returned vb ∧ bs.length ≤ 3000 ∧ Sep w.heap.size w' [rdO byteT vb bs] ∧ Ext w w' := by
 have K := CodeK.of h hz
 have X0 := Below.refl w.heap.size w
 refine enter Tryz.func33 rfl Tryz.ntmps33 rfl ?_
 have S := Sep.nil w
 have B := Below.refl w.heap.size w
 have Hb := Nat.le_refl w.heap.size
 refine w_s ?_
 refine w_g ?_
 refine t_a rfl ?_ rfl
 refine t_d ?_
 refine x_s ?_
 refine w_s ?_
 refine w_g ?_
 refine t_m rfl ?_ rfl
 refine t_c Tryz.call84 rfl (spec_l26One _ _ _ (by first | assumption | exact SlR.below ‹_› B) (by omega)) ?_ rfl rfl
 rintro e w368 ⟨g8, va8, vl8, v3_8, v9_8, A8, L8, pk8, rfl, hf8, S9, x369⟩
 refine ⟨_, rfl, x369, ?_⟩
 have S := S.join2 x369 S9
 clear S9
 have B := bx Hb B x369
 refine t_m rfl ?_ rfl
 iterate 3 refine t_extract rfl rfl ?_ rfl
 refine t_w S z_topo rfl ?_ rfl rfl
 intro g4 w370 x371 S
 have B := bx Hb B x371
 refine t_w S z_pkt rfl ?_ rfl rfl
 intro g5 w372 x373 S
 have B := bx Hb B x373
 refine t_a rfl ?_ rfl
 have S := S.f1
 refine t_stn S sb_topo rfl rfl rfl rfl (by repeat first | exact oc0 | refine oc rfl ?_ | refine oc (SlR.cells S.t4.sl).2 ?_ | refine oc (SlR.cells S.t4.tail.sl).2 ?_) ?_
 intro w374 b375 S
 have B := B.trans b375
 have S := S.f1
 refine t_stn S sb_pkt rfl rfl rfl rfl (by repeat first | exact oc0 | refine oc rfl ?_ | refine oc (SlR.cells S.tail.tail.rd).2 ?_ | refine oc (SlR.cells S.tail.tail.tail.sl).2 ?_) ?_
 intro w376 b377 S
 have B := B.trans b377
 refine t_d ?_
 refine x_s ?_
 refine w_s ?_
 obtain ⟨T, hX⟩ := hf8
 have hsz := hX.sz
 have hrg := hX.rng
 have hln := hX.lenOk
 have hpe := pkt_enc hX
 refine w_g ?_
 refine t_m rfl ?_ rfl
 refine t_b S.box ab_pkt sb_pkt rfl rfl ?_ rfl
 refine t_c Tryz.call40 rfl (spec_EncodePacket pk8 _ _ (pkt_mkv (S.tail.tail.rd) (S.tail.tail.tail.sl)) (by omega) ‹_› ‹_›) ?_ rfl rfl
 rintro e w378 ⟨v14, fpv14, rfl, hOv14, x379⟩
 refine ⟨_, rfl, x379, ?_⟩
 have S := S.add (o := slO _ _ _ _) x379 hOv14
 have B := bx Hb B x379
 have S := S.f7
 refine t_f Tryz.call88 rfl (spec_l1Bent S (K.below B) (by first | omega | (simp only [List.length_append, List.length_singleton]; omega))) ?_ rfl
 rintro e w380 ⟨v15, l15, rfl, hf15, S, x381⟩
 refine ⟨_, rfl, ?_⟩
 have B := B.trans x381
 refine t_a rfl ?_ rfl
 refine t_d ?_
 refine x_s ?_
 refine w_r ?_
 refine x_ret1 rfl rfl ?_
 have S := S.f1.tail.f1.tail.f1.tail.f1.tail.f1.tail.f1.tail.f1.tail.f1.tail
 exact ⟨_, _, rfl, by omega, S, ext_trans X0 B⟩
theorem spec_DrawNewPacket (code : List UInt8) (v : Value) (w : World) (h : SlR byteT w v code) (hz : code.length ≤ 1048576) : Calls Tryz.prog 36 #[v] w fun e w' => ∃ (vp vb : Value) (k r s : Int) (p : Path) (bs : List UInt8), e = .returned (.tuple #[I k, .agg #[vp], I r, I s, vb]) ∧ (PathS p ∧ bs.length ≤ 3 ∧ In64 k ∧ In64 r ∧ In64 s) ∧ Sep w.heap.size w' [rdO partT vp p, slO byteT 5 vb bs] ∧ Ext w w' := by
 have K := CodeK.of h hz
 have X0 := Below.refl w.heap.size w
 refine enter Tryz.func36 rfl Tryz.ntmps36 rfl ?_
 have S := Sep.nil w
 have B := Below.refl w.heap.size w
 have Hb := Nat.le_refl w.heap.size
 refine w_s ?_
 refine w_g ?_
 refine t_a rfl ?_ rfl
 refine t_w S z_path rfl ?_ rfl rfl
 intro g3 w382 x383 S
 have B := bx Hb B x383
 iterate 3 refine t_a rfl ?_ rfl
 refine t_d ?_
 refine x_s ?_
 refine w_s ?_
 refine w_g ?_
 refine t_m rfl ?_ rfl
 refine t_c Tryz.call56 rfl (spec_l22One _ _ _ (by first | assumption | exact SlR.below ‹_› B) (by omega)) ?_ rfl rfl
 rintro e w384 ⟨g12, va12, vl12, vp12, A12, L12, p12, rfl, hf12, S9, x385⟩
 refine ⟨_, rfl, x385, ?_⟩
 have S := S.join2 x385 S9
 clear S9
 have B := bx Hb B x385
 refine t_m rfl ?_ rfl
 iterate 3 refine t_extract rfl rfl ?_ rfl
 refine t_w S z_topo rfl ?_ rfl rfl
 intro g8 w386 x387 S
 have B := bx Hb B x387
 refine t_w S z_path rfl ?_ rfl rfl
 intro g9 w388 x389 S
 have B := bx Hb B x389
 refine t_a rfl ?_ rfl
 have S := S.f1
 refine t_stn S sb_topo rfl rfl rfl rfl (by repeat first | exact oc0 | refine oc rfl ?_ | refine oc (SlR.cells S.tail.tail.tail.sl).2 ?_ | refine oc (SlR.cells S.t4.sl).2 ?_) ?_
 intro w390 b391 S
 have B := B.trans b391
 have S := S.f1
 refine t_stn S sb_path rfl rfl rfl rfl (by repeat first | exact oc0 | refine oc rfl ?_ | refine oc (SlR.cells S.tail.tail.rd).2 ?_) ?_
 intro w392 b393 S
 have B := B.trans b393
 refine t_d ?_
 refine x_s ?_
 refine w_s ?_
 obtain ⟨T, hP⟩ := hf12
 refine w_drawP [0, 4, 6, 8, 9] (.alt (.st .fin 1 (.alt (.st .fin 2 (.alt (.st .fin 3 (.st .fin 5 (.st .fin 7 (.st .fin 10 (.st .fin 11 (.st .fin 12 (.st .fin 13 (.st .fin 14 (.st .fin 15 (.st .fin 16 .done)))))))))) (.st .fin 5 (.alt (.st .fin 3 (.st .fin 7 (.st .fin 10 (.st .fin 11 (.st .fin 12 (.st .fin 13 (.st .fin 14 (.st .fin 15 (.st .fin 16 .done))))))))) (.st .fin 7 (.alt (.st .fin 3 (.st .fin 10 (.st .fin 11 (.st .fin 12 (.st .fin 13 (.st .fin 14 (.st .fin 15 (.st .fin 16 .done)))))))) (.st .fin 10 (.alt (.st .fin 3 (.st .fin 11 (.st .fin 12 (.st .fin 13 (.st .fin 14 (.st .fin 15 (.st .fin 16 .done))))))) (.st .fin 11 (.alt (.st .fin 3 (.st .fin 12 (.st .fin 13 (.st .fin 14 (.st .fin 15 (.st .fin 16 .done)))))) (.st .fin 12 (.st .fin 3 (.st .fin 13 (.st .fin 14 (.st .fin 15 (.st .fin 16 .done)))))))))))))))) (.alt (.st .fin 3 (.alt (.st .fin 2 (.st .fin 5 (.st .fin 7 (.st .fin 10 (.st .fin 11 (.st .fin 12 (.st .fin 13 (.st .fin 14 (.st .fin 15 (.st .fin 16 .done)))))))))) (.st .fin 5 (.alt (.st .fin 2 (.st .fin 7 (.st .fin 10 (.st .fin 11 (.st .fin 12 (.st .fin 13 (.st .fin 14 (.st .fin 15 (.st .fin 16 .done))))))))) (.st .fin 7 (.alt (.st .fin 2 (.st .fin 10 (.st .fin 11 (.st .fin 12 (.st .fin 13 (.st .fin 14 (.st .fin 15 (.st .fin 16 .done)))))))) (.st .fin 10 (.alt (.st .fin 2 (.st .fin 11 (.st .fin 12 (.st .fin 13 (.st .fin 14 (.st .fin 15 (.st .fin 16 .done))))))) (.st .fin 11 (.st .fin 2 (.st .fin 12 (.st .fin 13 (.st .fin 14 (.st .fin 15 (.st .fin 16 .done))))))))))))))) (.st .fin 5 (.alt (.st .fin 2 (.alt (.st .fin 3 (.st .fin 7 (.st .fin 10 (.st .fin 11 (.st .fin 12 (.st .fin 13 (.st .fin 14 (.st .fin 15 (.st .fin 16 .done))))))))) (.st .fin 7 (.alt (.st .fin 3 (.st .fin 10 (.st .fin 11 (.st .fin 12 (.st .fin 13 (.st .fin 14 (.st .fin 15 (.st .fin 16 .done)))))))) (.st .fin 10 (.alt (.st .fin 3 (.st .fin 11 (.st .fin 12 (.st .fin 13 (.st .fin 14 (.st .fin 15 (.st .fin 16 .done))))))) (.st .fin 11 (.alt (.st .fin 3 (.st .fin 12 (.st .fin 13 (.st .fin 14 (.st .fin 15 (.st .fin 16 .done)))))) (.st .fin 12 (.st .fin 3 (.st .fin 13 (.st .fin 14 (.st .fin 15 (.st .fin 16 .done)))))))))))))) (.alt (.st .fin 3 (.alt (.st .fin 2 (.st .fin 7 (.st .fin 10 (.st .fin 11 (.st .fin 12 (.st .fin 13 (.st .fin 14 (.st .fin 15 (.st .fin 16 .done))))))))) (.st .fin 7 (.alt (.st .fin 2 (.st .fin 10 (.st .fin 11 (.st .fin 12 (.st .fin 13 (.st .fin 14 (.st .fin 15 (.st .fin 16 .done)))))))) (.st .fin 10 (.alt (.st .fin 2 (.st .fin 11 (.st .fin 12 (.st .fin 13 (.st .fin 14 (.st .fin 15 (.st .fin 16 .done))))))) (.st .fin 11 (.st .fin 2 (.st .fin 12 (.st .fin 13 (.st .fin 14 (.st .fin 15 (.st .fin 16 .done))))))))))))) (.st .fin 7 (.alt (.st .fin 2 (.alt (.st .fin 3 (.st .fin 10 (.st .fin 11 (.st .fin 12 (.st .fin 13 (.st .fin 14 (.st .fin 15 (.st .fin 16 .done)))))))) (.st .fin 10 (.alt (.st .fin 3 (.st .fin 11 (.st .fin 12 (.st .fin 13 (.st .fin 14 (.st .fin 15 (.st .fin 16 .done))))))) (.st .fin 11 (.alt (.st .fin 3 (.st .fin 12 (.st .fin 13 (.st .fin 14 (.st .fin 15 (.st .fin 16 .done)))))) (.st .fin 12 (.st .fin 3 (.st .fin 13 (.st .fin 14 (.st .fin 15 (.st .fin 16 .done)))))))))))) (.alt (.st .fin 3 (.alt (.st .fin 2 (.st .fin 10 (.st .fin 11 (.st .fin 12 (.st .fin 13 (.st .fin 14 (.st .fin 15 (.st .fin 16 .done)))))))) (.st .fin 10 (.alt (.st .fin 2 (.st .fin 11 (.st .fin 12 (.st .fin 13 (.st .fin 14 (.st .fin 15 (.st .fin 16 .done))))))) (.st .fin 11 (.st .fin 2 (.st .fin 12 (.st .fin 13 (.st .fin 14 (.st .fin 15 (.st .fin 16 .done))))))))))) (.st .fin 10 (.alt (.st .fin 2 (.alt (.st .fin 3 (.st .fin 11 (.st .fin 12 (.st .fin 13 (.st .fin 14 (.st .fin 15 (.st .fin 16 .done))))))) (.st .fin 11 (.alt (.st .fin 3 (.st .fin 12 (.st .fin 13 (.st .fin 14 (.st .fin 15 (.st .fin 16 .done)))))) (.st .fin 12 (.st .fin 3 (.st .fin 13 (.st .fin 14 (.st .fin 15 (.st .fin 16 .done)))))))))) (.alt (.st .fin 3 (.alt (.st .fin 2 (.st .fin 11 (.st .fin 12 (.st .fin 13 (.st .fin 14 (.st .fin 15 (.st .fin 16 .done))))))) (.st .fin 11 (.st .fin 2 (.st .fin 12 (.st .fin 13 (.st .fin 14 (.st .fin 15 (.st .fin 16 .done))))))))) (.st .fin 11 (.alt (.st .fin 2 (.alt (.st .fin 3 (.st .fin 12 (.st .fin 13 (.st .fin 14 (.st .fin 15 (.st .fin 16 .done)))))) (.st .fin 12 (.st .fin 3 (.st .fin 13 (.st .fin 14 (.st .fin 15 (.st .fin 16 .done)))))))) (.st .fin 3 (.st .fin 2 (.st .fin 12 (.st .fin 13 (.st .fin 14 (.st .fin 15 (.st .fin 16 .done))))))))))))))))))))) (.st .fin 3 (.st .fin 1 (.alt (.st .fin 2 (.st .fin 5 (.st .fin 7 (.st .fin 10 (.st .fin 11 (.st .fin 12 (.st .fin 13 (.st .fin 14 (.st .fin 15 (.st .fin 16 .done)))))))))) (.st .fin 5 (.alt (.st .fin 2 (.st .fin 7 (.st .fin 10 (.st .fin 11 (.st .fin 12 (.st .fin 13 (.st .fin 14 (.st .fin 15 (.st .fin 16 .done))))))))) (.st .fin 7 (.alt (.st .fin 2 (.st .fin 10 (.st .fin 11 (.st .fin 12 (.st .fin 13 (.st .fin 14 (.st .fin 15 (.st .fin 16 .done)))))))) (.st .fin 10 (.alt (.st .fin 2 (.st .fin 11 (.st .fin 12 (.st .fin 13 (.st .fin 14 (.st .fin 15 (.st .fin 16 .done))))))) (.st .fin 11 (.st .fin 2 (.st .fin 12 (.st .fin 13 (.st .fin 14 (.st .fin 15 (.st .fin 16 .done))))))))))))))))) mixed (by kernel_rfl) ?_
 intro w394 x395
 have B := bx Hb B x395
 have S := S.below x395
 iterate 5 refine p_move rfl ?_ rfl
 refine p_done ?_
 refine t_alt ?_ ?_
 ·have S := S.f5
  refine t_f Tryz.call57 rfl (spec_l1Below 3 S (K.below B)) ?_ rfl
  rintro e w396 ⟨y17, rfl, hf17, S, x397⟩
  refine ⟨_, rfl, ?_⟩
  have B := B.trans x397
  refine t_alt ?_ (t_alt ?_ ?_)
  ·refine t_add rfl rfl (by omega) ?_ rfl
   refine t_alt ?_ ?_
   ·refine t_b S.tail.box ab_path sb_path rfl rfl ?_ rfl
    refine t_f Tryz.call57 rfl (spec_l1Below 3 S (K.below B)) ?_ rfl
    rintro e w398 ⟨y21, rfl, hf21, S, x399⟩
    refine ⟨_, rfl, ?_⟩
    have B := B.trans x399
    refine t_f Tryz.call57 rfl (spec_l1Below 9 S (K.below B)) ?_ rfl
    rintro e w400 ⟨y23, rfl, hf23, S, x401⟩
    refine ⟨_, rfl, ?_⟩
    have B := B.trans x401
    refine t_f Tryz.call57 rfl (spec_l1Below 4 S (K.below B)) ?_ rfl
    rintro e w402 ⟨y26, rfl, hf26, S, x403⟩
    refine ⟨_, rfl, ?_⟩
    have B := B.trans x403
    refine t_f Tryz.call95 rfl (spec_l1Bytes y26 S (K.below B) (by omega)) ?_ rfl
    rintro e w404 ⟨v27, l27, rfl, hf27, S, x405⟩
    refine ⟨_, rfl, ?_⟩
    have B := B.trans x405
    refine t_a rfl ?_ rfl
    have S := S.f7
    refine t_stn S sb_path rfl rfl rfl rfl (by repeat first | exact oc0 | refine oc rfl ?_ | refine oc (SlR.cells S.t4.tail.rd).2 ?_) ?_
    intro w406 b407 S
    have B := B.trans b407
    iterate 3 refine t_a rfl ?_ rfl
    refine t_d' ?_
    refine x_s ?_
    refine w_r ?_
    refine x_rettcttt rfl rfl rfl S.box ab_path sb_path rfl rfl rfl rfl ?_
    have S := S.tail.f1.tail.f1.tail.f1.tail.f2.tail.f2.tail.f1
    exact ⟨_, _, _, _, _, _, _, rfl, ⟨hP, by omega, in64 (by omega) (by omega), in64 (by omega) (by omega), in64 (by omega) (by omega)⟩, S, ext_trans X0 B⟩
   ·refine t_f Tryz.call57 rfl (spec_l1Below 3 S (K.below B)) ?_ rfl
    rintro e w408 ⟨y21, rfl, hf21, S, x409⟩
    refine ⟨_, rfl, ?_⟩
    have B := B.trans x409
    refine t_alt ?_ ?_
    ·refine t_b S.tail.box ab_path sb_path rfl rfl ?_ rfl
     refine t_f Tryz.call57 rfl (spec_l1Below 9 S (K.below B)) ?_ rfl
     rintro e w410 ⟨y23, rfl, hf23, S, x411⟩
     refine ⟨_, rfl, ?_⟩
     have B := B.trans x411
     refine t_f Tryz.call57 rfl (spec_l1Below 4 S (K.below B)) ?_ rfl
     rintro e w412 ⟨y26, rfl, hf26, S, x413⟩
     refine ⟨_, rfl, ?_⟩
     have B := B.trans x413
     refine t_f Tryz.call95 rfl (spec_l1Bytes y26 S (K.below B) (by omega)) ?_ rfl
     rintro e w414 ⟨v27, l27, rfl, hf27, S, x415⟩
     refine ⟨_, rfl, ?_⟩
     have B := B.trans x415
     refine t_a rfl ?_ rfl
     have S := S.f7
     refine t_stn S sb_path rfl rfl rfl rfl (by repeat first | exact oc0 | refine oc rfl ?_ | refine oc (SlR.cells S.t4.tail.rd).2 ?_) ?_
     intro w416 b417 S
     have B := B.trans b417
     iterate 3 refine t_a rfl ?_ rfl
     refine t_d' ?_
     refine x_s ?_
     refine w_r ?_
     refine x_rettcttt rfl rfl rfl S.box ab_path sb_path rfl rfl rfl rfl ?_
     have S := S.tail.f1.tail.f1.tail.f1.tail.f2.tail.f2.tail.f1
     exact ⟨_, _, _, _, _, _, _, rfl, ⟨hP, by omega, in64 (by omega) (by omega), in64 (by omega) (by omega), in64 (by omega) (by omega)⟩, S, ext_trans X0 B⟩
    ·refine t_f Tryz.call57 rfl (spec_l1Below 9 S (K.below B)) ?_ rfl
     rintro e w418 ⟨y23, rfl, hf23, S, x419⟩
     refine ⟨_, rfl, ?_⟩
     have B := B.trans x419
     refine t_alt ?_ ?_
     ·refine t_b S.tail.box ab_path sb_path rfl rfl ?_ rfl
      refine t_f Tryz.call57 rfl (spec_l1Below 4 S (K.below B)) ?_ rfl
      rintro e w420 ⟨y26, rfl, hf26, S, x421⟩
      refine ⟨_, rfl, ?_⟩
      have B := B.trans x421
      refine t_f Tryz.call95 rfl (spec_l1Bytes y26 S (K.below B) (by omega)) ?_ rfl
      rintro e w422 ⟨v27, l27, rfl, hf27, S, x423⟩
      refine ⟨_, rfl, ?_⟩
      have B := B.trans x423
      refine t_a rfl ?_ rfl
      have S := S.f7
      refine t_stn S sb_path rfl rfl rfl rfl (by repeat first | exact oc0 | refine oc rfl ?_ | refine oc (SlR.cells S.t4.tail.rd).2 ?_) ?_
      intro w424 b425 S
      have B := B.trans b425
      iterate 3 refine t_a rfl ?_ rfl
      refine t_d' ?_
      refine x_s ?_
      refine w_r ?_
      refine x_rettcttt rfl rfl rfl S.box ab_path sb_path rfl rfl rfl rfl ?_
      have S := S.tail.f1.tail.f1.tail.f1.tail.f2.tail.f2.tail.f1
      exact ⟨_, _, _, _, _, _, _, rfl, ⟨hP, by omega, in64 (by omega) (by omega), in64 (by omega) (by omega), in64 (by omega) (by omega)⟩, S, ext_trans X0 B⟩
     ·refine t_f Tryz.call57 rfl (spec_l1Below 4 S (K.below B)) ?_ rfl
      rintro e w426 ⟨y26, rfl, hf26, S, x427⟩
      refine ⟨_, rfl, ?_⟩
      have B := B.trans x427
      refine t_alt ?_ ?_
      ·refine t_b S.tail.box ab_path sb_path rfl rfl ?_ rfl
       refine t_f Tryz.call95 rfl (spec_l1Bytes y26 S (K.below B) (by omega)) ?_ rfl
       rintro e w428 ⟨v27, l27, rfl, hf27, S, x429⟩
       refine ⟨_, rfl, ?_⟩
       have B := B.trans x429
       refine t_a rfl ?_ rfl
       have S := S.f7
       refine t_stn S sb_path rfl rfl rfl rfl (by repeat first | exact oc0 | refine oc rfl ?_ | refine oc (SlR.cells S.t4.tail.rd).2 ?_) ?_
       intro w430 b431 S
       have B := B.trans b431
       iterate 3 refine t_a rfl ?_ rfl
       refine t_d' ?_
       refine x_s ?_
       refine w_r ?_
       refine x_rettcttt rfl rfl rfl S.box ab_path sb_path rfl rfl rfl rfl ?_
       have S := S.tail.f1.tail.f1.tail.f1.tail.f2.tail.f2.tail.f1
       exact ⟨_, _, _, _, _, _, _, rfl, ⟨hP, by omega, in64 (by omega) (by omega), in64 (by omega) (by omega), in64 (by omega) (by omega)⟩, S, ext_trans X0 B⟩
      ·refine t_f Tryz.call95 rfl (spec_l1Bytes y26 S (K.below B) (by omega)) ?_ rfl
       rintro e w432 ⟨v27, l27, rfl, hf27, S, x433⟩
       refine ⟨_, rfl, ?_⟩
       have B := B.trans x433
       refine t_alt ?_ ?_
       ·refine t_b S.tail.tail.box ab_path sb_path rfl rfl ?_ rfl
        refine t_a rfl ?_ rfl
        have S := S.f7
        refine t_stn S sb_path rfl rfl rfl rfl (by repeat first | exact oc0 | refine oc rfl ?_ | refine oc (SlR.cells S.t4.tail.rd).2 ?_) ?_
        intro w434 b435 S
        have B := B.trans b435
        iterate 3 refine t_a rfl ?_ rfl
        refine t_d' ?_
        refine x_s ?_
        refine w_r ?_
        refine x_rettcttt rfl rfl rfl S.box ab_path sb_path rfl rfl rfl rfl ?_
        have S := S.tail.f1.tail.f1.tail.f1.tail.f2.tail.f2.tail.f1
        exact ⟨_, _, _, _, _, _, _, rfl, ⟨hP, by omega, in64 (by omega) (by omega), in64 (by omega) (by omega), in64 (by omega) (by omega)⟩, S, ext_trans X0 B⟩
       ·refine t_a rfl ?_ rfl
        refine t_b S.tail.tail.box ab_path sb_path rfl rfl ?_ rfl
        have S := S.f7
        refine t_stn S sb_path rfl rfl rfl rfl (by repeat first | exact oc0 | refine oc rfl ?_ | refine oc (SlR.cells S.t4.tail.rd).2 ?_) ?_
        intro w436 b437 S
        have B := B.trans b437
        iterate 3 refine t_a rfl ?_ rfl
        refine t_d' ?_
        refine x_s ?_
        refine w_r ?_
        refine x_rettcttt rfl rfl rfl S.box ab_path sb_path rfl rfl rfl rfl ?_
        have S := S.tail.f1.tail.f1.tail.f1.tail.f2.tail.f2.tail.f1
        exact ⟨_, _, _, _, _, _, _, rfl, ⟨hP, by omega, in64 (by omega) (by omega), in64 (by omega) (by omega), in64 (by omega) (by omega)⟩, S, ext_trans X0 B⟩
  ·refine t_b S.tail.box ab_path sb_path rfl rfl ?_ rfl
   refine t_alt ?_ ?_
   ·refine t_add rfl rfl (by omega) ?_ rfl
    refine t_f Tryz.call57 rfl (spec_l1Below 3 S (K.below B)) ?_ rfl
    rintro e w438 ⟨y21, rfl, hf21, S, x439⟩
    refine ⟨_, rfl, ?_⟩
    have B := B.trans x439
    refine t_f Tryz.call57 rfl (spec_l1Below 9 S (K.below B)) ?_ rfl
    rintro e w440 ⟨y23, rfl, hf23, S, x441⟩
    refine ⟨_, rfl, ?_⟩
    have B := B.trans x441
    refine t_f Tryz.call57 rfl (spec_l1Below 4 S (K.below B)) ?_ rfl
    rintro e w442 ⟨y26, rfl, hf26, S, x443⟩
    refine ⟨_, rfl, ?_⟩
    have B := B.trans x443
    refine t_f Tryz.call95 rfl (spec_l1Bytes y26 S (K.below B) (by omega)) ?_ rfl
    rintro e w444 ⟨v27, l27, rfl, hf27, S, x445⟩
    refine ⟨_, rfl, ?_⟩
    have B := B.trans x445
    refine t_a rfl ?_ rfl
    have S := S.f7
    refine t_stn S sb_path rfl rfl rfl rfl (by repeat first | exact oc0 | refine oc rfl ?_ | refine oc (SlR.cells S.t4.tail.rd).2 ?_) ?_
    intro w446 b447 S
    have B := B.trans b447
    iterate 3 refine t_a rfl ?_ rfl
    refine t_d' ?_
    refine x_s ?_
    refine w_r ?_
    refine x_rettcttt rfl rfl rfl S.box ab_path sb_path rfl rfl rfl rfl ?_
    have S := S.tail.f1.tail.f1.tail.f1.tail.f2.tail.f2.tail.f1
    exact ⟨_, _, _, _, _, _, _, rfl, ⟨hP, by omega, in64 (by omega) (by omega), in64 (by omega) (by omega), in64 (by omega) (by omega)⟩, S, ext_trans X0 B⟩
   ·refine t_f Tryz.call57 rfl (spec_l1Below 3 S (K.below B)) ?_ rfl
    rintro e w448 ⟨y21, rfl, hf21, S, x449⟩
    refine ⟨_, rfl, ?_⟩
    have B := B.trans x449
    refine t_alt ?_ ?_
    ·refine t_add rfl rfl (by omega) ?_ rfl
     refine t_f Tryz.call57 rfl (spec_l1Below 9 S (K.below B)) ?_ rfl
     rintro e w450 ⟨y23, rfl, hf23, S, x451⟩
     refine ⟨_, rfl, ?_⟩
     have B := B.trans x451
     refine t_f Tryz.call57 rfl (spec_l1Below 4 S (K.below B)) ?_ rfl
     rintro e w452 ⟨y26, rfl, hf26, S, x453⟩
     refine ⟨_, rfl, ?_⟩
     have B := B.trans x453
     refine t_f Tryz.call95 rfl (spec_l1Bytes y26 S (K.below B) (by omega)) ?_ rfl
     rintro e w454 ⟨v27, l27, rfl, hf27, S, x455⟩
     refine ⟨_, rfl, ?_⟩
     have B := B.trans x455
     refine t_a rfl ?_ rfl
     have S := S.f7
     refine t_stn S sb_path rfl rfl rfl rfl (by repeat first | exact oc0 | refine oc rfl ?_ | refine oc (SlR.cells S.t4.tail.rd).2 ?_) ?_
     intro w456 b457 S
     have B := B.trans b457
     iterate 3 refine t_a rfl ?_ rfl
     refine t_d' ?_
     refine x_s ?_
     refine w_r ?_
     refine x_rettcttt rfl rfl rfl S.box ab_path sb_path rfl rfl rfl rfl ?_
     have S := S.tail.f1.tail.f1.tail.f1.tail.f2.tail.f2.tail.f1
     exact ⟨_, _, _, _, _, _, _, rfl, ⟨hP, by omega, in64 (by omega) (by omega), in64 (by omega) (by omega), in64 (by omega) (by omega)⟩, S, ext_trans X0 B⟩
    ·refine t_f Tryz.call57 rfl (spec_l1Below 9 S (K.below B)) ?_ rfl
     rintro e w458 ⟨y23, rfl, hf23, S, x459⟩
     refine ⟨_, rfl, ?_⟩
     have B := B.trans x459
     refine t_alt ?_ ?_
     ·refine t_add rfl rfl (by omega) ?_ rfl
      refine t_f Tryz.call57 rfl (spec_l1Below 4 S (K.below B)) ?_ rfl
      rintro e w460 ⟨y26, rfl, hf26, S, x461⟩
      refine ⟨_, rfl, ?_⟩
      have B := B.trans x461
      refine t_f Tryz.call95 rfl (spec_l1Bytes y26 S (K.below B) (by omega)) ?_ rfl
      rintro e w462 ⟨v27, l27, rfl, hf27, S, x463⟩
      refine ⟨_, rfl, ?_⟩
      have B := B.trans x463
      refine t_a rfl ?_ rfl
      have S := S.f7
      refine t_stn S sb_path rfl rfl rfl rfl (by repeat first | exact oc0 | refine oc rfl ?_ | refine oc (SlR.cells S.t4.tail.rd).2 ?_) ?_
      intro w464 b465 S
      have B := B.trans b465
      iterate 3 refine t_a rfl ?_ rfl
      refine t_d' ?_
      refine x_s ?_
      refine w_r ?_
      refine x_rettcttt rfl rfl rfl S.box ab_path sb_path rfl rfl rfl rfl ?_
      have S := S.tail.f1.tail.f1.tail.f1.tail.f2.tail.f2.tail.f1
      exact ⟨_, _, _, _, _, _, _, rfl, ⟨hP, by omega, in64 (by omega) (by omega), in64 (by omega) (by omega), in64 (by omega) (by omega)⟩, S, ext_trans X0 B⟩
     ·refine t_f Tryz.call57 rfl (spec_l1Below 4 S (K.below B)) ?_ rfl
      rintro e w466 ⟨y26, rfl, hf26, S, x467⟩
      refine ⟨_, rfl, ?_⟩
      have B := B.trans x467
      refine t_alt ?_ ?_
      ·refine t_add rfl rfl (by omega) ?_ rfl
       refine t_f Tryz.call95 rfl (spec_l1Bytes y26 S (K.below B) (by omega)) ?_ rfl
       rintro e w468 ⟨v27, l27, rfl, hf27, S, x469⟩
       refine ⟨_, rfl, ?_⟩
       have B := B.trans x469
       refine t_a rfl ?_ rfl
       have S := S.f7
       refine t_stn S sb_path rfl rfl rfl rfl (by repeat first | exact oc0 | refine oc rfl ?_ | refine oc (SlR.cells S.t4.tail.rd).2 ?_) ?_
       intro w470 b471 S
       have B := B.trans b471
       iterate 3 refine t_a rfl ?_ rfl
       refine t_d' ?_
       refine x_s ?_
       refine w_r ?_
       refine x_rettcttt rfl rfl rfl S.box ab_path sb_path rfl rfl rfl rfl ?_
       have S := S.tail.f1.tail.f1.tail.f1.tail.f2.tail.f2.tail.f1
       exact ⟨_, _, _, _, _, _, _, rfl, ⟨hP, by omega, in64 (by omega) (by omega), in64 (by omega) (by omega), in64 (by omega) (by omega)⟩, S, ext_trans X0 B⟩
      ·refine t_f Tryz.call95 rfl (spec_l1Bytes y26 S (K.below B) (by omega)) ?_ rfl
       rintro e w472 ⟨v27, l27, rfl, hf27, S, x473⟩
       refine ⟨_, rfl, ?_⟩
       have B := B.trans x473
       refine t_add rfl rfl (by omega) ?_ rfl
       refine t_a rfl ?_ rfl
       have S := S.f7
       refine t_stn S sb_path rfl rfl rfl rfl (by repeat first | exact oc0 | refine oc rfl ?_ | refine oc (SlR.cells S.t4.tail.rd).2 ?_) ?_
       intro w474 b475 S
       have B := B.trans b475
       iterate 3 refine t_a rfl ?_ rfl
       refine t_d' ?_
       refine x_s ?_
       refine w_r ?_
       refine x_rettcttt rfl rfl rfl S.box ab_path sb_path rfl rfl rfl rfl ?_
       have S := S.tail.f1.tail.f1.tail.f1.tail.f2.tail.f2.tail.f1
       exact ⟨_, _, _, _, _, _, _, rfl, ⟨hP, by omega, in64 (by omega) (by omega), in64 (by omega) (by omega), in64 (by omega) (by omega)⟩, S, ext_trans X0 B⟩
  ·refine t_f Tryz.call57 rfl (spec_l1Below 3 S (K.below B)) ?_ rfl
   rintro e w476 ⟨y21, rfl, hf21, S, x477⟩
   refine ⟨_, rfl, ?_⟩
   have B := B.trans x477
   refine t_alt ?_ (t_alt ?_ ?_)
   ·refine t_add rfl rfl (by omega) ?_ rfl
    refine t_alt ?_ ?_
    ·refine t_b S.tail.box ab_path sb_path rfl rfl ?_ rfl
     refine t_f Tryz.call57 rfl (spec_l1Below 9 S (K.below B)) ?_ rfl
     rintro e w478 ⟨y23, rfl, hf23, S, x479⟩
     refine ⟨_, rfl, ?_⟩
     have B := B.trans x479
     refine t_f Tryz.call57 rfl (spec_l1Below 4 S (K.below B)) ?_ rfl
     rintro e w480 ⟨y26, rfl, hf26, S, x481⟩
     refine ⟨_, rfl, ?_⟩
     have B := B.trans x481
     refine t_f Tryz.call95 rfl (spec_l1Bytes y26 S (K.below B) (by omega)) ?_ rfl
     rintro e w482 ⟨v27, l27, rfl, hf27, S, x483⟩
     refine ⟨_, rfl, ?_⟩
     have B := B.trans x483
     refine t_a rfl ?_ rfl
     have S := S.f7
     refine t_stn S sb_path rfl rfl rfl rfl (by repeat first | exact oc0 | refine oc rfl ?_ | refine oc (SlR.cells S.t4.tail.rd).2 ?_) ?_
     intro w484 b485 S
     have B := B.trans b485
     iterate 3 refine t_a rfl ?_ rfl
     refine t_d' ?_
     refine x_s ?_
     refine w_r ?_
     refine x_rettcttt rfl rfl rfl S.box ab_path sb_path rfl rfl rfl rfl ?_
     have S := S.tail.f1.tail.f1.tail.f1.tail.f2.tail.f2.tail.f1
     exact ⟨_, _, _, _, _, _, _, rfl, ⟨hP, by omega, in64 (by omega) (by omega), in64 (by omega) (by omega), in64 (by omega) (by omega)⟩, S, ext_trans X0 B⟩
    ·refine t_f Tryz.call57 rfl (spec_l1Below 9 S (K.below B)) ?_ rfl
     rintro e w486 ⟨y23, rfl, hf23, S, x487⟩
     refine ⟨_, rfl, ?_⟩
     have B := B.trans x487
     refine t_alt ?_ ?_
     ·refine t_b S.tail.box ab_path sb_path rfl rfl ?_ rfl
      refine t_f Tryz.call57 rfl (spec_l1Below 4 S (K.below B)) ?_ rfl
      rintro e w488 ⟨y26, rfl, hf26, S, x489⟩
      refine ⟨_, rfl, ?_⟩
      have B := B.trans x489
      refine t_f Tryz.call95 rfl (spec_l1Bytes y26 S (K.below B) (by omega)) ?_ rfl
      rintro e w490 ⟨v27, l27, rfl, hf27, S, x491⟩
      refine ⟨_, rfl, ?_⟩
      have B := B.trans x491
      refine t_a rfl ?_ rfl
      have S := S.f7
      refine t_stn S sb_path rfl rfl rfl rfl (by repeat first | exact oc0 | refine oc rfl ?_ | refine oc (SlR.cells S.t4.tail.rd).2 ?_) ?_
      intro w492 b493 S
      have B := B.trans b493
      iterate 3 refine t_a rfl ?_ rfl
      refine t_d' ?_
      refine x_s ?_
      refine w_r ?_
      refine x_rettcttt rfl rfl rfl S.box ab_path sb_path rfl rfl rfl rfl ?_
      have S := S.tail.f1.tail.f1.tail.f1.tail.f2.tail.f2.tail.f1
      exact ⟨_, _, _, _, _, _, _, rfl, ⟨hP, by omega, in64 (by omega) (by omega), in64 (by omega) (by omega), in64 (by omega) (by omega)⟩, S, ext_trans X0 B⟩
     ·refine t_f Tryz.call57 rfl (spec_l1Below 4 S (K.below B)) ?_ rfl
      rintro e w494 ⟨y26, rfl, hf26, S, x495⟩
      refine ⟨_, rfl, ?_⟩
      have B := B.trans x495
      refine t_alt ?_ ?_
      ·refine t_b S.tail.box ab_path sb_path rfl rfl ?_ rfl
       refine t_f Tryz.call95 rfl (spec_l1Bytes y26 S (K.below B) (by omega)) ?_ rfl
       rintro e w496 ⟨v27, l27, rfl, hf27, S, x497⟩
       refine ⟨_, rfl, ?_⟩
       have B := B.trans x497
       refine t_a rfl ?_ rfl
       have S := S.f7
       refine t_stn S sb_path rfl rfl rfl rfl (by repeat first | exact oc0 | refine oc rfl ?_ | refine oc (SlR.cells S.t4.tail.rd).2 ?_) ?_
       intro w498 b499 S
       have B := B.trans b499
       iterate 3 refine t_a rfl ?_ rfl
       refine t_d' ?_
       refine x_s ?_
       refine w_r ?_
       refine x_rettcttt rfl rfl rfl S.box ab_path sb_path rfl rfl rfl rfl ?_
       have S := S.tail.f1.tail.f1.tail.f1.tail.f2.tail.f2.tail.f1
       exact ⟨_, _, _, _, _, _, _, rfl, ⟨hP, by omega, in64 (by omega) (by omega), in64 (by omega) (by omega), in64 (by omega) (by omega)⟩, S, ext_trans X0 B⟩
      ·refine t_f Tryz.call95 rfl (spec_l1Bytes y26 S (K.below B) (by omega)) ?_ rfl
       rintro e w500 ⟨v27, l27, rfl, hf27, S, x501⟩
       refine ⟨_, rfl, ?_⟩
       have B := B.trans x501
       refine t_alt ?_ ?_
       ·refine t_b S.tail.tail.box ab_path sb_path rfl rfl ?_ rfl
        refine t_a rfl ?_ rfl
        have S := S.f7
        refine t_stn S sb_path rfl rfl rfl rfl (by repeat first | exact oc0 | refine oc rfl ?_ | refine oc (SlR.cells S.t4.tail.rd).2 ?_) ?_
        intro w502 b503 S
        have B := B.trans b503
        iterate 3 refine t_a rfl ?_ rfl
        refine t_d' ?_
        refine x_s ?_
        refine w_r ?_
        refine x_rettcttt rfl rfl rfl S.box ab_path sb_path rfl rfl rfl rfl ?_
        have S := S.tail.f1.tail.f1.tail.f1.tail.f2.tail.f2.tail.f1
        exact ⟨_, _, _, _, _, _, _, rfl, ⟨hP, by omega, in64 (by omega) (by omega), in64 (by omega) (by omega), in64 (by omega) (by omega)⟩, S, ext_trans X0 B⟩
       ·refine t_a rfl ?_ rfl
        refine t_b S.tail.tail.box ab_path sb_path rfl rfl ?_ rfl
        have S := S.f7
        refine t_stn S sb_path rfl rfl rfl rfl (by repeat first | exact oc0 | refine oc rfl ?_ | refine oc (SlR.cells S.t4.tail.rd).2 ?_) ?_
        intro w504 b505 S
        have B := B.trans b505
        iterate 3 refine t_a rfl ?_ rfl
        refine t_d' ?_
        refine x_s ?_
        refine w_r ?_
        refine x_rettcttt rfl rfl rfl S.box ab_path sb_path rfl rfl rfl rfl ?_
        have S := S.tail.f1.tail.f1.tail.f1.tail.f2.tail.f2.tail.f1
        exact ⟨_, _, _, _, _, _, _, rfl, ⟨hP, by omega, in64 (by omega) (by omega), in64 (by omega) (by omega), in64 (by omega) (by omega)⟩, S, ext_trans X0 B⟩
   ·refine t_b S.tail.box ab_path sb_path rfl rfl ?_ rfl
    refine t_alt ?_ ?_
    ·refine t_add rfl rfl (by omega) ?_ rfl
     refine t_f Tryz.call57 rfl (spec_l1Below 9 S (K.below B)) ?_ rfl
     rintro e w506 ⟨y23, rfl, hf23, S, x507⟩
     refine ⟨_, rfl, ?_⟩
     have B := B.trans x507
     refine t_f Tryz.call57 rfl (spec_l1Below 4 S (K.below B)) ?_ rfl
     rintro e w508 ⟨y26, rfl, hf26, S, x509⟩
     refine ⟨_, rfl, ?_⟩
     have B := B.trans x509
     refine t_f Tryz.call95 rfl (spec_l1Bytes y26 S (K.below B) (by omega)) ?_ rfl
     rintro e w510 ⟨v27, l27, rfl, hf27, S, x511⟩
     refine ⟨_, rfl, ?_⟩
     have B := B.trans x511
     refine t_a rfl ?_ rfl
     have S := S.f7
     refine t_stn S sb_path rfl rfl rfl rfl (by repeat first | exact oc0 | refine oc rfl ?_ | refine oc (SlR.cells S.t4.tail.rd).2 ?_) ?_
     intro w512 b513 S
     have B := B.trans b513
     iterate 3 refine t_a rfl ?_ rfl
     refine t_d' ?_
     refine x_s ?_
     refine w_r ?_
     refine x_rettcttt rfl rfl rfl S.box ab_path sb_path rfl rfl rfl rfl ?_
     have S := S.tail.f1.tail.f1.tail.f1.tail.f2.tail.f2.tail.f1
     exact ⟨_, _, _, _, _, _, _, rfl, ⟨hP, by omega, in64 (by omega) (by omega), in64 (by omega) (by omega), in64 (by omega) (by omega)⟩, S, ext_trans X0 B⟩
    ·refine t_f Tryz.call57 rfl (spec_l1Below 9 S (K.below B)) ?_ rfl
     rintro e w514 ⟨y23, rfl, hf23, S, x515⟩
     refine ⟨_, rfl, ?_⟩
     have B := B.trans x515
     refine t_alt ?_ ?_
     ·refine t_add rfl rfl (by omega) ?_ rfl
      refine t_f Tryz.call57 rfl (spec_l1Below 4 S (K.below B)) ?_ rfl
      rintro e w516 ⟨y26, rfl, hf26, S, x517⟩
      refine ⟨_, rfl, ?_⟩
      have B := B.trans x517
      refine t_f Tryz.call95 rfl (spec_l1Bytes y26 S (K.below B) (by omega)) ?_ rfl
      rintro e w518 ⟨v27, l27, rfl, hf27, S, x519⟩
      refine ⟨_, rfl, ?_⟩
      have B := B.trans x519
      refine t_a rfl ?_ rfl
      have S := S.f7
      refine t_stn S sb_path rfl rfl rfl rfl (by repeat first | exact oc0 | refine oc rfl ?_ | refine oc (SlR.cells S.t4.tail.rd).2 ?_) ?_
      intro w520 b521 S
      have B := B.trans b521
      iterate 3 refine t_a rfl ?_ rfl
      refine t_d' ?_
      refine x_s ?_
      refine w_r ?_
      refine x_rettcttt rfl rfl rfl S.box ab_path sb_path rfl rfl rfl rfl ?_
      have S := S.tail.f1.tail.f1.tail.f1.tail.f2.tail.f2.tail.f1
      exact ⟨_, _, _, _, _, _, _, rfl, ⟨hP, by omega, in64 (by omega) (by omega), in64 (by omega) (by omega), in64 (by omega) (by omega)⟩, S, ext_trans X0 B⟩
     ·refine t_f Tryz.call57 rfl (spec_l1Below 4 S (K.below B)) ?_ rfl
      rintro e w522 ⟨y26, rfl, hf26, S, x523⟩
      refine ⟨_, rfl, ?_⟩
      have B := B.trans x523
      refine t_alt ?_ ?_
      ·refine t_add rfl rfl (by omega) ?_ rfl
       refine t_f Tryz.call95 rfl (spec_l1Bytes y26 S (K.below B) (by omega)) ?_ rfl
       rintro e w524 ⟨v27, l27, rfl, hf27, S, x525⟩
       refine ⟨_, rfl, ?_⟩
       have B := B.trans x525
       refine t_a rfl ?_ rfl
       have S := S.f7
       refine t_stn S sb_path rfl rfl rfl rfl (by repeat first | exact oc0 | refine oc rfl ?_ | refine oc (SlR.cells S.t4.tail.rd).2 ?_) ?_
       intro w526 b527 S
       have B := B.trans b527
       iterate 3 refine t_a rfl ?_ rfl
       refine t_d' ?_
       refine x_s ?_
       refine w_r ?_
       refine x_rettcttt rfl rfl rfl S.box ab_path sb_path rfl rfl rfl rfl ?_
       have S := S.tail.f1.tail.f1.tail.f1.tail.f2.tail.f2.tail.f1
       exact ⟨_, _, _, _, _, _, _, rfl, ⟨hP, by omega, in64 (by omega) (by omega), in64 (by omega) (by omega), in64 (by omega) (by omega)⟩, S, ext_trans X0 B⟩
      ·refine t_f Tryz.call95 rfl (spec_l1Bytes y26 S (K.below B) (by omega)) ?_ rfl
       rintro e w528 ⟨v27, l27, rfl, hf27, S, x529⟩
       refine ⟨_, rfl, ?_⟩
       have B := B.trans x529
       refine t_add rfl rfl (by omega) ?_ rfl
       refine t_a rfl ?_ rfl
       have S := S.f7
       refine t_stn S sb_path rfl rfl rfl rfl (by repeat first | exact oc0 | refine oc rfl ?_ | refine oc (SlR.cells S.t4.tail.rd).2 ?_) ?_
       intro w530 b531 S
       have B := B.trans b531
       iterate 3 refine t_a rfl ?_ rfl
       refine t_d' ?_
       refine x_s ?_
       refine w_r ?_
       refine x_rettcttt rfl rfl rfl S.box ab_path sb_path rfl rfl rfl rfl ?_
       have S := S.tail.f1.tail.f1.tail.f1.tail.f2.tail.f2.tail.f1
       exact ⟨_, _, _, _, _, _, _, rfl, ⟨hP, by omega, in64 (by omega) (by omega), in64 (by omega) (by omega), in64 (by omega) (by omega)⟩, S, ext_trans X0 B⟩
   ·refine t_f Tryz.call57 rfl (spec_l1Below 9 S (K.below B)) ?_ rfl
    rintro e w532 ⟨y23, rfl, hf23, S, x533⟩
    refine ⟨_, rfl, ?_⟩
    have B := B.trans x533
    refine t_alt ?_ (t_alt ?_ ?_)
    ·refine t_add rfl rfl (by omega) ?_ rfl
     refine t_alt ?_ ?_
     ·refine t_b S.tail.box ab_path sb_path rfl rfl ?_ rfl
      refine t_f Tryz.call57 rfl (spec_l1Below 4 S (K.below B)) ?_ rfl
      rintro e w534 ⟨y26, rfl, hf26, S, x535⟩
      refine ⟨_, rfl, ?_⟩
      have B := B.trans x535
      refine t_f Tryz.call95 rfl (spec_l1Bytes y26 S (K.below B) (by omega)) ?_ rfl
      rintro e w536 ⟨v27, l27, rfl, hf27, S, x537⟩
      refine ⟨_, rfl, ?_⟩
      have B := B.trans x537
      refine t_a rfl ?_ rfl
      have S := S.f7
      refine t_stn S sb_path rfl rfl rfl rfl (by repeat first | exact oc0 | refine oc rfl ?_ | refine oc (SlR.cells S.t4.tail.rd).2 ?_) ?_
      intro w538 b539 S
      have B := B.trans b539
      iterate 3 refine t_a rfl ?_ rfl
      refine t_d' ?_
      refine x_s ?_
      refine w_r ?_
      refine x_rettcttt rfl rfl rfl S.box ab_path sb_path rfl rfl rfl rfl ?_
      have S := S.tail.f1.tail.f1.tail.f1.tail.f2.tail.f2.tail.f1
      exact ⟨_, _, _, _, _, _, _, rfl, ⟨hP, by omega, in64 (by omega) (by omega), in64 (by omega) (by omega), in64 (by omega) (by omega)⟩, S, ext_trans X0 B⟩
     ·refine t_f Tryz.call57 rfl (spec_l1Below 4 S (K.below B)) ?_ rfl
      rintro e w540 ⟨y26, rfl, hf26, S, x541⟩
      refine ⟨_, rfl, ?_⟩
      have B := B.trans x541
      refine t_alt ?_ ?_
      ·refine t_b S.tail.box ab_path sb_path rfl rfl ?_ rfl
       refine t_f Tryz.call95 rfl (spec_l1Bytes y26 S (K.below B) (by omega)) ?_ rfl
       rintro e w542 ⟨v27, l27, rfl, hf27, S, x543⟩
       refine ⟨_, rfl, ?_⟩
       have B := B.trans x543
       refine t_a rfl ?_ rfl
       have S := S.f7
       refine t_stn S sb_path rfl rfl rfl rfl (by repeat first | exact oc0 | refine oc rfl ?_ | refine oc (SlR.cells S.t4.tail.rd).2 ?_) ?_
       intro w544 b545 S
       have B := B.trans b545
       iterate 3 refine t_a rfl ?_ rfl
       refine t_d' ?_
       refine x_s ?_
       refine w_r ?_
       refine x_rettcttt rfl rfl rfl S.box ab_path sb_path rfl rfl rfl rfl ?_
       have S := S.tail.f1.tail.f1.tail.f1.tail.f2.tail.f2.tail.f1
       exact ⟨_, _, _, _, _, _, _, rfl, ⟨hP, by omega, in64 (by omega) (by omega), in64 (by omega) (by omega), in64 (by omega) (by omega)⟩, S, ext_trans X0 B⟩
      ·refine t_f Tryz.call95 rfl (spec_l1Bytes y26 S (K.below B) (by omega)) ?_ rfl
       rintro e w546 ⟨v27, l27, rfl, hf27, S, x547⟩
       refine ⟨_, rfl, ?_⟩
       have B := B.trans x547
       refine t_alt ?_ ?_
       ·refine t_b S.tail.tail.box ab_path sb_path rfl rfl ?_ rfl
        refine t_a rfl ?_ rfl
        have S := S.f7
        refine t_stn S sb_path rfl rfl rfl rfl (by repeat first | exact oc0 | refine oc rfl ?_ | refine oc (SlR.cells S.t4.tail.rd).2 ?_) ?_
        intro w548 b549 S
        have B := B.trans b549
        iterate 3 refine t_a rfl ?_ rfl
        refine t_d' ?_
        refine x_s ?_
        refine w_r ?_
        refine x_rettcttt rfl rfl rfl S.box ab_path sb_path rfl rfl rfl rfl ?_
        have S := S.tail.f1.tail.f1.tail.f1.tail.f2.tail.f2.tail.f1
        exact ⟨_, _, _, _, _, _, _, rfl, ⟨hP, by omega, in64 (by omega) (by omega), in64 (by omega) (by omega), in64 (by omega) (by omega)⟩, S, ext_trans X0 B⟩
       ·refine t_a rfl ?_ rfl
        refine t_b S.tail.tail.box ab_path sb_path rfl rfl ?_ rfl
        have S := S.f7
        refine t_stn S sb_path rfl rfl rfl rfl (by repeat first | exact oc0 | refine oc rfl ?_ | refine oc (SlR.cells S.t4.tail.rd).2 ?_) ?_
        intro w550 b551 S
        have B := B.trans b551
        iterate 3 refine t_a rfl ?_ rfl
        refine t_d' ?_
        refine x_s ?_
        refine w_r ?_
        refine x_rettcttt rfl rfl rfl S.box ab_path sb_path rfl rfl rfl rfl ?_
        have S := S.tail.f1.tail.f1.tail.f1.tail.f2.tail.f2.tail.f1
        exact ⟨_, _, _, _, _, _, _, rfl, ⟨hP, by omega, in64 (by omega) (by omega), in64 (by omega) (by omega), in64 (by omega) (by omega)⟩, S, ext_trans X0 B⟩
    ·refine t_b S.tail.box ab_path sb_path rfl rfl ?_ rfl
     refine t_alt ?_ ?_
     ·refine t_add rfl rfl (by omega) ?_ rfl
      refine t_f Tryz.call57 rfl (spec_l1Below 4 S (K.below B)) ?_ rfl
      rintro e w552 ⟨y26, rfl, hf26, S, x553⟩
      refine ⟨_, rfl, ?_⟩
      have B := B.trans x553
      refine t_f Tryz.call95 rfl (spec_l1Bytes y26 S (K.below B) (by omega)) ?_ rfl
      rintro e w554 ⟨v27, l27, rfl, hf27, S, x555⟩
      refine ⟨_, rfl, ?_⟩
      have B := B.trans x555
      refine t_a rfl ?_ rfl
      have S := S.f7
      refine t_stn S sb_path rfl rfl rfl rfl (by repeat first | exact oc0 | refine oc rfl ?_ | refine oc (SlR.cells S.t4.tail.rd).2 ?_) ?_
      intro w556 b557 S
      have B := B.trans b557
      iterate 3 refine t_a rfl ?_ rfl
      refine t_d' ?_
      refine x_s ?_
      refine w_r ?_
      refine x_rettcttt rfl rfl rfl S.box ab_path sb_path rfl rfl rfl rfl ?_
      have S := S.tail.f1.tail.f1.tail.f1.tail.f2.tail.f2.tail.f1
      exact ⟨_, _, _, _, _, _, _, rfl, ⟨hP, by omega, in64 (by omega) (by omega), in64 (by omega) (by omega), in64 (by omega) (by omega)⟩, S, ext_trans X0 B⟩
     ·refine t_f Tryz.call57 rfl (spec_l1Below 4 S (K.below B)) ?_ rfl
      rintro e w558 ⟨y26, rfl, hf26, S, x559⟩
      refine ⟨_, rfl, ?_⟩
      have B := B.trans x559
      refine t_alt ?_ ?_
      ·refine t_add rfl rfl (by omega) ?_ rfl
       refine t_f Tryz.call95 rfl (spec_l1Bytes y26 S (K.below B) (by omega)) ?_ rfl
       rintro e w560 ⟨v27, l27, rfl, hf27, S, x561⟩
       refine ⟨_, rfl, ?_⟩
       have B := B.trans x561
       refine t_a rfl ?_ rfl
       have S := S.f7
       refine t_stn S sb_path rfl rfl rfl rfl (by repeat first | exact oc0 | refine oc rfl ?_ | refine oc (SlR.cells S.t4.tail.rd).2 ?_) ?_
       intro w562 b563 S
       have B := B.trans b563
       iterate 3 refine t_a rfl ?_ rfl
       refine t_d' ?_
       refine x_s ?_
       refine w_r ?_
       refine x_rettcttt rfl rfl rfl S.box ab_path sb_path rfl rfl rfl rfl ?_
       have S := S.tail.f1.tail.f1.tail.f1.tail.f2.tail.f2.tail.f1
       exact ⟨_, _, _, _, _, _, _, rfl, ⟨hP, by omega, in64 (by omega) (by omega), in64 (by omega) (by omega), in64 (by omega) (by omega)⟩, S, ext_trans X0 B⟩
      ·refine t_f Tryz.call95 rfl (spec_l1Bytes y26 S (K.below B) (by omega)) ?_ rfl
       rintro e w564 ⟨v27, l27, rfl, hf27, S, x565⟩
       refine ⟨_, rfl, ?_⟩
       have B := B.trans x565
       refine t_add rfl rfl (by omega) ?_ rfl
       refine t_a rfl ?_ rfl
       have S := S.f7
       refine t_stn S sb_path rfl rfl rfl rfl (by repeat first | exact oc0 | refine oc rfl ?_ | refine oc (SlR.cells S.t4.tail.rd).2 ?_) ?_
       intro w566 b567 S
       have B := B.trans b567
       iterate 3 refine t_a rfl ?_ rfl
       refine t_d' ?_
       refine x_s ?_
       refine w_r ?_
       refine x_rettcttt rfl rfl rfl S.box ab_path sb_path rfl rfl rfl rfl ?_
       have S := S.tail.f1.tail.f1.tail.f1.tail.f2.tail.f2.tail.f1
       exact ⟨_, _, _, _, _, _, _, rfl, ⟨hP, by omega, in64 (by omega) (by omega), in64 (by omega) (by omega), in64 (by omega) (by omega)⟩, S, ext_trans X0 B⟩
    ·refine t_f Tryz.call57 rfl (spec_l1Below 4 S (K.below B)) ?_ rfl
     rintro e w568 ⟨y26, rfl, hf26, S, x569⟩
     refine ⟨_, rfl, ?_⟩
     have B := B.trans x569
     refine t_alt ?_ (t_alt ?_ ?_)
     ·refine t_add rfl rfl (by omega) ?_ rfl
      refine t_alt ?_ ?_
      ·refine t_b S.tail.box ab_path sb_path rfl rfl ?_ rfl
       refine t_f Tryz.call95 rfl (spec_l1Bytes y26 S (K.below B) (by omega)) ?_ rfl
       rintro e w570 ⟨v27, l27, rfl, hf27, S, x571⟩
       refine ⟨_, rfl, ?_⟩
       have B := B.trans x571
       refine t_a rfl ?_ rfl
       have S := S.f7
       refine t_stn S sb_path rfl rfl rfl rfl (by repeat first | exact oc0 | refine oc rfl ?_ | refine oc (SlR.cells S.t4.tail.rd).2 ?_) ?_
       intro w572 b573 S
       have B := B.trans b573
       iterate 3 refine t_a rfl ?_ rfl
       refine t_d' ?_
       refine x_s ?_
       refine w_r ?_
       refine x_rettcttt rfl rfl rfl S.box ab_path sb_path rfl rfl rfl rfl ?_
       have S := S.tail.f1.tail.f1.tail.f1.tail.f2.tail.f2.tail.f1
       exact ⟨_, _, _, _, _, _, _, rfl, ⟨hP, by omega, in64 (by omega) (by omega), in64 (by omega) (by omega), in64 (by omega) (by omega)⟩, S, ext_trans X0 B⟩
      ·refine t_f Tryz.call95 rfl (spec_l1Bytes y26 S (K.below B) (by omega)) ?_ rfl
       rintro e w574 ⟨v27, l27, rfl, hf27, S, x575⟩
       refine ⟨_, rfl, ?_⟩
       have B := B.trans x575
       refine t_alt ?_ ?_
       ·refine t_b S.tail.tail.box ab_path sb_path rfl rfl ?_ rfl
        refine t_a rfl ?_ rfl
        have S := S.f7
        refine t_stn S sb_path rfl rfl rfl rfl (by repeat first | exact oc0 | refine oc rfl ?_ | refine oc (SlR.cells S.t4.tail.rd).2 ?_) ?_
        intro w576 b577 S
        have B := B.trans b577
        iterate 3 refine t_a rfl ?_ rfl
        refine t_d' ?_
        refine x_s ?_
        refine w_r ?_
        refine x_rettcttt rfl rfl rfl S.box ab_path sb_path rfl rfl rfl rfl ?_
        have S := S.tail.f1.tail.f1.tail.f1.tail.f2.tail.f2.tail.f1
        exact ⟨_, _, _, _, _, _, _, rfl, ⟨hP, by omega, in64 (by omega) (by omega), in64 (by omega) (by omega), in64 (by omega) (by omega)⟩, S, ext_trans X0 B⟩
       ·refine t_a rfl ?_ rfl
        refine t_b S.tail.tail.box ab_path sb_path rfl rfl ?_ rfl
        have S := S.f7
        refine t_stn S sb_path rfl rfl rfl rfl (by repeat first | exact oc0 | refine oc rfl ?_ | refine oc (SlR.cells S.t4.tail.rd).2 ?_) ?_
        intro w578 b579 S
        have B := B.trans b579
        iterate 3 refine t_a rfl ?_ rfl
        refine t_d' ?_
        refine x_s ?_
        refine w_r ?_
        refine x_rettcttt rfl rfl rfl S.box ab_path sb_path rfl rfl rfl rfl ?_
        have S := S.tail.f1.tail.f1.tail.f1.tail.f2.tail.f2.tail.f1
        exact ⟨_, _, _, _, _, _, _, rfl, ⟨hP, by omega, in64 (by omega) (by omega), in64 (by omega) (by omega), in64 (by omega) (by omega)⟩, S, ext_trans X0 B⟩
     ·refine t_b S.tail.box ab_path sb_path rfl rfl ?_ rfl
      refine t_alt ?_ ?_
      ·refine t_add rfl rfl (by omega) ?_ rfl
       refine t_f Tryz.call95 rfl (spec_l1Bytes y26 S (K.below B) (by omega)) ?_ rfl
       rintro e w580 ⟨v27, l27, rfl, hf27, S, x581⟩
       refine ⟨_, rfl, ?_⟩
       have B := B.trans x581
       refine t_a rfl ?_ rfl
       have S := S.f7
       refine t_stn S sb_path rfl rfl rfl rfl (by repeat first | exact oc0 | refine oc rfl ?_ | refine oc (SlR.cells S.t4.tail.rd).2 ?_) ?_
       intro w582 b583 S
       have B := B.trans b583
       iterate 3 refine t_a rfl ?_ rfl
       refine t_d' ?_
       refine x_s ?_
       refine w_r ?_
       refine x_rettcttt rfl rfl rfl S.box ab_path sb_path rfl rfl rfl rfl ?_
       have S := S.tail.f1.tail.f1.tail.f1.tail.f2.tail.f2.tail.f1
       exact ⟨_, _, _, _, _, _, _, rfl, ⟨hP, by omega, in64 (by omega) (by omega), in64 (by omega) (by omega), in64 (by omega) (by omega)⟩, S, ext_trans X0 B⟩
      ·refine t_f Tryz.call95 rfl (spec_l1Bytes y26 S (K.below B) (by omega)) ?_ rfl
       rintro e w584 ⟨v27, l27, rfl, hf27, S, x585⟩
       refine ⟨_, rfl, ?_⟩
       have B := B.trans x585
       refine t_add rfl rfl (by omega) ?_ rfl
       refine t_a rfl ?_ rfl
       have S := S.f7
       refine t_stn S sb_path rfl rfl rfl rfl (by repeat first | exact oc0 | refine oc rfl ?_ | refine oc (SlR.cells S.t4.tail.rd).2 ?_) ?_
       intro w586 b587 S
       have B := B.trans b587
       iterate 3 refine t_a rfl ?_ rfl
       refine t_d' ?_
       refine x_s ?_
       refine w_r ?_
       refine x_rettcttt rfl rfl rfl S.box ab_path sb_path rfl rfl rfl rfl ?_
       have S := S.tail.f1.tail.f1.tail.f1.tail.f2.tail.f2.tail.f1
       exact ⟨_, _, _, _, _, _, _, rfl, ⟨hP, by omega, in64 (by omega) (by omega), in64 (by omega) (by omega), in64 (by omega) (by omega)⟩, S, ext_trans X0 B⟩
     ·refine t_f Tryz.call95 rfl (spec_l1Bytes y26 S (K.below B) (by omega)) ?_ rfl
      rintro e w588 ⟨v27, l27, rfl, hf27, S, x589⟩
      refine ⟨_, rfl, ?_⟩
      have B := B.trans x589
      refine t_alt ?_ ?_
      ·refine t_add rfl rfl (by omega) ?_ rfl
       refine t_alt ?_ ?_
       ·refine t_b S.tail.tail.box ab_path sb_path rfl rfl ?_ rfl
        refine t_a rfl ?_ rfl
        have S := S.f7
        refine t_stn S sb_path rfl rfl rfl rfl (by repeat first | exact oc0 | refine oc rfl ?_ | refine oc (SlR.cells S.t4.tail.rd).2 ?_) ?_
        intro w590 b591 S
        have B := B.trans b591
        iterate 3 refine t_a rfl ?_ rfl
        refine t_d' ?_
        refine x_s ?_
        refine w_r ?_
        refine x_rettcttt rfl rfl rfl S.box ab_path sb_path rfl rfl rfl rfl ?_
        have S := S.tail.f1.tail.f1.tail.f1.tail.f2.tail.f2.tail.f1
        exact ⟨_, _, _, _, _, _, _, rfl, ⟨hP, by omega, in64 (by omega) (by omega), in64 (by omega) (by omega), in64 (by omega) (by omega)⟩, S, ext_trans X0 B⟩
       ·refine t_a rfl ?_ rfl
        refine t_b S.tail.tail.box ab_path sb_path rfl rfl ?_ rfl
        have S := S.f7
        refine t_stn S sb_path rfl rfl rfl rfl (by repeat first | exact oc0 | refine oc rfl ?_ | refine oc (SlR.cells S.t4.tail.rd).2 ?_) ?_
        intro w592 b593 S
        have B := B.trans b593
        iterate 3 refine t_a rfl ?_ rfl
        refine t_d' ?_
        refine x_s ?_
        refine w_r ?_
        refine x_rettcttt rfl rfl rfl S.box ab_path sb_path rfl rfl rfl rfl ?_
        have S := S.tail.f1.tail.f1.tail.f1.tail.f2.tail.f2.tail.f1
        exact ⟨_, _, _, _, _, _, _, rfl, ⟨hP, by omega, in64 (by omega) (by omega), in64 (by omega) (by omega), in64 (by omega) (by omega)⟩, S, ext_trans X0 B⟩
      ·refine t_b S.tail.tail.box ab_path sb_path rfl rfl ?_ rfl
       refine t_add rfl rfl (by omega) ?_ rfl
       refine t_a rfl ?_ rfl
       have S := S.f7
       refine t_stn S sb_path rfl rfl rfl rfl (by repeat first | exact oc0 | refine oc rfl ?_ | refine oc (SlR.cells S.t4.tail.rd).2 ?_) ?_
       intro w594 b595 S
       have B := B.trans b595
       iterate 3 refine t_a rfl ?_ rfl
       refine t_d' ?_
       refine x_s ?_
       refine w_r ?_
       refine x_rettcttt rfl rfl rfl S.box ab_path sb_path rfl rfl rfl rfl ?_
       have S := S.tail.f1.tail.f1.tail.f1.tail.f2.tail.f2.tail.f1
       exact ⟨_, _, _, _, _, _, _, rfl, ⟨hP, by omega, in64 (by omega) (by omega), in64 (by omega) (by omega), in64 (by omega) (by omega)⟩, S, ext_trans X0 B⟩
 ·refine t_b S.box ab_path sb_path rfl rfl ?_ rfl
  have S := S.f5
  refine t_f Tryz.call57 rfl (spec_l1Below 3 S (K.below B)) ?_ rfl
  rintro e w596 ⟨y17, rfl, hf17, S, x597⟩
  refine ⟨_, rfl, ?_⟩
  have B := B.trans x597
  refine t_alt ?_ ?_
  ·refine t_add rfl rfl (by omega) ?_ rfl
   refine t_f Tryz.call57 rfl (spec_l1Below 3 S (K.below B)) ?_ rfl
   rintro e w598 ⟨y21, rfl, hf21, S, x599⟩
   refine ⟨_, rfl, ?_⟩
   have B := B.trans x599
   refine t_f Tryz.call57 rfl (spec_l1Below 9 S (K.below B)) ?_ rfl
   rintro e w600 ⟨y23, rfl, hf23, S, x601⟩
   refine ⟨_, rfl, ?_⟩
   have B := B.trans x601
   refine t_f Tryz.call57 rfl (spec_l1Below 4 S (K.below B)) ?_ rfl
   rintro e w602 ⟨y26, rfl, hf26, S, x603⟩
   refine ⟨_, rfl, ?_⟩
   have B := B.trans x603
   refine t_f Tryz.call95 rfl (spec_l1Bytes y26 S (K.below B) (by omega)) ?_ rfl
   rintro e w604 ⟨v27, l27, rfl, hf27, S, x605⟩
   refine ⟨_, rfl, ?_⟩
   have B := B.trans x605
   refine t_a rfl ?_ rfl
   have S := S.f7
   refine t_stn S sb_path rfl rfl rfl rfl (by repeat first | exact oc0 | refine oc rfl ?_ | refine oc (SlR.cells S.t4.tail.rd).2 ?_) ?_
   intro w606 b607 S
   have B := B.trans b607
   iterate 3 refine t_a rfl ?_ rfl
   refine t_d' ?_
   refine x_s ?_
   refine w_r ?_
   refine x_rettcttt rfl rfl rfl S.box ab_path sb_path rfl rfl rfl rfl ?_
   have S := S.tail.f1.tail.f1.tail.f1.tail.f2.tail.f2.tail.f1
   exact ⟨_, _, _, _, _, _, _, rfl, ⟨hP, by omega, in64 (by omega) (by omega), in64 (by omega) (by omega), in64 (by omega) (by omega)⟩, S, ext_trans X0 B⟩
  ·refine t_f Tryz.call57 rfl (spec_l1Below 3 S (K.below B)) ?_ rfl
   rintro e w608 ⟨y21, rfl, hf21, S, x609⟩
   refine ⟨_, rfl, ?_⟩
   have B := B.trans x609
   refine t_alt ?_ ?_
   ·refine t_add rfl rfl (by omega) ?_ rfl
    refine t_f Tryz.call57 rfl (spec_l1Below 9 S (K.below B)) ?_ rfl
    rintro e w610 ⟨y23, rfl, hf23, S, x611⟩
    refine ⟨_, rfl, ?_⟩
    have B := B.trans x611
    refine t_f Tryz.call57 rfl (spec_l1Below 4 S (K.below B)) ?_ rfl
    rintro e w612 ⟨y26, rfl, hf26, S, x613⟩
    refine ⟨_, rfl, ?_⟩
    have B := B.trans x613
    refine t_f Tryz.call95 rfl (spec_l1Bytes y26 S (K.below B) (by omega)) ?_ rfl
    rintro e w614 ⟨v27, l27, rfl, hf27, S, x615⟩
    refine ⟨_, rfl, ?_⟩
    have B := B.trans x615
    refine t_a rfl ?_ rfl
    have S := S.f7
    refine t_stn S sb_path rfl rfl rfl rfl (by repeat first | exact oc0 | refine oc rfl ?_ | refine oc (SlR.cells S.t4.tail.rd).2 ?_) ?_
    intro w616 b617 S
    have B := B.trans b617
    iterate 3 refine t_a rfl ?_ rfl
    refine t_d' ?_
    refine x_s ?_
    refine w_r ?_
    refine x_rettcttt rfl rfl rfl S.box ab_path sb_path rfl rfl rfl rfl ?_
    have S := S.tail.f1.tail.f1.tail.f1.tail.f2.tail.f2.tail.f1
    exact ⟨_, _, _, _, _, _, _, rfl, ⟨hP, by omega, in64 (by omega) (by omega), in64 (by omega) (by omega), in64 (by omega) (by omega)⟩, S, ext_trans X0 B⟩
   ·refine t_f Tryz.call57 rfl (spec_l1Below 9 S (K.below B)) ?_ rfl
    rintro e w618 ⟨y23, rfl, hf23, S, x619⟩
    refine ⟨_, rfl, ?_⟩
    have B := B.trans x619
    refine t_alt ?_ ?_
    ·refine t_add rfl rfl (by omega) ?_ rfl
     refine t_f Tryz.call57 rfl (spec_l1Below 4 S (K.below B)) ?_ rfl
     rintro e w620 ⟨y26, rfl, hf26, S, x621⟩
     refine ⟨_, rfl, ?_⟩
     have B := B.trans x621
     refine t_f Tryz.call95 rfl (spec_l1Bytes y26 S (K.below B) (by omega)) ?_ rfl
     rintro e w622 ⟨v27, l27, rfl, hf27, S, x623⟩
     refine ⟨_, rfl, ?_⟩
     have B := B.trans x623
     refine t_a rfl ?_ rfl
     have S := S.f7
     refine t_stn S sb_path rfl rfl rfl rfl (by repeat first | exact oc0 | refine oc rfl ?_ | refine oc (SlR.cells S.t4.tail.rd).2 ?_) ?_
     intro w624 b625 S
     have B := B.trans b625
     iterate 3 refine t_a rfl ?_ rfl
     refine t_d' ?_
     refine x_s ?_
     refine w_r ?_
     refine x_rettcttt rfl rfl rfl S.box ab_path sb_path rfl rfl rfl rfl ?_
     have S := S.tail.f1.tail.f1.tail.f1.tail.f2.tail.f2.tail.f1
     exact ⟨_, _, _, _, _, _, _, rfl, ⟨hP, by omega, in64 (by omega) (by omega), in64 (by omega) (by omega), in64 (by omega) (by omega)⟩, S, ext_trans X0 B⟩
    ·refine t_f Tryz.call57 rfl (spec_l1Below 4 S (K.below B)) ?_ rfl
     rintro e w626 ⟨y26, rfl, hf26, S, x627⟩
     refine ⟨_, rfl, ?_⟩
     have B := B.trans x627
     refine t_alt ?_ ?_
     ·refine t_add rfl rfl (by omega) ?_ rfl
      refine t_f Tryz.call95 rfl (spec_l1Bytes y26 S (K.below B) (by omega)) ?_ rfl
      rintro e w628 ⟨v27, l27, rfl, hf27, S, x629⟩
      refine ⟨_, rfl, ?_⟩
      have B := B.trans x629
      refine t_a rfl ?_ rfl
      have S := S.f7
      refine t_stn S sb_path rfl rfl rfl rfl (by repeat first | exact oc0 | refine oc rfl ?_ | refine oc (SlR.cells S.t4.tail.rd).2 ?_) ?_
      intro w630 b631 S
      have B := B.trans b631
      iterate 3 refine t_a rfl ?_ rfl
      refine t_d' ?_
      refine x_s ?_
      refine w_r ?_
      refine x_rettcttt rfl rfl rfl S.box ab_path sb_path rfl rfl rfl rfl ?_
      have S := S.tail.f1.tail.f1.tail.f1.tail.f2.tail.f2.tail.f1
      exact ⟨_, _, _, _, _, _, _, rfl, ⟨hP, by omega, in64 (by omega) (by omega), in64 (by omega) (by omega), in64 (by omega) (by omega)⟩, S, ext_trans X0 B⟩
     ·refine t_f Tryz.call95 rfl (spec_l1Bytes y26 S (K.below B) (by omega)) ?_ rfl
      rintro e w632 ⟨v27, l27, rfl, hf27, S, x633⟩
      refine ⟨_, rfl, ?_⟩
      have B := B.trans x633
      refine t_add rfl rfl (by omega) ?_ rfl
      refine t_a rfl ?_ rfl
      have S := S.f7
      refine t_stn S sb_path rfl rfl rfl rfl (by repeat first | exact oc0 | refine oc rfl ?_ | refine oc (SlR.cells S.t4.tail.rd).2 ?_) ?_
      intro w634 b635 S
      have B := B.trans b635
      iterate 3 refine t_a rfl ?_ rfl
      refine t_d' ?_
      refine x_s ?_
      refine w_r ?_
      refine x_rettcttt rfl rfl rfl S.box ab_path sb_path rfl rfl rfl rfl ?_
      have S := S.tail.f1.tail.f1.tail.f1.tail.f2.tail.f2.tail.f1
      exact ⟨_, _, _, _, _, _, _, rfl, ⟨hP, by omega, in64 (by omega) (by omega), in64 (by omega) (by omega), in64 (by omega) (by omega)⟩, S, ext_trans X0 B⟩
theorem spec_DrawEqualPackets (code : List UInt8) (v : Value) (w : World) (h : SlR byteT w v code) (hz : code.length ≤ 1048576) : Calls Tryz.prog 37 #[v] w fun e w' => ∃ (u3 u9 v3 v9 : Value) (x y : Pkt), e = .returned (.tuple #[.agg #[I x.kind, I x.src, I x.dst, u3, I x.pidx, I x.hidx, I x.beta, I x.rid, I x.seq, u9], .agg #[I y.kind, I y.src, I y.dst, v3, I y.pidx, I y.hidx, I y.beta, I y.rid, I y.seq, v9]]) ∧ (PktS x ∧ PktS y) ∧ Sep w.heap.size w' [rdO partT u3 x.path, slO byteT 5 u9 x.pay, rdO partT v3 y.path, slO byteT 5 v9 y.pay] ∧ Ext w w' := by
 have K := CodeK.of h hz
 have X0 := Below.refl w.heap.size w
 refine enter Tryz.func37 rfl Tryz.ntmps37 rfl ?_
 have S := Sep.nil w
 have B := Below.refl w.heap.size w
 have Hb := Nat.le_refl w.heap.size
 refine w_s ?_
 refine w_g ?_
 refine t_w S z_pkt rfl ?_ rfl rfl
 intro g2 w636 x637 S
 have B := bx Hb B x637
 refine t_w S z_pkt rfl ?_ rfl rfl
 intro g3 w638 x639 S
 have B := bx Hb B x639
 refine t_d ?_
 refine x_s ?_
 refine w_s ?_
 refine w_g ?_
 refine t_m rfl ?_ rfl
 refine t_c Tryz.call84 rfl (spec_l26One _ _ _ (by first | assumption | exact SlR.below ‹_› B) (by omega)) ?_ rfl rfl
 rintro e w640 ⟨g11, va11, vl11, v3_11, v9_11, A11, L11, pk11, rfl, hf11, S9, x641⟩
 refine ⟨_, rfl, x641, ?_⟩
 have S := S.join2 x641 S9
 clear S9
 have B := bx Hb B x641
 refine t_m rfl ?_ rfl
 iterate 3 refine t_extract rfl rfl ?_ rfl
 refine t_w S z_topo rfl ?_ rfl rfl
 intro g5 w642 x643 S
 have B := bx Hb B x643
 refine t_w S z_pkt rfl ?_ rfl rfl
 intro g6 w644 x645 S
 have B := bx Hb B x645
 refine t_a rfl ?_ rfl
 have S := S.f1
 refine t_stn S sb_topo rfl rfl rfl rfl (by repeat first | exact oc0 | refine oc rfl ?_ | refine oc (SlR.cells S.t4.sl).2 ?_ | refine oc (SlR.cells S.t4.tail.sl).2 ?_) ?_
 intro w646 b647 S
 have B := B.trans b647
 have S := S.f1
 refine t_stn S sb_pkt rfl rfl rfl rfl (by repeat first | exact oc0 | refine oc rfl ?_ | refine oc (SlR.cells S.tail.tail.rd).2 ?_ | refine oc (SlR.cells S.tail.tail.tail.sl).2 ?_) ?_
 intro w648 b649 S
 have B := B.trans b649
 refine t_d ?_
 refine x_s ?_
 refine w_s ?_
 obtain ⟨T, hX⟩ := hf11
 have hsz := hX.sz
 refine w_s ?_
 refine w_g ?_
 refine t_m rfl ?_ rfl
 have S := S.f6
 refine t_f Tryz.call58 rfl (spec_l1Once 2 S (K.below B)) ?_ rfl
 rintro e w650 ⟨y16, rfl, hf16, S, x651⟩
 refine ⟨_, rfl, ?_⟩
 have B := B.trans x651
 refine t_d ?_
 refine x_s ?_
 refine w_if rfl ?_ ?_
 ·intro h0
  refine w_s ?_
  refine w_draw (.st .take 0 (.st .take 1 (.st .run 2 (.st .fin 3 (.st .fin 4 .done))))) mixed (by kernel_rfl) ?_
  intro w652 x653
  have B := bx Hb B x653
  have S := S.below x653
  iterate 2 refine t_b S.tail.box ab_pkt sb_pkt rfl rfl ?_ rfl
  refine t_c Tryz.call96 rfl (spec_l26Copy _ _ _ (pkt_mkv (S.tail.tail.tail.rd) (S.t4.sl)) (by omega)) ?_ rfl rfl
  rintro e w654 ⟨cs19, fp19, rfl, hO19, x655⟩
  refine ⟨_, rfl, x655, ?_⟩
  have S := S.add (o := tyO pktT _ _) x655 hO19
  have B := bx Hb B x655
  obtain ⟨u19_3, u19_9, heq, S2⟩ := S.pktOpen
  subst heq
  have S := S2
  clear S2
  have S := S.f10
  refine t_stn S sb_pkt rfl rfl rfl rfl (by repeat first | exact oc0 | refine oc rfl ?_ | refine oc (SlR.cells S.t4.tail.tail.rd).2 ?_ | refine oc (SlR.cells S.t4.tail.tail.tail.sl).2 ?_) ?_
  intro w656 b657 S
  have B := B.trans b657
  have S := S.f10
  refine t_stn S sb_pkt rfl rfl rfl rfl (by repeat first | exact oc0 | refine oc rfl ?_ | refine oc (SlR.cells S.tail.tail.sl).2 ?_ | refine oc (SlR.cells S.tail.tail.tail.sl).2 ?_) ?_
  intro w658 b659 S
  have B := B.trans b659
  refine t_d' ?_
  refine x_s ?_
  refine w_r ?_
  refine x_t ?_
  refine x_retcc rfl rfl S.tail.box ab_pkt sb_pkt rfl rfl S.box ab_pkt sb_pkt rfl ?_
  have S := S.f2
  have S := S.toRd (fun _ h => h)
  have S := S.f1.tail.f1.tail.f2.tail.f2.tail.f2.tail.f4.tail.f4.tail.f1.f1.f3.f3
  exact ⟨_, _, _, _, _, pk11, rfl, ⟨hX, hX⟩, S, ext_trans X0 B⟩
 ·intro h0
  refine w_k ?_
  refine x_s ?_
  refine w_s ?_
  refine w_g ?_
  refine t_m rfl ?_ rfl
  refine t_f Tryz.call97 rfl (spec_l26Any S (K.below B)) ?_ rfl
  rintro e w660 ⟨va22, vl22, v3_22, v9_22, A22, L22, pk22, rfl, hf22, S, x661⟩
  refine ⟨_, rfl, ?_⟩
  have B := B.trans x661
  refine t_m rfl ?_ rfl
  iterate 2 refine t_extract rfl rfl ?_ rfl
  refine t_w S z_topo rfl ?_ rfl rfl
  intro g7 w662 x663 S
  have B := bx Hb B x663
  refine t_w S z_pkt rfl ?_ rfl rfl
  intro g8 w664 x665 S
  have B := bx Hb B x665
  have S := S.f1
  refine t_stn S sb_topo rfl rfl rfl rfl (by repeat first | exact oc0 | refine oc rfl ?_ | refine oc (SlR.cells S.t4.sl).2 ?_ | refine oc (SlR.cells S.t4.tail.sl).2 ?_) ?_
  intro w666 b667 S
  have B := B.trans b667
  have S := S.f1
  refine t_stn S sb_pkt rfl rfl rfl rfl (by repeat first | exact oc0 | refine oc rfl ?_ | refine oc (SlR.cells S.tail.tail.rd).2 ?_ | refine oc (SlR.cells S.tail.tail.tail.sl).2 ?_) ?_
  intro w668 b669 S
  have B := B.trans b669
  refine t_d ?_
  refine x_s ?_
  refine w_s ?_
  refine w_drawP [] (.alt (.st .fin 0 (.alt (.st .fin 1 (.st .fin 2 (.st .fin 3 .done))) (.st .fin 2 (.st .fin 1 (.st .fin 3 .done))))) (.st .fin 1 (.st .fin 0 (.st .fin 2 (.st .fin 3 .done))))) mixed (by kernel_rfl) ?_
  intro w670 x671
  have B := bx Hb B x671
  have S := S.below x671
  refine t_alt ?_ ?_
  ·refine t_b S.t4.tail.tail.tail.box ab_pkt sb_pkt rfl rfl ?_ rfl
   refine t_alt ?_ ?_
   ·refine t_b S.box ab_pkt sb_pkt rfl rfl ?_ rfl
    have S := S.f14
    refine t_stn S sb_pkt rfl rfl rfl rfl (by repeat first | exact oc0 | refine oc rfl ?_ | refine oc (SlR.cells S.t4.t4.tail.tail.rd).2 ?_ | refine oc (SlR.cells S.t4.t4.tail.tail.tail.sl).2 ?_) ?_
    intro w672 b673 S
    have B := B.trans b673
    have S := S.f14
    refine t_stn S sb_pkt rfl rfl rfl rfl (by repeat first | exact oc0 | refine oc rfl ?_ | refine oc (SlR.cells S.t4.rd).2 ?_ | refine oc (SlR.cells S.t4.tail.sl).2 ?_) ?_
    intro w674 b675 S
    have B := B.trans b675
    refine t_d' ?_
    refine x_s ?_
    refine w_r ?_
    refine x_retcc rfl rfl S.tail.box ab_pkt sb_pkt rfl rfl S.box ab_pkt sb_pkt rfl ?_
    have S := S.tail.tail.tail.tail.f2.tail.f2.tail.f2.tail.f2.tail.f2.tail.f4.tail.f4.tail.f1.f1.f3.f3
    exact ⟨_, _, _, _, _, _, rfl, ⟨hX, hf22.2⟩, S, ext_trans X0 B⟩
   ·have S := S.f14
    refine t_stn S sb_pkt rfl rfl rfl rfl (by repeat first | exact oc0 | refine oc rfl ?_ | refine oc (SlR.cells S.t4.t4.tail.tail.rd).2 ?_ | refine oc (SlR.cells S.t4.t4.tail.tail.tail.sl).2 ?_) ?_
    intro w676 b677 S
    have B := B.trans b677
    refine t_b S.tail.box ab_pkt sb_pkt rfl rfl ?_ rfl
    have S := S.f14
    refine t_stn S sb_pkt rfl rfl rfl rfl (by repeat first | exact oc0 | refine oc rfl ?_ | refine oc (SlR.cells S.t4.rd).2 ?_ | refine oc (SlR.cells S.t4.tail.sl).2 ?_) ?_
    intro w678 b679 S
    have B := B.trans b679
    refine t_d' ?_
    refine x_s ?_
    refine w_r ?_
    refine x_retcc rfl rfl S.tail.box ab_pkt sb_pkt rfl rfl S.box ab_pkt sb_pkt rfl ?_
    have S := S.tail.tail.tail.tail.f2.tail.f2.tail.f2.tail.f2.tail.f2.tail.f4.tail.f4.tail.f1.f1.f3.f3
    exact ⟨_, _, _, _, _, _, rfl, ⟨hX, hf22.2⟩, S, ext_trans X0 B⟩
  ·refine t_b S.box ab_pkt sb_pkt rfl rfl ?_ rfl
   refine t_b S.t4.tail.tail.tail.box ab_pkt sb_pkt rfl rfl ?_ rfl
   have S := S.f14
   refine t_stn S sb_pkt rfl rfl rfl rfl (by repeat first | exact oc0 | refine oc rfl ?_ | refine oc (SlR.cells S.t4.t4.tail.tail.rd).2 ?_ | refine oc (SlR.cells S.t4.t4.tail.tail.tail.sl).2 ?_) ?_
   intro w680 b681 S
   have B := B.trans b681
   have S := S.f14
   refine t_stn S sb_pkt rfl rfl rfl rfl (by repeat first | exact oc0 | refine oc rfl ?_ | refine oc (SlR.cells S.t4.rd).2 ?_ | refine oc (SlR.cells S.t4.tail.sl).2 ?_) ?_
   intro w682 b683 S
   have B := B.trans b683
   refine t_d' ?_
   refine x_s ?_
   refine w_r ?_
   refine x_retcc rfl rfl S.tail.box ab_pkt sb_pkt rfl rfl S.box ab_pkt sb_pkt rfl ?_
   have S := S.tail.tail.tail.tail.f2.tail.f2.tail.f2.tail.f2.tail.f2.tail.f4.tail.f4.tail.f1.f1.f3.f3
   exact ⟨_, _, _, _, _, _, rfl, ⟨hX, hf22.2⟩, S, ext_trans X0 B⟩
theorem spec_DrawFormatPacket (code : List UInt8) (v : Value) (w : World) (h : SlR byteT w v code) (hz : code.length ≤ 1048576) : Calls Tryz.prog 38 #[v] w fun e w' => ∃ (va vl v3 v9 : Value) (A : List ASd) (L : List Lnk) (x : Pkt), e = .returned (.tuple #[.agg #[va, vl], .agg #[I x.kind, I x.src, I x.dst, v3, I x.pidx, I x.hidx, I x.beta, I x.rid, I x.seq, v9]]) ∧ (TopK A L ∧ PktS x) ∧ Sep w.heap.size w' [rdO partT v3 x.path, slO byteT 5 v9 x.pay, slO asnT 135 va A, slO linkT 152 vl L] ∧ Ext w w' := by
 have X0 := Below.refl w.heap.size w
 refine enter Tryz.func38 rfl Tryz.ntmps38 rfl ?_
 have S := Sep.nil w
 have B := Below.refl w.heap.size w
 have Hb := Nat.le_refl w.heap.size
 refine w_s ?_
 refine w_g ?_
 refine t_w S z_topo rfl ?_ rfl rfl
 intro g2 w684 x685 S
 have B := bx Hb B x685
 refine t_w S z_pkt rfl ?_ rfl rfl
 intro g3 w686 x687 S
 have B := bx Hb B x687
 refine t_d ?_
 refine x_s ?_
 refine w_s ?_
 refine w_g ?_
 refine t_m rfl ?_ rfl
 refine t_c Tryz.call84 rfl (spec_l26One _ _ _ (by first | assumption | exact SlR.below ‹_› B) (by omega)) ?_ rfl rfl
 rintro e w688 ⟨g9, va9, vl9, v3_9, v9_9, A9, L9, pk9, rfl, hf9, S9, x689⟩
 refine ⟨_, rfl, x689, ?_⟩
 have S := S.join2 x689 S9
 clear S9
 have B := bx Hb B x689
 refine t_m rfl ?_ rfl
 iterate 3 refine t_extract rfl rfl ?_ rfl
 refine t_w S z_topo rfl ?_ rfl rfl
 intro g5 w690 x691 S
 have B := bx Hb B x691
 refine t_w S z_pkt rfl ?_ rfl rfl
 intro g6 w692 x693 S
 have B := bx Hb B x693
 refine t_a rfl ?_ rfl
 have S := S.f1
 refine t_stn S sb_topo rfl rfl rfl rfl (by repeat first | exact oc0 | refine oc rfl ?_ | refine oc (SlR.cells S.t4.sl).2 ?_ | refine oc (SlR.cells S.t4.tail.sl).2 ?_) ?_
 intro w694 b695 S
 have B := B.trans b695
 have S := S.f1
 refine t_stn S sb_pkt rfl rfl rfl rfl (by repeat first | exact oc0 | refine oc rfl ?_ | refine oc (SlR.cells S.tail.tail.rd).2 ?_ | refine oc (SlR.cells S.tail.tail.tail.sl).2 ?_) ?_
 intro w696 b697 S
 have B := B.trans b697
 refine t_d ?_
 refine x_s ?_
 refine w_s ?_
 refine w_drawP [] (.alt (.st .fin 0 (.alt (.st .fin 1 (.st .fin 2 (.st .fin 3 .done))) (.st .fin 2 (.st .fin 1 (.st .fin 3 .done))))) (.st .fin 1 (.st .fin 0 (.st .fin 2 (.st .fin 3 .done))))) mixed (by kernel_rfl) ?_
 intro w698 x699
 have B := bx Hb B x699
 have S := S.below x699
 refine t_alt ?_ ?_
 ·refine t_b S.tail.box ab_topo sb_topo rfl rfl ?_ rfl
  refine t_alt ?_ ?_
  ·refine t_b S.box ab_pkt sb_pkt rfl rfl ?_ rfl
   have S := S.f8
   refine t_stn S sb_topo rfl rfl rfl rfl (by repeat first | exact oc0 | refine oc rfl ?_ | refine oc (SlR.cells S.t4.tail.sl).2 ?_ | refine oc (SlR.cells S.t4.tail.tail.sl).2 ?_) ?_
   intro w700 b701 S
   have B := B.trans b701
   have S := S.f8
   refine t_stn S sb_pkt rfl rfl rfl rfl (by repeat first | exact oc0 | refine oc rfl ?_ | refine oc (SlR.cells S.t4.rd).2 ?_ | refine oc (SlR.cells S.t4.tail.sl).2 ?_) ?_
   intro w702 b703 S
   have B := B.trans b703
   refine t_d' ?_
   refine x_s ?_
   refine w_r ?_
   refine x_retcc rfl rfl S.tail.box ab_topo sb_topo rfl rfl S.box ab_pkt sb_pkt rfl ?_
   have S := S.tail.tail.tail.tail.f4.tail.f3.f3.f3.f3
   exact ⟨_, _, _, _, _, _, _, rfl, hf9, S, ext_trans X0 B⟩
  ·have S := S.f8
   refine t_stn S sb_topo rfl rfl rfl rfl (by repeat first | exact oc0 | refine oc rfl ?_ | refine oc (SlR.cells S.t4.tail.sl).2 ?_ | refine oc (SlR.cells S.t4.tail.tail.sl).2 ?_) ?_
   intro w704 b705 S
   have B := B.trans b705
   refine t_b S.tail.box ab_pkt sb_pkt rfl rfl ?_ rfl
   have S := S.f8
   refine t_stn S sb_pkt rfl rfl rfl rfl (by repeat first | exact oc0 | refine oc rfl ?_ | refine oc (SlR.cells S.t4.rd).2 ?_ | refine oc (SlR.cells S.t4.tail.sl).2 ?_) ?_
   intro w706 b707 S
   have B := B.trans b707
   refine t_d' ?_
   refine x_s ?_
   refine w_r ?_
   refine x_retcc rfl rfl S.tail.box ab_topo sb_topo rfl rfl S.box ab_pkt sb_pkt rfl ?_
   have S := S.tail.tail.tail.tail.f4.tail.f3.f3.f3.f3
   exact ⟨_, _, _, _, _, _, _, rfl, hf9, S, ext_trans X0 B⟩
 ·refine t_b S.box ab_pkt sb_pkt rfl rfl ?_ rfl
  refine t_b S.tail.box ab_topo sb_topo rfl rfl ?_ rfl
  have S := S.f8
  refine t_stn S sb_topo rfl rfl rfl rfl (by repeat first | exact oc0 | refine oc rfl ?_ | refine oc (SlR.cells S.t4.tail.sl).2 ?_ | refine oc (SlR.cells S.t4.tail.tail.sl).2 ?_) ?_
  intro w708 b709 S
  have B := B.trans b709
  have S := S.f8
  refine t_stn S sb_pkt rfl rfl rfl rfl (by repeat first | exact oc0 | refine oc rfl ?_ | refine oc (SlR.cells S.t4.rd).2 ?_ | refine oc (SlR.cells S.t4.tail.sl).2 ?_) ?_
  intro w710 b711 S
  have B := B.trans b711
  refine t_d' ?_
  refine x_s ?_
  refine w_r ?_
  refine x_retcc rfl rfl S.tail.box ab_topo sb_topo rfl rfl S.box ab_pkt sb_pkt rfl ?_
  have S := S.tail.tail.tail.tail.f4.tail.f3.f3.f3.f3
  exact ⟨_, _, _, _, _, _, _, rfl, hf9, S, ext_trans X0 B⟩
end Go.Proofs.YtdaecknfahgddaaGreat
namespace Go.Proofs.YtdaecknfahgddaaGreat
open Go.RowKit
set_option linter.unusedVariables false
set_option maxRecDepth 20000
theorem eqF_step {P : Program} {d : Nat} {f : Field} {fs : List Field} {xs ys : Array Value} {a b : Int} (hn : f.name ≠ "_") (ht : P.underlying f.type = some (.int .i64)) (ha : ∀ w, (part f.type xs f.offset).run P w = .ok (I a) w) (hb : ∀ w, (part f.type ys f.offset).run P w = .ok (I b) w) (w : World) : (Op.eqFields (d + 1) xs ys (f :: fs)).run P w = if a = b then (Op.eqFields (d + 1) xs ys fs).run P w else .ok false w := by
  simp only [Op.eqFields, if_pos hn, Sem.run_bind, ha, hb, Result.andThen_ok, run_equalIn_int (w := w) _ _ _ _ _ _ ht, Sem.run_ite]
  by_cases h : a = b <;> simp [h]
theorem flds_hop : (Tryz.prog.fieldsOf 86).toList = [(Tryz.prog.fieldsOf 86).getD 0 default, (Tryz.prog.fieldsOf 86).getD 1 default, (Tryz.prog.fieldsOf 86).getD 2 default, (Tryz.prog.fieldsOf 86).getD 3 default, (Tryz.prog.fieldsOf 86).getD 4 default] := by kernel_rfl
theorem run_eq_hop (x y : Hop) (w : World) : (Op.equal 86 (.agg #[I x.ia, I x.ing, I x.eg, I x.exp, I x.mac]) (.agg #[I y.ia, I y.ing, I y.eg, I y.exp, I y.mac])).run Tryz.prog w = .ok (decide (x = y)) w := by
  unfold Op.equal
  obtain ⟨d, hd⟩ : ∃ d, Op.maxDepth = (d + 1) + 1 := ⟨9998, rfl⟩
  rw [hd, run_equalIn_struct w (d + 1) 86 _ _ (by kernel_rfl) (by kernel_rfl), flds_hop]
  rw [eqF_step (a := x.ia) (b := y.ia) (of_decide_eq_true (by kernel_rfl)) (by kernel_rfl) (fun w => by kernel_rfl) (fun w => by kernel_rfl)]
  rw [eqF_step (a := x.ing) (b := y.ing) (of_decide_eq_true (by kernel_rfl)) (by kernel_rfl) (fun w => by kernel_rfl) (fun w => by kernel_rfl)]
  rw [eqF_step (a := x.eg) (b := y.eg) (of_decide_eq_true (by kernel_rfl)) (by kernel_rfl) (fun w => by kernel_rfl) (fun w => by kernel_rfl)]
  rw [eqF_step (a := x.exp) (b := y.exp) (of_decide_eq_true (by kernel_rfl)) (by kernel_rfl) (fun w => by kernel_rfl) (fun w => by kernel_rfl)]
  rw [eqF_step (a := x.mac) (b := y.mac) (of_decide_eq_true (by kernel_rfl)) (by kernel_rfl) (fun w => by kernel_rfl) (fun w => by kernel_rfl)]
  obtain ⟨x0, x1, x2, x3, x4⟩ := x
  obtain ⟨y0, y1, y2, y3, y4⟩ := y
  by_cases h0 : x0 = y0 <;> by_cases h1 : x1 = y1 <;> by_cases h2 : x2 = y2 <;> by_cases h3 : x3 = y3 <;> by_cases h4 : x4 = y4 <;> simp [h0, h1, h2, h3, h4, Op.eqFields]
section
variable {P : Program} {n : Nat} {ops : Array Oper} {Q : Exit → Act → World → Prop} {L : Frm} {w w0 : World} {m : Md} {r : IT} {d : Nat} {ty : TypeId} {pos : String} {af : Array Edge}
theorem t_neqv {x y : Operand} {t t' : TypeId} {a b : Array Value} {p : Prop} {dp : Decidable p} (hg : P.eqGuardType P.depth t = false) (he : ∀ w, (Op.equal t (.agg a) (.agg b)).run P w = .ok (decide p) w) (hx : ev L x = some (.agg a)) (hy : ev L y = some (.agg b)) (k : WT P n ops Q r ((d, .bool (decide (¬ p))) :: L) w) (hn : Nat.blt d n = true) : WT P n ops Q (.st m ⟨some d, .binOp .neq t x y t', ty, pos, af, none⟩ r) L w :=
  t_read (fun e ha _ _ _ w' _ => by
    have h := he w'
    simp [execOp, ha.ev hx, ha.ev hy, eqGuard, binOp, h, hg]) k hn
end
theorem eq_step {α : Type} {a b : List α} {k : Nat} {x y : α} (h : a.take k = b.take k) (ha : a[k]? = some x) (hb : b[k]? = some y) (e : x = y) : a.take (k + 1) = b.take (k + 1) := by
  subst e; rw [take_succ ha, take_succ hb, h]
theorem eq_not {α : Type} {a b : List α} {k : Nat} {x y : α} (ha : a[k]? = some x) (hb : b[k]? = some y) (e : ¬ x = y) : ¬ a = b := by
  rintro rfl; rw [ha] at hb; exact e (Option.some.inj hb)
theorem eq_end {α : Type} {a b : List α} {k : Nat} (h : a.take k = b.take k) (hk : a.length ≤ k) (hl : a.length = b.length) : a = b := by
  rw [List.take_of_length_le hk, List.take_of_length_le (by omega)] at h; exact h
theorem laws_same (a b : List UInt8) (v u : Value) (w : World) (h : SlR byteT w v a) (h2 : SlR byteT w u b) (hz : a.length ≤ 4611686018427387904) (hz2 : b.length ≤ 4611686018427387904) : Calls Tryz.prog 39 #[v, u] w fun e w' => e = .returned (.bool (decide (a = b))) ∧ Below w.heap.size w w' := by
 have X0 := Below.refl w.heap.size w
 refine enter Tryz.func39 rfl Tryz.ntmps39 rfl ?_
 refine w_s ?_
 refine w_g ?_
 have S := Sep.nil w
 have B := Below.refl w.heap.size w
 have Hb := Nat.le_refl w.heap.size
 refine t_a rfl ?_ rfl
 refine t_d ?_
 refine x_s ?_
 iterate 2 refine w_s ?_
 refine w_g ?_
 refine t_m rfl ?_ rfl
 refine t_len e_byte ‹_› rfl rfl ?_ rfl
 refine t_m rfl ?_ rfl
 refine t_len e_byte ‹_› rfl rfl ?_ rfl
 refine t_neq rfl rfl ?_ rfl
 refine t_d ?_
 refine x_s ?_
 refine w_if rfl ?_ ?_
 ·intro hl
  refine w_s ?_
  refine w_g ?_
  refine t_a rfl ?_ rfl
  refine t_d ?_
  refine x_s ?_
  refine w_r ?_
  refine x_t ?_
  refine x_ret1 rfl rfl ?_
  exact ⟨ret_bool (decide_eq_false (fun e => hl (by rw [e]))).symm, ext_trans X0 B⟩
 ·intro hl
  refine w_k ?_
  refine x_s ?_
  iterate 2 refine w_s ?_
  refine w_g ?_
  refine t_a rfl ?_ rfl
  refine t_d ?_
  refine x_s ?_
  refine w_block ?_
  refine w_loop (X := Nat) (fun k wq => k ≤ a.length ∧ a.take k = b.take k ∧ Below w.heap.size w wq ∧ Sep w.heap.size wq []) (fun k => [(5, I ((k : Int))), (0, v), (1, u)]) (fun k => a.length - k) (0) ?_ ⟨rfl, rfl, rfl, trivial⟩ ?_
  ·exact ⟨by omega, rfl, B, S⟩
  rintro k w1 hI
  try dsimp only at hI ⊢
  obtain ⟨hk, hab, B, S⟩ := hI
  iterate 2 refine w_s ?_
  refine w_g ?_
  iterate 2 refine t_m rfl ?_ rfl
  refine t_len e_byte ‹_› rfl rfl ?_ rfl
  refine t_lss rfl rfl ?_ rfl
  refine t_d ?_
  refine x_s ?_
  refine w_if rfl ?_ ?_
  ·intro hlt
   refine w_k ?_
   refine x_s ?_
   refine w_s ?_
   refine w_block ?_
   refine w_s ?_
   refine w_draw (.st .take 0 (.st .take 1 (.st .take 2 (.st .take 3 (.st .take 4 (.st .take 5 (.st .take 6 (.st .take 7 (.st .take 8 .done))))))))) mixed (by kernel_rfl) ?_
   intro w2 x3
   have B := bx Hb B x3
   have S := S.below x3
   iterate 2 refine t_m rfl ?_ rfl
   obtain ⟨e19, he19⟩ : ∃ e, (a)[k]? = some e := getx (by omega)
   refine t_idx e_byte (k := k) ‹_› he19 B rfl rfl (by first | rfl | omega) ?_ rfl
   intro p19 hp19
   refine t_ldu ‹_› ab_byte B rfl ?_ rfl
   iterate 2 refine t_m rfl ?_ rfl
   obtain ⟨e23, he23⟩ : ∃ e, (b)[k]? = some e := getx (by omega)
   refine t_idx e_byte (k := k) ‹_› he23 B rfl rfl (by first | rfl | omega) ?_ rfl
   intro p23 hp23
   refine t_ldu ‹_› ab_byte B rfl ?_ rfl
   refine t_neq rfl rfl ?_ rfl
   refine t_d' ?_
   refine x_s ?_
   refine w_if rfl ?_ ?_
   ·intro hne
    refine w_s ?_
    refine w_g ?_
    refine t_a rfl ?_ rfl
    refine t_d ?_
    refine x_s ?_
    refine w_r ?_
    refine x_block_ret ?_
    iterate 2 refine x_t ?_
    refine x_block_ret ?_
    refine x_t ?_
    refine x_ret1 rfl rfl ?_
    have hne2 : ¬ e19 = e23 := fun e => hne (by rw [e])
    exact ⟨ret_bool (decide_eq_false (eq_not he19 he23 hne2)).symm, ext_trans X0 B⟩
   ·intro hne
    refine w_k ?_
    refine x_b ?_
    refine x_s ?_
    refine w_g ?_
    refine t_m rfl ?_ rfl
    refine t_add rfl rfl (by omega) ?_ rfl
    refine t_a rfl ?_ rfl
    refine t_d ?_
    refine x_r (X := Nat) (k + 1) ?_ (by exact ⟨rfl, rfl, rfl, trivial⟩) (by (try dsimp only); omega)
    try dsimp only
    have heq : e19 = e23 := by first | exact Classical.not_not.1 hne | exact UInt8.toNat_inj.1 (by omega)
    exact ⟨by omega, eq_step hab he19 he23 heq, B, S⟩
  ·intro hge
   refine w_exit ?_
   iterate 2 refine x_then_exit ?_
   refine x_block_exit ?_
   refine x_s ?_
   refine w_s ?_
   refine w_g ?_
   refine t_a rfl ?_ rfl
   refine t_d ?_
   refine x_s ?_
   refine w_r ?_
   refine x_ret1 rfl rfl ?_
   exact ⟨ret_bool (decide_eq_true (eq_end hab (by omega) (by omega))).symm, ext_trans X0 B⟩
theorem laws_sameHops (a b : List Hop) (v u : Value) (w : World) (h : SlR hopT w v a) (h2 : SlR hopT w u b) (hz : a.length ≤ 4611686018427387904) (hz2 : b.length ≤ 4611686018427387904) : Calls Tryz.prog 133 #[v, u] w fun e w' => e = .returned (.bool (decide (a = b))) ∧ Below w.heap.size w w' := by
 have X0 := Below.refl w.heap.size w
 refine enter Tryz.func133 rfl Tryz.ntmps133 rfl ?_
 refine w_s ?_
 refine w_g ?_
 have S := Sep.nil w
 have B := Below.refl w.heap.size w
 have Hb := Nat.le_refl w.heap.size
 refine t_a rfl ?_ rfl
 refine t_d ?_
 refine x_s ?_
 iterate 2 refine w_s ?_
 refine w_g ?_
 refine t_m rfl ?_ rfl
 refine t_len e_hop ‹_› rfl rfl ?_ rfl
 refine t_m rfl ?_ rfl
 refine t_len e_hop ‹_› rfl rfl ?_ rfl
 refine t_neq rfl rfl ?_ rfl
 refine t_d ?_
 refine x_s ?_
 refine w_if rfl ?_ ?_
 ·intro hl
  refine w_s ?_
  refine w_g ?_
  refine t_a rfl ?_ rfl
  refine t_d ?_
  refine x_s ?_
  refine w_r ?_
  refine x_t ?_
  refine x_ret1 rfl rfl ?_
  exact ⟨ret_bool (decide_eq_false (fun e => hl (by rw [e]))).symm, ext_trans X0 B⟩
 ·intro hl
  refine w_k ?_
  refine x_s ?_
  iterate 2 refine w_s ?_
  refine w_g ?_
  refine t_a rfl ?_ rfl
  refine t_d ?_
  refine x_s ?_
  refine w_block ?_
  refine w_loop (X := Nat) (fun k wq => k ≤ a.length ∧ a.take k = b.take k ∧ Below w.heap.size w wq ∧ Sep w.heap.size wq []) (fun k => [(5, I ((k : Int))), (0, v), (1, u)]) (fun k => a.length - k) (0) ?_ ⟨rfl, rfl, rfl, trivial⟩ ?_
  ·exact ⟨by omega, rfl, B, S⟩
  rintro k w7 hI
  try dsimp only at hI ⊢
  obtain ⟨hk, hab, B, S⟩ := hI
  iterate 2 refine w_s ?_
  refine w_g ?_
  iterate 2 refine t_m rfl ?_ rfl
  refine t_len e_hop ‹_› rfl rfl ?_ rfl
  refine t_lss rfl rfl ?_ rfl
  refine t_d ?_
  refine x_s ?_
  refine w_if rfl ?_ ?_
  ·intro hlt
   refine w_k ?_
   refine x_s ?_
   refine w_s ?_
   refine w_block ?_
   refine w_s ?_
   refine w_draw (.st .take 0 (.st .take 1 (.st .take 2 (.st .take 3 (.st .take 4 (.st .take 5 (.st .take 6 (.st .take 7 (.st .take 8 .done))))))))) mixed (by kernel_rfl) ?_
   intro w8 x9
   have B := bx Hb B x9
   have S := S.below x9
   iterate 2 refine t_m rfl ?_ rfl
   obtain ⟨e19, he19⟩ : ∃ e, (a)[k]? = some e := getx (by omega)
   refine t_idx e_hop (k := k) ‹_› he19 B rfl rfl (by first | rfl | omega) ?_ rfl
   intro p19 hp19
   refine t_lda ‹_› ab_hop sb_hop B rfl ?_ rfl
   intro v20 hv20
   obtain rfl := hop_va hv20
   iterate 2 refine t_m rfl ?_ rfl
   obtain ⟨e23, he23⟩ : ∃ e, (b)[k]? = some e := getx (by omega)
   refine t_idx e_hop (k := k) ‹_› he23 B rfl rfl (by first | rfl | omega) ?_ rfl
   intro p23 hp23
   refine t_lda ‹_› ab_hop sb_hop B rfl ?_ rfl
   intro v24 hv24
   obtain rfl := hop_va hv24
   refine t_neqv (by kernel_rfl) (fun w => run_eq_hop e19 e23 w) rfl rfl ?_ rfl
   refine t_d' ?_
   refine x_s ?_
   refine w_if rfl ?_ ?_
   ·intro hne
    refine w_s ?_
    refine w_g ?_
    refine t_a rfl ?_ rfl
    refine t_d ?_
    refine x_s ?_
    refine w_r ?_
    refine x_block_ret ?_
    iterate 2 refine x_t ?_
    refine x_block_ret ?_
    refine x_t ?_
    refine x_ret1 rfl rfl ?_
    have hne2 : ¬ e19 = e23 := fun e => hne (by rw [e])
    exact ⟨ret_bool (decide_eq_false (eq_not he19 he23 hne2)).symm, ext_trans X0 B⟩
   ·intro hne
    refine w_k ?_
    refine x_b ?_
    refine x_s ?_
    refine w_g ?_
    refine t_m rfl ?_ rfl
    refine t_add rfl rfl (by omega) ?_ rfl
    refine t_a rfl ?_ rfl
    refine t_d ?_
    refine x_r (X := Nat) (k + 1) ?_ (by exact ⟨rfl, rfl, rfl, trivial⟩) (by (try dsimp only); omega)
    try dsimp only
    have heq : e19 = e23 := by first | exact Classical.not_not.1 hne | exact UInt8.toNat_inj.1 (by omega)
    exact ⟨by omega, eq_step hab he19 he23 heq, B, S⟩
  ·intro hge
   refine w_exit ?_
   iterate 2 refine x_then_exit ?_
   refine x_block_exit ?_
   refine x_s ?_
   refine w_s ?_
   refine w_g ?_
   refine t_a rfl ?_ rfl
   refine t_d ?_
   refine x_s ?_
   refine w_r ?_
   refine x_ret1 rfl rfl ?_
   exact ⟨ret_bool (decide_eq_true (eq_end hab (by omega) (by omega))).symm, ext_trans X0 B⟩
theorem part_eqh {x y : Part} (h1 : x.kind = y.kind) (h2 : x.ts = y.ts) (h3 : x.beta = y.beta) : x.hops = y.hops ↔ x = y := by
  obtain ⟨a, b, c, d⟩ := x
  obtain ⟨a', b', c', d'⟩ := y
  dsimp only at h1 h2 h3 ⊢
  subst h1 h2 h3
  simp
theorem laws_samePart (x y : Part) (v u : Value) (w : World) (h : VA partT w v x) (h2 : VA partT w u y) (hz : x.hops.length ≤ 4611686018427387904) (hz2 : y.hops.length ≤ 4611686018427387904) : Calls Tryz.prog 74 #[v, u] w fun e w' => e = .returned (.bool (decide (x = y))) ∧ Below w.heap.size w w' := by
 have X0 := Below.refl w.heap.size w
 refine enter Tryz.func74 rfl Tryz.ntmps74 rfl ?_
 refine w_s ?_
 refine w_g ?_
 refine t_boxr ‹_› rfl ?_ rfl rfl
 intro p2 w13 x14 hp2
 replace h := h.below x14
 replace h2 := h2.below x14
 have X0 := ext_trans X0 x14
 refine t_boxr ‹_› rfl ?_ rfl rfl
 intro p3 w15 x16 hp3
 replace h := h.below x16
 replace h2 := h2.below x16
 replace hp2 := hp2.below x16
 have X0 := ext_trans X0 x16
 have S := Sep.nil w15
 have B := Below.refl w15.heap.size w15
 have Hb := Nat.le_refl w15.heap.size
 refine t_a rfl ?_ rfl
 refine t_d ?_
 refine x_s ?_
 refine w_s ?_
 refine w_g ?_
 refine t_fld ln_part_0 ‹_› fb_part_0 rfl ?_ rfl
 intro p5 hp5
 refine t_ldi ‹_› ab_int B rfl ?_ rfl
 refine t_fld ln_part_0 ‹_› fb_part_0 rfl ?_ rfl
 intro p7 hp7
 refine t_ldi ‹_› ab_int B rfl ?_ rfl
 refine t_eql rfl rfl ?_ rfl
 refine t_m rfl ?_ rfl
 refine t_partp (t := 10) rfl ?_ ?_
 ·intro hc1
  refine t_on rfl rfl ?_
  refine t_fld ln_part_1 ‹_› fb_part_1 rfl ?_ rfl
  intro p11 hp11
  refine t_on rfl rfl ?_
  refine t_ldi ‹_› ab_int B rfl ?_ rfl
  refine t_on rfl rfl ?_
  refine t_fld ln_part_1 ‹_› fb_part_1 rfl ?_ rfl
  intro p13 hp13
  refine t_on rfl rfl ?_
  refine t_ldi ‹_› ab_int B rfl ?_ rfl
  refine t_on rfl rfl ?_
  refine t_eql rfl rfl ?_ rfl
  refine t_q rfl rfl ?_ rfl
  refine t_m rfl ?_ rfl
  refine t_partp (t := 17) rfl ?_ ?_
  ·intro hc2
   refine t_on rfl rfl ?_
   refine t_fld ln_part_2 ‹_› fb_part_2 rfl ?_ rfl
   intro p18 hp18
   refine t_on rfl rfl ?_
   refine t_ldi ‹_› ab_int B rfl ?_ rfl
   refine t_on rfl rfl ?_
   refine t_fld ln_part_2 ‹_› fb_part_2 rfl ?_ rfl
   intro p20 hp20
   refine t_on rfl rfl ?_
   refine t_ldi ‹_› ab_int B rfl ?_ rfl
   refine t_on rfl rfl ?_
   refine t_eql rfl rfl ?_ rfl
   refine t_q rfl rfl ?_ rfl
   refine t_m rfl ?_ rfl
   refine t_partp (t := 24) rfl ?_ ?_
   ·intro hc3
    refine t_on rfl rfl ?_
    refine t_fld ln_part_3 ‹_› fb_part_3 rfl ?_ rfl
    intro p25 hp25
    refine t_on rfl rfl ?_
    refine t_lds ‹_› ab_s_hop B rfl ?_ rfl
    intro v26 hv26
    refine t_on rfl rfl ?_
    refine t_fld ln_part_3 ‹_› fb_part_3 rfl ?_ rfl
    intro p27 hp27
    refine t_on rfl rfl ?_
    refine t_lds ‹_› ab_s_hop B rfl ?_ rfl
    intro v28 hv28
    refine t_on rfl rfl ?_
    refine t_x Tryz.call133 rfl (laws_sameHops x.hops y.hops _ _ _ (by first | assumption | exact SlR.below ‹_› B) (by first | assumption | exact SlR.below ‹_› B) (by omega) (by omega)) ?_ rfl rfl
    intro w17 x18
    have B := bx Hb B x18
    have S := S.below x18
    refine t_q rfl rfl ?_ rfl
    refine t_a rfl ?_ rfl
    refine t_d ?_
    refine x_s ?_
    refine w_r ?_
    refine x_ret1 rfl rfl ?_
    first | exact ⟨ret_bool (decide_eq_false fun e => absurd (congrArg Part.kind e) ‹_›).symm, ext_trans X0 B⟩ | exact ⟨ret_bool (decide_eq_false fun e => absurd (congrArg Part.ts e) ‹_›).symm, ext_trans X0 B⟩ | exact ⟨ret_bool (decide_eq_false fun e => absurd (congrArg Part.beta e) ‹_›).symm, ext_trans X0 B⟩ | exact ⟨ret_bool (decide_eq_decide.2 (part_eqh ‹_› ‹_› ‹_›)), ext_trans X0 B⟩
   ·intro hc4
    iterate 5 refine t_off rfl rfl rfl ?_ rfl
    refine t_p rfl rfl ?_ rfl
    refine t_a rfl ?_ rfl
    refine t_d ?_
    refine x_s ?_
    refine w_r ?_
    refine x_ret1 rfl rfl ?_
    first | exact ⟨ret_bool (decide_eq_false fun e => absurd (congrArg Part.kind e) ‹_›).symm, ext_trans X0 B⟩ | exact ⟨ret_bool (decide_eq_false fun e => absurd (congrArg Part.ts e) ‹_›).symm, ext_trans X0 B⟩ | exact ⟨ret_bool (decide_eq_false fun e => absurd (congrArg Part.beta e) ‹_›).symm, ext_trans X0 B⟩ | exact ⟨ret_bool (decide_eq_decide.2 (part_eqh ‹_› ‹_› ‹_›)), ext_trans X0 B⟩
  ·intro hc5
   iterate 5 refine t_off rfl rfl rfl ?_ rfl
   refine t_p rfl rfl ?_ rfl
   refine t_m rfl ?_ rfl
   iterate 5 refine t_off rfl rfl rfl ?_ rfl
   refine t_p rfl rfl ?_ rfl
   refine t_a rfl ?_ rfl
   refine t_d ?_
   refine x_s ?_
   refine w_r ?_
   refine x_ret1 rfl rfl ?_
   first | exact ⟨ret_bool (decide_eq_false fun e => absurd (congrArg Part.kind e) ‹_›).symm, ext_trans X0 B⟩ | exact ⟨ret_bool (decide_eq_false fun e => absurd (congrArg Part.ts e) ‹_›).symm, ext_trans X0 B⟩ | exact ⟨ret_bool (decide_eq_false fun e => absurd (congrArg Part.beta e) ‹_›).symm, ext_trans X0 B⟩ | exact ⟨ret_bool (decide_eq_decide.2 (part_eqh ‹_› ‹_› ‹_›)), ext_trans X0 B⟩
 ·intro hc6
  iterate 5 refine t_off rfl rfl rfl ?_ rfl
  refine t_p rfl rfl ?_ rfl
  refine t_m rfl ?_ rfl
  iterate 5 refine t_off rfl rfl rfl ?_ rfl
  refine t_p rfl rfl ?_ rfl
  refine t_m rfl ?_ rfl
  iterate 5 refine t_off rfl rfl rfl ?_ rfl
  refine t_p rfl rfl ?_ rfl
  refine t_a rfl ?_ rfl
  refine t_d ?_
  refine x_s ?_
  refine w_r ?_
  refine x_ret1 rfl rfl ?_
  first | exact ⟨ret_bool (decide_eq_false fun e => absurd (congrArg Part.kind e) ‹_›).symm, ext_trans X0 B⟩ | exact ⟨ret_bool (decide_eq_false fun e => absurd (congrArg Part.ts e) ‹_›).symm, ext_trans X0 B⟩ | exact ⟨ret_bool (decide_eq_false fun e => absurd (congrArg Part.beta e) ‹_›).symm, ext_trans X0 B⟩ | exact ⟨ret_bool (decide_eq_decide.2 (part_eqh ‹_› ‹_› ‹_›)), ext_trans X0 B⟩
theorem laws_samePath (a b : Path) (v u : Value) (w : World) (h : VA pathT w v a) (h2 : VA pathT w u b) (hz : sz_path a ≤ 1048576) (hz2 : sz_path b ≤ 1048576) : Calls Tryz.prog 21 #[v, u] w fun e w' => e = .returned (.bool (decide (a = b))) ∧ Below w.heap.size w w' := by
 have hl1 : List.length a ≤ sz_path a := Nat.le_add_right _ _
 have hl2 : List.length b ≤ sz_path b := Nat.le_add_right _ _
 have X0 := Below.refl w.heap.size w
 refine enter Tryz.func21 rfl Tryz.ntmps21 rfl ?_
 refine w_s ?_
 refine w_g ?_
 refine t_boxr ‹_› rfl ?_ rfl rfl
 intro p2 w19 x20 hp2
 replace h := h.below x20
 replace h2 := h2.below x20
 have X0 := ext_trans X0 x20
 refine t_boxr ‹_› rfl ?_ rfl rfl
 intro p3 w21 x22 hp3
 replace h := h.below x22
 replace h2 := h2.below x22
 replace hp2 := hp2.below x22
 have X0 := ext_trans X0 x22
 have S := Sep.nil w21
 have B := Below.refl w21.heap.size w21
 have Hb := Nat.le_refl w21.heap.size
 refine t_a rfl ?_ rfl
 refine t_d ?_
 refine x_s ?_
 iterate 2 refine w_s ?_
 refine w_g ?_
 refine t_fld ln_path_0 ‹_› fb_path_0 rfl ?_ rfl
 intro p6 hp6
 refine t_lds ‹_› ab_s_part B rfl ?_ rfl
 intro v7 hv7
 refine t_len e_part ‹_› rfl rfl ?_ rfl
 refine t_fld ln_path_0 ‹_› fb_path_0 rfl ?_ rfl
 intro p9 hp9
 refine t_lds ‹_› ab_s_part B rfl ?_ rfl
 intro v10 hv10
 refine t_len e_part ‹_› rfl rfl ?_ rfl
 refine t_neq rfl rfl ?_ rfl
 refine t_d ?_
 refine x_s ?_
 refine w_if rfl ?_ ?_
 ·intro hl
  refine w_s ?_
  refine w_g ?_
  refine t_a rfl ?_ rfl
  refine t_d ?_
  refine x_s ?_
  refine w_r ?_
  refine x_t ?_
  refine x_ret1 rfl rfl ?_
  exact ⟨ret_bool (decide_eq_false (fun e => hl (by rw [e]))).symm, ext_trans X0 B⟩
 ·intro hl
  refine w_k ?_
  refine x_s ?_
  iterate 2 refine w_s ?_
  refine w_g ?_
  refine t_a rfl ?_ rfl
  refine t_d ?_
  refine x_s ?_
  refine w_block ?_
  refine w_loop (X := Nat) (fun k wq => k ≤ List.length a ∧ List.take k a = List.take k b ∧ Below w21.heap.size w21 wq ∧ Sep w21.heap.size wq []) (fun k => [(5, I ((k : Int))), (2, p2), (3, p3)]) (fun k => List.length a - k) (0) ?_ ⟨rfl, rfl, rfl, trivial⟩ ?_
  ·exact ⟨by omega, rfl, B, S⟩
  rintro k w23 hI
  try dsimp only at hI ⊢
  obtain ⟨hk, hab, B, S⟩ := hI
  iterate 2 refine w_s ?_
  refine w_g ?_
  refine t_m rfl ?_ rfl
  refine t_fld ln_path_0 ‹_› fb_path_0 rfl ?_ rfl
  intro p14 hp14
  refine t_lds ‹_› ab_s_part B rfl ?_ rfl
  intro v15 hv15
  refine t_len e_part ‹_› rfl rfl ?_ rfl
  refine t_lss rfl rfl ?_ rfl
  refine t_d ?_
  refine x_s ?_
  refine w_if rfl ?_ ?_
  ·intro hlt
   obtain ⟨e23, he23⟩ := getx (l := a) (k := k) (by omega)
   obtain ⟨e28, he28⟩ := getx (l := b) (k := k) (by omega)
   have hh1 := hops_le_path (List.mem_of_getElem? he23)
   have hh2 := hops_le_path (List.mem_of_getElem? he28)
   refine w_k ?_
   refine x_s ?_
   refine w_s ?_
   refine w_block ?_
   refine w_s ?_
   refine w_draw (.st .take 0 (.st .take 1 (.st .take 2 (.st .take 3 (.st .take 4 (.st .take 5 (.st .take 6 (.st .take 7 (.st .take 8 (.st .take 9 (.st .run 10 (.st .take 11 .done)))))))))))) mixed (by kernel_rfl) ?_
   intro w24 x25
   have B := bx Hb B x25
   have S := S.below x25
   refine t_fld ln_path_0 ‹_› fb_path_0 rfl ?_ rfl
   intro p20 hp20
   refine t_lds ‹_› ab_s_part B rfl ?_ rfl
   intro v21 hv21
   refine t_m rfl ?_ rfl
   refine t_idx e_part (k := k) ‹_› he23 B rfl rfl (by first | rfl | omega) ?_ rfl
   intro p23 hp23
   refine t_lda ‹_› ab_part sb_part B rfl ?_ rfl
   intro v24 hv24
   obtain ⟨v24_3, rfl, hv24_3⟩ := part_va hv24
   refine t_fld ln_path_0 ‹_› fb_path_0 rfl ?_ rfl
   intro p25 hp25
   refine t_lds ‹_› ab_s_part B rfl ?_ rfl
   intro v26 hv26
   refine t_m rfl ?_ rfl
   refine t_idx e_part (k := k) ‹_› he28 B rfl rfl (by first | rfl | omega) ?_ rfl
   intro p28 hp28
   refine t_lda ‹_› ab_part sb_part B rfl ?_ rfl
   intro v29 hv29
   obtain ⟨v29_3, rfl, hv29_3⟩ := part_va hv29
   refine t_x Tryz.call74 rfl (laws_samePart e23 e28 _ _ _ (by first | assumption | exact VA.below ‹_› B | exact part_mkv (by first | assumption | exact SlR.below ‹_› B)) (by first | assumption | exact VA.below ‹_› B | exact part_mkv (by first | assumption | exact SlR.below ‹_› B)) (by omega) (by omega)) ?_ rfl rfl
   intro w26 x27
   have B := bx Hb B x27
   have S := S.below x27
   refine t_not rfl ?_ rfl
   refine t_d' ?_
   refine x_s ?_
   refine w_if rfl ?_ ?_
   ·intro hne
    refine w_s ?_
    refine w_g ?_
    refine t_a rfl ?_ rfl
    refine t_d ?_
    refine x_s ?_
    refine w_r ?_
    refine x_block_ret ?_
    iterate 2 refine x_t ?_
    refine x_block_ret ?_
    refine x_t ?_
    refine x_ret1 rfl rfl ?_
    exact ⟨ret_bool (decide_eq_false (eq_not he23 he28 (by simpa using hne))).symm, ext_trans X0 B⟩
   ·intro hne
    refine w_k ?_
    refine x_b ?_
    refine x_s ?_
    refine w_g ?_
    refine t_m rfl ?_ rfl
    refine t_add rfl rfl (by omega) ?_ rfl
    refine t_a rfl ?_ rfl
    refine t_d ?_
    refine x_r (X := Nat) (k + 1) ?_ (by exact ⟨rfl, rfl, rfl, trivial⟩) (by (try dsimp only); omega)
    try dsimp only
    exact ⟨by omega, eq_step hab he23 he28 (by simpa using hne), B, S⟩
  ·intro hge
   refine w_exit ?_
   iterate 2 refine x_then_exit ?_
   refine x_block_exit ?_
   refine x_s ?_
   refine w_s ?_
   refine w_g ?_
   refine t_a rfl ?_ rfl
   refine t_d ?_
   refine x_s ?_
   refine w_r ?_
   refine x_ret1 rfl rfl ?_
   exact ⟨ret_bool (decide_eq_true (eq_end hab (by omega) (by omega))).symm, ext_trans X0 B⟩
end Go.Proofs.YtdaecknfahgddaaGreat
namespace Go.Proofs.YtdaecknfahgddaaGreat
open Go.RowKit
set_option linter.unusedVariables false
set_option maxRecDepth 20000
section
variable {P : Program} {n : Nat} {ops : Array Oper} {Q : Exit → Act → World → Prop} {L : Frm} {w : World} {m : Md} {r : IT} {d : Nat} {ty : TypeId} {pos : String} {af : Array Edge}
theorem t_eqls {x y : Operand} {t t' : TypeId} {a b : List UInt8} (hx : ev L x = some (Sv a)) (hy : ev L y = some (Sv b)) (k : WT P n ops Q r ((d, .bool (decide (a = b))) :: L) w) (hn : Nat.blt d n = true) : WT P n ops Q (.st m ⟨some d, .binOp .eql t x y t', ty, pos, af, none⟩ r) L w :=
  t_read (fun e ha _ _ _ w' _ => by
    have h : (Op.stringOp .eql (ByteArray.mk a.toArray) (ByteArray.mk b.toArray)).run P w' = .ok (.bool (decide (a = b))) w' := by
      simp only [Op.stringOp, ByteArray.toList_mk, Sem.run_pure]
      congr 2
      by_cases hab : a = b <;> simp [hab]
    simp [execOp, ha.ev hx, ha.ev hy, eqGuard, binOp, h]) k hn
end
theorem hops_le_p {p : Path} {x : Part} (h : x ∈ p) : x.hops.length ≤ sz_path p := hops_le_path h
theorem impl_eqHops (a b : List Hop) (v u : Value) (w : World) (h : SlR hopT w v a) (h2 : SlR hopT w u b) (hz : a.length ≤ 4611686018427387904) (hz2 : b.length ≤ 4611686018427387904) : Calls Tryz.prog 132 #[v, u] w fun e w' => e = .returned (.bool (decide (a = b))) ∧ Below w.heap.size w w' := by
 have X0 := Below.refl w.heap.size w
 refine enter Tryz.func132 rfl Tryz.ntmps132 rfl ?_
 refine w_s ?_
 refine w_g ?_
 have S := Sep.nil w
 have B := Below.refl w.heap.size w
 have Hb := Nat.le_refl w.heap.size
 refine t_a rfl ?_ rfl
 refine t_d ?_
 refine x_s ?_
 iterate 2 refine w_s ?_
 refine w_g ?_
 refine t_m rfl ?_ rfl
 refine t_len e_hop ‹_› rfl rfl ?_ rfl
 refine t_m rfl ?_ rfl
 refine t_len e_hop ‹_› rfl rfl ?_ rfl
 refine t_neq rfl rfl ?_ rfl
 refine t_d ?_
 refine x_s ?_
 refine w_if rfl ?_ ?_
 ·intro hl
  refine w_s ?_
  refine w_g ?_
  refine t_a rfl ?_ rfl
  refine t_d ?_
  refine x_s ?_
  refine w_r ?_
  refine x_t ?_
  refine x_ret1 rfl rfl ?_
  exact ⟨ret_bool (decide_eq_false (fun e => hl (by rw [e]))).symm, ext_trans X0 B⟩
 ·intro hl
  refine w_k ?_
  refine x_s ?_
  iterate 2 refine w_s ?_
  refine w_g ?_
  refine t_m rfl ?_ rfl
  refine t_len e_hop ‹_› rfl rfl ?_ rfl
  refine t_m rfl ?_ rfl
  refine t_d ?_
  refine x_s ?_
  refine w_block ?_
  refine w_loop (X := Nat) (fun k wq => k ≤ a.length ∧ a.take k = b.take k ∧ Below w.heap.size w wq ∧ Sep w.heap.size wq []) (fun k => [(13, I ((k : Int))), (0, v), (1, u), (12, I ((a.length : Int)))]) (fun k => a.length - k) (0) ?_ ⟨rfl, rfl, rfl, rfl, trivial⟩ ?_
  ·exact ⟨by omega, rfl, B, S⟩
  rintro k w1 hI
  try dsimp only at hI ⊢
  obtain ⟨hk, hab, B, S⟩ := hI
  refine w_s ?_
  refine w_g ?_
  refine t_lss rfl rfl ?_ rfl
  refine t_d ?_
  refine x_s ?_
  refine w_s ?_
  refine w_if rfl ?_ ?_
  ·intro hlt
   refine w_k ?_
   refine x_s ?_
   refine w_s ?_
   refine w_block ?_
   refine w_s ?_
   refine w_g ?_
   refine t_m rfl ?_ rfl
   refine t_a rfl ?_ rfl
   refine t_d ?_
   refine x_s ?_
   refine w_s ?_
   refine w_draw (.st .take 0 (.st .take 1 (.st .take 2 (.st .take 3 (.st .take 4 (.st .take 5 (.st .take 6 (.st .take 7 (.st .take 8 .done))))))))) mixed (by kernel_rfl) ?_
   intro w2 x3
   have B := bx Hb B x3
   have S := S.below x3
   iterate 2 refine t_m rfl ?_ rfl
   obtain ⟨e18, he18⟩ : ∃ e, (a)[k]? = some e := getx (by omega)
   refine t_idx e_hop (k := k) ‹_› he18 B rfl rfl (by first | rfl | omega) ?_ rfl
   intro p18 hp18
   refine t_lda ‹_› ab_hop sb_hop B rfl ?_ rfl
   intro v19 hv19
   obtain rfl := hop_va hv19
   iterate 2 refine t_m rfl ?_ rfl
   obtain ⟨e22, he22⟩ : ∃ e, (b)[k]? = some e := getx (by omega)
   refine t_idx e_hop (k := k) ‹_› he22 B rfl rfl (by first | rfl | omega) ?_ rfl
   intro p22 hp22
   refine t_lda ‹_› ab_hop sb_hop B rfl ?_ rfl
   intro v23 hv23
   obtain rfl := hop_va hv23
   refine t_neqv (by kernel_rfl) (fun w => run_eq_hop e18 e22 w) rfl rfl ?_ rfl
   refine t_d' ?_
   refine x_s ?_
   refine w_if rfl ?_ ?_
   ·intro hne
    refine w_s ?_
    refine w_g ?_
    refine t_a rfl ?_ rfl
    refine t_d ?_
    refine x_s ?_
    refine w_r ?_
    refine x_block_ret ?_
    iterate 2 refine x_t ?_
    refine x_block_ret ?_
    refine x_t ?_
    refine x_ret1 rfl rfl ?_
    exact ⟨ret_bool (decide_eq_false (eq_not he18 he22 hne)).symm, ext_trans X0 B⟩
   ·intro hne
    refine w_k ?_
    refine x_b ?_
    refine x_s ?_
    refine w_g ?_
    refine t_add rfl rfl (by omega) ?_ rfl
    refine t_m rfl ?_ rfl
    refine t_d ?_
    refine x_r (X := Nat) (k + 1) ?_ (by exact ⟨rfl, rfl, rfl, rfl, trivial⟩) (by (try dsimp only); omega)
    try dsimp only
    exact ⟨by omega, eq_step hab he18 he22 (Classical.not_not.1 hne), B, S⟩
  ·intro hge
   refine w_exit ?_
   iterate 2 refine x_then_exit ?_
   refine x_block_exit ?_
   refine x_s ?_
   refine w_s ?_
   refine w_g ?_
   refine t_a rfl ?_ rfl
   refine t_d ?_
   refine x_s ?_
   refine w_r ?_
   refine x_ret1 rfl rfl ?_
   exact ⟨ret_bool (decide_eq_true (eq_end hab (by omega) (by omega))).symm, ext_trans X0 B⟩
theorem impl_eqPart (x y : Part) (v u : Value) (w : World) (h : VA partT w v x) (h2 : VA partT w u y) (hz : x.hops.length ≤ 4611686018427387904) (hz2 : y.hops.length ≤ 4611686018427387904) : Calls Tryz.prog 73 #[v, u] w fun e w' => e = .returned (.bool (decide (x = y))) ∧ Below w.heap.size w w' := by
 have X0 := Below.refl w.heap.size w
 refine enter Tryz.func73 rfl Tryz.ntmps73 rfl ?_
 refine w_s ?_
 refine w_g ?_
 refine t_boxr ‹_› rfl ?_ rfl rfl
 intro p2 w4 x5 hp2
 replace h := h.below x5
 replace h2 := h2.below x5
 have X0 := ext_trans X0 x5
 refine t_boxr ‹_› rfl ?_ rfl rfl
 intro p3 w6 x7 hp3
 replace h := h.below x7
 replace h2 := h2.below x7
 replace hp2 := hp2.below x7
 have X0 := ext_trans X0 x7
 have S := Sep.nil w6
 have B := Below.refl w6.heap.size w6
 have Hb := Nat.le_refl w6.heap.size
 refine t_a rfl ?_ rfl
 refine t_d ?_
 refine x_s ?_
 refine w_s ?_
 refine w_g ?_
 refine t_fld ln_part_0 ‹_› fb_part_0 rfl ?_ rfl
 intro p5 hp5
 refine t_ldi ‹_› ab_int B rfl ?_ rfl
 refine t_fld ln_part_0 ‹_› fb_part_0 rfl ?_ rfl
 intro p7 hp7
 refine t_ldi ‹_› ab_int B rfl ?_ rfl
 refine t_eql rfl rfl ?_ rfl
 refine t_m rfl ?_ rfl
 refine t_partp (t := 10) rfl ?_ ?_
 ·intro hc1
  refine t_on rfl rfl ?_
  refine t_fld ln_part_1 ‹_› fb_part_1 rfl ?_ rfl
  intro p11 hp11
  refine t_on rfl rfl ?_
  refine t_ldi ‹_› ab_int B rfl ?_ rfl
  refine t_on rfl rfl ?_
  refine t_fld ln_part_1 ‹_› fb_part_1 rfl ?_ rfl
  intro p13 hp13
  refine t_on rfl rfl ?_
  refine t_ldi ‹_› ab_int B rfl ?_ rfl
  refine t_on rfl rfl ?_
  refine t_eql rfl rfl ?_ rfl
  refine t_q rfl rfl ?_ rfl
  refine t_m rfl ?_ rfl
  refine t_partp (t := 17) rfl ?_ ?_
  ·intro hc2
   refine t_on rfl rfl ?_
   refine t_fld ln_part_2 ‹_› fb_part_2 rfl ?_ rfl
   intro p18 hp18
   refine t_on rfl rfl ?_
   refine t_ldi ‹_› ab_int B rfl ?_ rfl
   refine t_on rfl rfl ?_
   refine t_fld ln_part_2 ‹_› fb_part_2 rfl ?_ rfl
   intro p20 hp20
   refine t_on rfl rfl ?_
   refine t_ldi ‹_› ab_int B rfl ?_ rfl
   refine t_on rfl rfl ?_
   refine t_eql rfl rfl ?_ rfl
   refine t_q rfl rfl ?_ rfl
   refine t_m rfl ?_ rfl
   refine t_partp (t := 24) rfl ?_ ?_
   ·intro hc3
    refine t_on rfl rfl ?_
    refine t_fld ln_part_3 ‹_› fb_part_3 rfl ?_ rfl
    intro p25 hp25
    refine t_on rfl rfl ?_
    refine t_lds ‹_› ab_s_hop B rfl ?_ rfl
    intro v26 hv26
    refine t_on rfl rfl ?_
    refine t_fld ln_part_3 ‹_› fb_part_3 rfl ?_ rfl
    intro p27 hp27
    refine t_on rfl rfl ?_
    refine t_lds ‹_› ab_s_hop B rfl ?_ rfl
    intro v28 hv28
    refine t_on rfl rfl ?_
    refine t_x Tryz.call132 rfl (impl_eqHops x.hops y.hops _ _ _ (by first | assumption | exact SlR.below ‹_› B) (by first | assumption | exact SlR.below ‹_› B) (by omega) (by omega)) ?_ rfl rfl
    intro w8 x9
    have B := bx Hb B x9
    have S := S.below x9
    refine t_q rfl rfl ?_ rfl
    refine t_a rfl ?_ rfl
    refine t_d ?_
    refine x_s ?_
    refine w_r ?_
    refine x_ret1 rfl rfl ?_
    first | exact ⟨ret_bool (decide_eq_false fun e => absurd (congrArg Part.kind e) ‹_›).symm, ext_trans X0 B⟩ | exact ⟨ret_bool (decide_eq_false fun e => absurd (congrArg Part.ts e) ‹_›).symm, ext_trans X0 B⟩ | exact ⟨ret_bool (decide_eq_false fun e => absurd (congrArg Part.beta e) ‹_›).symm, ext_trans X0 B⟩ | exact ⟨ret_bool (decide_eq_decide.2 (part_eqh ‹_› ‹_› ‹_›)), ext_trans X0 B⟩
   ·intro hc4
    iterate 5 refine t_off rfl rfl rfl ?_ rfl
    refine t_p rfl rfl ?_ rfl
    refine t_a rfl ?_ rfl
    refine t_d ?_
    refine x_s ?_
    refine w_r ?_
    refine x_ret1 rfl rfl ?_
    first | exact ⟨ret_bool (decide_eq_false fun e => absurd (congrArg Part.kind e) ‹_›).symm, ext_trans X0 B⟩ | exact ⟨ret_bool (decide_eq_false fun e => absurd (congrArg Part.ts e) ‹_›).symm, ext_trans X0 B⟩ | exact ⟨ret_bool (decide_eq_false fun e => absurd (congrArg Part.beta e) ‹_›).symm, ext_trans X0 B⟩ | exact ⟨ret_bool (decide_eq_decide.2 (part_eqh ‹_› ‹_› ‹_›)), ext_trans X0 B⟩
  ·intro hc5
   iterate 5 refine t_off rfl rfl rfl ?_ rfl
   refine t_p rfl rfl ?_ rfl
   refine t_m rfl ?_ rfl
   iterate 5 refine t_off rfl rfl rfl ?_ rfl
   refine t_p rfl rfl ?_ rfl
   refine t_a rfl ?_ rfl
   refine t_d ?_
   refine x_s ?_
   refine w_r ?_
   refine x_ret1 rfl rfl ?_
   first | exact ⟨ret_bool (decide_eq_false fun e => absurd (congrArg Part.kind e) ‹_›).symm, ext_trans X0 B⟩ | exact ⟨ret_bool (decide_eq_false fun e => absurd (congrArg Part.ts e) ‹_›).symm, ext_trans X0 B⟩ | exact ⟨ret_bool (decide_eq_false fun e => absurd (congrArg Part.beta e) ‹_›).symm, ext_trans X0 B⟩ | exact ⟨ret_bool (decide_eq_decide.2 (part_eqh ‹_› ‹_› ‹_›)), ext_trans X0 B⟩
 ·intro hc6
  iterate 5 refine t_off rfl rfl rfl ?_ rfl
  refine t_p rfl rfl ?_ rfl
  refine t_m rfl ?_ rfl
  iterate 5 refine t_off rfl rfl rfl ?_ rfl
  refine t_p rfl rfl ?_ rfl
  refine t_m rfl ?_ rfl
  iterate 5 refine t_off rfl rfl rfl ?_ rfl
  refine t_p rfl rfl ?_ rfl
  refine t_a rfl ?_ rfl
  refine t_d ?_
  refine x_s ?_
  refine w_r ?_
  refine x_ret1 rfl rfl ?_
  first | exact ⟨ret_bool (decide_eq_false fun e => absurd (congrArg Part.kind e) ‹_›).symm, ext_trans X0 B⟩ | exact ⟨ret_bool (decide_eq_false fun e => absurd (congrArg Part.ts e) ‹_›).symm, ext_trans X0 B⟩ | exact ⟨ret_bool (decide_eq_false fun e => absurd (congrArg Part.beta e) ‹_›).symm, ext_trans X0 B⟩ | exact ⟨ret_bool (decide_eq_decide.2 (part_eqh ‹_› ‹_› ‹_›)), ext_trans X0 B⟩
theorem impl_eqPath (a b : Path) (v u : Value) (w : World) (h : VA pathT w v a) (h2 : VA pathT w u b) (hz : sz_path a ≤ 1048576) (hz2 : sz_path b ≤ 1048576) : Calls Tryz.prog 20 #[v, u] w fun e w' => e = .returned (.bool (decide (a = b))) ∧ Below w.heap.size w w' := by
 have hl1 : List.length a ≤ sz_path a := Nat.le_add_right _ _
 have hl2 : List.length b ≤ sz_path b := Nat.le_add_right _ _
 have X0 := Below.refl w.heap.size w
 refine enter Tryz.func20 rfl Tryz.ntmps20 rfl ?_
 refine w_s ?_
 refine w_g ?_
 refine t_boxr ‹_› rfl ?_ rfl rfl
 intro p2 w10 x11 hp2
 replace h := h.below x11
 replace h2 := h2.below x11
 have X0 := ext_trans X0 x11
 refine t_boxr ‹_› rfl ?_ rfl rfl
 intro p3 w12 x13 hp3
 replace h := h.below x13
 replace h2 := h2.below x13
 replace hp2 := hp2.below x13
 have X0 := ext_trans X0 x13
 have S := Sep.nil w12
 have B := Below.refl w12.heap.size w12
 have Hb := Nat.le_refl w12.heap.size
 refine t_a rfl ?_ rfl
 refine t_d ?_
 refine x_s ?_
 iterate 2 refine w_s ?_
 refine w_g ?_
 refine t_fld ln_path_0 ‹_› fb_path_0 rfl ?_ rfl
 intro p6 hp6
 refine t_lds ‹_› ab_s_part B rfl ?_ rfl
 intro v7 hv7
 refine t_len e_part ‹_› rfl rfl ?_ rfl
 refine t_fld ln_path_0 ‹_› fb_path_0 rfl ?_ rfl
 intro p9 hp9
 refine t_lds ‹_› ab_s_part B rfl ?_ rfl
 intro v10 hv10
 refine t_len e_part ‹_› rfl rfl ?_ rfl
 refine t_neq rfl rfl ?_ rfl
 refine t_d ?_
 refine x_s ?_
 refine w_if rfl ?_ ?_
 ·intro hl
  refine w_s ?_
  refine w_g ?_
  refine t_a rfl ?_ rfl
  refine t_d ?_
  refine x_s ?_
  refine w_r ?_
  refine x_t ?_
  refine x_ret1 rfl rfl ?_
  exact ⟨ret_bool (decide_eq_false (fun e => hl (by rw [e]))).symm, ext_trans X0 B⟩
 ·intro hl
  refine w_k ?_
  refine x_s ?_
  iterate 2 refine w_s ?_
  refine w_g ?_
  refine t_fld ln_path_0 ‹_› fb_path_0 rfl ?_ rfl
  intro p13 hp13
  refine t_lds ‹_› ab_s_part B rfl ?_ rfl
  intro v14 hv14
  refine t_len e_part ‹_› rfl rfl ?_ rfl
  refine t_m rfl ?_ rfl
  refine t_d ?_
  refine x_s ?_
  refine w_block ?_
  refine w_loop (X := Nat) (fun k wq => k ≤ List.length a ∧ List.take k a = List.take k b ∧ Below w12.heap.size w12 wq ∧ Sep w12.heap.size wq []) (fun k => [(16, I ((k : Int))), (2, p2), (3, p3), (15, I ((a.length : Int)))]) (fun k => List.length a - k) (0) ?_ ⟨rfl, rfl, rfl, rfl, trivial⟩ ?_
  ·exact ⟨by omega, rfl, B, S⟩
  rintro k w14 hI
  try dsimp only at hI ⊢
  obtain ⟨hk, hab, B, S⟩ := hI
  refine w_s ?_
  refine w_g ?_
  refine t_lss rfl rfl ?_ rfl
  refine t_d ?_
  refine x_s ?_
  refine w_s ?_
  refine w_if rfl ?_ ?_
  ·intro hlt
   obtain ⟨ea, hea⟩ := getx (l := a) (k := k) (by omega)
   obtain ⟨eb, heb⟩ := getx (l := b) (k := k) (by omega)
   have hh1 := hops_le_p (List.mem_of_getElem? hea)
   have hh2 := hops_le_p (List.mem_of_getElem? heb)
   refine w_k ?_
   refine x_s ?_
   refine w_s ?_
   refine w_block ?_
   refine w_s ?_
   refine w_g ?_
   refine t_m rfl ?_ rfl
   refine t_a rfl ?_ rfl
   refine t_d ?_
   refine x_s ?_
   refine w_s ?_
   refine w_draw (.st .take 0 (.st .take 1 (.st .take 2 (.st .take 3 (.st .take 4 (.st .take 5 (.st .take 6 (.st .take 7 (.st .take 8 (.st .take 9 (.st .run 10 (.st .take 11 .done)))))))))))) mixed (by kernel_rfl) ?_
   intro w15 x16
   have B := bx Hb B x16
   have S := S.below x16
   refine t_fld ln_path_0 ‹_› fb_path_0 rfl ?_ rfl
   intro p19 hp19
   refine t_lds ‹_› ab_s_part B rfl ?_ rfl
   intro v20 hv20
   refine t_m rfl ?_ rfl
   refine t_idx e_part (k := k) ‹_› hea B rfl rfl (by first | rfl | omega) ?_ rfl
   intro p22 hp22
   refine t_lda ‹_› ab_part sb_part B rfl ?_ rfl
   intro v23 hv23
   obtain ⟨v23_3, rfl, hv23_3⟩ := part_va hv23
   refine t_fld ln_path_0 ‹_› fb_path_0 rfl ?_ rfl
   intro p24 hp24
   refine t_lds ‹_› ab_s_part B rfl ?_ rfl
   intro v25 hv25
   refine t_m rfl ?_ rfl
   refine t_idx e_part (k := k) ‹_› heb B rfl rfl (by first | rfl | omega) ?_ rfl
   intro p27 hp27
   refine t_lda ‹_› ab_part sb_part B rfl ?_ rfl
   intro v28 hv28
   obtain ⟨v28_3, rfl, hv28_3⟩ := part_va hv28
   refine t_x Tryz.call73 rfl (impl_eqPart ea eb _ _ _ (by first | assumption | exact VA.below ‹_› B | exact part_mkv (by first | assumption | exact SlR.below ‹_› B)) (by first | assumption | exact VA.below ‹_› B | exact part_mkv (by first | assumption | exact SlR.below ‹_› B)) (by omega) (by omega)) ?_ rfl rfl
   intro w17 x18
   have B := bx Hb B x18
   have S := S.below x18
   refine t_not rfl ?_ rfl
   refine t_d' ?_
   refine x_s ?_
   refine w_if rfl ?_ ?_
   ·intro hne
    refine w_s ?_
    refine w_g ?_
    refine t_a rfl ?_ rfl
    refine t_d ?_
    refine x_s ?_
    refine w_r ?_
    refine x_block_ret ?_
    iterate 2 refine x_t ?_
    refine x_block_ret ?_
    refine x_t ?_
    refine x_ret1 rfl rfl ?_
    exact ⟨ret_bool (decide_eq_false (eq_not hea heb (by simpa using hne))).symm, ext_trans X0 B⟩
   ·intro hne
    refine w_k ?_
    refine x_b ?_
    refine x_s ?_
    refine w_g ?_
    refine t_add rfl rfl (by omega) ?_ rfl
    refine t_m rfl ?_ rfl
    refine t_d ?_
    refine x_r (X := Nat) (k + 1) ?_ (by exact ⟨rfl, rfl, rfl, rfl, trivial⟩) (by (try dsimp only); omega)
    try dsimp only
    exact ⟨by omega, eq_step hab hea heb (by simpa using hne), B, S⟩
  ·intro hge
   refine w_exit ?_
   iterate 2 refine x_then_exit ?_
   refine x_block_exit ?_
   refine x_s ?_
   refine w_s ?_
   refine w_g ?_
   refine t_a rfl ?_ rfl
   refine t_d ?_
   refine x_s ?_
   refine w_r ?_
   refine x_ret1 rfl rfl ?_
   exact ⟨ret_bool (decide_eq_true (eq_end hab (by omega) (by omega))).symm, ext_trans X0 B⟩
theorem impl_eqBytes (a b : List UInt8) (v u : Value) (w : World) (h : SlR byteT w v a) (h2 : SlR byteT w u b) : Calls Tryz.prog 103 #[v, u] w fun e w' => e = .returned (.bool (decide (a = b))) ∧ Below w.heap.size w w' := by
  have X0 := Below.refl w.heap.size w
  refine enter Tryz.func103 rfl Tryz.ntmps103 rfl ?_
  refine w_s ?_
  refine w_g ?_
  have S := Sep.nil w
  have B := Below.refl w.heap.size w
  have Hb := Nat.le_refl w.heap.size
  refine t_a rfl ?_ rfl
  refine t_d ?_
  refine x_s ?_
  refine w_s ?_
  refine w_g ?_
  refine t_m rfl ?_ rfl
  refine t_bts Tryz.underlying22 Tryz.underlying5 Tryz.underlying9 ‹_› B rfl ?_ rfl
  refine t_m rfl ?_ rfl
  refine t_bts Tryz.underlying22 Tryz.underlying5 Tryz.underlying9 ‹_› B rfl ?_ rfl
  refine t_eqls rfl rfl ?_ rfl
  refine t_a rfl ?_ rfl
  refine t_d ?_
  refine x_s ?_
  refine w_r ?_
  refine x_ret1 rfl rfl ?_
  exact ⟨rfl, ext_trans X0 B⟩
theorem pkt_eqh {x y : Pkt} (h1 : x.kind = y.kind) (h2 : x.src = y.src) (h3 : x.dst = y.dst) (h4 : x.path = y.path) (h5 : x.pidx = y.pidx) (h6 : x.hidx = y.hidx) (h7 : x.beta = y.beta) (h8 : x.rid = y.rid) (h9 : x.seq = y.seq) : x.pay = y.pay ↔ x = y := by
  obtain ⟨a, b, c, d, e, f, g, h, i, j⟩ := x
  obtain ⟨a', b', c', d', e', f', g', h', i', j'⟩ := y
  dsimp only at h1 h2 h3 h4 h5 h6 h7 h8 h9 ⊢
  subst h1 h2 h3 h4 h5 h6 h7 h8 h9
  simp
theorem pk_ne {x y : Pkt} [Decidable (x = y)] (h : ¬ x.kind = y.kind ∨ ¬ x.src = y.src ∨ ¬ x.dst = y.dst ∨ ¬ x.path = y.path ∨ ¬ x.pidx = y.pidx ∨ ¬ x.hidx = y.hidx ∨ ¬ x.beta = y.beta ∨ ¬ x.rid = y.rid ∨ ¬ x.seq = y.seq) : false = decide (x = y) := by
  refine (decide_eq_false fun e => ?_).symm
  subst e
  simp at h
set_option maxHeartbeats 2000000 in
theorem impl_eqPkt (x y : Pkt) (v u : Value) (w : World) (h : VA pktT w v x) (h2 : VA pktT w u y) (hz : sz_pkt x ≤ 1048576) (hz2 : sz_pkt y ≤ 1048576) : Calls Tryz.prog 44 #[v, u] w fun e w' => e = .returned (.bool (decide (x = y))) ∧ Below w.heap.size w w' := by
 have hzx : sz_pkt x = sz_path x.path + x.pay.length := rfl
 have hzy : sz_pkt y = sz_path y.path + y.pay.length := rfl
 have X0 := Below.refl w.heap.size w
 refine enter Tryz.func44 rfl Tryz.ntmps44 rfl ?_
 refine w_s ?_
 refine w_g ?_
 refine t_boxr ‹_› rfl ?_ rfl rfl
 intro p2 w19 x20 hp2
 replace h := h.below x20
 replace h2 := h2.below x20
 have X0 := ext_trans X0 x20
 refine t_boxr ‹_› rfl ?_ rfl rfl
 intro p3 w21 x22 hp3
 replace h := h.below x22
 replace h2 := h2.below x22
 replace hp2 := hp2.below x22
 have X0 := ext_trans X0 x22
 have S := Sep.nil w21
 have B := Below.refl w21.heap.size w21
 have Hb := Nat.le_refl w21.heap.size
 refine t_a rfl ?_ rfl
 refine t_d ?_
 refine x_s ?_
 refine w_s ?_
 refine w_g ?_
 refine t_fld ln_pkt_0 ‹_› fb_pkt_0 rfl ?_ rfl
 intro p5 hp5
 refine t_ldi ‹_› ab_int B rfl ?_ rfl
 refine t_fld ln_pkt_0 ‹_› fb_pkt_0 rfl ?_ rfl
 intro p7 hp7
 refine t_ldi ‹_› ab_int B rfl ?_ rfl
 refine t_eql rfl rfl ?_ rfl
 refine t_m rfl ?_ rfl
 refine t_partp (t := 10) rfl ?_ ?_
 ·intro hc7
  refine t_on rfl rfl ?_
  refine t_fld ln_pkt_1 ‹_› fb_pkt_1 rfl ?_ rfl
  intro p11 hp11
  refine t_on rfl rfl ?_
  refine t_ldi ‹_› ab_int B rfl ?_ rfl
  refine t_on rfl rfl ?_
  refine t_fld ln_pkt_1 ‹_› fb_pkt_1 rfl ?_ rfl
  intro p13 hp13
  refine t_on rfl rfl ?_
  refine t_ldi ‹_› ab_int B rfl ?_ rfl
  refine t_on rfl rfl ?_
  refine t_eql rfl rfl ?_ rfl
  refine t_q rfl rfl ?_ rfl
  refine t_m rfl ?_ rfl
  refine t_partp (t := 17) rfl ?_ ?_
  ·intro hc8
   refine t_on rfl rfl ?_
   refine t_fld ln_pkt_2 ‹_› fb_pkt_2 rfl ?_ rfl
   intro p18 hp18
   refine t_on rfl rfl ?_
   refine t_ldi ‹_› ab_int B rfl ?_ rfl
   refine t_on rfl rfl ?_
   refine t_fld ln_pkt_2 ‹_› fb_pkt_2 rfl ?_ rfl
   intro p20 hp20
   refine t_on rfl rfl ?_
   refine t_ldi ‹_› ab_int B rfl ?_ rfl
   refine t_on rfl rfl ?_
   refine t_eql rfl rfl ?_ rfl
   refine t_q rfl rfl ?_ rfl
   refine t_m rfl ?_ rfl
   refine t_partp (t := 24) rfl ?_ ?_
   ·intro hc9
    refine t_on rfl rfl ?_
    refine t_fld ln_pkt_3 ‹_› fb_pkt_3 rfl ?_ rfl
    intro p25 hp25
    refine t_on rfl rfl ?_
    refine t_lda ‹_› ab_path sb_path B rfl ?_ rfl
    intro v26 hv26
    obtain ⟨v26_0, rfl, hv26_0⟩ := path_va hv26
    refine t_on rfl rfl ?_
    refine t_fld ln_pkt_3 ‹_› fb_pkt_3 rfl ?_ rfl
    intro p27 hp27
    refine t_on rfl rfl ?_
    refine t_lda ‹_› ab_path sb_path B rfl ?_ rfl
    intro v28 hv28
    obtain ⟨v28_0, rfl, hv28_0⟩ := path_va hv28
    refine t_on rfl rfl ?_
    refine t_x Tryz.call20 rfl (impl_eqPath x.path y.path _ _ _ (by first | assumption | exact VA.below ‹_› B | exact path_mkv (by first | assumption | exact SlR.below ‹_› B)) (by first | assumption | exact VA.below ‹_› B | exact path_mkv (by first | assumption | exact SlR.below ‹_› B)) (by omega) (by omega)) ?_ rfl rfl
    intro w23 x24
    have B := bx Hb B x24
    have S := S.below x24
    refine t_q rfl rfl ?_ rfl
    refine t_m rfl ?_ rfl
    refine t_partp (t := 31) rfl ?_ ?_
    ·intro hc10
     refine t_on rfl rfl ?_
     refine t_fld ln_pkt_4 ‹_› fb_pkt_4 rfl ?_ rfl
     intro p32 hp32
     refine t_on rfl rfl ?_
     refine t_ldi ‹_› ab_int B rfl ?_ rfl
     refine t_on rfl rfl ?_
     refine t_fld ln_pkt_4 ‹_› fb_pkt_4 rfl ?_ rfl
     intro p34 hp34
     refine t_on rfl rfl ?_
     refine t_ldi ‹_› ab_int B rfl ?_ rfl
     refine t_on rfl rfl ?_
     refine t_eql rfl rfl ?_ rfl
     refine t_q rfl rfl ?_ rfl
     refine t_m rfl ?_ rfl
     refine t_partp (t := 38) rfl ?_ ?_
     ·intro hc11
      refine t_on rfl rfl ?_
      refine t_fld ln_pkt_5 ‹_› fb_pkt_5 rfl ?_ rfl
      intro p39 hp39
      refine t_on rfl rfl ?_
      refine t_ldi ‹_› ab_int B rfl ?_ rfl
      refine t_on rfl rfl ?_
      refine t_fld ln_pkt_5 ‹_› fb_pkt_5 rfl ?_ rfl
      intro p41 hp41
      refine t_on rfl rfl ?_
      refine t_ldi ‹_› ab_int B rfl ?_ rfl
      refine t_on rfl rfl ?_
      refine t_eql rfl rfl ?_ rfl
      refine t_q rfl rfl ?_ rfl
      refine t_m rfl ?_ rfl
      refine t_partp (t := 45) rfl ?_ ?_
      ·intro hc12
       refine t_on rfl rfl ?_
       refine t_fld ln_pkt_6 ‹_› fb_pkt_6 rfl ?_ rfl
       intro p46 hp46
       refine t_on rfl rfl ?_
       refine t_ldi ‹_› ab_int B rfl ?_ rfl
       refine t_on rfl rfl ?_
       refine t_fld ln_pkt_6 ‹_› fb_pkt_6 rfl ?_ rfl
       intro p48 hp48
       refine t_on rfl rfl ?_
       refine t_ldi ‹_› ab_int B rfl ?_ rfl
       refine t_on rfl rfl ?_
       refine t_eql rfl rfl ?_ rfl
       refine t_q rfl rfl ?_ rfl
       refine t_m rfl ?_ rfl
       refine t_partp (t := 52) rfl ?_ ?_
       ·intro hc13
        refine t_on rfl rfl ?_
        refine t_fld ln_pkt_7 ‹_› fb_pkt_7 rfl ?_ rfl
        intro p53 hp53
        refine t_on rfl rfl ?_
        refine t_ldi ‹_› ab_int B rfl ?_ rfl
        refine t_on rfl rfl ?_
        refine t_fld ln_pkt_7 ‹_› fb_pkt_7 rfl ?_ rfl
        intro p55 hp55
        refine t_on rfl rfl ?_
        refine t_ldi ‹_› ab_int B rfl ?_ rfl
        refine t_on rfl rfl ?_
        refine t_eql rfl rfl ?_ rfl
        refine t_q rfl rfl ?_ rfl
        refine t_m rfl ?_ rfl
        refine t_partp (t := 59) rfl ?_ ?_
        ·intro hc14
         refine t_on rfl rfl ?_
         refine t_fld ln_pkt_8 ‹_› fb_pkt_8 rfl ?_ rfl
         intro p60 hp60
         refine t_on rfl rfl ?_
         refine t_ldi ‹_› ab_int B rfl ?_ rfl
         refine t_on rfl rfl ?_
         refine t_fld ln_pkt_8 ‹_› fb_pkt_8 rfl ?_ rfl
         intro p62 hp62
         refine t_on rfl rfl ?_
         refine t_ldi ‹_› ab_int B rfl ?_ rfl
         refine t_on rfl rfl ?_
         refine t_eql rfl rfl ?_ rfl
         refine t_q rfl rfl ?_ rfl
         refine t_m rfl ?_ rfl
         refine t_partp (t := 66) rfl ?_ ?_
         ·intro hc15
          refine t_on rfl rfl ?_
          refine t_fld ln_pkt_9 ‹_› fb_pkt_9 rfl ?_ rfl
          intro p67 hp67
          refine t_on rfl rfl ?_
          refine t_lds ‹_› ab_s_byte B rfl ?_ rfl
          intro v68 hv68
          refine t_on rfl rfl ?_
          refine t_fld ln_pkt_9 ‹_› fb_pkt_9 rfl ?_ rfl
          intro p69 hp69
          refine t_on rfl rfl ?_
          refine t_lds ‹_› ab_s_byte B rfl ?_ rfl
          intro v70 hv70
          refine t_on rfl rfl ?_
          refine t_x Tryz.call103 rfl (impl_eqBytes x.pay y.pay _ _ _ (by first | assumption | exact SlR.below ‹_› B) (by first | assumption | exact SlR.below ‹_› B)) ?_ rfl rfl
          intro w25 x26
          have B := bx Hb B x26
          have S := S.below x26
          refine t_q rfl rfl ?_ rfl
          refine t_a rfl ?_ rfl
          refine t_d ?_
          refine x_s ?_
          refine w_r ?_
          refine x_ret1 rfl rfl ?_
          first | exact ⟨ret_bool (decide_eq_decide.2 (by apply pkt_eqh <;> assumption)), ext_trans X0 B⟩ | exact ⟨ret_bool (pk_ne (by repeat first | assumption | exact .inl ‹_› | refine .inr ?_)), ext_trans X0 B⟩
         ·intro hc16
          iterate 5 refine t_off rfl rfl rfl ?_ rfl
          refine t_p rfl rfl ?_ rfl
          refine t_a rfl ?_ rfl
          refine t_d ?_
          refine x_s ?_
          refine w_r ?_
          refine x_ret1 rfl rfl ?_
          first | exact ⟨ret_bool (decide_eq_decide.2 (by apply pkt_eqh <;> assumption)), ext_trans X0 B⟩ | exact ⟨ret_bool (pk_ne (by repeat first | assumption | exact .inl ‹_› | refine .inr ?_)), ext_trans X0 B⟩
        ·intro hc17
         iterate 5 refine t_off rfl rfl rfl ?_ rfl
         refine t_p rfl rfl ?_ rfl
         refine t_m rfl ?_ rfl
         iterate 5 refine t_off rfl rfl rfl ?_ rfl
         refine t_p rfl rfl ?_ rfl
         refine t_a rfl ?_ rfl
         refine t_d ?_
         refine x_s ?_
         refine w_r ?_
         refine x_ret1 rfl rfl ?_
         first | exact ⟨ret_bool (decide_eq_decide.2 (by apply pkt_eqh <;> assumption)), ext_trans X0 B⟩ | exact ⟨ret_bool (pk_ne (by repeat first | assumption | exact .inl ‹_› | refine .inr ?_)), ext_trans X0 B⟩
       ·intro hc18
        iterate 5 refine t_off rfl rfl rfl ?_ rfl
        refine t_p rfl rfl ?_ rfl
        refine t_m rfl ?_ rfl
        iterate 5 refine t_off rfl rfl rfl ?_ rfl
        refine t_p rfl rfl ?_ rfl
        refine t_m rfl ?_ rfl
        iterate 5 refine t_off rfl rfl rfl ?_ rfl
        refine t_p rfl rfl ?_ rfl
        refine t_a rfl ?_ rfl
        refine t_d ?_
        refine x_s ?_
        refine w_r ?_
        refine x_ret1 rfl rfl ?_
        first | exact ⟨ret_bool (decide_eq_decide.2 (by apply pkt_eqh <;> assumption)), ext_trans X0 B⟩ | exact ⟨ret_bool (pk_ne (by repeat first | assumption | exact .inl ‹_› | refine .inr ?_)), ext_trans X0 B⟩
      ·intro hc19
       iterate 5 refine t_off rfl rfl rfl ?_ rfl
       refine t_p rfl rfl ?_ rfl
       refine t_m rfl ?_ rfl
       iterate 5 refine t_off rfl rfl rfl ?_ rfl
       refine t_p rfl rfl ?_ rfl
       refine t_m rfl ?_ rfl
       iterate 5 refine t_off rfl rfl rfl ?_ rfl
       refine t_p rfl rfl ?_ rfl
       refine t_m rfl ?_ rfl
       iterate 5 refine t_off rfl rfl rfl ?_ rfl
       refine t_p rfl rfl ?_ rfl
       refine t_a rfl ?_ rfl
       refine t_d ?_
       refine x_s ?_
       refine w_r ?_
       refine x_ret1 rfl rfl ?_
       first | exact ⟨ret_bool (decide_eq_decide.2 (by apply pkt_eqh <;> assumption)), ext_trans X0 B⟩ | exact ⟨ret_bool (pk_ne (by repeat first | assumption | exact .inl ‹_› | refine .inr ?_)), ext_trans X0 B⟩
     ·intro hc20
      iterate 5 refine t_off rfl rfl rfl ?_ rfl
      refine t_p rfl rfl ?_ rfl
      refine t_m rfl ?_ rfl
      iterate 5 refine t_off rfl rfl rfl ?_ rfl
      refine t_p rfl rfl ?_ rfl
      refine t_m rfl ?_ rfl
      iterate 5 refine t_off rfl rfl rfl ?_ rfl
      refine t_p rfl rfl ?_ rfl
      refine t_m rfl ?_ rfl
      iterate 5 refine t_off rfl rfl rfl ?_ rfl
      refine t_p rfl rfl ?_ rfl
      refine t_m rfl ?_ rfl
      iterate 5 refine t_off rfl rfl rfl ?_ rfl
      refine t_p rfl rfl ?_ rfl
      refine t_a rfl ?_ rfl
      refine t_d ?_
      refine x_s ?_
      refine w_r ?_
      refine x_ret1 rfl rfl ?_
      first | exact ⟨ret_bool (decide_eq_decide.2 (by apply pkt_eqh <;> assumption)), ext_trans X0 B⟩ | exact ⟨ret_bool (pk_ne (by repeat first | assumption | exact .inl ‹_› | refine .inr ?_)), ext_trans X0 B⟩
    ·intro hc21
     iterate 5 refine t_off rfl rfl rfl ?_ rfl
     refine t_p rfl rfl ?_ rfl
     refine t_m rfl ?_ rfl
     iterate 5 refine t_off rfl rfl rfl ?_ rfl
     refine t_p rfl rfl ?_ rfl
     refine t_m rfl ?_ rfl
     iterate 5 refine t_off rfl rfl rfl ?_ rfl
     refine t_p rfl rfl ?_ rfl
     refine t_m rfl ?_ rfl
     iterate 5 refine t_off rfl rfl rfl ?_ rfl
     refine t_p rfl rfl ?_ rfl
     refine t_m rfl ?_ rfl
     iterate 5 refine t_off rfl rfl rfl ?_ rfl
     refine t_p rfl rfl ?_ rfl
     refine t_m rfl ?_ rfl
     iterate 5 refine t_off rfl rfl rfl ?_ rfl
     refine t_p rfl rfl ?_ rfl
     refine t_a rfl ?_ rfl
     refine t_d ?_
     refine x_s ?_
     refine w_r ?_
     refine x_ret1 rfl rfl ?_
     first | exact ⟨ret_bool (decide_eq_decide.2 (by apply pkt_eqh <;> assumption)), ext_trans X0 B⟩ | exact ⟨ret_bool (pk_ne (by repeat first | assumption | exact .inl ‹_› | refine .inr ?_)), ext_trans X0 B⟩
   ·intro hc22
    iterate 5 refine t_off rfl rfl rfl ?_ rfl
    refine t_p rfl rfl ?_ rfl
    refine t_m rfl ?_ rfl
    iterate 5 refine t_off rfl rfl rfl ?_ rfl
    refine t_p rfl rfl ?_ rfl
    refine t_m rfl ?_ rfl
    iterate 5 refine t_off rfl rfl rfl ?_ rfl
    refine t_p rfl rfl ?_ rfl
    refine t_m rfl ?_ rfl
    iterate 5 refine t_off rfl rfl rfl ?_ rfl
    refine t_p rfl rfl ?_ rfl
    refine t_m rfl ?_ rfl
    iterate 5 refine t_off rfl rfl rfl ?_ rfl
    refine t_p rfl rfl ?_ rfl
    refine t_m rfl ?_ rfl
    iterate 5 refine t_off rfl rfl rfl ?_ rfl
    refine t_p rfl rfl ?_ rfl
    refine t_m rfl ?_ rfl
    iterate 5 refine t_off rfl rfl rfl ?_ rfl
    refine t_p rfl rfl ?_ rfl
    refine t_a rfl ?_ rfl
    refine t_d ?_
    refine x_s ?_
    refine w_r ?_
    refine x_ret1 rfl rfl ?_
    first | exact ⟨ret_bool (decide_eq_decide.2 (by apply pkt_eqh <;> assumption)), ext_trans X0 B⟩ | exact ⟨ret_bool (pk_ne (by repeat first | assumption | exact .inl ‹_› | refine .inr ?_)), ext_trans X0 B⟩
  ·intro hc23
   iterate 5 refine t_off rfl rfl rfl ?_ rfl
   refine t_p rfl rfl ?_ rfl
   refine t_m rfl ?_ rfl
   iterate 5 refine t_off rfl rfl rfl ?_ rfl
   refine t_p rfl rfl ?_ rfl
   refine t_m rfl ?_ rfl
   iterate 5 refine t_off rfl rfl rfl ?_ rfl
   refine t_p rfl rfl ?_ rfl
   refine t_m rfl ?_ rfl
   iterate 5 refine t_off rfl rfl rfl ?_ rfl
   refine t_p rfl rfl ?_ rfl
   refine t_m rfl ?_ rfl
   iterate 5 refine t_off rfl rfl rfl ?_ rfl
   refine t_p rfl rfl ?_ rfl
   refine t_m rfl ?_ rfl
   iterate 5 refine t_off rfl rfl rfl ?_ rfl
   refine t_p rfl rfl ?_ rfl
   refine t_m rfl ?_ rfl
   iterate 5 refine t_off rfl rfl rfl ?_ rfl
   refine t_p rfl rfl ?_ rfl
   refine t_m rfl ?_ rfl
   iterate 5 refine t_off rfl rfl rfl ?_ rfl
   refine t_p rfl rfl ?_ rfl
   refine t_a rfl ?_ rfl
   refine t_d ?_
   refine x_s ?_
   refine w_r ?_
   refine x_ret1 rfl rfl ?_
   first | exact ⟨ret_bool (decide_eq_decide.2 (by apply pkt_eqh <;> assumption)), ext_trans X0 B⟩ | exact ⟨ret_bool (pk_ne (by repeat first | assumption | exact .inl ‹_› | refine .inr ?_)), ext_trans X0 B⟩
 ·intro hc24
  iterate 5 refine t_off rfl rfl rfl ?_ rfl
  refine t_p rfl rfl ?_ rfl
  refine t_m rfl ?_ rfl
  iterate 5 refine t_off rfl rfl rfl ?_ rfl
  refine t_p rfl rfl ?_ rfl
  refine t_m rfl ?_ rfl
  iterate 5 refine t_off rfl rfl rfl ?_ rfl
  refine t_p rfl rfl ?_ rfl
  refine t_m rfl ?_ rfl
  iterate 5 refine t_off rfl rfl rfl ?_ rfl
  refine t_p rfl rfl ?_ rfl
  refine t_m rfl ?_ rfl
  iterate 5 refine t_off rfl rfl rfl ?_ rfl
  refine t_p rfl rfl ?_ rfl
  refine t_m rfl ?_ rfl
  iterate 5 refine t_off rfl rfl rfl ?_ rfl
  refine t_p rfl rfl ?_ rfl
  refine t_m rfl ?_ rfl
  iterate 5 refine t_off rfl rfl rfl ?_ rfl
  refine t_p rfl rfl ?_ rfl
  refine t_m rfl ?_ rfl
  iterate 5 refine t_off rfl rfl rfl ?_ rfl
  refine t_p rfl rfl ?_ rfl
  refine t_m rfl ?_ rfl
  iterate 5 refine t_off rfl rfl rfl ?_ rfl
  refine t_p rfl rfl ?_ rfl
  refine t_a rfl ?_ rfl
  refine t_d ?_
  refine x_s ?_
  refine w_r ?_
  refine x_ret1 rfl rfl ?_
  first | exact ⟨ret_bool (decide_eq_decide.2 (by apply pkt_eqh <;> assumption)), ext_trans X0 B⟩ | exact ⟨ret_bool (pk_ne (by repeat first | assumption | exact .inl ‹_› | refine .inr ?_)), ext_trans X0 B⟩
set_option maxHeartbeats 2000000 in
theorem laws_samePacket (x y : Pkt) (v u : Value) (w : World) (h : VA pktT w v x) (h2 : VA pktT w u y) (hz : sz_pkt x ≤ 1048576) (hz2 : sz_pkt y ≤ 1048576) : Calls Tryz.prog 41 #[v, u] w fun e w' => e = .returned (.bool (decide (x = y))) ∧ Below w.heap.size w w' := by
 have hzx : sz_pkt x = sz_path x.path + x.pay.length := rfl
 have hzy : sz_pkt y = sz_path y.path + y.pay.length := rfl
 have X0 := Below.refl w.heap.size w
 refine enter Tryz.func41 rfl Tryz.ntmps41 rfl ?_
 refine w_s ?_
 refine w_g ?_
 refine t_boxr ‹_› rfl ?_ rfl rfl
 intro p2 w27 x28 hp2
 replace h := h.below x28
 replace h2 := h2.below x28
 have X0 := ext_trans X0 x28
 refine t_boxr ‹_› rfl ?_ rfl rfl
 intro p3 w29 x30 hp3
 replace h := h.below x30
 replace h2 := h2.below x30
 replace hp2 := hp2.below x30
 have X0 := ext_trans X0 x30
 have S := Sep.nil w29
 have B := Below.refl w29.heap.size w29
 have Hb := Nat.le_refl w29.heap.size
 refine t_a rfl ?_ rfl
 refine t_d ?_
 refine x_s ?_
 refine w_s ?_
 refine w_g ?_
 refine t_fld ln_pkt_0 ‹_› fb_pkt_0 rfl ?_ rfl
 intro p5 hp5
 refine t_ldi ‹_› ab_int B rfl ?_ rfl
 refine t_fld ln_pkt_0 ‹_› fb_pkt_0 rfl ?_ rfl
 intro p7 hp7
 refine t_ldi ‹_› ab_int B rfl ?_ rfl
 refine t_eql rfl rfl ?_ rfl
 refine t_m rfl ?_ rfl
 refine t_partp (t := 10) rfl ?_ ?_
 ·intro hc25
  refine t_on rfl rfl ?_
  refine t_fld ln_pkt_1 ‹_› fb_pkt_1 rfl ?_ rfl
  intro p11 hp11
  refine t_on rfl rfl ?_
  refine t_ldi ‹_› ab_int B rfl ?_ rfl
  refine t_on rfl rfl ?_
  refine t_fld ln_pkt_1 ‹_› fb_pkt_1 rfl ?_ rfl
  intro p13 hp13
  refine t_on rfl rfl ?_
  refine t_ldi ‹_› ab_int B rfl ?_ rfl
  refine t_on rfl rfl ?_
  refine t_eql rfl rfl ?_ rfl
  refine t_q rfl rfl ?_ rfl
  refine t_m rfl ?_ rfl
  refine t_partp (t := 17) rfl ?_ ?_
  ·intro hc26
   refine t_on rfl rfl ?_
   refine t_fld ln_pkt_2 ‹_› fb_pkt_2 rfl ?_ rfl
   intro p18 hp18
   refine t_on rfl rfl ?_
   refine t_ldi ‹_› ab_int B rfl ?_ rfl
   refine t_on rfl rfl ?_
   refine t_fld ln_pkt_2 ‹_› fb_pkt_2 rfl ?_ rfl
   intro p20 hp20
   refine t_on rfl rfl ?_
   refine t_ldi ‹_› ab_int B rfl ?_ rfl
   refine t_on rfl rfl ?_
   refine t_eql rfl rfl ?_ rfl
   refine t_q rfl rfl ?_ rfl
   refine t_m rfl ?_ rfl
   refine t_partp (t := 24) rfl ?_ ?_
   ·intro hc27
    refine t_on rfl rfl ?_
    refine t_fld ln_pkt_3 ‹_› fb_pkt_3 rfl ?_ rfl
    intro p25 hp25
    refine t_on rfl rfl ?_
    refine t_lda ‹_› ab_path sb_path B rfl ?_ rfl
    intro v26 hv26
    obtain ⟨v26_0, rfl, hv26_0⟩ := path_va hv26
    refine t_on rfl rfl ?_
    refine t_fld ln_pkt_3 ‹_› fb_pkt_3 rfl ?_ rfl
    intro p27 hp27
    refine t_on rfl rfl ?_
    refine t_lda ‹_› ab_path sb_path B rfl ?_ rfl
    intro v28 hv28
    obtain ⟨v28_0, rfl, hv28_0⟩ := path_va hv28
    refine t_on rfl rfl ?_
    refine t_x Tryz.call21 rfl (laws_samePath x.path y.path _ _ _ (by first | assumption | exact VA.below ‹_› B | exact path_mkv (by first | assumption | exact SlR.below ‹_› B)) (by first | assumption | exact VA.below ‹_› B | exact path_mkv (by first | assumption | exact SlR.below ‹_› B)) (by omega) (by omega)) ?_ rfl rfl
    intro w31 x32
    have B := bx Hb B x32
    have S := S.below x32
    refine t_q rfl rfl ?_ rfl
    refine t_m rfl ?_ rfl
    refine t_partp (t := 31) rfl ?_ ?_
    ·intro hc28
     refine t_on rfl rfl ?_
     refine t_fld ln_pkt_4 ‹_› fb_pkt_4 rfl ?_ rfl
     intro p32 hp32
     refine t_on rfl rfl ?_
     refine t_ldi ‹_› ab_int B rfl ?_ rfl
     refine t_on rfl rfl ?_
     refine t_fld ln_pkt_4 ‹_› fb_pkt_4 rfl ?_ rfl
     intro p34 hp34
     refine t_on rfl rfl ?_
     refine t_ldi ‹_› ab_int B rfl ?_ rfl
     refine t_on rfl rfl ?_
     refine t_eql rfl rfl ?_ rfl
     refine t_q rfl rfl ?_ rfl
     refine t_m rfl ?_ rfl
     refine t_partp (t := 38) rfl ?_ ?_
     ·intro hc29
      refine t_on rfl rfl ?_
      refine t_fld ln_pkt_5 ‹_› fb_pkt_5 rfl ?_ rfl
      intro p39 hp39
      refine t_on rfl rfl ?_
      refine t_ldi ‹_› ab_int B rfl ?_ rfl
      refine t_on rfl rfl ?_
      refine t_fld ln_pkt_5 ‹_› fb_pkt_5 rfl ?_ rfl
      intro p41 hp41
      refine t_on rfl rfl ?_
      refine t_ldi ‹_› ab_int B rfl ?_ rfl
      refine t_on rfl rfl ?_
      refine t_eql rfl rfl ?_ rfl
      refine t_q rfl rfl ?_ rfl
      refine t_m rfl ?_ rfl
      refine t_partp (t := 45) rfl ?_ ?_
      ·intro hc30
       refine t_on rfl rfl ?_
       refine t_fld ln_pkt_6 ‹_› fb_pkt_6 rfl ?_ rfl
       intro p46 hp46
       refine t_on rfl rfl ?_
       refine t_ldi ‹_› ab_int B rfl ?_ rfl
       refine t_on rfl rfl ?_
       refine t_fld ln_pkt_6 ‹_› fb_pkt_6 rfl ?_ rfl
       intro p48 hp48
       refine t_on rfl rfl ?_
       refine t_ldi ‹_› ab_int B rfl ?_ rfl
       refine t_on rfl rfl ?_
       refine t_eql rfl rfl ?_ rfl
       refine t_q rfl rfl ?_ rfl
       refine t_m rfl ?_ rfl
       refine t_partp (t := 52) rfl ?_ ?_
       ·intro hc31
        refine t_on rfl rfl ?_
        refine t_fld ln_pkt_7 ‹_› fb_pkt_7 rfl ?_ rfl
        intro p53 hp53
        refine t_on rfl rfl ?_
        refine t_ldi ‹_› ab_int B rfl ?_ rfl
        refine t_on rfl rfl ?_
        refine t_fld ln_pkt_7 ‹_› fb_pkt_7 rfl ?_ rfl
        intro p55 hp55
        refine t_on rfl rfl ?_
        refine t_ldi ‹_› ab_int B rfl ?_ rfl
        refine t_on rfl rfl ?_
        refine t_eql rfl rfl ?_ rfl
        refine t_q rfl rfl ?_ rfl
        refine t_m rfl ?_ rfl
        refine t_partp (t := 59) rfl ?_ ?_
        ·intro hc32
         refine t_on rfl rfl ?_
         refine t_fld ln_pkt_8 ‹_› fb_pkt_8 rfl ?_ rfl
         intro p60 hp60
         refine t_on rfl rfl ?_
         refine t_ldi ‹_› ab_int B rfl ?_ rfl
         refine t_on rfl rfl ?_
         refine t_fld ln_pkt_8 ‹_› fb_pkt_8 rfl ?_ rfl
         intro p62 hp62
         refine t_on rfl rfl ?_
         refine t_ldi ‹_› ab_int B rfl ?_ rfl
         refine t_on rfl rfl ?_
         refine t_eql rfl rfl ?_ rfl
         refine t_q rfl rfl ?_ rfl
         refine t_m rfl ?_ rfl
         refine t_partp (t := 66) rfl ?_ ?_
         ·intro hc33
          refine t_on rfl rfl ?_
          refine t_fld ln_pkt_9 ‹_› fb_pkt_9 rfl ?_ rfl
          intro p67 hp67
          refine t_on rfl rfl ?_
          refine t_lds ‹_› ab_s_byte B rfl ?_ rfl
          intro v68 hv68
          refine t_on rfl rfl ?_
          refine t_fld ln_pkt_9 ‹_› fb_pkt_9 rfl ?_ rfl
          intro p69 hp69
          refine t_on rfl rfl ?_
          refine t_lds ‹_› ab_s_byte B rfl ?_ rfl
          intro v70 hv70
          refine t_on rfl rfl ?_
          refine t_x Tryz.call39 rfl (laws_same x.pay y.pay _ _ _ (by first | assumption | exact SlR.below ‹_› B) (by first | assumption | exact SlR.below ‹_› B) (by first | omega | (simp; omega)) (by first | omega | (simp; omega))) ?_ rfl rfl
          intro w33 x34
          have B := bx Hb B x34
          have S := S.below x34
          refine t_q rfl rfl ?_ rfl
          refine t_a rfl ?_ rfl
          refine t_d ?_
          refine x_s ?_
          refine w_r ?_
          refine x_ret1 rfl rfl ?_
          first | exact ⟨ret_bool (decide_eq_decide.2 (by apply pkt_eqh <;> assumption)), ext_trans X0 B⟩ | exact ⟨ret_bool (pk_ne (by repeat first | assumption | exact .inl ‹_› | refine .inr ?_)), ext_trans X0 B⟩
         ·intro hc34
          iterate 5 refine t_off rfl rfl rfl ?_ rfl
          refine t_p rfl rfl ?_ rfl
          refine t_a rfl ?_ rfl
          refine t_d ?_
          refine x_s ?_
          refine w_r ?_
          refine x_ret1 rfl rfl ?_
          first | exact ⟨ret_bool (decide_eq_decide.2 (by apply pkt_eqh <;> assumption)), ext_trans X0 B⟩ | exact ⟨ret_bool (pk_ne (by repeat first | assumption | exact .inl ‹_› | refine .inr ?_)), ext_trans X0 B⟩
        ·intro hc35
         iterate 5 refine t_off rfl rfl rfl ?_ rfl
         refine t_p rfl rfl ?_ rfl
         refine t_m rfl ?_ rfl
         iterate 5 refine t_off rfl rfl rfl ?_ rfl
         refine t_p rfl rfl ?_ rfl
         refine t_a rfl ?_ rfl
         refine t_d ?_
         refine x_s ?_
         refine w_r ?_
         refine x_ret1 rfl rfl ?_
         first | exact ⟨ret_bool (decide_eq_decide.2 (by apply pkt_eqh <;> assumption)), ext_trans X0 B⟩ | exact ⟨ret_bool (pk_ne (by repeat first | assumption | exact .inl ‹_› | refine .inr ?_)), ext_trans X0 B⟩
       ·intro hc36
        iterate 5 refine t_off rfl rfl rfl ?_ rfl
        refine t_p rfl rfl ?_ rfl
        refine t_m rfl ?_ rfl
        iterate 5 refine t_off rfl rfl rfl ?_ rfl
        refine t_p rfl rfl ?_ rfl
        refine t_m rfl ?_ rfl
        iterate 5 refine t_off rfl rfl rfl ?_ rfl
        refine t_p rfl rfl ?_ rfl
        refine t_a rfl ?_ rfl
        refine t_d ?_
        refine x_s ?_
        refine w_r ?_
        refine x_ret1 rfl rfl ?_
        first | exact ⟨ret_bool (decide_eq_decide.2 (by apply pkt_eqh <;> assumption)), ext_trans X0 B⟩ | exact ⟨ret_bool (pk_ne (by repeat first | assumption | exact .inl ‹_› | refine .inr ?_)), ext_trans X0 B⟩
      ·intro hc37
       iterate 5 refine t_off rfl rfl rfl ?_ rfl
       refine t_p rfl rfl ?_ rfl
       refine t_m rfl ?_ rfl
       iterate 5 refine t_off rfl rfl rfl ?_ rfl
       refine t_p rfl rfl ?_ rfl
       refine t_m rfl ?_ rfl
       iterate 5 refine t_off rfl rfl rfl ?_ rfl
       refine t_p rfl rfl ?_ rfl
       refine t_m rfl ?_ rfl
       iterate 5 refine t_off rfl rfl rfl ?_ rfl
       refine t_p rfl rfl ?_ rfl
       refine t_a rfl ?_ rfl
       refine t_d ?_
       refine x_s ?_
       refine w_r ?_
       refine x_ret1 rfl rfl ?_
       first | exact ⟨ret_bool (decide_eq_decide.2 (by apply pkt_eqh <;> assumption)), ext_trans X0 B⟩ | exact ⟨ret_bool (pk_ne (by repeat first | assumption | exact .inl ‹_› | refine .inr ?_)), ext_trans X0 B⟩
     ·intro hc38
      iterate 5 refine t_off rfl rfl rfl ?_ rfl
      refine t_p rfl rfl ?_ rfl
      refine t_m rfl ?_ rfl
      iterate 5 refine t_off rfl rfl rfl ?_ rfl
      refine t_p rfl rfl ?_ rfl
      refine t_m rfl ?_ rfl
      iterate 5 refine t_off rfl rfl rfl ?_ rfl
      refine t_p rfl rfl ?_ rfl
      refine t_m rfl ?_ rfl
      iterate 5 refine t_off rfl rfl rfl ?_ rfl
      refine t_p rfl rfl ?_ rfl
      refine t_m rfl ?_ rfl
      iterate 5 refine t_off rfl rfl rfl ?_ rfl
      refine t_p rfl rfl ?_ rfl
      refine t_a rfl ?_ rfl
      refine t_d ?_
      refine x_s ?_
      refine w_r ?_
      refine x_ret1 rfl rfl ?_
      first | exact ⟨ret_bool (decide_eq_decide.2 (by apply pkt_eqh <;> assumption)), ext_trans X0 B⟩ | exact ⟨ret_bool (pk_ne (by repeat first | assumption | exact .inl ‹_› | refine .inr ?_)), ext_trans X0 B⟩
    ·intro hc39
     iterate 5 refine t_off rfl rfl rfl ?_ rfl
     refine t_p rfl rfl ?_ rfl
     refine t_m rfl ?_ rfl
     iterate 5 refine t_off rfl rfl rfl ?_ rfl
     refine t_p rfl rfl ?_ rfl
     refine t_m rfl ?_ rfl
     iterate 5 refine t_off rfl rfl rfl ?_ rfl
     refine t_p rfl rfl ?_ rfl
     refine t_m rfl ?_ rfl
     iterate 5 refine t_off rfl rfl rfl ?_ rfl
     refine t_p rfl rfl ?_ rfl
     refine t_m rfl ?_ rfl
     iterate 5 refine t_off rfl rfl rfl ?_ rfl
     refine t_p rfl rfl ?_ rfl
     refine t_m rfl ?_ rfl
     iterate 5 refine t_off rfl rfl rfl ?_ rfl
     refine t_p rfl rfl ?_ rfl
     refine t_a rfl ?_ rfl
     refine t_d ?_
     refine x_s ?_
     refine w_r ?_
     refine x_ret1 rfl rfl ?_
     first | exact ⟨ret_bool (decide_eq_decide.2 (by apply pkt_eqh <;> assumption)), ext_trans X0 B⟩ | exact ⟨ret_bool (pk_ne (by repeat first | assumption | exact .inl ‹_› | refine .inr ?_)), ext_trans X0 B⟩
   ·intro hc40
    iterate 5 refine t_off rfl rfl rfl ?_ rfl
    refine t_p rfl rfl ?_ rfl
    refine t_m rfl ?_ rfl
    iterate 5 refine t_off rfl rfl rfl ?_ rfl
    refine t_p rfl rfl ?_ rfl
    refine t_m rfl ?_ rfl
    iterate 5 refine t_off rfl rfl rfl ?_ rfl
    refine t_p rfl rfl ?_ rfl
    refine t_m rfl ?_ rfl
    iterate 5 refine t_off rfl rfl rfl ?_ rfl
    refine t_p rfl rfl ?_ rfl
    refine t_m rfl ?_ rfl
    iterate 5 refine t_off rfl rfl rfl ?_ rfl
    refine t_p rfl rfl ?_ rfl
    refine t_m rfl ?_ rfl
    iterate 5 refine t_off rfl rfl rfl ?_ rfl
    refine t_p rfl rfl ?_ rfl
    refine t_m rfl ?_ rfl
    iterate 5 refine t_off rfl rfl rfl ?_ rfl
    refine t_p rfl rfl ?_ rfl
    refine t_a rfl ?_ rfl
    refine t_d ?_
    refine x_s ?_
    refine w_r ?_
    refine x_ret1 rfl rfl ?_
    first | exact ⟨ret_bool (decide_eq_decide.2 (by apply pkt_eqh <;> assumption)), ext_trans X0 B⟩ | exact ⟨ret_bool (pk_ne (by repeat first | assumption | exact .inl ‹_› | refine .inr ?_)), ext_trans X0 B⟩
  ·intro hc41
   iterate 5 refine t_off rfl rfl rfl ?_ rfl
   refine t_p rfl rfl ?_ rfl
   refine t_m rfl ?_ rfl
   iterate 5 refine t_off rfl rfl rfl ?_ rfl
   refine t_p rfl rfl ?_ rfl
   refine t_m rfl ?_ rfl
   iterate 5 refine t_off rfl rfl rfl ?_ rfl
   refine t_p rfl rfl ?_ rfl
   refine t_m rfl ?_ rfl
   iterate 5 refine t_off rfl rfl rfl ?_ rfl
   refine t_p rfl rfl ?_ rfl
   refine t_m rfl ?_ rfl
   iterate 5 refine t_off rfl rfl rfl ?_ rfl
   refine t_p rfl rfl ?_ rfl
   refine t_m rfl ?_ rfl
   iterate 5 refine t_off rfl rfl rfl ?_ rfl
   refine t_p rfl rfl ?_ rfl
   refine t_m rfl ?_ rfl
   iterate 5 refine t_off rfl rfl rfl ?_ rfl
   refine t_p rfl rfl ?_ rfl
   refine t_m rfl ?_ rfl
   iterate 5 refine t_off rfl rfl rfl ?_ rfl
   refine t_p rfl rfl ?_ rfl
   refine t_a rfl ?_ rfl
   refine t_d ?_
   refine x_s ?_
   refine w_r ?_
   refine x_ret1 rfl rfl ?_
   first | exact ⟨ret_bool (decide_eq_decide.2 (by apply pkt_eqh <;> assumption)), ext_trans X0 B⟩ | exact ⟨ret_bool (pk_ne (by repeat first | assumption | exact .inl ‹_› | refine .inr ?_)), ext_trans X0 B⟩
 ·intro hc42
  iterate 5 refine t_off rfl rfl rfl ?_ rfl
  refine t_p rfl rfl ?_ rfl
  refine t_m rfl ?_ rfl
  iterate 5 refine t_off rfl rfl rfl ?_ rfl
  refine t_p rfl rfl ?_ rfl
  refine t_m rfl ?_ rfl
  iterate 5 refine t_off rfl rfl rfl ?_ rfl
  refine t_p rfl rfl ?_ rfl
  refine t_m rfl ?_ rfl
  iterate 5 refine t_off rfl rfl rfl ?_ rfl
  refine t_p rfl rfl ?_ rfl
  refine t_m rfl ?_ rfl
  iterate 5 refine t_off rfl rfl rfl ?_ rfl
  refine t_p rfl rfl ?_ rfl
  refine t_m rfl ?_ rfl
  iterate 5 refine t_off rfl rfl rfl ?_ rfl
  refine t_p rfl rfl ?_ rfl
  refine t_m rfl ?_ rfl
  iterate 5 refine t_off rfl rfl rfl ?_ rfl
  refine t_p rfl rfl ?_ rfl
  refine t_m rfl ?_ rfl
  iterate 5 refine t_off rfl rfl rfl ?_ rfl
  refine t_p rfl rfl ?_ rfl
  refine t_m rfl ?_ rfl
  iterate 5 refine t_off rfl rfl rfl ?_ rfl
  refine t_p rfl rfl ?_ rfl
  refine t_a rfl ?_ rfl
  refine t_d ?_
  refine x_s ?_
  refine w_r ?_
  refine x_ret1 rfl rfl ?_
  first | exact ⟨ret_bool (decide_eq_decide.2 (by apply pkt_eqh <;> assumption)), ext_trans X0 B⟩ | exact ⟨ret_bool (pk_ne (by repeat first | assumption | exact .inl ‹_› | refine .inr ?_)), ext_trans X0 B⟩
end Go.Proofs.YtdaecknfahgddaaGreat
namespace Go.Proofs.YtdaecknfahgddaaGreat
open Go.RowKit
set_option linter.unusedVariables false
set_option maxRecDepth 20000
theorem SlR.takev {α : Type} {T : Ty α} {w : World} {A : Option Addr} {c k n' : Nat} {l : List α} (h : SlR T w (.slice A n' c) l) (hk : k ≤ l.length) : SlR T w (.slice A k c) (l.take k) := by
  obtain ⟨A', c', css, e, h1, h2, h3, h4⟩ := h
  cases e
  have hall : ∀ (i : Nat) cs, css[i]? = some cs → cs.length = T.size := fun i cs hi => by
    have hlt : i < l.length := by rw [← h2]; exact (List.getElem?_eq_some_iff.1 hi).1
    exact T.len _ _ _ (h4 i cs _ hi (List.getElem?_eq_getElem hlt))
  have hlen : (l.take k).length = k := by rw [List.length_take]; omega
  refine ⟨A, c, css.take k, by rw [hlen], by omega, by rw [hlen, List.length_take]; omega, fun hp => ?_, fun i cs x hi hx => ?_⟩
  · rw [flatten_take hall] at hp ⊢
    have hp' : 0 < css.flatten.length := by rw [List.length_take] at hp; omega
    obtain ⟨g, o, rfl, hg⟩ := h3 hp'
    refine ⟨g, o, rfl, fun j u hu => hg j u ?_⟩
    rw [List.getElem?_take] at hu
    split at hu
    · exact hu
    · cases hu
  · rw [List.getElem?_take] at hi hx
    split at hi
    · rename_i hik
      rw [if_pos hik] at hx
      exact h4 i cs x hi hx
    · cases hi
section
variable {P : Program} {n : Nat} {ops : Array Oper} {Q : Exit → Act → World → Prop} {L : Frm} {w w0 : World} {m : Md} {r : IT} {d : Nat} {ty : TypeId} {pos : String} {af : Array Edge}
theorem t_slr {α : Type} {T : Ty α} {t e : TypeId} {bytes : Nat} (et : ElemT P t e T.size bytes) {v : Value} {l : List α} {xo lo hi : Operand} {a c : Nat} {i j : Int} (h : SlR T w0 v l) (hx : ev L xo = some v) (hlo : ev L lo = some (I i)) (hhi : ev L hi = some (I j)) (hi' : i = ((a : Nat) : Int)) (hj : j = ((c : Nat) : Int)) (hac : a ≤ c) (hcl : c ≤ l.length)
    (kk : ∀ v', SlR T w0 v' ((l.take c).drop a) → WT P n ops Q r ((d, v') :: L) w) (hn : Nat.blt d n = true) : WT P n ops Q (.st m ⟨some d, .slice t xo (some lo) (some hi) none, ty, pos, af, none⟩ r) L w := by
  obtain ⟨A, cc, rfl, h1⟩ := h.form
  obtain ⟨inf, z, hinf, _, hsz, _, _⟩ := et.info
  subst hi'
  subst hj
  have h2 := h.takev hcl
  have hlen : (l.take c).length = c := by rw [List.length_take]; omega
  have h3 := h2.drop (k := a) (by omega)
  rw [hlen] at h3
  refine t_read (fun ac ha _ _ _ w' _ => ?_) (kk _ h3) hn
  have hc : (0 : Int) ≤ (a : Int) ∧ (a : Int) ≤ (c : Int) := by omega
  have hcc : c ≤ cc := by omega
  have hac' : a ≤ c := hac
  simp [execOp, ha.ev hx, ha.ev hlo, ha.ev hhi, Instr.sliceAt, Instr.slice, Instr.sliceBounds, Instr.sliceBound, asIntOf, run_underlying et.und, hcc, hac', sizeOf, typeInfo, hinf, hsz]
end
def readB (b : List UInt8) (i most : Int) : Option (List UInt8 × Int) := match readVI b i with
  | none => none
  | some (n, j) => if most < n ∨ (b.length : Int) - j < n then none else some ((b.take (j + n).toNat).drop j, j + n)
def rb3 : Option (List UInt8 × Int) → List UInt8 × Int × Bool
  | none => ([], 0, false)
  | some (l, j) => (l, j, true)
theorem readB_no {b : List UInt8} {i most : Int} (h : readVI b i = none) : readB b i most = none := by rw [readB, h]
theorem readB_bad {b : List UInt8} {i most n : Int} {j : Nat} (h : readVI b i = some (n, j)) (hb : most < n ∨ (b.length : Int) - j < n) : readB b i most = none := by rw [readB, h]; simp only [if_pos hb]
theorem readB_yes {b : List UInt8} {i most n : Int} {j : Nat} (h : readVI b i = some (n, j)) (hb : ¬ (most < n ∨ (b.length : Int) - j < n)) : readB b i most = some ((b.take (j + n).toNat).drop j, j + n) := by rw [readB, h]; simp only [if_neg hb]
theorem rb_no {o : Option (List UInt8 × Int)} {l : List UInt8} {j : Int} {ok : Bool} (hr : rb3 o = (l, j, ok)) (hok : (!ok) = true) : o = none := by
  cases ok
  · cases o with
    | none => rfl
    | some r => cases hr
  · cases hok
theorem rb_yes {b : List UInt8} {i most : Int} {l : List UInt8} {j : Int} {ok : Bool} (hr : rb3 (readB b i most) = (l, j, ok)) (hok : (!ok) = false) : readB b i most = some (l, j) ∧ 0 ≤ j ∧ j ≤ b.length ∧ (l.length : Int) ≤ most := by
  cases ok
  · cases hok
  · cases hv : readVI b i with
    | none => rw [readB_no hv] at hr; cases hr
    | some r =>
      obtain ⟨n, m⟩ := r
      have ho := readVI_out hv
      have h1 : 0 ≤ n := ho.1
      have h2 : m ≤ b.length := ho.2.2.2.1
      by_cases hb : most < n ∨ (b.length : Int) - m < n
      · rw [readB_bad hv hb] at hr; cases hr
      · rw [readB_yes hv hb] at hr ⊢
        cases hr
        refine ⟨rfl, by omega, by omega, ?_⟩
        rw [List.length_drop, List.length_take]
        omega
theorem min3 {b : List UInt8} {x y : Nat} : ((b.take x).drop y).length ≤ b.length := by rw [List.length_drop, List.length_take]; omega
theorem impl_ReadBytes (b : List UInt8) (v : Value) (i most : Int) {l0 : List UInt8} {j0 : Int} {ok0 : Bool} (w : World) (h : SlR byteT w v b) (hz : b.length ≤ 1048576) (hi : i ≤ 9223372036854775807) (hr : rb3 (readB b i most) = (l0, j0, ok0)) : Calls Tryz.prog 90 #[v, I i, I most] w fun e w' => ∃ v fp, e = .returned (.tuple #[v, I j0, .bool ok0]) ∧ SlO byteT 5 w.heap.size w' v l0 fp ∧ Below w.heap.size w w' := by
 obtain ⟨n1, j1, ok1, hr1⟩ : ∃ n j ok, rv3 (readVI b i) = (n, j, ok) := ⟨_, _, _, rfl⟩
 have X0 := Below.refl w.heap.size w
 refine enter Tryz.func90 rfl Tryz.ntmps90 rfl ?_
 refine w_s ?_
 refine w_g ?_
 have S := Sep.nil w
 have B := Below.refl w.heap.size w
 have Hb := Nat.le_refl w.heap.size
 iterate 3 refine t_a rfl ?_ rfl
 refine t_d ?_
 refine x_s ?_
 refine w_s ?_
 refine w_g ?_
 iterate 2 refine t_m rfl ?_ rfl
 refine t_x Tryz.call140 rfl (impl_ReadVarint _ _ _ _ (by first | assumption | exact SlR.below ‹_› B) (by omega) (by omega) hr1) ?_ rfl rfl
 intro w1 x2
 have B := bx Hb B x2
 have S := S.below x2
 refine t_m rfl ?_ rfl
 iterate 3 refine t_extract rfl rfl ?_ rfl
 iterate 3 refine t_a rfl ?_ rfl
 refine t_d ?_
 refine x_s ?_
 iterate 2 refine w_s ?_
 refine w_g ?_
 refine t_m rfl ?_ rfl
 refine t_notb rfl ?_ rfl
 refine t_m rfl ?_ rfl
 refine t_part (t := 20) rfl ?_ ?_
 ·intro hno
  iterate 3 refine t_off rfl rfl rfl ?_ rfl
  refine t_q rfl rfl ?_ rfl
  refine t_m rfl ?_ rfl
  iterate 6 refine t_off rfl rfl rfl ?_ rfl
  refine t_q rfl rfl ?_ rfl
  refine t_d ?_
  refine x_s ?_
  refine w_yes rfl ?_
  refine w_s ?_
  refine w_g ?_
  iterate 3 refine t_a rfl ?_ rfl
  refine t_d ?_
  refine x_s ?_
  refine w_r ?_
  refine x_t ?_
  refine x_ret3 rfl rfl rfl rfl ?_
  rw [readB_no (rv_no hr1 hno)] at hr
  cases hr
  obtain ⟨fp, hO⟩ := (S.addNil.mono X0.size).head
  exact ⟨_, fp, rfl, hO, ext_trans X0 B⟩
 intro hyes
 obtain ⟨hy1, hy2, hy3, hy4, hy5, hy6⟩ := rv_yes hr1 hyes
 have hjt : ((j1.toNat : Nat) : Int) = j1 := by omega
 have hsl := min3 (b := b) (x := (j1 + n1).toNat) (y := j1.toNat)
 refine t_on rfl rfl ?_
 refine t_m rfl ?_ rfl
 refine t_on rfl rfl ?_
 refine t_m rfl ?_ rfl
 refine t_on rfl rfl ?_
 refine t_gtr rfl rfl ?_ rfl
 refine t_p rfl rfl ?_ rfl
 refine t_m rfl ?_ rfl
 refine t_partp (t := 25) rfl ?_ ?_
 ·intro hb
  iterate 6 refine t_off rfl rfl rfl ?_ rfl
  refine t_q rfl rfl ?_ rfl
  refine t_d ?_
  refine x_s ?_
  refine w_yes rfl ?_
  refine w_s ?_
  refine w_g ?_
  iterate 3 refine t_a rfl ?_ rfl
  refine t_d ?_
  refine x_s ?_
  refine w_r ?_
  refine x_t ?_
  refine x_ret3 rfl rfl rfl rfl ?_
  rw [readB_bad hy1 (.inl (by omega))] at hr
  cases hr
  obtain ⟨fp, hO⟩ := (S.addNil.mono X0.size).head
  exact ⟨_, fp, rfl, hO, ext_trans X0 B⟩
 intro hb
 refine t_on rfl rfl ?_
 refine t_m rfl ?_ rfl
 refine t_on rfl rfl ?_
 refine t_m rfl ?_ rfl
 refine t_on rfl rfl ?_
 refine t_len e_byte ‹_› rfl rfl ?_ rfl
 refine t_on rfl rfl ?_
 refine t_m rfl ?_ rfl
 refine t_on rfl rfl ?_
 refine t_sub rfl rfl (by omega) ?_ rfl
 refine t_on rfl rfl ?_
 refine t_gtr rfl rfl ?_ rfl
 refine t_p rfl rfl ?_ rfl
 refine t_d ?_
 refine x_s ?_
 refine w_if rfl ?_ ?_
 ·intro hb2
  refine w_s ?_
  refine w_g ?_
  iterate 3 refine t_a rfl ?_ rfl
  refine t_d ?_
  refine x_s ?_
  refine w_r ?_
  refine x_t ?_
  refine x_ret3 rfl rfl rfl rfl ?_
  rw [readB_bad hy1 (.inr (by omega))] at hr
  cases hr
  obtain ⟨fp, hO⟩ := (S.addNil.mono X0.size).head
  exact ⟨_, fp, rfl, hO, ext_trans X0 B⟩
 intro hb2
 rw [readB_yes hy1 (by omega), hjt] at hr
 refine w_k ?_
 refine x_s ?_
 refine w_s ?_
 refine w_g ?_
 iterate 4 refine t_m rfl ?_ rfl
 refine t_add rfl rfl (by omega) ?_ rfl
 refine t_slr e_byte (a := j1.toNat) (c := (j1 + n1).toNat) ‹_› rfl rfl rfl (by first | rfl | omega) (by first | rfl | omega) (by omega) (by omega) ?_ rfl
 intro v38 hv38
 refine t_c Tryz.call102 rfl (impl_copyBytes _ _ _ (by first | assumption | exact SlR.below ‹_› B) (by omega)) ?_ rfl rfl
 rintro e w3 ⟨v39, fpv39, rfl, hOv39, x4⟩
 refine ⟨_, rfl, x4, ?_⟩
 have S := S.add (o := slO _ _ _ _) x4 hOv39
 have B := bx Hb B x4
 iterate 2 refine t_m rfl ?_ rfl
 refine t_add rfl rfl (by omega) ?_ rfl
 iterate 3 refine t_a rfl ?_ rfl
 refine t_d ?_
 refine x_s ?_
 refine w_r ?_
 refine x_ret3 rfl rfl rfl rfl ?_
 cases hr
 obtain ⟨fp, hO⟩ := (S.mono X0.size).head
 exact ⟨_, fp, rfl, hO, ext_trans X0 B⟩
theorem spec_ReadBytes (b : List UInt8) (v : Value) (i most : Int) {l0 : List UInt8} {j0 : Int} {ok0 : Bool} (w : World) (h : SlR byteT w v b) (hz : b.length ≤ 1048576) (hi : i ≤ 9223372036854775807) (hr : rb3 (readB b i most) = (l0, j0, ok0)) : Calls Tryz.prog 93 #[v, I i, I most] w fun e w' => ∃ v fp, e = .returned (.tuple #[v, I j0, .bool ok0]) ∧ SlO byteT 5 w.heap.size w' v l0 fp ∧ Below w.heap.size w w' := by
 obtain ⟨n1, j1, ok1, hr1⟩ : ∃ n j ok, rv3 (readVI b i) = (n, j, ok) := ⟨_, _, _, rfl⟩
 have X0 := Below.refl w.heap.size w
 refine enter Tryz.func93 rfl Tryz.ntmps93 rfl ?_
 refine w_s ?_
 refine w_g ?_
 have S := Sep.nil w
 have B := Below.refl w.heap.size w
 have Hb := Nat.le_refl w.heap.size
 iterate 3 refine t_a rfl ?_ rfl
 refine t_d ?_
 refine x_s ?_
 refine w_s ?_
 refine w_g ?_
 iterate 2 refine t_m rfl ?_ rfl
 refine t_x Tryz.call142 rfl (spec_ReadVarint _ _ _ _ (by first | assumption | exact SlR.below ‹_› B) (by omega) (by omega) hr1) ?_ rfl rfl
 intro w5 x6
 have B := bx Hb B x6
 have S := S.below x6
 refine t_m rfl ?_ rfl
 iterate 3 refine t_extract rfl rfl ?_ rfl
 iterate 3 refine t_a rfl ?_ rfl
 refine t_d ?_
 refine x_s ?_
 iterate 2 refine w_s ?_
 refine w_g ?_
 refine t_m rfl ?_ rfl
 refine t_notb rfl ?_ rfl
 refine t_m rfl ?_ rfl
 refine t_part (t := 21) rfl ?_ ?_
 ·intro hno
  iterate 3 refine t_off rfl rfl rfl ?_ rfl
  refine t_q rfl rfl ?_ rfl
  refine t_m rfl ?_ rfl
  iterate 6 refine t_off rfl rfl rfl ?_ rfl
  refine t_q rfl rfl ?_ rfl
  refine t_d ?_
  refine x_s ?_
  refine w_yes rfl ?_
  refine w_s ?_
  refine w_g ?_
  refine t_lit (T := byteT) (css := []) (l := []) byte_flat S bs_byte0 rfl rfl rfl rfl (Nat.zero_le _) litR_nil ?_ rfl rfl
  intro u34 w7 x8 S
  have B := bx Hb B x8
  iterate 3 refine t_a rfl ?_ rfl
  refine t_d ?_
  refine x_s ?_
  refine w_r ?_
  refine x_t ?_
  refine x_ret3 rfl rfl rfl rfl ?_
  rw [readB_no (rv_no hr1 hno)] at hr
  cases hr
  obtain ⟨fp, hO⟩ := (S.mono X0.size).head
  exact ⟨_, fp, rfl, hO, ext_trans X0 B⟩
 intro hyes
 obtain ⟨hy1, hy2, hy3, hy4, hy5, hy6⟩ := rv_yes hr1 hyes
 have hjt : ((j1.toNat : Nat) : Int) = j1 := by omega
 have hsl := min3 (b := b) (x := (j1 + n1).toNat) (y := j1.toNat)
 refine t_on rfl rfl ?_
 refine t_m rfl ?_ rfl
 refine t_on rfl rfl ?_
 refine t_m rfl ?_ rfl
 refine t_on rfl rfl ?_
 refine t_gtr rfl rfl ?_ rfl
 refine t_p rfl rfl ?_ rfl
 refine t_m rfl ?_ rfl
 refine t_partp (t := 26) rfl ?_ ?_
 ·intro hb
  iterate 6 refine t_off rfl rfl rfl ?_ rfl
  refine t_q rfl rfl ?_ rfl
  refine t_d ?_
  refine x_s ?_
  refine w_yes rfl ?_
  refine w_s ?_
  refine w_g ?_
  refine t_lit (T := byteT) (css := []) (l := []) byte_flat S bs_byte0 rfl rfl rfl rfl (Nat.zero_le _) litR_nil ?_ rfl rfl
  intro u34 w9 x10 S
  have B := bx Hb B x10
  iterate 3 refine t_a rfl ?_ rfl
  refine t_d ?_
  refine x_s ?_
  refine w_r ?_
  refine x_t ?_
  refine x_ret3 rfl rfl rfl rfl ?_
  rw [readB_bad hy1 (.inl (by omega))] at hr
  cases hr
  obtain ⟨fp, hO⟩ := (S.mono X0.size).head
  exact ⟨_, fp, rfl, hO, ext_trans X0 B⟩
 intro hb
 refine t_on rfl rfl ?_
 refine t_m rfl ?_ rfl
 refine t_on rfl rfl ?_
 refine t_m rfl ?_ rfl
 refine t_on rfl rfl ?_
 refine t_len e_byte ‹_› rfl rfl ?_ rfl
 refine t_on rfl rfl ?_
 refine t_m rfl ?_ rfl
 refine t_on rfl rfl ?_
 refine t_sub rfl rfl (by omega) ?_ rfl
 refine t_on rfl rfl ?_
 refine t_gtr rfl rfl ?_ rfl
 refine t_p rfl rfl ?_ rfl
 refine t_d ?_
 refine x_s ?_
 refine w_if rfl ?_ ?_
 ·intro hb2
  refine w_s ?_
  refine w_g ?_
  refine t_lit (T := byteT) (css := []) (l := []) byte_flat S bs_byte0 rfl rfl rfl rfl (Nat.zero_le _) litR_nil ?_ rfl rfl
  intro u34 w11 x12 S
  have B := bx Hb B x12
  iterate 3 refine t_a rfl ?_ rfl
  refine t_d ?_
  refine x_s ?_
  refine w_r ?_
  refine x_t ?_
  refine x_ret3 rfl rfl rfl rfl ?_
  rw [readB_bad hy1 (.inr (by omega))] at hr
  cases hr
  obtain ⟨fp, hO⟩ := (S.mono X0.size).head
  exact ⟨_, fp, rfl, hO, ext_trans X0 B⟩
 intro hb2
 rw [readB_yes hy1 (by omega), hjt] at hr
 refine w_k ?_
 refine x_s ?_
 refine w_s ?_
 refine w_g ?_
 refine t_lit (T := byteT) (css := []) (l := []) byte_flat S bs_byte0 rfl rfl rfl rfl (Nat.zero_le _) litR_nil ?_ rfl rfl
 intro u35 w13 x14 S
 have B := bx Hb B x14
 iterate 4 refine t_m rfl ?_ rfl
 refine t_add rfl rfl (by omega) ?_ rfl
 refine t_slr e_byte (a := j1.toNat) (c := (j1 + n1).toNat) ‹_› rfl rfl rfl (by first | rfl | omega) (by first | rfl | omega) (by omega) (by omega) ?_ rfl
 intro v41 hv41
 refine t_cat byte_flat e_byte S (by first | assumption | exact SlR.below ‹_› B) rfl rfl rfl (by first | omega | (simp [-List.length_flatMap]; omega)) (by (simp [maxLen, -List.length_flatMap]; try omega)) ?_ rfl
 intro v42 w15 x16 S
 have B := B.trans x16
 iterate 2 refine t_m rfl ?_ rfl
 refine t_add rfl rfl (by omega) ?_ rfl
 iterate 3 refine t_a rfl ?_ rfl
 refine t_d ?_
 refine x_s ?_
 refine w_r ?_
 refine x_ret3 rfl rfl rfl rfl ?_
 cases hr
 obtain ⟨fp, hO⟩ := (S.mono X0.size).head
 exact ⟨_, fp, rfl, hO, ext_trans X0 B⟩
end Go.Proofs.YtdaecknfahgddaaGreat
namespace Go.Proofs.YtdaecknfahgddaaGreat
open Go.RowKit
set_option linter.unusedVariables false
set_option maxRecDepth 20000
def pk0 : Pkt := ⟨0, 0, 0, [], 0, 0, 0, 0, 0, []⟩
def pktOf (l : List Int) (p : Path) (b : List UInt8) : Pkt := ⟨gI l 0, gI l 1, gI l 2, p, gI l 3, gI l 4, gI l 5, gI l 6, gI l 7, b⟩
def decPkt (b : List UInt8) : Option Pkt := match decI b 0 8 with
  | none => none
  | some (l, j) => match readB b j 40 with
    | none => none
    | some (pay, j2) => match readP b j2 with
      | none => none
      | some (p, j3) => if j3 = b.length then (if validPkt (pktOf l p pay) = true then some (pktOf l p pay) else none) else none
def dp2 : Option Pkt → Pkt × Bool
  | none => (pk0, false)
  | some x => (x, true)
theorem dp_no1 {b : List UInt8} (h : decI b 0 8 = none) : decPkt b = none := by rw [decPkt, h]
theorem dp_no2 {b : List UInt8} {l : List Int} {j : Nat} (h : decI b 0 8 = some (l, j)) (h2 : readB b j 40 = none) : decPkt b = none := by rw [decPkt, h]; simp only [h2]
theorem dp_no3 {b pay : List UInt8} {l : List Int} {j : Nat} {j2 : Int} (h : decI b 0 8 = some (l, j)) (h2 : readB b j 40 = some (pay, j2)) (h3 : readP b j2 = none) : decPkt b = none := by rw [decPkt, h]; simp only [h2, h3]
theorem dp_eq {b pay : List UInt8} {l : List Int} {j j3 : Nat} {j2 : Int} {p : Path} (h : decI b 0 8 = some (l, j)) (h2 : readB b j 40 = some (pay, j2)) (h3 : readP b j2 = some (p, j3)) : decPkt b = if j3 = b.length then (if validPkt (pktOf l p pay) = true then some (pktOf l p pay) else none) else none := by rw [decPkt, h]; simp only [h2, h3]
theorem rp_nope {b : List UInt8} {i j : Int} {p : Path} {ok : Bool} (hr : rp3 (readP b i) = (p, j, ok)) (hok : (!ok) = true) : readP b i = none := by
  cases ok
  · cases ho : readP b i with
    | none => rfl
    | some r => rw [ho] at hr; cases hr
  · cases hok
theorem rp_yep {b : List UInt8} {i j : Int} {p : Path} {ok : Bool} (hr : rp3 (readP b i) = (p, j, ok)) (hok : (!ok) = false) : readP b i = some (p, j.toNat) := by
  cases ok
  · cases hok
  · cases ho : readP b i with
    | none => rw [ho] at hr; cases hr
    | some r => rw [ho] at hr; cases hr; rfl
theorem encPath_rng {p : Path} (h : encPath p = true) : rng_path p := by
  unfold encPath at h
  simp only [Bool.and_eq_true, List.all_eq_true] at h
  intro x hx
  have h1 := h.2 x hx
  unfold encPart encHops at h1
  simp only [Bool.and_eq_true, List.all_eq_true, inR_iff] at h1
  have k1 := h1.1
  have k2 := h1.2.1
  refine ⟨by unfold In64; omega, by unfold In64; omega, by unfold In64; omega, fun y hy => ?_⟩
  have h2 := h1.2.2.2 y hy
  unfold validHop at h2
  simp only [Bool.and_eq_true, inR_iff] at h2
  unfold rng_hop In64
  omega
theorem dp2_sz {b : List UInt8} {x : Pkt} {ok : Bool} (hr : dp2 (decPkt b) = (x, ok)) : sz_pkt x ≤ 67 := by
  cases hd : decPkt b with
  | none => rw [hd] at hr; cases hr; exact Nat.zero_le _
  | some y =>
    rw [hd] at hr
    cases hr
    unfold decPkt at hd
    split at hd
    · cases hd
    · split at hd
      · cases hd
      · rename_i pay j2 hb
        split at hd
        · cases hd
        · rename_i p j3 hp
          split at hd
          · split at hd
            · cases hd
              have h1 := (rb_yes (b := b) (l := pay) (j := j2) (ok := true) (by rw [hb]; rfl) rfl).2.2.2
              have h2 : sz_path p ≤ 27 := encPath_sz (readP_out hp).1
              show sz_path p + pay.length ≤ 67
              omega
            · cases hd
          · cases hd
set_option maxHeartbeats 1000000 in
theorem impl_DecodePacket (b : List UInt8) (v : Value) {x0 : Pkt} {ok0 : Bool} (w : World) (h : SlR byteT w v b) (hz : b.length ≤ 1048576) (hr : dp2 (decPkt b) = (x0, ok0)) : Calls Tryz.prog 34 #[v] w fun e w' => ∃ cs fp, e = .returned (.tuple #[.agg cs.toArray, .bool ok0]) ∧ pktT.O w.heap.size w' cs x0 fp ∧ Below w.heap.size w w' := by
 obtain ⟨l1, j1, ok1, hr1⟩ : ∃ l j ok, dec3 (decI b 0 8) = (l, j, ok) := ⟨_, _, _, rfl⟩
 obtain ⟨pay, j2, ok2, hr2⟩ : ∃ l j ok, rb3 (readB b j1 40) = (l, j, ok) := ⟨_, _, _, rfl⟩
 obtain ⟨p3, j3, ok3, hr3⟩ : ∃ l j ok, rp3 (readP b j2) = (l, j, ok) := ⟨_, _, _, rfl⟩
 have X0 := Below.refl w.heap.size w
 refine enter Tryz.func34 rfl Tryz.ntmps34 rfl ?_
 refine w_s ?_
 refine w_g ?_
 have S := Sep.nil w
 have B := Below.refl w.heap.size w
 have Hb := Nat.le_refl w.heap.size
 refine t_w S z_pkt rfl ?_ rfl rfl
 intro g2 w1 x2 S
 have B := bx Hb B x2
 refine t_a rfl ?_ rfl
 refine t_d ?_
 refine x_s ?_
 refine w_s ?_
 refine w_g ?_
 refine t_m rfl ?_ rfl
 refine t_c Tryz.call89 rfl (impl_DecodeInts _ _ _ _ _ (by first | assumption | exact SlR.below ‹_› B) (by omega) hr1) ?_ rfl rfl
 rintro e w3 ⟨v14, fpv14, rfl, hOv14, x4⟩
 refine ⟨_, rfl, x4, ?_⟩
 have S := S.add (o := slO _ _ _ _) x4 hOv14
 have B := bx Hb B x4
 refine t_m rfl ?_ rfl
 iterate 3 refine t_extract rfl rfl ?_ rfl
 iterate 3 refine t_a rfl ?_ rfl
 refine t_d ?_
 refine x_s ?_
 iterate 2 refine w_s ?_
 refine w_g ?_
 refine t_m rfl ?_ rfl
 refine t_notb rfl ?_ rfl
 refine t_d ?_
 refine x_s ?_
 refine w_ifb rfl ?_ ?_
 ·intro hno
  refine w_s ?_
  refine w_g ?_
  refine t_g (fun w => b_pkt w) rfl ?_ rfl
  have S := S.f1
  refine t_stn S sb_pkt rfl rfl rfl rfl (by simp [Value.oneCell']) ?_
  intro w5 b6 S
  have B := B.trans b6
  refine t_a rfl ?_ rfl
  refine t_d ?_
  refine x_s ?_
  refine w_r ?_
  refine x_t ?_
  refine x_retct rfl rfl S.box ab_pkt sb_pkt rfl rfl ?_
  rw [dp_no1 (dec_no hr1 hno)] at hr
  cases hr
  have S := Sep.addNil (T := byteT) (e := 5) S
  have S := Sep.addNil (T := partT) (e := 82) S
  have S := S.pktShut (x := pk0)
  obtain ⟨fp, hO⟩ := (S.mono X0.size).head
  exact ⟨_, fp, rfl, hO, ext_trans X0 B⟩
 intro hyes1
 obtain ⟨ha1, ha2, ha3, ha4, ha5, ha6⟩ := dec_yes hr1 hyes1
 have hl8 : l1.length = 8 := by simpa using ha2
 have hjt : ((j1.toNat : Nat) : Int) = j1 := by omega
 refine w_k ?_
 refine x_s ?_
 refine w_s ?_
 refine w_g ?_
 iterate 2 refine t_m rfl ?_ rfl
 refine t_c Tryz.call90 rfl (impl_ReadBytes _ _ _ _ _ (by first | assumption | exact SlR.below ‹_› B) (by omega) (by omega) hr2) ?_ rfl rfl
 rintro e w7 ⟨v24, fpv24, rfl, hOv24, x8⟩
 refine ⟨_, rfl, x8, ?_⟩
 have S := S.add (o := slO _ _ _ _) x8 hOv24
 have B := bx Hb B x8
 refine t_m rfl ?_ rfl
 iterate 3 refine t_extract rfl rfl ?_ rfl
 iterate 3 refine t_a rfl ?_ rfl
 refine t_d ?_
 refine x_s ?_
 iterate 2 refine w_s ?_
 refine w_g ?_
 refine t_m rfl ?_ rfl
 refine t_notb rfl ?_ rfl
 refine t_d ?_
 refine x_s ?_
 refine w_ifb rfl ?_ ?_
 ·intro hno
  refine w_s ?_
  refine w_g ?_
  refine t_g (fun w => b_pkt w) rfl ?_ rfl
  have S := S.f2
  refine t_stn S sb_pkt rfl rfl rfl rfl (by simp [Value.oneCell']) ?_
  intro w9 b10 S
  have B := B.trans b10
  refine t_a rfl ?_ rfl
  refine t_d ?_
  refine x_s ?_
  refine w_r ?_
  refine x_t ?_
  refine x_retct rfl rfl S.box ab_pkt sb_pkt rfl rfl ?_
  rw [dp_no2 ha1 (by rw [hjt]; exact rb_no hr2 hno)] at hr
  cases hr
  have S := Sep.addNil (T := byteT) (e := 5) S
  have S := Sep.addNil (T := partT) (e := 82) S
  have S := S.pktShut (x := pk0)
  obtain ⟨fp, hO⟩ := (S.mono X0.size).head
  exact ⟨_, fp, rfl, hO, ext_trans X0 B⟩
 intro hyes2
 obtain ⟨hb1, hb2, hb3, hb4⟩ := rb_yes hr2 hyes2
 rw [← hjt] at hb1
 have hpo := rp3_out hr3
 have hrng : ∀ y ∈ l1, In64 y := fun y hy => by
  have := ha3 y hy
  unfold In64; omega
 obtain ⟨e0, he0⟩ : ∃ e, l1[0]? = some e := getx (by omega)
 obtain ⟨e1, he1⟩ : ∃ e, l1[1]? = some e := getx (by omega)
 obtain ⟨e2, he2⟩ : ∃ e, l1[2]? = some e := getx (by omega)
 obtain ⟨e3, he3⟩ : ∃ e, l1[3]? = some e := getx (by omega)
 obtain ⟨e4, he4⟩ : ∃ e, l1[4]? = some e := getx (by omega)
 obtain ⟨e5, he5⟩ : ∃ e, l1[5]? = some e := getx (by omega)
 obtain ⟨e6, he6⟩ : ∃ e, l1[6]? = some e := getx (by omega)
 obtain ⟨e7, he7⟩ : ∃ e, l1[7]? = some e := getx (by omega)
 have hX : pktOf l1 p3 pay = ⟨e0, e1, e2, p3, e3, e4, e5, e6, e7, pay⟩ := by
  unfold pktOf
  rw [gI_eq he0, gI_eq he1, gI_eq he2, gI_eq he3, gI_eq he4, gI_eq he5, gI_eq he6, gI_eq he7]
 have hsX : sz_pkt ⟨e0, e1, e2, p3, e3, e4, e5, e6, e7, pay⟩ ≤ 1048576 := by show sz_path p3 + pay.length ≤ _; omega
 have hlX : lenOk_pkt ⟨e0, e1, e2, p3, e3, e4, e5, e6, e7, pay⟩ := ⟨lenOk_sz (p := p3) (by omega), by show pay.length ≤ _; omega⟩
 have hM : ∀ {i : Nat} {e : Int}, l1[i]? = some e → In64 e := fun h => hrng _ (List.mem_of_getElem? h)
 have hgX : rng_pkt ⟨e0, e1, e2, p3, e3, e4, e5, e6, e7, pay⟩ := ⟨hM he0, hM he1, hM he2, encPath_rng hpo.2.1, hM he3, hM he4, hM he5, hM he6, hM he7⟩
 refine w_k ?_
 refine x_s ?_
 refine w_s ?_
 refine w_g ?_
 iterate 2 refine t_m rfl ?_ rfl
 refine t_c Tryz.call91 rfl (impl_ReadPath _ _ _ _ (by first | assumption | exact SlR.below ‹_› B) (by omega) (by omega) hr3) ?_ rfl rfl
 rintro e w11 ⟨cs34, fp34, rfl, hO34, x12⟩
 refine ⟨_, rfl, x12, ?_⟩
 have S := S.add (o := tyO pathT _ _) x12 hO34
 have B := bx Hb B x12
 obtain ⟨u34_0, heq, S2⟩ := S.pathOpen
 subst heq
 have S := S2
 clear S2
 refine t_m rfl ?_ rfl
 iterate 3 refine t_extract rfl rfl ?_ rfl
 refine t_w S z_path rfl ?_ rfl rfl
 intro g9 w13 x14 S
 have B := bx Hb B x14
 refine t_stn S sb_path rfl rfl rfl rfl (by repeat first | exact oc0 | refine oc rfl ?_ | refine oc (SlR.cells (by have z := S; repeat first | assumption | exact z.sl | replace z := z.tail)).2 ?_) ?_
 intro w15 b16 S
 have B := B.trans b16
 iterate 2 refine t_a rfl ?_ rfl
 refine t_d ?_
 refine x_s ?_
 refine w_s ?_
 refine w_draw (.st .take 0 (.st .take 1 (.st .take 2 (.st .take 3 (.st .take 4 (.st .take 5 (.st .take 6 (.st .take 7 (.st .take 8 (.st .take 9 (.st .take 10 (.st .take 11 (.st .take 12 (.st .take 13 (.st .take 14 (.st .take 15 (.st .take 16 (.st .take 17 (.st .take 18 (.st .take 19 (.st .take 20 (.st .take 21 (.st .take 22 (.st .take 23 (.st .take 24 (.st .take 25 (.st .take 26 (.st .run 27 (.st .fin 28 .done))))))))))))))))))))))))))))) mixed (by kernel_rfl) ?_
 intro w17 x18
 have B := bx Hb B x18
 have S := S.below x18
 refine t_m rfl ?_ rfl
 refine t_idx e_int (k := 0) (S.tail.tail.tail.sl) he0 (Below.refl _ _) rfl rfl (by first | rfl | omega) ?_ rfl
 intro p39 hp39
 refine t_ldi ‹_› ab_int (Below.refl _ _) rfl ?_ rfl
 refine t_m rfl ?_ rfl
 refine t_idx e_int (k := 1) (S.tail.tail.tail.sl) he1 (Below.refl _ _) rfl rfl (by first | rfl | omega) ?_ rfl
 intro p42 hp42
 refine t_ldi ‹_› ab_int (Below.refl _ _) rfl ?_ rfl
 refine t_m rfl ?_ rfl
 refine t_idx e_int (k := 2) (S.tail.tail.tail.sl) he2 (Below.refl _ _) rfl rfl (by first | rfl | omega) ?_ rfl
 intro p45 hp45
 refine t_ldi ‹_› ab_int (Below.refl _ _) rfl ?_ rfl
 refine t_m rfl ?_ rfl
 refine t_idx e_int (k := 3) (S.tail.tail.tail.sl) he3 (Below.refl _ _) rfl rfl (by first | rfl | omega) ?_ rfl
 intro p48 hp48
 refine t_ldi ‹_› ab_int (Below.refl _ _) rfl ?_ rfl
 refine t_m rfl ?_ rfl
 refine t_idx e_int (k := 4) (S.tail.tail.tail.sl) he4 (Below.refl _ _) rfl rfl (by first | rfl | omega) ?_ rfl
 intro p51 hp51
 refine t_ldi ‹_› ab_int (Below.refl _ _) rfl ?_ rfl
 refine t_m rfl ?_ rfl
 refine t_idx e_int (k := 5) (S.tail.tail.tail.sl) he5 (Below.refl _ _) rfl rfl (by first | rfl | omega) ?_ rfl
 intro p54 hp54
 refine t_ldi ‹_› ab_int (Below.refl _ _) rfl ?_ rfl
 refine t_m rfl ?_ rfl
 refine t_idx e_int (k := 6) (S.tail.tail.tail.sl) he6 (Below.refl _ _) rfl rfl (by first | rfl | omega) ?_ rfl
 intro p57 hp57
 refine t_ldi ‹_› ab_int (Below.refl _ _) rfl ?_ rfl
 refine t_m rfl ?_ rfl
 refine t_idx e_int (k := 7) (S.tail.tail.tail.sl) he7 (Below.refl _ _) rfl rfl (by first | rfl | omega) ?_ rfl
 intro p60 hp60
 refine t_ldi ‹_› ab_int (Below.refl _ _) rfl ?_ rfl
 refine t_m rfl ?_ rfl
 refine t_b S.box ab_path sb_path rfl rfl ?_ rfl
 obtain ⟨Av24, cv24, rfl, _⟩ := S.tail.tail.sl.form
 obtain ⟨Au34_0, cu34_0, rfl, _⟩ := S.tail.sl.form
 refine t_g (fun w => b_pkt_0_1_2_4_5_6_7_8_9_3 _ _ _ _ _ _ _ _ _ _ _ _ _ _ w) rfl ?_ rfl
 refine t_w S z_pkt rfl ?_ rfl rfl
 intro g11 w19 x20 S
 have B := bx Hb B x20
 refine t_stn S sb_pkt rfl rfl rfl rfl (by repeat first | exact oc0 | refine oc rfl ?_ | refine oc (SlR.cells (by have z := S; repeat first | assumption | exact z.sl | replace z := z.tail)).2 ?_) ?_
 intro w21 b22 S
 have B := B.trans b22
 refine t_d' ?_
 refine x_s ?_
 iterate 2 refine w_s ?_
 refine w_g ?_
 refine t_m rfl ?_ rfl
 refine t_notb rfl ?_ rfl
 refine t_m rfl ?_ rfl
 refine t_part (t := 67) rfl ?_ ?_
 ·intro hno
  iterate 4 refine t_off rfl rfl rfl ?_ rfl
  refine t_q rfl rfl ?_ rfl
  refine t_m rfl ?_ rfl
  iterate 3 refine t_off rfl rfl rfl ?_ rfl
  refine t_q rfl rfl ?_ rfl
  refine t_d ?_
  refine x_s ?_
  refine w_yes rfl ?_
  refine w_s ?_
  refine w_g ?_
  refine t_g (fun w => b_pkt w) rfl ?_ rfl
  have S := S.f5
  refine t_stn S sb_pkt rfl rfl rfl rfl (by simp [Value.oneCell']) ?_
  intro w23 b24 S
  have B := B.trans b24
  refine t_a rfl ?_ rfl
  refine t_d ?_
  refine x_s ?_
  refine w_r ?_
  refine x_t ?_
  refine x_retct rfl rfl S.box ab_pkt sb_pkt rfl rfl ?_
  rw [dp_no3 ha1 hb1 (rp_nope hr3 hno)] at hr
  cases hr
  have S := Sep.addNil (T := byteT) (e := 5) S
  have S := Sep.addNil (T := partT) (e := 82) S
  have S := S.pktShut (x := pk0)
  obtain ⟨fp, hO⟩ := (S.mono X0.size).head
  exact ⟨_, fp, rfl, hO, ext_trans X0 B⟩
 intro hyes3
 have hc1 := rp_yep hr3 hyes3
 rw [dp_eq ha1 hb1 hc1, hX] at hr
 have hj3 : ((j3.toNat : Nat) : Int) = j3 := by omega
 refine t_on rfl rfl ?_
 refine t_m rfl ?_ rfl
 refine t_on rfl rfl ?_
 refine t_m rfl ?_ rfl
 refine t_on rfl rfl ?_
 refine t_len e_byte ‹_› rfl rfl ?_ rfl
 refine t_on rfl rfl ?_
 refine t_neq rfl rfl ?_ rfl
 refine t_p rfl rfl ?_ rfl
 refine t_m rfl ?_ rfl
 refine t_partp (t := 73) rfl ?_ ?_
 ·intro hne
  iterate 3 refine t_off rfl rfl rfl ?_ rfl
  refine t_q rfl rfl ?_ rfl
  refine t_d ?_
  refine x_s ?_
  refine w_yes rfl ?_
  refine w_s ?_
  refine w_g ?_
  refine t_g (fun w => b_pkt w) rfl ?_ rfl
  have S := S.f5
  refine t_stn S sb_pkt rfl rfl rfl rfl (by simp [Value.oneCell']) ?_
  intro w25 b26 S
  have B := B.trans b26
  refine t_a rfl ?_ rfl
  refine t_d ?_
  refine x_s ?_
  refine w_r ?_
  refine x_t ?_
  refine x_retct rfl rfl S.box ab_pkt sb_pkt rfl rfl ?_
  rw [if_neg (by omega)] at hr
  cases hr
  have S := Sep.addNil (T := byteT) (e := 5) S
  have S := Sep.addNil (T := partT) (e := 82) S
  have S := S.pktShut (x := pk0)
  obtain ⟨fp, hO⟩ := (S.mono X0.size).head
  exact ⟨_, fp, rfl, hO, ext_trans X0 B⟩
 intro heq
 rw [if_pos (by omega)] at hr
 refine t_on rfl rfl ?_
 refine t_b S.box ab_pkt sb_pkt rfl rfl ?_ rfl
 refine t_on rfl rfl ?_
 refine t_x Tryz.call47 rfl (va1 (pkt_mkv (x := ⟨e0, e1, e2, p3, e3, e4, e5, e6, e7, pay⟩) (S.tail.tail.sl) (S.tail.tail.tail.sl)) fun cs h => impl_ValidPacket _ cs _ h hsX hlX hgX) ?_ rfl rfl
 intro w27 x28
 have B := bx Hb B x28
 have S := S.below x28
 refine t_on rfl rfl ?_
 refine t_notb rfl ?_ rfl
 refine t_p rfl rfl ?_ rfl
 refine t_d ?_
 refine x_s ?_
 refine w_ifb rfl ?_ ?_
 ·intro hv
  refine w_s ?_
  refine w_g ?_
  refine t_g (fun w => b_pkt w) rfl ?_ rfl
  have S := S.f5
  refine t_stn S sb_pkt rfl rfl rfl rfl (by simp [Value.oneCell']) ?_
  intro w29 b30 S
  have B := B.trans b30
  refine t_a rfl ?_ rfl
  refine t_d ?_
  refine x_s ?_
  refine w_r ?_
  refine x_t ?_
  refine x_retct rfl rfl S.box ab_pkt sb_pkt rfl rfl ?_
  rw [if_neg (by simpa using hv)] at hr
  cases hr
  have S := Sep.addNil (T := byteT) (e := 5) S
  have S := Sep.addNil (T := partT) (e := 82) S
  have S := S.pktShut (x := pk0)
  obtain ⟨fp, hO⟩ := (S.mono X0.size).head
  exact ⟨_, fp, rfl, hO, ext_trans X0 B⟩
 intro hv
 rw [if_pos (by simpa using hv)] at hr
 refine w_k ?_
 refine x_s ?_
 refine w_s ?_
 refine w_g ?_
 refine t_b S.box ab_pkt sb_pkt rfl rfl ?_ rfl
 have S := S.f5
 refine t_stn S sb_pkt rfl rfl rfl rfl (by repeat first | exact oc0 | refine oc rfl ?_ | refine oc (SlR.cells (by have z := S; repeat first | assumption | exact z.sl | replace z := z.tail)).2 ?_) ?_
 intro w31 b32 S
 have B := B.trans b32
 refine t_a rfl ?_ rfl
 refine t_d ?_
 refine x_s ?_
 refine w_r ?_
 refine x_retct rfl rfl S.box ab_pkt sb_pkt rfl rfl ?_
 cases hr
 have S := S.f4.f4
 have S := S.pktShut (x := (⟨e0, e1, e2, p3, e3, e4, e5, e6, e7, pay⟩ : Pkt))
 obtain ⟨fp, hO⟩ := (S.mono X0.size).head
 exact ⟨_, fp, rfl, hO, ext_trans X0 B⟩
set_option maxHeartbeats 1000000 in
theorem spec_DecodePacket (b : List UInt8) (v : Value) {x0 : Pkt} {ok0 : Bool} (w : World) (h : SlR byteT w v b) (hz : b.length ≤ 1048576) (hr : dp2 (decPkt b) = (x0, ok0)) : Calls Tryz.prog 35 #[v] w fun e w' => ∃ cs fp, e = .returned (.tuple #[.agg cs.toArray, .bool ok0]) ∧ pktT.O w.heap.size w' cs x0 fp ∧ Below w.heap.size w w' := by
 obtain ⟨l1, j1, ok1, hr1⟩ : ∃ l j ok, dec3 (decI b 0 8) = (l, j, ok) := ⟨_, _, _, rfl⟩
 obtain ⟨pay, j2, ok2, hr2⟩ : ∃ l j ok, rb3 (readB b j1 40) = (l, j, ok) := ⟨_, _, _, rfl⟩
 obtain ⟨p3, j3, ok3, hr3⟩ : ∃ l j ok, rp3 (readP b j2) = (l, j, ok) := ⟨_, _, _, rfl⟩
 have X0 := Below.refl w.heap.size w
 refine enter Tryz.func35 rfl Tryz.ntmps35 rfl ?_
 refine w_s ?_
 refine w_g ?_
 have S := Sep.nil w
 have B := Below.refl w.heap.size w
 have Hb := Nat.le_refl w.heap.size
 refine t_w S z_pkt rfl ?_ rfl rfl
 intro g2 w33 x34 S
 have B := bx Hb B x34
 refine t_a rfl ?_ rfl
 refine t_d ?_
 refine x_s ?_
 refine w_s ?_
 refine w_g ?_
 refine t_m rfl ?_ rfl
 refine t_c Tryz.call92 rfl (spec_DecodeInts _ _ _ _ _ (by first | assumption | exact SlR.below ‹_› B) (by omega) hr1) ?_ rfl rfl
 rintro e w35 ⟨v16, fpv16, rfl, hOv16, x36⟩
 refine ⟨_, rfl, x36, ?_⟩
 have S := S.add (o := slO _ _ _ _) x36 hOv16
 have B := bx Hb B x36
 refine t_m rfl ?_ rfl
 iterate 3 refine t_extract rfl rfl ?_ rfl
 iterate 3 refine t_a rfl ?_ rfl
 refine t_d ?_
 refine x_s ?_
 iterate 2 refine w_s ?_
 refine w_g ?_
 refine t_m rfl ?_ rfl
 refine t_notb rfl ?_ rfl
 refine t_d ?_
 refine x_s ?_
 refine w_ifb rfl ?_ ?_
 ·intro hno
  refine w_s ?_
  refine w_g ?_
  refine t_g (fun w => b_pkt w) rfl ?_ rfl
  have S := S.f1
  refine t_stn S sb_pkt rfl rfl rfl rfl (by simp [Value.oneCell']) ?_
  intro w37 b38 S
  have B := B.trans b38
  refine t_a rfl ?_ rfl
  refine t_d ?_
  refine x_s ?_
  refine w_r ?_
  refine x_t ?_
  refine x_retct rfl rfl S.box ab_pkt sb_pkt rfl rfl ?_
  rw [dp_no1 (dec_no hr1 hno)] at hr
  cases hr
  have S := Sep.addNil (T := byteT) (e := 5) S
  have S := Sep.addNil (T := partT) (e := 82) S
  have S := S.pktShut (x := pk0)
  obtain ⟨fp, hO⟩ := (S.mono X0.size).head
  exact ⟨_, fp, rfl, hO, ext_trans X0 B⟩
 intro hyes1
 obtain ⟨ha1, ha2, ha3, ha4, ha5, ha6⟩ := dec_yes hr1 hyes1
 have hl8 : l1.length = 8 := by simpa using ha2
 have hjt : ((j1.toNat : Nat) : Int) = j1 := by omega
 refine w_k ?_
 refine x_s ?_
 refine w_s ?_
 refine w_g ?_
 iterate 2 refine t_m rfl ?_ rfl
 refine t_c Tryz.call93 rfl (spec_ReadBytes _ _ _ _ _ (by first | assumption | exact SlR.below ‹_› B) (by omega) (by omega) hr2) ?_ rfl rfl
 rintro e w39 ⟨v26, fpv26, rfl, hOv26, x40⟩
 refine ⟨_, rfl, x40, ?_⟩
 have S := S.add (o := slO _ _ _ _) x40 hOv26
 have B := bx Hb B x40
 refine t_m rfl ?_ rfl
 iterate 3 refine t_extract rfl rfl ?_ rfl
 iterate 3 refine t_a rfl ?_ rfl
 refine t_d ?_
 refine x_s ?_
 iterate 2 refine w_s ?_
 refine w_g ?_
 refine t_m rfl ?_ rfl
 refine t_notb rfl ?_ rfl
 refine t_d ?_
 refine x_s ?_
 refine w_ifb rfl ?_ ?_
 ·intro hno
  refine w_s ?_
  refine w_g ?_
  refine t_g (fun w => b_pkt w) rfl ?_ rfl
  have S := S.f2
  refine t_stn S sb_pkt rfl rfl rfl rfl (by simp [Value.oneCell']) ?_
  intro w41 b42 S
  have B := B.trans b42
  refine t_a rfl ?_ rfl
  refine t_d ?_
  refine x_s ?_
  refine w_r ?_
  refine x_t ?_
  refine x_retct rfl rfl S.box ab_pkt sb_pkt rfl rfl ?_
  rw [dp_no2 ha1 (by rw [hjt]; exact rb_no hr2 hno)] at hr
  cases hr
  have S := Sep.addNil (T := byteT) (e := 5) S
  have S := Sep.addNil (T := partT) (e := 82) S
  have S := S.pktShut (x := pk0)
  obtain ⟨fp, hO⟩ := (S.mono X0.size).head
  exact ⟨_, fp, rfl, hO, ext_trans X0 B⟩
 intro hyes2
 obtain ⟨hb1, hb2, hb3, hb4⟩ := rb_yes hr2 hyes2
 rw [← hjt] at hb1
 have hpo := rp3_out hr3
 have hrng : ∀ y ∈ l1, In64 y := fun y hy => by
  have := ha3 y hy
  unfold In64; omega
 obtain ⟨e0, he0⟩ : ∃ e, l1[0]? = some e := getx (by omega)
 obtain ⟨e1, he1⟩ : ∃ e, l1[1]? = some e := getx (by omega)
 obtain ⟨e2, he2⟩ : ∃ e, l1[2]? = some e := getx (by omega)
 obtain ⟨e3, he3⟩ : ∃ e, l1[3]? = some e := getx (by omega)
 obtain ⟨e4, he4⟩ : ∃ e, l1[4]? = some e := getx (by omega)
 obtain ⟨e5, he5⟩ : ∃ e, l1[5]? = some e := getx (by omega)
 obtain ⟨e6, he6⟩ : ∃ e, l1[6]? = some e := getx (by omega)
 obtain ⟨e7, he7⟩ : ∃ e, l1[7]? = some e := getx (by omega)
 have hX : pktOf l1 p3 pay = ⟨e0, e1, e2, p3, e3, e4, e5, e6, e7, pay⟩ := by
  unfold pktOf
  rw [gI_eq he0, gI_eq he1, gI_eq he2, gI_eq he3, gI_eq he4, gI_eq he5, gI_eq he6, gI_eq he7]
 have hsX : sz_pkt ⟨e0, e1, e2, p3, e3, e4, e5, e6, e7, pay⟩ ≤ 1048576 := by show sz_path p3 + pay.length ≤ _; omega
 have hlX : lenOk_pkt ⟨e0, e1, e2, p3, e3, e4, e5, e6, e7, pay⟩ := ⟨lenOk_sz (p := p3) (by omega), by show pay.length ≤ _; omega⟩
 have hM : ∀ {i : Nat} {e : Int}, l1[i]? = some e → In64 e := fun h => hrng _ (List.mem_of_getElem? h)
 have hgX : rng_pkt ⟨e0, e1, e2, p3, e3, e4, e5, e6, e7, pay⟩ := ⟨hM he0, hM he1, hM he2, encPath_rng hpo.2.1, hM he3, hM he4, hM he5, hM he6, hM he7⟩
 refine w_k ?_
 refine x_s ?_
 refine w_s ?_
 refine w_g ?_
 iterate 2 refine t_m rfl ?_ rfl
 refine t_c Tryz.call94 rfl (spec_ReadPath _ _ _ _ (by first | assumption | exact SlR.below ‹_› B) (by omega) (by omega) hr3) ?_ rfl rfl
 rintro e w43 ⟨cs36, fp36, rfl, hO36, x44⟩
 refine ⟨_, rfl, x44, ?_⟩
 have S := S.add (o := tyO pathT _ _) x44 hO36
 have B := bx Hb B x44
 obtain ⟨u36_0, heq, S2⟩ := S.pathOpen
 subst heq
 have S := S2
 clear S2
 refine t_m rfl ?_ rfl
 iterate 3 refine t_extract rfl rfl ?_ rfl
 refine t_w S z_path rfl ?_ rfl rfl
 intro g10 w45 x46 S
 have B := bx Hb B x46
 refine t_stn S sb_path rfl rfl rfl rfl (by repeat first | exact oc0 | refine oc rfl ?_ | refine oc (SlR.cells (by have z := S; repeat first | assumption | exact z.sl | replace z := z.tail)).2 ?_) ?_
 intro w47 b48 S
 have B := B.trans b48
 iterate 2 refine t_a rfl ?_ rfl
 refine t_d ?_
 refine x_s ?_
 iterate 2 refine w_s ?_
 refine w_g ?_
 refine t_m rfl ?_ rfl
 refine t_notb rfl ?_ rfl
 refine t_m rfl ?_ rfl
 refine t_part (t := 42) rfl ?_ ?_
 ·intro hno
  iterate 4 refine t_off rfl rfl rfl ?_ rfl
  refine t_q rfl rfl ?_ rfl
  refine t_d ?_
  refine x_s ?_
  refine w_yes rfl ?_
  refine w_s ?_
  refine w_g ?_
  refine t_g (fun w => b_pkt w) rfl ?_ rfl
  have S := S.f4
  refine t_stn S sb_pkt rfl rfl rfl rfl (by simp [Value.oneCell']) ?_
  intro w49 b50 S
  have B := B.trans b50
  refine t_a rfl ?_ rfl
  refine t_d ?_
  refine x_s ?_
  refine w_r ?_
  refine x_t ?_
  refine x_retct rfl rfl S.box ab_pkt sb_pkt rfl rfl ?_
  rw [dp_no3 ha1 hb1 (rp_nope hr3 hno)] at hr
  cases hr
  have S := Sep.addNil (T := byteT) (e := 5) S
  have S := Sep.addNil (T := partT) (e := 82) S
  have S := S.pktShut (x := pk0)
  obtain ⟨fp, hO⟩ := (S.mono X0.size).head
  exact ⟨_, fp, rfl, hO, ext_trans X0 B⟩
 intro hyes3
 have hc1 := rp_yep hr3 hyes3
 rw [dp_eq ha1 hb1 hc1, hX] at hr
 have hj3 : ((j3.toNat : Nat) : Int) = j3 := by omega
 refine t_on rfl rfl ?_
 refine t_m rfl ?_ rfl
 refine t_on rfl rfl ?_
 refine t_m rfl ?_ rfl
 refine t_on rfl rfl ?_
 refine t_len e_byte ‹_› rfl rfl ?_ rfl
 refine t_on rfl rfl ?_
 refine t_neq rfl rfl ?_ rfl
 refine t_p rfl rfl ?_ rfl
 refine t_d ?_
 refine x_s ?_
 refine w_if rfl ?_ ?_
 ·intro hne
  refine w_s ?_
  refine w_g ?_
  refine t_g (fun w => b_pkt w) rfl ?_ rfl
  have S := S.f4
  refine t_stn S sb_pkt rfl rfl rfl rfl (by simp [Value.oneCell']) ?_
  intro w51 b52 S
  have B := B.trans b52
  refine t_a rfl ?_ rfl
  refine t_d ?_
  refine x_s ?_
  refine w_r ?_
  refine x_t ?_
  refine x_retct rfl rfl S.box ab_pkt sb_pkt rfl rfl ?_
  rw [if_neg (by omega)] at hr
  cases hr
  have S := Sep.addNil (T := byteT) (e := 5) S
  have S := Sep.addNil (T := partT) (e := 82) S
  have S := S.pktShut (x := pk0)
  obtain ⟨fp, hO⟩ := (S.mono X0.size).head
  exact ⟨_, fp, rfl, hO, ext_trans X0 B⟩
 intro heq
 rw [if_pos (by omega)] at hr
 refine w_k ?_
 refine x_s ?_
 refine w_s ?_
 refine w_draw (.st .take 0 (.st .take 1 (.st .take 2 (.st .take 3 (.st .take 4 (.st .take 5 (.st .take 6 (.st .take 7 (.st .take 8 (.st .take 9 (.st .take 10 (.st .take 11 (.st .take 12 (.st .take 13 (.st .take 14 (.st .take 15 (.st .take 16 (.st .take 17 (.st .take 18 (.st .take 19 (.st .take 20 (.st .take 21 (.st .take 22 (.st .take 23 (.st .take 24 (.st .take 25 (.st .take 26 (.st .run 27 (.st .fin 28 .done))))))))))))))))))))))))))))) mixed (by kernel_rfl) ?_
 intro w53 x54
 have B := bx Hb B x54
 have S := S.below x54
 refine t_m rfl ?_ rfl
 refine t_idx e_int (k := 0) (S.tail.tail.tail.sl) he0 (Below.refl _ _) rfl rfl (by first | rfl | omega) ?_ rfl
 intro p50 hp50
 refine t_ldi ‹_› ab_int (Below.refl _ _) rfl ?_ rfl
 refine t_m rfl ?_ rfl
 refine t_idx e_int (k := 1) (S.tail.tail.tail.sl) he1 (Below.refl _ _) rfl rfl (by first | rfl | omega) ?_ rfl
 intro p53 hp53
 refine t_ldi ‹_› ab_int (Below.refl _ _) rfl ?_ rfl
 refine t_m rfl ?_ rfl
 refine t_idx e_int (k := 2) (S.tail.tail.tail.sl) he2 (Below.refl _ _) rfl rfl (by first | rfl | omega) ?_ rfl
 intro p56 hp56
 refine t_ldi ‹_› ab_int (Below.refl _ _) rfl ?_ rfl
 refine t_b S.box ab_path sb_path rfl rfl ?_ rfl
 refine t_m rfl ?_ rfl
 refine t_idx e_int (k := 3) (S.tail.tail.tail.sl) he3 (Below.refl _ _) rfl rfl (by first | rfl | omega) ?_ rfl
 intro p60 hp60
 refine t_ldi ‹_› ab_int (Below.refl _ _) rfl ?_ rfl
 refine t_m rfl ?_ rfl
 refine t_idx e_int (k := 4) (S.tail.tail.tail.sl) he4 (Below.refl _ _) rfl rfl (by first | rfl | omega) ?_ rfl
 intro p63 hp63
 refine t_ldi ‹_› ab_int (Below.refl _ _) rfl ?_ rfl
 refine t_m rfl ?_ rfl
 refine t_idx e_int (k := 5) (S.tail.tail.tail.sl) he5 (Below.refl _ _) rfl rfl (by first | rfl | omega) ?_ rfl
 intro p66 hp66
 refine t_ldi ‹_› ab_int (Below.refl _ _) rfl ?_ rfl
 refine t_m rfl ?_ rfl
 refine t_idx e_int (k := 6) (S.tail.tail.tail.sl) he6 (Below.refl _ _) rfl rfl (by first | rfl | omega) ?_ rfl
 intro p69 hp69
 refine t_ldi ‹_› ab_int (Below.refl _ _) rfl ?_ rfl
 refine t_m rfl ?_ rfl
 refine t_idx e_int (k := 7) (S.tail.tail.tail.sl) he7 (Below.refl _ _) rfl rfl (by first | rfl | omega) ?_ rfl
 intro p72 hp72
 refine t_ldi ‹_› ab_int (Below.refl _ _) rfl ?_ rfl
 refine t_m rfl ?_ rfl
 obtain ⟨Au36_0, cu36_0, rfl, _⟩ := S.tail.sl.form
 obtain ⟨Av26, cv26, rfl, _⟩ := S.tail.tail.sl.form
 refine t_g (fun w => b_pkt_0_1_2_3_4_5_6_7_8_9 _ _ _ _ _ _ _ _ _ _ _ _ _ _ w) rfl ?_ rfl
 refine t_w S z_pkt rfl ?_ rfl rfl
 intro g13 w55 x56 S
 have B := bx Hb B x56
 refine t_stn S sb_pkt rfl rfl rfl rfl (by repeat first | exact oc0 | refine oc rfl ?_ | refine oc (SlR.cells (by have z := S; repeat first | assumption | exact z.sl | replace z := z.tail)).2 ?_) ?_
 intro w57 b58 S
 have B := B.trans b58
 refine t_d' ?_
 refine x_s ?_
 iterate 2 refine w_s ?_
 refine w_g ?_
 refine t_b S.box ab_pkt sb_pkt rfl rfl ?_ rfl
 refine t_x Tryz.call48 rfl (va1 (pkt_mkv (x := ⟨e0, e1, e2, p3, e3, e4, e5, e6, e7, pay⟩) (S.tail.tail.sl) (S.tail.tail.tail.sl)) fun cs h => spec_ValidPacket _ cs _ h hsX hlX hgX) ?_ rfl rfl
 intro w59 x60
 have B := bx Hb B x60
 have S := S.below x60
 refine t_notb rfl ?_ rfl
 refine t_d ?_
 refine x_s ?_
 refine w_ifb rfl ?_ ?_
 ·intro hv
  refine w_s ?_
  refine w_g ?_
  refine t_g (fun w => b_pkt w) rfl ?_ rfl
  have S := S.f5
  refine t_stn S sb_pkt rfl rfl rfl rfl (by simp [Value.oneCell']) ?_
  intro w61 b62 S
  have B := B.trans b62
  refine t_a rfl ?_ rfl
  refine t_d ?_
  refine x_s ?_
  refine w_r ?_
  refine x_t ?_
  refine x_retct rfl rfl S.box ab_pkt sb_pkt rfl rfl ?_
  rw [if_neg (by simpa using hv)] at hr
  cases hr
  have S := Sep.addNil (T := byteT) (e := 5) S
  have S := Sep.addNil (T := partT) (e := 82) S
  have S := S.pktShut (x := pk0)
  obtain ⟨fp, hO⟩ := (S.mono X0.size).head
  exact ⟨_, fp, rfl, hO, ext_trans X0 B⟩
 intro hv
 rw [if_pos (by simpa using hv)] at hr
 refine w_k ?_
 refine x_s ?_
 refine w_s ?_
 refine w_g ?_
 refine t_b S.box ab_pkt sb_pkt rfl rfl ?_ rfl
 have S := S.f5
 refine t_stn S sb_pkt rfl rfl rfl rfl (by repeat first | exact oc0 | refine oc rfl ?_ | refine oc (SlR.cells (by have z := S; repeat first | assumption | exact z.sl | replace z := z.tail)).2 ?_) ?_
 intro w63 b64 S
 have B := B.trans b64
 refine t_a rfl ?_ rfl
 refine t_d ?_
 refine x_s ?_
 refine w_r ?_
 refine x_retct rfl rfl S.box ab_pkt sb_pkt rfl rfl ?_
 cases hr
 have S := S.f4.f4
 have S := S.pktShut (x := (⟨e0, e1, e2, p3, e3, e4, e5, e6, e7, pay⟩ : Pkt))
 obtain ⟨fp, hO⟩ := (S.mono X0.size).head
 exact ⟨_, fp, rfl, hO, ext_trans X0 B⟩
end Go.Proofs.YtdaecknfahgddaaGreat
namespace Go.Proofs.YtdaecknfahgddaaGreat
open Go.RowKit
set_option linter.unusedVariables false
set_option maxRecDepth 20000
theorem readB_write {s : List UInt8} (h : s.length ≤ 40) (pre post : List UInt8) : readB (pre ++ (vint (s.length : Int) ++ (s ++ post))) pre.length 40 = some (s, ((pre.length + (vint (s.length : Int)).length + s.length : Nat) : Int)) := by
  have h1 := readV_vint (n := (s.length : Int)) (by omega) (by omega) pre (s ++ post)
  rw [← readVI_nat] at h1
  have hl : (pre ++ (vint (s.length : Int) ++ (s ++ post))).length = pre.length + (vint (s.length : Int)).length + s.length + post.length := by
    simp only [List.length_append]; omega
  rw [readB_yes h1 (by rw [hl]; omega)]
  have e : (((pre.length + (vint (s.length : Int)).length : Nat) : Int) + (s.length : Int)).toNat = pre.length + (vint (s.length : Int)).length + s.length := by omega
  have e2 : pre ++ (vint (s.length : Int) ++ (s ++ post)) = ((pre ++ vint (s.length : Int)) ++ s) ++ post := by simp
  have e3 : (((pre ++ vint (s.length : Int)) ++ s) ++ post).take (pre.length + (vint (s.length : Int)).length + s.length) = (pre ++ vint (s.length : Int)) ++ s := by
    rw [List.take_append_of_le_length (by simp only [List.length_append]; omega), List.take_of_length_le (by simp only [List.length_append]; omega)]
  have e4 : ((pre ++ vint (s.length : Int)) ++ s).drop (pre.length + (vint (s.length : Int)).length) = s := by
    rw [← List.length_append, List.drop_left]
  rw [e, e2, e3, e4]
  congr 2
theorem readB_back {b s : List UInt8} {i : Int} {most j : Int} (h : readB b i most = some (s, j)) : 0 ≤ i ∧ (s.length : Int) ≤ most ∧ b.take j.toNat = b.take i.toNat ++ (vint (s.length : Int) ++ s) := by
  cases hv : readVI b i with
  | none => rw [readB_no hv] at h; cases h
  | some q =>
    obtain ⟨n, m⟩ := q
    have ho := readVI_out hv
    have ho1 : 0 ≤ n := ho.1
    have ho2 : m ≤ b.length := ho.2.2.2.1
    by_cases hb : most < n ∨ (b.length : Int) - m < n
    · rw [readB_bad hv hb] at h; cases h
    · rw [readB_yes hv hb] at h
      cases h
      have hi0 : 0 ≤ i := ho.2.2.2.2
      have hv2 : readV b i.toNat = some (n, m) := by rw [readVI, if_pos hi0] at hv; exact hv
      have hbk := (readV_back hv2).1
      simp only at hbk
      have hsl : (((b.take ((m : Int) + n).toNat).drop m).length : Int) = n := by
        rw [List.length_drop, List.length_take]; omega
      refine ⟨hi0, by rw [hsl]; omega, ?_⟩
      rw [hsl, ← List.append_assoc, ← hbk]
      have e : b.take m = (b.take ((m : Int) + n).toNat).take m := by rw [List.take_take, Nat.min_eq_left (by omega)]
      rw [e, List.take_append_drop]
theorem pktInts_in {x : Pkt} (h : validPkt x = true) : (∀ y ∈ pktInts x, 0 ≤ y ∧ y ≤ 1000000000000) ∧ encPath x.path = true ∧ x.pay.length ≤ 40 := by
  have hv := h
  unfold validPkt tailOk at hv
  simp only [Bool.and_eq_true, inR_iff, Bool.not_eq_true', decide_eq_false_iff_not, decide_eq_true_eq] at hv
  obtain ⟨v1, v2, v3, v4, v5, v6, v7, v8, v9, v10, v11⟩ := hv
  obtain ⟨k, y, j, s1, s2, s3, s4, s5, s6⟩ := stands v4
  have hp := encPath_part v2
  have hy := encPart_ints (hp.2 y (List.mem_of_getElem? s3))
  have e : List.length x.path = x.path.length := rfl
  refine ⟨fun z hz => ?_, v2, by omega⟩
  simp only [pktInts, List.mem_cons, List.not_mem_nil, or_false] at hz
  rcases hz with rfl | rfl | rfl | rfl | rfl | rfl | rfl | rfl <;> omega
/-- A packet's encoding is read as_ the packet. -/
theorem decPkt_write {x : Pkt} (h : validPkt x = true) : decPkt (pktEnc x) = some x := by
  obtain ⟨h1, h2, h3⟩ := pktInts_in h
  have e : pktEnc x = (((pktInts x).flatMap vint ++ vint (x.pay.length : Int)) ++ x.pay) ++ pathEnc x.path := by unfold pktEnc; rw [if_pos h]
  have e1 : pktEnc x = [] ++ ((pktInts x).flatMap vint ++ (vint (x.pay.length : Int) ++ (x.pay ++ pathEnc x.path))) := by rw [e]; simp
  have e2 : pktEnc x = (pktInts x).flatMap vint ++ (vint (x.pay.length : Int) ++ (x.pay ++ pathEnc x.path)) := by rw [e]; simp
  have e3 : pktEnc x = (((pktInts x).flatMap vint ++ vint (x.pay.length : Int)) ++ x.pay) ++ (pathEnc x.path ++ []) := by rw [e]; simp
  have d1 := decA_vint (pktInts x) [] [] (vint (x.pay.length : Int) ++ (x.pay ++ pathEnc x.path)) h1
  rw [← e1, List.nil_append, show (pktInts x).length = 8 from rfl, List.length_nil, Nat.zero_add] at d1
  have d1' : decI (pktEnc x) 0 8 = some (pktInts x, ((pktInts x).flatMap vint).length) := by
    rw [decI_at (by omega) (by omega) (by omega) (by omega)]
    exact d1
  have d2 := readB_write h3 ((pktInts x).flatMap vint) (pathEnc x.path)
  rw [← e2] at d2
  have d3 := readP_write h2 (((pktInts x).flatMap vint ++ vint (x.pay.length : Int)) ++ x.pay) []
  rw [← e3] at d3
  have hl : (((pktInts x).flatMap vint ++ vint (x.pay.length : Int)) ++ x.pay).length = ((pktInts x).flatMap vint).length + (vint (x.pay.length : Int)).length + x.pay.length := by simp only [List.length_append]
  rw [hl] at d3
  have hlen : ((pktInts x).flatMap vint).length + (vint (x.pay.length : Int)).length + x.pay.length + (pathEnc x.path).length = (pktEnc x).length := by rw [e]; simp only [List.length_append]
  rw [dp_eq d1' d2 d3, if_pos hlen]
  have hx : pktOf (pktInts x) x.path x.pay = x := rfl
  rw [hx, if_pos h]
/-- What is read as_ a packet is that packet's encoding. -/
theorem decPkt_back {c : List UInt8} {x : Pkt} (h : decPkt c = some x) : validPkt x = true ∧ pktEnc x = c := by
 unfold decPkt at h
 cases h1 : decI c 0 8 with
 | none => rw [h1] at h; cases h
 | some q1 =>
  obtain ⟨l, j⟩ := q1
  rw [h1] at h
  simp only at h
  cases h2 : readB c j 40 with
  | none => rw [h2] at h; cases h
  | some q2 =>
   obtain ⟨pay, j2⟩ := q2
   rw [h2] at h
   simp only at h
   cases h3 : readP c j2 with
   | none => rw [h3] at h; cases h
   | some q3 =>
    obtain ⟨p, j3⟩ := q3
    rw [h3] at h
    simp only at h
    split at h
    ·rename_i hj3
     split at h
     ·rename_i hv
      cases h
      refine ⟨hv, ?_⟩
      have d1 : decA c 8 0 [] = some (l, j) := by
       rw [decI_at (by omega) (by omega) (by omega) (by omega)] at h1
       exact h1
      obtain ⟨l', a1, a2, a3, a4⟩ := decA_back 8 0 [] d1
      rw [List.nil_append] at a1
      simp only at a1
      subst a1
      obtain ⟨b1, b2, b3⟩ := readB_back h2
      obtain ⟨c1, c2, c3, c4⟩ := readP_back h3
      have hi : pktInts (pktOf l p pay) = l := by
       obtain ⟨x0, x1, x2, x3, x4, x5, x6, x7, rfl⟩ : ∃ a b c d e f g h, l = [a, b, c, d, e, f, g, h] := by
        rcases l with _ | ⟨a, _ | ⟨b, _ | ⟨c, _ | ⟨d, _ | ⟨e, _ | ⟨f, _ | ⟨g, _ | ⟨h, _ | ⟨i, t⟩⟩⟩⟩⟩⟩⟩⟩⟩
        all_goals first | exact ⟨_, _, _, _, _, _, _, _, rfl⟩ | (simp at a2; done) | (simp at a2; omega)
       rfl
      unfold pktEnc
      rw [if_pos hv, hi]
      simp only at a3 c3
      rw [hj3, List.take_length] at c3
      rw [Int.toNat_natCast] at b3
      rw [c3, b3, a3]
      show ((l.flatMap vint ++ vint (pay.length : Int)) ++ pay) ++ pathEnc p = _
      simp
     ·cases h
    ·cases h
end Go.Proofs.YtdaecknfahgddaaGreat
namespace Go.Proofs.YtdaecknfahgddaaGreat
set_option linter.unusedVariables false
section
variable (P : Program) (f : FuncId) (fn : Func) (s : ChangeSpec) (c : OpenClaim)
def jnA : Bool := c.wf (OpenSpec.ofChange s) && laidOutB P && mapsRowed P && fn.params.all (P.readableRec ·) && namedTie P c.named s.vars && (c.stops == []) && (P.stops == []) && (c.knobs == []) && (P.stopKnobs == [])
def jnB : Bool := (c.inPlace == P.inPlace f) && (c.unfollowed == P.unfollowed f) && (c.recurses == P.recurses f) && (c.named == P.varsNamed f)
def jnC : Bool := (c.maps == (fn.params.toList ++ s.plain.varTypes P).any (P.mapsRec ·)) && (c.ifaces == (fn.params.toList ++ s.plain.varTypes P).any (P.ifacesRec ·)) && (c.mapsOut == P.mapsAmong fn.resultTypes.toList) &&
  (c.loops == (fn.params.toList ++ s.plain.varTypes P).any (P.loopsFrom ·)) && (c.wideKeys == (fn.params.toList ++ s.plain.varTypes P ++ fn.resultTypes.toList).any (P.wideKeysFrom ·)) &&
  s.vars.all (P.varReadable ·) && fn.resultTypes.all (fun t => P.readableRec t && decide (t < P.types.size)) && (c.ifacesOut == fn.resultTypes.toList.any (P.ifacesRec ·)) && (c.loopsOut == fn.resultTypes.toList.any (P.loopsFrom ·)) && (c.plainKeys == P.plainKeys) && c.shortTexts.isNone
def jnD : Bool := P.stopsHeard
def jnE : Bool := P.mayEnter
def jnF : Bool := c.lifted == P.liftsFinal
def jnG : Bool := P.make == some c.make
def jnH : Bool := (c.kinds == (if c.domain.isEmpty then [] else fn.params.toList.map fun t => match P.underlying t with | some (.int k) => some k | _ => none))
def jnI : Bool := c.pinned == c.pinnedBy
def jnJ : Bool := (c.veiled == (fn.params.toList ++ s.plain.varTypes P ++ fn.resultTypes.toList).any (P.veiledRec ·)) && c.veiledFits P fn.params.toList (fn.params.toList ++ s.plain.varTypes P ++ fn.resultTypes.toList)
end
theorem joined_of {P : Program} {f : FuncId} {fn : Func} {s : ChangeSpec} {c : OpenClaim} (hA : jnA P fn s c = true) (hB : jnB P f c = true) (hC : jnC P fn s c = true) (hD : jnD P = true) (hE : jnE P = true) (hF : jnF P c = true) (hG : jnG P c = true) (hH : jnH P fn c = true) (hI : jnI c = true) (hJ : jnJ P fn s c = true) : joinedFacts P f fn s c = true := by
  unfold jnA at hA
  unfold jnB at hB
  unfold jnC at hC
  unfold jnD at hD
  unfold jnE at hE
  unfold jnF at hF
  unfold jnG at hG
  unfold jnH at hH
  unfold jnI at hI
  unfold jnJ at hJ
  simp only [Bool.and_eq_true] at hA hB hC hJ
  unfold joinedFacts
  simp only [Bool.and_eq_true]
  obtain ⟨⟨⟨⟨⟨⟨⟨⟨a1, a2⟩, a3⟩, a4⟩, a5⟩, a6⟩, a7⟩, a8⟩, a9⟩ := hA
  obtain ⟨⟨⟨b1, b2⟩, b3⟩, b4⟩ := hB
  obtain ⟨⟨⟨⟨⟨⟨⟨⟨⟨⟨c1, c2⟩, c3⟩, c4⟩, c5⟩, c6⟩, c7⟩, c8⟩, c9⟩, c10⟩, c11⟩ := hC
  obtain ⟨d1, d2⟩ := hJ
  exact ⟨⟨⟨⟨⟨⟨⟨⟨⟨⟨⟨⟨⟨⟨⟨⟨⟨⟨⟨⟨⟨⟨⟨⟨⟨⟨⟨⟨⟨⟨⟨a1, a2⟩, a3⟩, a4⟩, a5⟩, a6⟩, a7⟩, a8⟩, a9⟩, b1⟩, b2⟩, b3⟩, b4⟩, c1⟩, c2⟩, c3⟩, c4⟩, c5⟩, c6⟩, c7⟩, c8⟩, c9⟩, c10⟩, c11⟩, hD⟩, hE⟩, hF⟩, hG⟩, hH⟩, hI⟩, d1⟩, d2⟩
end Go.Proofs.YtdaecknfahgddaaGreat
namespace Go.Proofs.YtdaecknfahgddaaGreat
open Go.ChangeShapes Go.WideShapes Go.ChangeAt Go.RowKit Go.Deep
set_option linter.unusedVariables false
set_option maxRecDepth 100000
theorem knob : ownKnob Tryz.prog.godebug = none := by kernel_rfl
theorem laidOut : laidOutB Tryz.prog = true := by kernel_rfl
section
variable {H : Type} {enc : TypeId × Value → H} {P : Program} {w : World} {base : Nat} {spare : Nat → Bool} {held : Bool}
/-- A slice, by its elements. -/
theorem open_sl {α : Type} (T : Ty α) (good : α → Prop) {t e : TypeId} (ht : P.underlying t = some (.slice e)) (hC : P.cellsOf e = T.size)
  (hel : ∀ (n : Nat) cs y, DataW.trod enc P w base spare held n e cs = some y → ∃ a, T.R w cs a ∧ good a) {fuel : Nat} {cs : List Value} {x : DataW H × List MemPlace} (h : DataW.trod enc P w base spare held fuel t cs = some x) :
  ∃ A c l, cs = [.slice A l.length c] ∧ SlR T w (.slice A l.length c) l ∧ l.length ≤ 9223372036854775807 ∧ ∀ a ∈ l, good a := by
 rcases open_slice ht h with ⟨h0, _⟩ | ⟨a, len, cap, m, n, D, Pl, hcs, hb, hl, hm, hmm, hx, hi⟩
 ·exact ⟨none, 0, [], h0, ⟨none, 0, [], rfl, Nat.le_refl _, rfl, Rd.nil, fun i cs a hi => by simp at hi⟩, by simp, by simp⟩
 ·have hlm : len ≤ m := by rw [hmm]; split <;> omega
  have hall : ∀ i : Fin len, ∃ (cs : List Value) (x : α), T.R w cs x ∧ good x ∧ cs.length = T.size ∧ ∀ j, j < T.size → w.cell? ((a.add (i * T.size)).add j) = cs[j]? := fun i => by
   obtain ⟨cs', h1, h2⟩ := hi i (by omega)
   obtain ⟨x, h3, h4⟩ := hel _ _ _ h2
   obtain ⟨_, h5, h6⟩ := World.cells?_some h1
   rw [hC] at h5 h6
   exact ⟨cs', x, h3, h4, h5, h6⟩
  obtain ⟨f, hf⟩ := Classical.axiomOfChoice hall
  obtain ⟨g, hg⟩ := Classical.axiomOfChoice hf
  have hlen : (List.ofFn g).length = len := List.length_ofFn
  refine ⟨some a, cap, List.ofFn g, by rw [hlen]; exact hcs, ⟨some a, cap, List.ofFn f, rfl, by rw [hlen]; exact hl, by simp, ?_, ?_⟩, by rw [hlen]; simp only [maxLen] at hm; omega, ?_⟩
  ·intro hpos
   have hp : 0 < len := by
    rcases Nat.eq_zero_or_pos len with h0 | h0
    ·subst h0; simp at hpos
    ·exact h0
   have hsz := T.pos
   have hc0 := (hg ⟨0, hp⟩).2.2.2 0 hsz
   simp only [Nat.zero_mul] at hc0
   have hspot : a.spot = none := by
    have hsome : (w.cell? a).isSome = true := by
     have h9 : w.cell? a = (f ⟨0, hp⟩)[0]? := by
      have : (a.add 0).add 0 = a := by simp [Addr.add]
      rw [← this]; exact hc0
     rw [h9, List.getElem?_eq_getElem (by rw [(hg ⟨0, hp⟩).2.2.1]; exact hsz)]
     rfl
    unfold World.cell? at hsome
    split at hsome
    ·split at hsome
     ·simp at hsome
     ·rename_i hs; simpa using hs
    ·simp at hsome
   obtain ⟨ab, ao, as'⟩ := a
   simp only at hspot
   subst hspot
   refine ⟨ab, ao, rfl, fun j u hu => ?_⟩
   have hfl : ∀ (i : Nat) cs, (List.ofFn f)[i]? = some cs → cs.length = T.size := fun i cs hi => by
    obtain ⟨hlt, rfl⟩ := List.getElem?_eq_some_iff.1 hi
    rw [List.getElem_ofFn]
    exact (hg _).2.2.1
   have hj : j < len * T.size := by
    have := (List.getElem?_eq_some_iff.1 hu).1
    rw [flatten_len hfl, List.length_ofFn] at this
    exact this
   have hq : j / T.size < len := Nat.div_lt_of_lt_mul (by rw [Nat.mul_comm]; exact hj)
   have hr := Nat.mod_lt j hsz
   have ej : j / T.size * T.size + j % T.size = j := by rw [Nat.mul_comm]; exact Nat.div_add_mod j T.size
   have h1 := (hg ⟨j / T.size, hq⟩).2.2.2 (j % T.size) hr
   have h2 := flatten_at hfl (j / T.size) (f ⟨j / T.size, hq⟩) (by rw [List.getElem?_ofFn, dif_pos hq]) (j % T.size) hr
   rw [ej] at h2
   rw [Addr.add_lit, Addr.add_lit] at h1
   simp only [Nat.add_assoc] at h1
   rw [ej] at h1
   rw [h1, ← h2]
   exact hu
  ·intro i cs x hi hx
   have hlt : i < len := by
    have := (List.getElem?_eq_some_iff.1 hi).1
    simpa using this
   rw [List.getElem?_ofFn, dif_pos hlt] at hi hx
   injection hi with hi
   injection hx with hx
   subst hi hx
   exact (hg _).1
  ·intro x hx
   obtain ⟨i, hi, rfl⟩ := List.getElem_of_mem hx
   rw [List.getElem_ofFn]
   exact (hg _).2.1
end
section
variable {H : Type} {enc : TypeId × Value → H} {w : World} {base : Nat} {spare : Nat → Bool} {held : Bool}
end
end Go.Proofs.YtdaecknfahgddaaGreat
namespace Go.Proofs.YtdaecknfahgddaaGreat
open Go.ChangeShapes Go.WideShapes Go.ChangeAt Go.RowKit Go.Deep
set_option linter.unusedVariables false
set_option maxRecDepth 100000
section
variable {H : Type} {enc : TypeId × Value → H} {w : World} {base : Nat} {spare : Nat → Bool} {held : Bool}
theorem byte_of (n : Nat) (cs : List Value) (y : DataW H × List MemPlace) (h : DataW.trod enc Tryz.prog w base spare held n 5 cs = some y) : ∃ a : UInt8, byteT.R w cs a ∧ True := by
  obtain ⟨a, e, _, wf⟩ := DataW.trod_int Tryz.underlying5 h
  have hb := bounds_u8 wf
  refine ⟨UInt8.ofNat a.toNat, ?_, trivial⟩
  show cs = [.int .u8 ((UInt8.ofNat a.toNat).toNat : Int)]
  rw [e, UInt8.toNat_ofNat', Nat.mod_eq_of_lt (by omega), Int.toNat_of_nonneg hb.1]
end
end Go.Proofs.YtdaecknfahgddaaGreat
namespace Go.Proofs.YtdaecknfahgddaaGreat
open Go.ChangeShapes Go.WideShapes Go.ChangeAt Go.RowKit Go.Deep
set_option linter.unusedVariables false
set_option maxRecDepth 100000
section
variable {H : Type} {enc : TypeId × Value → H} {w : World} {base : Nat} {spare : Nat → Bool} {held : Bool}
theorem open_byteS {r : Reach} {b0 : Nat} {v : Value} {d : DataW H} {p : List MemPlace} (hv : Value.okWide Tryz.prog w r b0 22 v) (h : DataW.Trod enc Tryz.prog w base spare held 22 v d p) :
    ∃ l, SlR byteT w v l ∧ l.length ≤ 9223372036854775807 := by
  obtain ⟨a0, len, cap, rfl⟩ := okWide_slice Tryz.underlying22 hv
  obtain ⟨fuel, hf⟩ := h
  obtain ⟨A, c, l, e, hR, hn, hg⟩ := open_sl byteT (fun _ => True) Tryz.underlying22 (by kernel_rfl) byte_of hf
  simp [Value.cells] at e
  obtain ⟨rfl, rfl, rfl⟩ := e
  exact ⟨l, hR, hn⟩
end
end Go.Proofs.YtdaecknfahgddaaGreat
