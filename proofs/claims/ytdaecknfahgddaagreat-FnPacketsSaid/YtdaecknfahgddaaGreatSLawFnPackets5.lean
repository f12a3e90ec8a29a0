/- What LawFnPackets needs of the texts below it, part 5: contracts of functions, plain lemmas. (Put together by slim.py.) -/
import Derived.Test.YtdaecknfahgddaaGreatSLawFnPackets4
namespace Go.Proofs.YtdaecknfahgddaaGreat
open Go.RowKit
set_option linter.unusedVariables false
set_option maxRecDepth 20000
theorem impl_EncodeInts (l : List Int) (v : Value) (w : World) (h : SlR intT w v l) (hz : l.length ≤ 1000000) (hne : l ≠ []) : Calls Tryz.prog 85 #[v] w fun e w' => ∃ v fp, e = .returned v ∧ SlO byteT 5 w.heap.size w' v (l.flatMap vint) fp ∧ Below w.heap.size w w' := by
  have X0 := Below.refl w.heap.size w
  refine enter Tryz.func85 rfl Tryz.ntmps85 rfl ?_
  refine w_s ?_
  refine w_g ?_
  have S := Sep.nil w
  have B := Below.refl w.heap.size w
  have Hb := Nat.le_refl w.heap.size
  refine t_a rfl ?_ rfl
  refine t_d ?_
  refine x_s ?_
  refine w_s ?_
  refine w_g ?_
  refine t_m rfl ?_ rfl
  refine t_c Tryz.call137 rfl (impl_appendInts _ _ _ _ _ nilR (by first | assumption | exact SlR.below ‹_› B) (by simp) (by omega) hne) ?_ rfl rfl
  rintro e w1 ⟨v4, fpv4, rfl, hOv4, x2⟩
  refine ⟨_, rfl, x2, ?_⟩
  have S := S.add (o := slO _ _ _ _) x2 hOv4
  have B := bx Hb B x2
  refine t_a rfl ?_ rfl
  refine t_d ?_
  refine x_s ?_
  refine w_r ?_
  refine x_ret1 rfl rfl ?_
  obtain ⟨fp, hO⟩ := (S.mono X0.size).head
  rw [List.nil_append] at hO
  exact ⟨_, fp, rfl, hO, ext_trans X0 B⟩
theorem impl_AppendBytes (b s : List UInt8) (v u : Value) (w : World) (h : SlR byteT w v b) (h' : SlR byteT w u s) (hz : b.length ≤ 1000000) (hz' : s.length ≤ 1048576) : Calls Tryz.prog 87 #[v, u] w fun e w' => ∃ v fp, e = .returned v ∧ SlO byteT 5 w.heap.size w' v ((b ++ vint (s.length : Int)) ++ s) fp ∧ Below w.heap.size w w' := by
  have hv := vint_len (s.length : Int)
  have X0 := Below.refl w.heap.size w
  refine enter Tryz.func87 rfl Tryz.ntmps87 rfl ?_
  refine w_s ?_
  refine w_g ?_
  have S := Sep.nil w
  have B := Below.refl w.heap.size w
  have Hb := Nat.le_refl w.heap.size
  refine t_a rfl ?_ rfl
  refine t_d ?_
  refine x_s ?_
  refine w_s ?_
  refine w_g ?_
  iterate 2 refine t_m rfl ?_ rfl
  refine t_len e_byte ‹_› rfl rfl ?_ rfl
  refine t_c Tryz.call138 rfl (impl_AppendVarint _ _ _ _ (by first | assumption | exact SlR.below ‹_› B) (by first | omega | (simp only [List.nil_append]; omega))) ?_ rfl rfl
  rintro e w3 ⟨v8, fpv8, rfl, hOv8, x4⟩
  refine ⟨_, rfl, x4, ?_⟩
  have S := S.add (o := slO _ _ _ _) x4 hOv8
  have B := bx Hb B x4
  refine t_m rfl ?_ rfl
  refine t_cat byte_flat e_byte S (by first | assumption | exact SlR.below ‹_› B) rfl rfl rfl (by first | omega | (simp [-List.length_flatMap]; omega)) (by (simp [maxLen, -List.length_flatMap]; try omega)) ?_ rfl
  intro v10 w5 x6 S
  have B := B.trans x6
  refine t_a rfl ?_ rfl
  refine t_d ?_
  refine x_s ?_
  refine w_r ?_
  refine x_ret1 rfl rfl ?_
  obtain ⟨fp, hO⟩ := (S.mono X0.size).head
  exact ⟨_, fp, rfl, hO, ext_trans X0 B⟩
theorem spec_AppendBytes (b s : List UInt8) (v u : Value) (w : World) (h : SlR byteT w v b) (h' : SlR byteT w u s) (hz : b.length ≤ 1000000) (hz' : s.length ≤ 1048576) : Calls Tryz.prog 100 #[v, u] w fun e w' => ∃ v fp, e = .returned v ∧ SlO byteT 5 w.heap.size w' v ((b ++ vint (s.length : Int)) ++ s) fp ∧ Below w.heap.size w w' := by
  have hv := vint_len (s.length : Int)
  have X0 := Below.refl w.heap.size w
  refine enter Tryz.func100 rfl Tryz.ntmps100 rfl ?_
  refine w_s ?_
  refine w_g ?_
  have S := Sep.nil w
  have B := Below.refl w.heap.size w
  have Hb := Nat.le_refl w.heap.size
  refine t_a rfl ?_ rfl
  refine t_d ?_
  refine x_s ?_
  refine w_s ?_
  refine w_g ?_
  iterate 2 refine t_m rfl ?_ rfl
  refine t_len e_byte ‹_› rfl rfl ?_ rfl
  refine t_c Tryz.call145 rfl (spec_AppendVarint _ _ _ _ (by first | assumption | exact SlR.below ‹_› B) (by first | omega | (simp only [List.nil_append]; omega))) ?_ rfl rfl
  rintro e w7 ⟨v8, fpv8, rfl, hOv8, x8⟩
  refine ⟨_, rfl, x8, ?_⟩
  have S := S.add (o := slO _ _ _ _) x8 hOv8
  have B := bx Hb B x8
  refine t_m rfl ?_ rfl
  refine t_cat byte_flat e_byte S (by first | assumption | exact SlR.below ‹_› B) rfl rfl rfl (by first | omega | (simp [-List.length_flatMap]; omega)) (by (simp [maxLen, -List.length_flatMap]; try omega)) ?_ rfl
  intro v10 w9 x10 S
  have B := B.trans x10
  refine t_a rfl ?_ rfl
  refine t_d ?_
  refine x_s ?_
  refine w_r ?_
  refine x_ret1 rfl rfl ?_
  obtain ⟨fp, hO⟩ := (S.mono X0.size).head
  exact ⟨_, fp, rfl, hO, ext_trans X0 B⟩
def pktInts (x : Pkt) : List Int := [x.kind, x.src, x.dst, x.pidx, x.hidx, x.beta, x.rid, x.seq]
def pktEnc (x : Pkt) : List UInt8 := if validPkt x = true then (((pktInts x).flatMap vint ++ vint (x.pay.length : Int)) ++ x.pay) ++ pathEnc x.path else []
theorem pktInts_enc (x : Pkt) : ((pktInts x).flatMap vint).length ≤ 48 := len_flat_le vint 6 (pktInts x) fun y _ => vint_len y
theorem pktEnc_len (x : Pkt) (h : sz_pkt x ≤ 1048576) : (pktEnc x).length ≤ 200000000 := by
  unfold pktEnc
  split
  · have h1 := pktInts_enc x
    have h2 := vint_len (x.pay.length : Int)
    have h3 := pathEnc_len x.path (by unfold sz_pkt at h; omega)
    have h4 : x.pay.length ≤ 1048576 := by unfold sz_pkt at h; omega
    simp only [List.length_append]
    omega
  · simp
theorem impl_EncodePacket (x : Pkt) (v : Value) (w : World) (hp : VA pktT w v x) (hz : sz_pkt x ≤ 1048576) (hl : lenOk_pkt x) (hg : rng_pkt x) : Calls Tryz.prog 32 #[v] w fun e w' => ∃ v fp, e = .returned v ∧ SlO byteT 5 w.heap.size w' v (pktEnc x) fp ∧ Below w.heap.size w w' := by
  have h1 := pktInts_enc x
  have h2 := vint_len (x.pay.length : Int)
  have h4 : x.pay.length ≤ 1048576 := by unfold sz_pkt at hz; omega
  have h5 : sz_path x.path ≤ 1048576 := by unfold sz_pkt at hz; omega
  have hl1 := hl.1
  have hg1 := hg.2.2.2.1
  have X0 := Below.refl w.heap.size w
  refine enter Tryz.func32 rfl Tryz.ntmps32 rfl ?_
  refine w_s ?_
  refine w_g ?_
  refine t_boxr ‹_› rfl ?_ rfl rfl
  intro p1 w11 x12 hp1
  replace hp := hp.below x12
  have X0 := ext_trans X0 x12
  have S := Sep.nil w11
  have B := Below.refl w11.heap.size w11
  have Hb := Nat.le_refl w11.heap.size
  refine t_a rfl ?_ rfl
  refine t_d ?_
  refine x_s ?_
  iterate 2 refine w_s ?_
  refine w_g ?_
  refine t_lda ‹_› ab_pkt sb_pkt B rfl ?_ rfl
  intro v4 hv4
  obtain ⟨v4_3, v4_9, rfl, hv4_3, hv4_9⟩ := pkt_va hv4
  refine t_x Tryz.call47 rfl (va1 (by first | assumption | exact VA.below ‹_› B | exact pkt_mkv (by first | assumption | exact SlR.below ‹_› B) (by first | assumption | exact SlR.below ‹_› B)) fun cs h => impl_ValidPacket _ cs _ h (by omega) ‹_› ‹_›) ?_ rfl rfl
  intro w13 x14
  have B := bx Hb B x14
  have S := S.below x14
  refine t_notb rfl ?_ rfl
  refine t_d ?_
  refine x_s ?_
  refine w_ifb rfl ?_ ?_
  · intro hv
    refine w_s ?_
    refine w_g ?_
    refine t_a rfl ?_ rfl
    refine t_d ?_
    refine x_s ?_
    refine w_r ?_
    refine x_t ?_
    refine x_ret1 rfl rfl ?_
    have e : pktEnc x = [] := by unfold pktEnc; rw [show validPkt x = false by simpa using hv]; rfl
    rw [e]
    obtain ⟨fp, hO⟩ := ((S.addNil (T := byteT) (e := 5)).mono X0.size).head
    first
      | exact ⟨_, fp, rfl, hO, ext_trans X0 B⟩
      | (obtain ⟨fp, hO⟩ := (S.mono X0.size).head
         exact ⟨_, fp, rfl, hO, ext_trans X0 B⟩)
  · intro hv
    have e : pktEnc x = ((((pktInts x).flatMap vint ++ vint (x.pay.length : Int)) ++ x.pay) ++ pathEnc x.path) := by unfold pktEnc; rw [if_pos (by simpa using hv)]
    have e2 : [x.kind, x.src, x.dst, x.pidx, x.hidx, x.beta, x.rid, x.seq].flatMap vint = (pktInts x).flatMap vint := rfl
    have h6 : ([x.kind, x.src, x.dst, x.pidx, x.hidx, x.beta, x.rid, x.seq].flatMap vint).length ≤ 48 := h1
    refine w_k ?_
    refine x_s ?_
    refine w_s ?_
    refine w_g ?_
    refine t_fld ln_pkt_0 ‹_› fb_pkt_0 rfl ?_ rfl
    intro p7 hp7
    refine t_ldi ‹_› ab_int B rfl ?_ rfl
    refine t_fld ln_pkt_1 ‹_› fb_pkt_1 rfl ?_ rfl
    intro p9 hp9
    refine t_ldi ‹_› ab_int B rfl ?_ rfl
    refine t_fld ln_pkt_2 ‹_› fb_pkt_2 rfl ?_ rfl
    intro p11 hp11
    refine t_ldi ‹_› ab_int B rfl ?_ rfl
    refine t_fld ln_pkt_4 ‹_› fb_pkt_4 rfl ?_ rfl
    intro p13 hp13
    refine t_ldi ‹_› ab_int B rfl ?_ rfl
    refine t_fld ln_pkt_5 ‹_› fb_pkt_5 rfl ?_ rfl
    intro p15 hp15
    refine t_ldi ‹_› ab_int B rfl ?_ rfl
    refine t_fld ln_pkt_6 ‹_› fb_pkt_6 rfl ?_ rfl
    intro p17 hp17
    refine t_ldi ‹_› ab_int B rfl ?_ rfl
    refine t_fld ln_pkt_7 ‹_› fb_pkt_7 rfl ?_ rfl
    intro p19 hp19
    refine t_ldi ‹_› ab_int B rfl ?_ rfl
    refine t_fld ln_pkt_8 ‹_› fb_pkt_8 rfl ?_ rfl
    intro p21 hp21
    refine t_ldi ‹_› ab_int B rfl ?_ rfl
    refine t_lit (T := intT) (l := [x.kind, x.src, x.dst, x.pidx, x.hidx, x.beta, x.rid, x.seq]) (css := ([x.kind, x.src, x.dst, x.pidx, x.hidx, x.beta, x.rid, x.seq]).map fun a => [I a]) int_flat S (fun w => bs_int8 _ _ _ _ _ _ _ _ w) rfl rfl rfl rfl (by simp [maxLen]) (litR_int _) ?_ rfl rfl
    intro u23 w15 x16 S
    have B := bx Hb B x16
    refine t_c Tryz.call85 rfl (impl_EncodeInts _ _ _ (S.sl) (by simp) (by simp)) ?_ rfl rfl
    rintro e w17 ⟨v24, fpv24, rfl, hOv24, x18⟩
    refine ⟨_, rfl, x18, ?_⟩
    have S := S.add (o := slO _ _ _ _) x18 hOv24
    have B := bx Hb B x18
    refine t_a rfl ?_ rfl
    refine t_d ?_
    refine x_s ?_
    refine w_s ?_
    refine w_draw (.st .take 0 (.st .take 1 (.st .take 2 (.st .take 4 (.st .take 5 (.st .run 3 (.st .run 6 (.st .take 7 .done)))))))) mixed (by kernel_rfl) ?_
    intro w19 x20
    have B := bx Hb B x20
    have S := S.below x20
    refine t_m rfl ?_ rfl
    refine t_fld ln_pkt_9 ‹_› fb_pkt_9 rfl ?_ rfl
    intro p26 hp26
    refine t_lds ‹_› ab_s_byte B rfl ?_ rfl
    intro v27 hv27
    refine t_fld ln_pkt_3 ‹_› fb_pkt_3 rfl ?_ rfl
    intro p29 hp29
    refine t_lda ‹_› ab_path sb_path B rfl ?_ rfl
    intro v30 hv30
    obtain ⟨v30_0, rfl, hv30_0⟩ := path_va hv30
    refine t_c Tryz.call87 rfl (impl_AppendBytes _ _ _ _ _ (S.sl) (by first | assumption | exact SlR.below ‹_› B) (by omega) (by omega)) ?_ rfl rfl
    rintro e w21 ⟨v28, fpv28, rfl, hOv28, x22⟩
    refine ⟨_, rfl, x22, ?_⟩
    have S := S.add (o := slO _ _ _ _) x22 hOv28
    have B := bx Hb B x22
    refine t_c Tryz.call86 rfl (impl_AppendPath _ _ _ _ _ (S.sl) (by first | assumption | exact VA.below ‹_› B | exact path_mkv (by first | assumption | exact SlR.below ‹_› B)) (by first | omega | (simp; done) | (simp only [List.length_append]; omega)) (by omega) ‹_› ‹_›) ?_ rfl rfl
    rintro e w23 ⟨v31, fpv31, rfl, hOv31, x24⟩
    refine ⟨_, rfl, x24, ?_⟩
    have S := S.add (o := slO _ _ _ _) x24 hOv31
    have B := bx Hb B x24
    refine t_a rfl ?_ rfl
    refine t_d' ?_
    refine x_s ?_
    refine w_r ?_
    refine x_ret1 rfl rfl ?_
    obtain ⟨fp, hO⟩ := (S.mono X0.size).head
    rw [e]
    exact ⟨_, fp, rfl, hO, ext_trans X0 B⟩
theorem spec_EncodePacket (x : Pkt) (v : Value) (w : World) (hp : VA pktT w v x) (hz : sz_pkt x ≤ 1048576) (hl : lenOk_pkt x) (hg : rng_pkt x) : Calls Tryz.prog 40 #[v] w fun e w' => ∃ v fp, e = .returned v ∧ SlO byteT 5 w.heap.size w' v (pktEnc x) fp ∧ Below w.heap.size w w' := by
  have h1 := pktInts_enc x
  have h2 := vint_len (x.pay.length : Int)
  have h4 : x.pay.length ≤ 1048576 := by unfold sz_pkt at hz; omega
  have h5 : sz_path x.path ≤ 1048576 := by unfold sz_pkt at hz; omega
  have hl1 := hl.1
  have hg1 := hg.2.2.2.1
  have X0 := Below.refl w.heap.size w
  refine enter Tryz.func40 rfl Tryz.ntmps40 rfl ?_
  refine w_s ?_
  refine w_g ?_
  refine t_boxr ‹_› rfl ?_ rfl rfl
  intro p1 w25 x26 hp1
  replace hp := hp.below x26
  have X0 := ext_trans X0 x26
  have S := Sep.nil w25
  have B := Below.refl w25.heap.size w25
  have Hb := Nat.le_refl w25.heap.size
  refine t_a rfl ?_ rfl
  refine t_d ?_
  refine x_s ?_
  iterate 2 refine w_s ?_
  refine w_g ?_
  refine t_lda ‹_› ab_pkt sb_pkt B rfl ?_ rfl
  intro v4 hv4
  obtain ⟨v4_3, v4_9, rfl, hv4_3, hv4_9⟩ := pkt_va hv4
  refine t_x Tryz.call48 rfl (va1 (by first | assumption | exact VA.below ‹_› B | exact pkt_mkv (by first | assumption | exact SlR.below ‹_› B) (by first | assumption | exact SlR.below ‹_› B)) fun cs h => spec_ValidPacket _ cs _ h (by omega) ‹_› ‹_›) ?_ rfl rfl
  intro w27 x28
  have B := bx Hb B x28
  have S := S.below x28
  refine t_notb rfl ?_ rfl
  refine t_d ?_
  refine x_s ?_
  refine w_ifb rfl ?_ ?_
  · intro hv
    refine w_s ?_
    refine w_g ?_
    refine t_lit (T := byteT) (css := []) (l := []) byte_flat S bs_byte0 rfl rfl rfl rfl (Nat.zero_le _) litR_nil ?_ rfl rfl
    intro u7 w29 x30 S
    have B := bx Hb B x30
    refine t_a rfl ?_ rfl
    refine t_d ?_
    refine x_s ?_
    refine w_r ?_
    refine x_t ?_
    refine x_ret1 rfl rfl ?_
    have e : pktEnc x = [] := by unfold pktEnc; rw [show validPkt x = false by simpa using hv]; rfl
    rw [e]
    obtain ⟨fp, hO⟩ := ((S.addNil (T := byteT) (e := 5)).mono X0.size).head
    first
      | exact ⟨_, fp, rfl, hO, ext_trans X0 B⟩
      | (obtain ⟨fp, hO⟩ := (S.mono X0.size).head
         exact ⟨_, fp, rfl, hO, ext_trans X0 B⟩)
  · intro hv
    have e : pktEnc x = ((((pktInts x).flatMap vint ++ vint (x.pay.length : Int)) ++ x.pay) ++ pathEnc x.path) := by unfold pktEnc; rw [if_pos (by simpa using hv)]
    have e2 : [x.kind, x.src, x.dst, x.pidx, x.hidx, x.beta, x.rid, x.seq].flatMap vint = (pktInts x).flatMap vint := rfl
    have h6 : ([x.kind, x.src, x.dst, x.pidx, x.hidx, x.beta, x.rid, x.seq].flatMap vint).length ≤ 48 := h1
    refine w_k ?_
    refine x_s ?_
    refine w_s ?_
    refine w_g ?_
    refine t_fld ln_pkt_0 ‹_› fb_pkt_0 rfl ?_ rfl
    intro p8 hp8
    refine t_ldi ‹_› ab_int B rfl ?_ rfl
    refine t_fld ln_pkt_1 ‹_› fb_pkt_1 rfl ?_ rfl
    intro p10 hp10
    refine t_ldi ‹_› ab_int B rfl ?_ rfl
    refine t_fld ln_pkt_2 ‹_› fb_pkt_2 rfl ?_ rfl
    intro p12 hp12
    refine t_ldi ‹_› ab_int B rfl ?_ rfl
    refine t_fld ln_pkt_4 ‹_› fb_pkt_4 rfl ?_ rfl
    intro p14 hp14
    refine t_ldi ‹_› ab_int B rfl ?_ rfl
    refine t_fld ln_pkt_5 ‹_› fb_pkt_5 rfl ?_ rfl
    intro p16 hp16
    refine t_ldi ‹_› ab_int B rfl ?_ rfl
    refine t_fld ln_pkt_6 ‹_› fb_pkt_6 rfl ?_ rfl
    intro p18 hp18
    refine t_ldi ‹_› ab_int B rfl ?_ rfl
    refine t_fld ln_pkt_7 ‹_› fb_pkt_7 rfl ?_ rfl
    intro p20 hp20
    refine t_ldi ‹_› ab_int B rfl ?_ rfl
    refine t_fld ln_pkt_8 ‹_› fb_pkt_8 rfl ?_ rfl
    intro p22 hp22
    refine t_ldi ‹_› ab_int B rfl ?_ rfl
    refine t_lit (T := intT) (l := [x.kind, x.src, x.dst, x.pidx, x.hidx, x.beta, x.rid, x.seq]) (css := ([x.kind, x.src, x.dst, x.pidx, x.hidx, x.beta, x.rid, x.seq]).map fun a => [I a]) int_flat S (fun w => bs_int8 _ _ _ _ _ _ _ _ w) rfl rfl rfl rfl (by simp [maxLen]) (litR_int _) ?_ rfl rfl
    intro u24 w31 x32 S
    have B := bx Hb B x32
    refine t_c Tryz.call98 rfl (spec_EncodeInts _ _ _ (S.sl) (by first | omega | (simp; done) | (simp; omega))) ?_ rfl rfl
    rintro e w33 ⟨v25, fpv25, rfl, hOv25, x34⟩
    refine ⟨_, rfl, x34, ?_⟩
    have S := S.add (o := slO _ _ _ _) x34 hOv25
    have B := bx Hb B x34
    refine t_a rfl ?_ rfl
    refine t_d ?_
    refine x_s ?_
    refine w_s ?_
    refine w_draw (.st .take 0 (.st .take 1 (.st .take 2 (.st .take 4 (.st .take 5 (.st .run 3 (.st .run 6 (.st .take 7 .done)))))))) mixed (by kernel_rfl) ?_
    intro w35 x36
    have B := bx Hb B x36
    have S := S.below x36
    refine t_m rfl ?_ rfl
    refine t_fld ln_pkt_9 ‹_› fb_pkt_9 rfl ?_ rfl
    intro p27 hp27
    refine t_lds ‹_› ab_s_byte B rfl ?_ rfl
    intro v28 hv28
    refine t_fld ln_pkt_3 ‹_› fb_pkt_3 rfl ?_ rfl
    intro p30 hp30
    refine t_lda ‹_› ab_path sb_path B rfl ?_ rfl
    intro v31 hv31
    obtain ⟨v31_0, rfl, hv31_0⟩ := path_va hv31
    refine t_c Tryz.call100 rfl (spec_AppendBytes _ _ _ _ _ (S.sl) (by first | assumption | exact SlR.below ‹_› B) (by omega) (by omega)) ?_ rfl rfl
    rintro e w37 ⟨v29, fpv29, rfl, hOv29, x38⟩
    refine ⟨_, rfl, x38, ?_⟩
    have S := S.add (o := slO _ _ _ _) x38 hOv29
    have B := bx Hb B x38
    refine t_c Tryz.call99 rfl (spec_AppendPath _ _ _ _ _ (S.sl) (by first | assumption | exact VA.below ‹_› B | exact path_mkv (by first | assumption | exact SlR.below ‹_› B)) (by first | omega | (simp; done) | (simp only [List.length_append]; omega)) (by omega) ‹_› ‹_›) ?_ rfl rfl
    rintro e w39 ⟨v32, fpv32, rfl, hOv32, x40⟩
    refine ⟨_, rfl, x40, ?_⟩
    have S := S.add (o := slO _ _ _ _) x40 hOv32
    have B := bx Hb B x40
    refine t_a rfl ?_ rfl
    refine t_d' ?_
    refine x_s ?_
    refine w_r ?_
    refine x_ret1 rfl rfl ?_
    obtain ⟨fp, hO⟩ := (S.mono X0.size).head
    rw [e]
    exact ⟨_, fp, rfl, hO, ext_trans X0 B⟩
end Go.Proofs.YtdaecknfahgddaaGreat
namespace Go.Proofs.YtdaecknfahgddaaGreat
open Go.RowKit
set_option linter.unusedVariables false
set_option maxRecDepth 20000
abbrev Sv (l : List UInt8) : Value := .string ⟨l.toArray⟩
def strT : Ty (List UInt8) := flatT 1 (fun l => [Sv l]) (by omega) (fun _ => rfl) (fun _ u hu => by simp at hu; rw [hu]; rfl)
theorem str_flat (base : Nat) (w : World) (cs : List Value) (a : List UInt8) (h : strT.R w cs a) : strT.O base w cs a [] := ⟨h, rfl⟩
theorem e_str : ElemT Tryz.prog 91 9 strT.size 16 := ElemT.mk' Tryz.underlying91 (z := .string ⟨#[]⟩) (by kernel_rfl) rfl (by decide)
theorem bs_str1 (a : ByteArray) (w : World) : (Instr.buildSlice 91 1 #[(0, .string a)]).run Tryz.prog w = .ok (.slice (some ⟨w.heap.size, 0, none⟩) 1 1) (w.alloc (.cells #[.string a] 9)) := by kernel_rfl
section
variable {P : Program} {n : Nat} {ops : Array Oper} {Q : Exit → Act → World → Prop} {L : Frm} {w w0 : World} {m : Md} {r : IT} {d : Nat} {ty : TypeId} {pos : String} {af : Array Edge}
theorem t_cats {x y : Operand} {t t' : TypeId} {a b : List UInt8} (hx : ev L x = some (Sv a)) (hy : ev L y = some (Sv b)) (hr : a.length + b.length ≤ 9223372036854775807) (k : WT P n ops Q r ((d, Sv (a ++ b)) :: L) w) (hn : Nat.blt d n = true) : WT P n ops Q (.st m ⟨some d, .binOp .add t x y t', ty, pos, af, none⟩ r) L w :=
  t_read (fun e ha _ _ _ w' _ => by
    have h : (Op.stringOp .add (ByteArray.mk a.toArray) (ByteArray.mk b.toArray)).run P w' = .ok (Sv (a ++ b)) w' := by
      rw [run_string_add_sum (a := ByteArray.mk a.toArray) (b := ByteArray.mk b.toArray) (h := by simpa [ByteArray.size] using hr), ByteArray.mk_append_mk]
    simp [execOp, ha.ev hx, ha.ev hy, eqGuard, binOp, h]) k hn
theorem t_neqs {x y : Operand} {t t' : TypeId} {a b : List UInt8} (hx : ev L x = some (Sv a)) (hy : ev L y = some (Sv b)) (k : WT P n ops Q r ((d, .bool (decide (a ≠ b))) :: L) w) (hn : Nat.blt d n = true) : WT P n ops Q (.st m ⟨some d, .binOp .neq t x y t', ty, pos, af, none⟩ r) L w :=
  t_read (fun e ha _ _ _ w' _ => by
    have h : (Op.stringOp .neq (ByteArray.mk a.toArray) (ByteArray.mk b.toArray)).run P w' = .ok (.bool (decide (a ≠ b))) w' := by
      simp only [Op.stringOp, ByteArray.toList_mk, Sem.run_pure]
      congr 2
      by_cases hab : a = b <;> simp [hab]
    simp [execOp, ha.ev hx, ha.ev hy, eqGuard, binOp, h]) k hn
theorem t_ldstr {t : TypeId} {xo : Operand} {p : Value} {a : List UInt8} (h : Ptr strT w0 p a) (ha : aggB P t = some false) (B : Ext w0 w) (hx : ev L xo = some p) (k : WT P n ops Q r ((d, Sv a) :: L) w) (hn : Nat.blt d n = true) : WT P n ops Q (.st m ⟨some d, .load t xo, ty, pos, af, none⟩ r) L w := by
  obtain ⟨g, o, cs, rfl, h2, h3⟩ := h
  have hcs : cs = [Sv a] := h2
  subst hcs
  exact t_ld1 ha (h3 0 _ rfl) B hx k hn
theorem t_neg {x : Operand} {t : TypeId} {a : Int} (hx : ev L x = some (I a)) (hr : -9223372036854775808 ≤ -a ∧ -a ≤ 9223372036854775807) (k : WT P n ops Q r ((d, I (-a)) :: L) w) (hn : Nat.blt d n = true) : WT P n ops Q (.st m ⟨some d, .unOp .neg t x, ty, pos, af, none⟩ r) L w :=
  t_read (fun e ha _ _ _ w' _ => by simp [execOp, ha.ev hx, Op.unary, Op.intArith, wr64 hr]) k hn
theorem t_quot {x y : Operand} {t t' : TypeId} {a b : Int} (hx : ev L x = some (I a)) (hy : ev L y = some (I b)) (hb : b ≠ 0) (hr : -9223372036854775808 ≤ a.tdiv b ∧ a.tdiv b ≤ 9223372036854775807) (k : WT P n ops Q r ((d, I (a.tdiv b)) :: L) w) (hn : Nat.blt d n = true) : WT P n ops Q (.st m ⟨some d, .binOp .quo t x y t', ty, pos, af, none⟩ r) L w :=
  t_read (fun e ha _ _ _ w' _ => by simp [execOp, ha.ev hx, ha.ev hy, eqGuard, binOp, Op.intDiv, hb, wr64 hr]) k hn
theorem byte_cells {w : World} {l : List UInt8} {css : List (List Value)} (hl : css.length = l.length) (h : ∀ (i : Nat) cs a, css[i]? = some cs → l[i]? = some a → byteT.R w cs a) : css.flatten = l.map fun b => Value.int .u8 (b.toNat : Int) := by
  have e : css = l.map fun b => [Value.int .u8 (b.toNat : Int)] := by
    apply List.ext_getElem?
    intro i
    rcases Nat.lt_or_ge i l.length with hi | hi
    · have h1 : css[i]? = some (css[i]'(by omega)) := List.getElem?_eq_getElem (by omega)
      have h2 : l[i]? = some (l[i]'hi) := List.getElem?_eq_getElem hi
      have h3 : css[i]'(by omega) = [Value.int .u8 ((l[i]'hi).toNat : Int)] := h i _ _ h1 h2
      rw [h1, h3, List.getElem?_map, h2]
      rfl
    · rw [List.getElem?_eq_none (by omega), List.getElem?_map, List.getElem?_eq_none hi]
      rfl
  rw [e]
  clear e hl h
  induction l with
  | nil => rfl
  | cons a t ih => simp only [List.map_cons, List.flatten_cons, ih]; rfl
/-- A string out of a byte slice. -/
theorem t_bts {s t e : TypeId} {x : Operand} {v : Value} {l : List UInt8} (hs : P.underlying s = some (.slice e)) (he : P.underlying e = some (.int .u8)) (ht : P.underlying t = some .string) (h : SlR byteT w0 v l) (B : Ext w0 w) (hx : ev L x = some v) (k : WT P n ops Q r ((d, Sv l) :: L) w) (hn : Nat.blt d n = true) : WT P n ops Q (.st m ⟨some d, .convert s t x, ty, pos, af, none⟩ r) L w := by
  obtain ⟨A, c, css, rfl, h1, h2, h3, h4⟩ := h
  have hfl := byte_cells h2 h4
  rw [hfl] at h3
  refine t_read (fun a ha _ _ _ w' hw' => ?_) k hn
  have h3' : Rd w' A (l.map fun b => Value.int .u8 (b.toNat : Int)) := (h3.below B).below hw'
  have key : (Conv.bytesToString (.slice A l.length c)).run P w' = .ok (Sv l) w' := by
    cases A with
    | none =>
      have : l = [] := by
        rcases Nat.eq_zero_or_pos l.length with hz | hz
        · exact List.eq_nil_of_length_eq_zero hz
        · obtain ⟨g, o, hA, _⟩ := h3' (by simpa using hz)
          cases hA
      subst this
      rfl
    | some ad =>
      have hld : (loadCells ad l.length).run P w' = .ok ((l.map fun b => (b.toNat : Int)).map (Value.int .u8)).toArray w' := by
        rcases Nat.eq_zero_or_pos l.length with hz | hz
        · have : l = [] := List.eq_nil_of_length_eq_zero hz
          subst this
          simp [loadCells, loadCellsFrom]
        · obtain ⟨g, o, hA, hc⟩ := h3' (by simpa using hz)
          cases hA
          have := run_loadCells (P := P) (w := w') (g := g) (o := o) (cs := l.map fun b => Value.int .u8 (b.toNat : Int)) hc
          rw [List.length_map] at this
          rw [this, List.map_map]
          rfl
      rw [run_bytesToString w' ad l.length c _ hld, foldl_push_bytes]
      congr 2
      simp [Function.comp_def]
  simp [execOp, ha.ev hx, convert, run_underlying hs, run_underlying ht, run_underlying he, key]
end
def digs (n : Nat) : List UInt8 := if h : n < 10 then [bt (48 + (n : Int))] else digs (n / 10) ++ [bt (48 + ((n % 10 : Nat) : Int))]
termination_by n
decreasing_by omega
theorem digs_small {n : Nat} (h : n < 10) : digs n = [bt (48 + (n : Int))] := by rw [digs, dif_pos h]
theorem digs_big {n : Nat} (h : ¬ n < 10) : digs n = digs (n / 10) ++ [bt (48 + ((n % 10 : Nat) : Int))] := by rw [digs, dif_neg h]
theorem digs_len : ∀ (k n : Nat), n < 10 ^ (k + 1) → (digs n).length ≤ k + 1
  | 0, n, h => by rw [digs_small (by omega)]; simp
  | k + 1, n, h => by
    by_cases hs : n < 10
    · rw [digs_small hs]; simp
    · rw [digs_big hs, List.length_append, List.length_singleton]
      have := digs_len k (n / 10) (by rw [Nat.div_lt_iff_lt_mul (by omega)]; rw [Nat.pow_succ] at h; exact h)
      omega
def fmtI (n : Int) : List UInt8 := (if n < 0 then [45] else []) ++ digs n.natAbs
theorem fmtI_len {n : Int} (h : In64 n) : (digs n.natAbs).length ≤ 20 ∧ (fmtI n).length ≤ 21 := by
  have h1 := digs_len 19 n.natAbs (by unfold In64 at h; omega)
  refine ⟨h1, ?_⟩
  unfold fmtI
  rw [List.length_append]
  split
  · simp; omega
  · simp; omega
theorem digit (n : Int) : ((n.natAbs % 10 : Nat) : Int) = if n.tmod 10 < 0 then -(n.tmod 10) else n.tmod 10 := by
  have h : (n.tmod 10).natAbs = n.natAbs % 10 := Int.natAbs_tmod n 10
  split <;> omega
theorem natAbs_quot (n : Int) : (n.tdiv 10).natAbs = n.natAbs / 10 := by
  exact Int.natAbs_tdiv n 10
end Go.Proofs.YtdaecknfahgddaaGreat
namespace Go.Proofs.YtdaecknfahgddaaGreat
open Go.RowKit
set_option linter.unusedVariables false
set_option maxRecDepth 20000
theorem ret_str {a b : List UInt8} (h : a = b) : Ending.returned (Sv a) = .returned (Sv b) := by rw [h]
theorem tmod_bd (n : Int) : -9 ≤ n.tmod 10 ∧ n.tmod 10 ≤ 9 := by
  have h : (n.tmod 10).natAbs = n.natAbs % 10 := Int.natAbs_tmod n 10
  omega
theorem tdiv_bd {n : Int} (h : In64 n) : -9223372036854775808 ≤ n.tdiv 10 ∧ n.tdiv 10 ≤ 9223372036854775807 := by
  have := natAbs_quot n
  unfold In64 at h
  omega
theorem impl_FormatInt (n : Int) (w : World) (hg : In64 n) : Calls Tryz.prog 104 #[I n] w fun e w' => e = .returned (Sv (fmtI n)) ∧ Below w.heap.size w w' := by
 have hl := (fmtI_len hg).1
 have X0 := Below.refl w.heap.size w
 refine enter Tryz.func104 rfl Tryz.ntmps104 rfl ?_
 refine w_s ?_
 refine w_g ?_
 have S := Sep.nil w
 have B := Below.refl w.heap.size w
 have Hb := Nat.le_refl w.heap.size
 refine t_a rfl ?_ rfl
 refine t_d ?_
 refine x_s ?_
 refine w_s ?_
 refine w_g ?_
 refine t_a rfl ?_ rfl
 refine t_d ?_
 refine x_s ?_
 refine w_s ?_
 refine w_g ?_
 refine t_m rfl ?_ rfl
 refine t_lss rfl rfl ?_ rfl
 refine t_a rfl ?_ rfl
 refine t_d ?_
 refine x_s ?_
 refine w_s ?_
 refine w_block ?_
 refine w_loop (X := Int × List UInt8 × Value) (fun x wq => (fun x acc u => In64 x ∧ digs x.natAbs ++ acc = digs n.natAbs ∧ Below w.heap.size w wq ∧ Sep w.heap.size wq [slO byteT 5 u acc]) x.1 x.2.1 x.2.2) (fun x => (fun x acc u => [(0, I x), (3, u), (2, Sv []), (4, .bool (decide (n < 0)))]) x.1 x.2.1 x.2.2) (fun x => (fun x acc u => x.natAbs) x.1 x.2.1 x.2.2) (n, [], .slice none 0 0) ?_ ⟨rfl, rfl, rfl, rfl, trivial⟩ ?_
 ·exact ⟨hg, List.append_nil _, B, S.addNil⟩
 ·rintro ⟨x, acc, u⟩ w1 hI
  try dsimp only at hI ⊢
  obtain ⟨hx, hd, B, S⟩ := hI
  have hx' := hx
  unfold In64 at hx'
  have h1 := tmod_bd x
  have h2 := tdiv_bd hx
  have h3 := digit x
  have h4 := natAbs_quot x
  have hal : acc.length ≤ 20 := by
   have := congrArg List.length hd
   rw [List.length_append] at this
   omega
  refine w_block ?_
  refine w_s ?_
  refine w_g ?_
  refine t_m rfl ?_ rfl
  refine t_remt rfl rfl (by omega) ?_ rfl
  refine t_a rfl ?_ rfl
  refine t_d ?_
  refine x_s ?_
  iterate 2 refine w_s ?_
  refine w_g ?_
  refine t_m rfl ?_ rfl
  refine t_lss rfl rfl ?_ rfl
  refine t_d ?_
  refine x_s ?_
  have hbt : ∀ d : Int, d = ((x.natAbs % 10 : Nat) : Int) → digs x.natAbs ++ acc = if x.natAbs < 10 then [bt (48 + d)] ++ acc else digs (x.natAbs / 10) ++ ([bt (48 + d)] ++ acc) := fun d hdd => by
   subst hdd
   by_cases hs : x.natAbs < 10
   ·rw [digs_small hs, if_pos hs, show x.natAbs % 10 = x.natAbs by omega]
   ·rw [digs_big hs, if_neg hs, List.append_assoc]
  refine w_if rfl ?_ ?_
  ·intro hneg
   have hb := hbt (-((x).tmod 10)) (by rw [h3, if_pos hneg])
   rw [hd] at hb
   refine w_g ?_
   refine t_m rfl ?_ rfl
   refine t_neg rfl (by omega) ?_ rfl
   refine t_a rfl ?_ rfl
   refine t_d ?_
   refine x_s ?_
   refine w_s ?_
   refine w_g ?_
   refine t_m rfl ?_ rfl
   refine t_add rfl rfl (by omega) ?_ rfl
   refine t_conv Tryz.underlying3 Tryz.underlying5 rfl ?_ rfl
   refine t_lit (T := byteT) (l := [bt (48 + (-((x).tmod 10)))]) (css := [[.int .u8 (IntKind.u8.wrap (48 + (-((x).tmod 10))))]]) byte_flat S (fun w => bs_byte1 _ w) rfl rfl rfl rfl (by simp [maxLen]) (litR_one fun _ => byte_lit _) ?_ rfl rfl
   intro u17 w2 x3 S
   have B := bx Hb B x3
   refine t_m rfl ?_ rfl
   have hR := S.tail.sl
   refine t_cat byte_flat e_byte S hR rfl rfl rfl (by first | omega | (simp [-List.length_flatMap]; omega)) (by (simp [maxLen, -List.length_flatMap]; try omega)) ?_ rfl
   intro v19 w4 x5 S
   have B := B.trans x5
   clear hR
   refine t_a rfl ?_ rfl
   refine t_d ?_
   refine x_s ?_
   refine w_s ?_
   refine w_g ?_
   refine t_m rfl ?_ rfl
   refine t_quot rfl rfl (by decide) (by omega) ?_ rfl
   refine t_a rfl ?_ rfl
   refine t_d ?_
   refine x_s ?_
   refine w_s ?_
   refine w_g ?_
   refine t_m rfl ?_ rfl
   refine t_eql rfl rfl ?_ rfl
   refine t_d ?_
   refine x_s ?_
   refine w_if rfl ?_ ?_
   ·intro hz
    rw [if_pos (by omega)] at hb
    refine w_exit ?_
    refine x_block_other rfl ?_
    refine x_then_exit ?_
    refine x_block_exit ?_
    refine x_s ?_
    iterate 2 refine w_s ?_
    refine w_g ?_
    refine t_m rfl ?_ rfl
    refine t_d ?_
    refine x_s ?_
    refine w_if rfl ?_ ?_
    ·intro hn
     refine w_s ?_
     refine w_g ?_
     refine t_m rfl ?_ rfl
     refine t_bts Tryz.underlying22 Tryz.underlying5 Tryz.underlying9 (S.sl) (Below.refl _ _) rfl ?_ rfl
     refine t_cats rfl rfl (by first | omega | (simp; done) | (simp; omega)) ?_ rfl
     refine t_a rfl ?_ rfl
     refine t_d ?_
     refine x_s ?_
     refine w_r ?_
     refine x_t ?_
     refine x_ret1 rfl rfl ?_
     exact ⟨ret_str (by unfold fmtI; rw [if_pos hn, hb]), ext_trans X0 B⟩
    ·intro hn
     refine w_k ?_
     refine x_s ?_
     refine w_s ?_
     refine w_g ?_
     refine t_m rfl ?_ rfl
     refine t_bts Tryz.underlying22 Tryz.underlying5 Tryz.underlying9 (S.sl) (Below.refl _ _) rfl ?_ rfl
     refine t_a rfl ?_ rfl
     refine t_d ?_
     refine x_s ?_
     refine w_r ?_
     refine x_ret1 rfl rfl ?_
     exact ⟨ret_str (by unfold fmtI; rw [if_neg hn, hb]; rfl), ext_trans X0 B⟩
   ·intro hz
    rw [if_neg (by omega), ← h4] at hb
    refine w_k ?_
    refine x_b ?_
    have S := S.f1.tail
    refine x_r (X := Int × List UInt8 × Value) ((x).tdiv 10, [bt (48 + -((x).tmod 10))] ++ acc, v19) ?_ (by exact ⟨rfl, rfl, rfl, rfl, trivial⟩) (by (try dsimp only); omega)
    try dsimp only
    exact ⟨h2, hb.symm, B, S⟩
  ·intro hneg
   have hb := hbt ((x).tmod 10) (by rw [h3, if_neg hneg])
   rw [hd] at hb
   refine w_k ?_
   refine x_s ?_
   refine w_s ?_
   refine w_g ?_
   refine t_m rfl ?_ rfl
   refine t_add rfl rfl (by omega) ?_ rfl
   refine t_conv Tryz.underlying3 Tryz.underlying5 rfl ?_ rfl
   refine t_lit (T := byteT) (l := [bt (48 + ((x).tmod 10))]) (css := [[.int .u8 (IntKind.u8.wrap (48 + ((x).tmod 10)))]]) byte_flat S (fun w => bs_byte1 _ w) rfl rfl rfl rfl (by simp [maxLen]) (litR_one fun _ => byte_lit _) ?_ rfl rfl
   intro u17 w6 x7 S
   have B := bx Hb B x7
   refine t_m rfl ?_ rfl
   have hR := S.tail.sl
   refine t_cat byte_flat e_byte S hR rfl rfl rfl (by first | omega | (simp [-List.length_flatMap]; omega)) (by (simp [maxLen, -List.length_flatMap]; try omega)) ?_ rfl
   intro v19 w8 x9 S
   have B := B.trans x9
   clear hR
   refine t_a rfl ?_ rfl
   refine t_d ?_
   refine x_s ?_
   refine w_s ?_
   refine w_g ?_
   refine t_m rfl ?_ rfl
   refine t_quot rfl rfl (by decide) (by omega) ?_ rfl
   refine t_a rfl ?_ rfl
   refine t_d ?_
   refine x_s ?_
   refine w_s ?_
   refine w_g ?_
   refine t_m rfl ?_ rfl
   refine t_eql rfl rfl ?_ rfl
   refine t_d ?_
   refine x_s ?_
   refine w_if rfl ?_ ?_
   ·intro hz
    rw [if_pos (by omega)] at hb
    refine w_exit ?_
    refine x_block_other rfl ?_
    refine x_then_exit ?_
    refine x_block_exit ?_
    refine x_s ?_
    iterate 2 refine w_s ?_
    refine w_g ?_
    refine t_m rfl ?_ rfl
    refine t_d ?_
    refine x_s ?_
    refine w_if rfl ?_ ?_
    ·intro hn
     refine w_s ?_
     refine w_g ?_
     refine t_m rfl ?_ rfl
     refine t_bts Tryz.underlying22 Tryz.underlying5 Tryz.underlying9 (S.sl) (Below.refl _ _) rfl ?_ rfl
     refine t_cats rfl rfl (by first | omega | (simp; done) | (simp; omega)) ?_ rfl
     refine t_a rfl ?_ rfl
     refine t_d ?_
     refine x_s ?_
     refine w_r ?_
     refine x_t ?_
     refine x_ret1 rfl rfl ?_
     exact ⟨ret_str (by unfold fmtI; rw [if_pos hn, hb]), ext_trans X0 B⟩
    ·intro hn
     refine w_k ?_
     refine x_s ?_
     refine w_s ?_
     refine w_g ?_
     refine t_m rfl ?_ rfl
     refine t_bts Tryz.underlying22 Tryz.underlying5 Tryz.underlying9 (S.sl) (Below.refl _ _) rfl ?_ rfl
     refine t_a rfl ?_ rfl
     refine t_d ?_
     refine x_s ?_
     refine w_r ?_
     refine x_ret1 rfl rfl ?_
     exact ⟨ret_str (by unfold fmtI; rw [if_neg hn, hb]; rfl), ext_trans X0 B⟩
   ·intro hz
    rw [if_neg (by omega), ← h4] at hb
    refine w_k ?_
    refine x_b ?_
    have S := S.f1.tail
    refine x_r (X := Int × List UInt8 × Value) ((x).tdiv 10, [bt (48 + (x).tmod 10)] ++ acc, v19) ?_ (by exact ⟨rfl, rfl, rfl, rfl, trivial⟩) (by (try dsimp only); omega)
    try dsimp only
    exact ⟨h2, hb.symm, B, S⟩
theorem spec_FormatInt (n : Int) (w : World) (hg : In64 n) : Calls Tryz.prog 77 #[I n] w fun e w' => e = .returned (Sv (fmtI n)) ∧ Below w.heap.size w w' := by
 have hl := (fmtI_len hg).1
 have X0 := Below.refl w.heap.size w
 refine enter Tryz.func77 rfl Tryz.ntmps77 rfl ?_
 refine w_s ?_
 refine w_g ?_
 have S := Sep.nil w
 have B := Below.refl w.heap.size w
 have Hb := Nat.le_refl w.heap.size
 refine t_a rfl ?_ rfl
 refine t_d ?_
 refine x_s ?_
 iterate 2 refine w_s ?_
 refine w_g ?_
 refine t_m rfl ?_ rfl
 refine t_eql rfl rfl ?_ rfl
 refine t_d ?_
 refine x_s ?_
 refine w_if rfl ?_ ?_
 ·intro h0
  refine w_s ?_
  refine w_g ?_
  refine t_a rfl ?_ rfl
  refine t_d ?_
  refine x_s ?_
  refine w_r ?_
  refine x_t ?_
  refine x_ret1 rfl rfl ?_
  exact ⟨ret_str (by rw [h0]; unfold fmtI; rw [show (0 : Int).natAbs = 0 from rfl, digs_small (by omega)]; rfl), X0⟩
 intro h0
 refine w_k ?_
 refine x_s ?_
 refine w_s ?_
 refine w_g ?_
 refine t_a rfl ?_ rfl
 refine t_d ?_
 refine x_s ?_
 iterate 2 refine w_s ?_
 refine w_g ?_
 refine t_m rfl ?_ rfl
 refine t_a rfl ?_ rfl
 refine t_d ?_
 refine x_s ?_
 refine w_block ?_
 refine w_loop (X := Int × List UInt8) (fun x wq => (fun x s => In64 x ∧ (x = 0 → s = digs n.natAbs) ∧ (x ≠ 0 → digs x.natAbs ++ s = digs n.natAbs) ∧ Below w.heap.size w wq ∧ Sep w.heap.size wq []) x.1 x.2) (fun x => (fun x s => [(4, I x), (3, Sv s), (0, I n), (2, Sv [])]) x.1 x.2) (fun x => (fun x s => x.natAbs) x.1 x.2) (n, []) ?_ ⟨rfl, rfl, rfl, rfl, trivial⟩ ?_
 ·exact ⟨hg, fun h => absurd h h0, fun _ => List.append_nil _, Below.refl _ _, Sep.nil _⟩
 ·rintro ⟨x, s⟩ w10 hI
  try dsimp only at hI ⊢
  obtain ⟨hx, hd0, hd1, B, S⟩ := hI
  iterate 2 refine w_s ?_
  refine w_g ?_
  refine t_m rfl ?_ rfl
  refine t_neq rfl rfl ?_ rfl
  refine t_d ?_
  refine x_s ?_
  refine w_if rfl ?_ ?_
  ·intro hxn
   have hd := hd1 hxn
   have hx' := hx
   unfold In64 at hx'
   have h1 := tmod_bd x
   have h2 := tdiv_bd hx
   have h3 := digit x
   have h4 := natAbs_quot x
   have hal : s.length ≤ 20 := by
    have := congrArg List.length hd
    rw [List.length_append] at this
    omega
   have hbt : ∀ d : Int, d = ((x.natAbs % 10 : Nat) : Int) → digs x.natAbs ++ s = if x.natAbs < 10 then [bt (48 + d)] ++ s else digs (x.natAbs / 10) ++ ([bt (48 + d)] ++ s) := fun d hdd => by
    subst hdd
    by_cases hs : x.natAbs < 10
    ·rw [digs_small hs, if_pos hs, show x.natAbs % 10 = x.natAbs by omega]
    ·rw [digs_big hs, if_neg hs, List.append_assoc]
   refine w_k ?_
   refine x_s ?_
   refine w_s ?_
   refine w_block ?_
   refine w_s ?_
   refine w_g ?_
   refine t_m rfl ?_ rfl
   refine t_remt rfl rfl (by omega) ?_ rfl
   refine t_a rfl ?_ rfl
   refine t_d ?_
   refine x_s ?_
   iterate 2 refine w_s ?_
   refine w_g ?_
   refine t_m rfl ?_ rfl
   refine t_lss rfl rfl ?_ rfl
   refine t_d ?_
   refine x_s ?_
   refine w_if rfl ?_ ?_
   ·intro hneg
    have hb := hbt (-((x).tmod 10)) (by rw [h3, if_pos hneg])
    rw [hd] at hb
    refine w_g ?_
    refine t_m rfl ?_ rfl
    refine t_neg rfl (by omega) ?_ rfl
    refine t_a rfl ?_ rfl
    refine t_d ?_
    refine x_s ?_
    refine w_g ?_
    refine t_m rfl ?_ rfl
    refine t_add rfl rfl (by omega) ?_ rfl
    refine t_conv Tryz.underlying3 Tryz.underlying5 rfl ?_ rfl
    refine t_lit (T := byteT) (l := [bt (48 + (-((x).tmod 10)))]) (css := [[.int .u8 (IntKind.u8.wrap (48 + (-((x).tmod 10))))]]) byte_flat S (fun w => bs_byte1 _ w) rfl rfl rfl rfl (by simp [maxLen]) (litR_one fun _ => byte_lit _) ?_ rfl rfl
    intro u22 w11 x12 S
    have B := bx Hb B x12
    refine t_bts Tryz.underlying22 Tryz.underlying5 Tryz.underlying9 (S.sl) (Below.refl _ _) rfl ?_ rfl
    refine t_m rfl ?_ rfl
    refine t_cats rfl rfl (by first | omega | (simp; done) | (simp; omega)) ?_ rfl
    refine t_a rfl ?_ rfl
    refine t_d ?_
    refine x_b ?_
    refine x_s ?_
    refine w_g ?_
    refine t_m rfl ?_ rfl
    refine t_quot rfl rfl (by decide) (by omega) ?_ rfl
    refine t_a rfl ?_ rfl
    refine t_d ?_
    have S := S.tail
    refine x_r (X := Int × List UInt8) ((x).tdiv 10, ([bt (48 + (-((x).tmod 10)))]) ++ s) ?_ (by exact ⟨rfl, rfl, rfl, rfl, trivial⟩) (by (try dsimp only); omega)
    try dsimp only
    exact ⟨h2, fun hz => by rw [if_pos (by omega)] at hb; exact hb.symm, fun hz => by rw [if_neg (by omega), ← h4] at hb; exact hb.symm, B, S⟩
   ·intro hneg
    have hb := hbt ((x).tmod 10) (by rw [h3, if_neg hneg])
    rw [hd] at hb
    refine w_k ?_
    refine x_s ?_
    refine w_g ?_
    refine t_m rfl ?_ rfl
    refine t_add rfl rfl (by omega) ?_ rfl
    refine t_conv Tryz.underlying3 Tryz.underlying5 rfl ?_ rfl
    refine t_lit (T := byteT) (l := [bt (48 + ((x).tmod 10))]) (css := [[.int .u8 (IntKind.u8.wrap (48 + ((x).tmod 10)))]]) byte_flat S (fun w => bs_byte1 _ w) rfl rfl rfl rfl (by simp [maxLen]) (litR_one fun _ => byte_lit _) ?_ rfl rfl
    intro u22 w13 x14 S
    have B := bx Hb B x14
    refine t_bts Tryz.underlying22 Tryz.underlying5 Tryz.underlying9 (S.sl) (Below.refl _ _) rfl ?_ rfl
    refine t_m rfl ?_ rfl
    refine t_cats rfl rfl (by first | omega | (simp; done) | (simp; omega)) ?_ rfl
    refine t_a rfl ?_ rfl
    refine t_d ?_
    refine x_b ?_
    refine x_s ?_
    refine w_g ?_
    refine t_m rfl ?_ rfl
    refine t_quot rfl rfl (by decide) (by omega) ?_ rfl
    refine t_a rfl ?_ rfl
    refine t_d ?_
    have S := S.tail
    refine x_r (X := Int × List UInt8) ((x).tdiv 10, ([bt (48 + ((x).tmod 10))]) ++ s) ?_ (by exact ⟨rfl, rfl, rfl, rfl, trivial⟩) (by (try dsimp only); omega)
    try dsimp only
    exact ⟨h2, fun hz => by rw [if_pos (by omega)] at hb; exact hb.symm, fun hz => by rw [if_neg (by omega), ← h4] at hb; exact hb.symm, B, S⟩
  ·intro hxn
   have hs := hd0 (by simpa using hxn)
   have hsl : s.length ≤ 20 := by rw [hs]; exact hl
   refine w_exit ?_
   iterate 2 refine x_then_exit ?_
   refine x_block_exit ?_
   refine x_s ?_
   iterate 2 refine w_s ?_
   refine w_g ?_
   refine t_m rfl ?_ rfl
   refine t_lss rfl rfl ?_ rfl
   refine t_d ?_
   refine x_s ?_
   refine w_if rfl ?_ ?_
   ·intro hn
    refine w_s ?_
    refine w_g ?_
    refine t_m rfl ?_ rfl
    refine t_cats rfl rfl (by first | omega | (simp; done) | (simp; omega)) ?_ rfl
    refine t_a rfl ?_ rfl
    refine t_d ?_
    refine x_s ?_
    refine w_r ?_
    refine x_t ?_
    refine x_ret1 rfl rfl ?_
    exact ⟨ret_str (by unfold fmtI; rw [if_pos hn, hs]), ext_trans X0 B⟩
   ·intro hn
    refine w_k ?_
    refine x_s ?_
    refine w_s ?_
    refine w_g ?_
    refine t_m rfl ?_ rfl
    refine t_a rfl ?_ rfl
    refine t_d ?_
    refine x_s ?_
    refine w_r ?_
    refine x_ret1 rfl rfl ?_
    exact ⟨ret_str (by unfold fmtI; rw [if_neg hn, hs]; rfl), ext_trans X0 B⟩
end Go.Proofs.YtdaecknfahgddaaGreat
namespace Go.Proofs.YtdaecknfahgddaaGreat
open Go.RowKit
set_option linter.unusedVariables false
set_option maxRecDepth 20000
theorem in64_0 : In64 0 := ⟨by decide, by decide⟩
theorem partIn_in {x : Part} (h : rng_part x) (j : Nat) : In64 (partIn x j) := by
  unfold partIn
  cases hx : x.hops[j]? with
  | none => exact in64_0
  | some y =>
    have := h.2.2.2 y (List.mem_of_getElem? hx)
    simp only
    split
    · exact this.2.2.1
    · exact this.2.1
theorem partOut_in {x : Part} (h : rng_part x) (j : Nat) : In64 (partOut x j) := by
  unfold partOut
  cases hx : x.hops[j]? with
  | none => exact in64_0
  | some y =>
    have := h.2.2.2 y (List.mem_of_getElem? hx)
    simp only
    split
    · exact this.2.1
    · exact this.2.2.1
theorem hopIa_in {x : Part} (h : rng_part x) (j : Nat) : In64 (hopIa x j) := by
  unfold hopIa
  cases hx : x.hops[j]? with
  | none => exact in64_0
  | some y => exact (h.2.2.2 y (List.mem_of_getElem? hx)).1
def allS (l : List Stp) : Prop := ∀ s ∈ l, rng_step s
theorem allS_get {l : List Stp} (h : allS l) (k : Nat) : rng_step ((l[k]?).getD ⟨0, 0, 0⟩) := by
  cases hx : l[k]? with
  | none => exact ⟨in64_0, in64_0, in64_0⟩
  | some y => exact h y (List.mem_of_getElem? hx)
theorem allS_set {l : List Stp} (h : allS l) (k : Nat) {s : Stp} (hs : rng_step s) : allS (l.set k s) := fun y hy => by
  rcases List.mem_or_eq_of_mem_set hy with hy | hy
  · exact h y hy
  · rw [hy]; exact hs
theorem addHop_in {i : Nat} {x : Part} {l : List Stp} (hx : rng_part x) (h : allS l) (j : Nat) : allS (addHop i x l j) := by
  unfold addHop
  split
  · have := allS_get h (l.length - 1)
    exact allS_set h _ ⟨this.1, this.2.1, partOut_in hx j⟩
  · intro y hy
    rcases List.mem_append.1 hy with hy | hy
    · exact h y hy
    · rw [List.mem_singleton] at hy
      rw [hy]
      exact ⟨hopIa_in hx j, partIn_in hx j, partOut_in hx j⟩
theorem hopsTo_in {i : Nat} {x : Part} {l : List Stp} (hx : rng_part x) (h : allS l) : ∀ j, allS (hopsTo i x l j)
  | 0 => h
  | j + 1 => by rw [hopsTo_succ]; exact addHop_in hx (hopsTo_in hx h j) j
theorem rawSteps_in {p : Path} (hp : rng_path p) : ∀ k, allS (rawSteps p k)
  | 0 => fun y hy => by cases hy
  | k + 1 => by
    cases h : p[k]? with
    | none =>
      have e : rawSteps p (k + 1) = rawSteps p k := by
        unfold rawSteps; rw [List.range_succ, List.foldl_append]
        show addPart p _ k = _
        unfold addPart; rw [h]
      rw [e]
      exact rawSteps_in hp k
    | some x =>
      rw [rawSteps_succ h]
      exact hopsTo_in (hp x (List.mem_of_getElem? h)) (rawSteps_in hp k) _
theorem pathSteps_in {p : Path} (hp : rng_path p) : allS (pathSteps p) := by
  have h1 := rawSteps_in hp p.length
  have h2 : allS (cutFirst (rawSteps p p.length)) := by
    have := allS_get h1 0
    exact allS_set h1 _ ⟨this.1, in64_0, this.2.2⟩
  have := allS_get h2 ((cutFirst (rawSteps p p.length)).length - 1)
  exact allS_set h2 _ ⟨this.1, this.2.1, in64_0⟩
def fmtAS (t : Topo) (r : Int) : List UInt8 := if isAS t r = true then match t.ases[r.toNat]? with
    | some x => (fmtI x.isd ++ [45]) ++ fmtI r
    | none => []
  else [63]
theorem fmtAS_len {t : Topo} {r : Int} (hg : rng_topo t) (hr : In64 r) : (fmtAS t r).length ≤ 43 := by
  unfold fmtAS
  split
  · split
    · rename_i x hx
      have h1 := (fmtI_len (hg.1 x (List.mem_of_getElem? hx)).1).2
      have h2 := (fmtI_len hr).2
      simp only [List.length_append, List.length_singleton]
      omega
    · simp
  · simp
def stepTxt (t : Topo) (s : Stp) : List UInt8 := (((fmtI s.ing ++ [62]) ++ fmtAS t s.ia) ++ [62]) ++ fmtI s.eg
theorem stepTxt_len {t : Topo} {s : Stp} (hg : rng_topo t) (hs : rng_step s) : (stepTxt t s).length ≤ 87 := by
  have h1 := (fmtI_len hs.2.1).2
  have h2 := (fmtI_len hs.2.2).2
  have h3 := fmtAS_len hg hs.1
  unfold stepTxt
  simp only [List.length_append, List.length_singleton]
  omega
/-- Texts with another between them. -/
def jn (b : List UInt8) : List (List UInt8) → List UInt8
  | [] => []
  | x :: t => x ++ t.flatMap (b ++ ·)
theorem jn_first (b x : List UInt8) : jn b ([] ++ [x]) = x := by simp [jn]
theorem jn_snoc (b x : List UInt8) {l : List (List UInt8)} (h : l ≠ []) : jn b (l ++ [x]) = (jn b l ++ b) ++ x := by
  cases l with
  | nil => exact absurd rfl h
  | cons a t => simp [jn]
theorem jn_len (b : List UInt8) (m : Nat) (l : List (List UInt8)) (h : ∀ x ∈ l, x.length ≤ m) : (jn b l).length ≤ (m + b.length) * l.length := by
  cases l with
  | nil => simp [jn]
  | cons a t =>
    have h1 := h a (by simp)
    have h2 := len_flat_le (b ++ ·) (m + b.length) t fun x hx => by
      have := h x (by simp [hx])
      rw [List.length_append]
      omega
    simp only [jn, List.length_append, List.length_cons, Nat.mul_add, Nat.mul_one]
    omega
def fmtPath (t : Topo) (p : Path) : List UInt8 := if (pathSteps p).length = 0 then [45] else jn [32] ((pathSteps p).map (stepTxt t))
theorem fmtPath_len {t : Topo} {p : Path} (hg : rng_topo t) (hp : rng_path p) (hz : sz_path p ≤ 1048576) : (fmtPath t p).length ≤ 100000000 := by
  unfold fmtPath
  split
  · simp
  · have h1 := jn_len [32] 87 ((pathSteps p).map (stepTxt t)) fun x hx => by
      obtain ⟨s, hs, rfl⟩ := List.mem_map.1 hx
      exact stepTxt_len hg (pathSteps_in hp s hs)
    rw [List.length_map] at h1
    have h2 := pathSteps_len p
    have : (87 + [(32 : UInt8)].length) * (pathSteps p).length ≤ 88 * 1048576 := Nat.mul_le_mul (by simp) (by omega)
    omega
theorem impl_FormatAS (t : Topo) (v : Value) (r : Int) (w : World) (h : VA topoT w v t) (hz : sz_topo t ≤ 1048576) (hg : rng_topo t) (hr : In64 r) : Calls Tryz.prog 135 #[v, I r] w fun e w' => e = .returned (Sv (fmtAS t r)) ∧ Below w.heap.size w w' := by
 have X0 := Below.refl w.heap.size w
 refine enter Tryz.func135 rfl Tryz.ntmps135 rfl ?_
 refine w_s ?_
 refine w_g ?_
 refine t_boxr ‹_› rfl ?_ rfl rfl
 intro p2 w1 x2 hp2
 replace h := h.below x2
 have X0 := ext_trans X0 x2
 have S := Sep.nil w1
 have B := Below.refl w1.heap.size w1
 have Hb := Nat.le_refl w1.heap.size
 refine t_a rfl ?_ rfl
 refine t_d ?_
 refine x_s ?_
 iterate 2 refine w_s ?_
 refine w_g ?_
 refine t_lda ‹_› ab_topo sb_topo B rfl ?_ rfl
 intro v5 hv5
 obtain ⟨v5_0, v5_1, rfl, hv5_0, hv5_1⟩ := topo_va hv5
 refine t_m rfl ?_ rfl
 refine t_x Tryz.call157 rfl (impl_isAS _ _ _ _ (by first | assumption | exact VA.below ‹_› B | exact topo_mkv (by first | assumption | exact SlR.below ‹_› B) (by first | assumption | exact SlR.below ‹_› B)) (by omega)) ?_ rfl rfl
 intro w3 x4
 have B := bx Hb B x4
 have S := S.below x4
 refine t_notb rfl ?_ rfl
 refine t_d ?_
 refine x_s ?_
 refine w_ifb rfl ?_ ?_
 ·intro h1
  refine w_s ?_
  refine w_g ?_
  refine t_a rfl ?_ rfl
  refine t_d ?_
  refine x_s ?_
  refine w_r ?_
  refine x_t ?_
  refine x_ret1 rfl rfl ?_
  exact ⟨ret_str (by unfold fmtAS; rw [if_neg (by simpa using h1)]), ext_trans X0 B⟩
 ·intro h1
  have h1' : isAS t r = true := by simpa using h1
  have h2 := h1'
  unfold isAS at h2
  have h3 := inR_iff.1 h2
  obtain ⟨x, hx⟩ : ∃ e, t.ases[r.toNat]? = some e := getx (by omega)
  have hxi : In64 x.isd := (hg.1 x (List.mem_of_getElem? hx)).1
  have hl1 := (fmtI_len hxi).2
  have hl2 := (fmtI_len hr).2
  refine w_k ?_
  refine x_s ?_
  refine w_s ?_
  refine w_g ?_
  refine t_fld ln_topo_0 ‹_› fb_topo_0 rfl ?_ rfl
  intro p9 hp9
  refine t_lds ‹_› ab_s_asn B rfl ?_ rfl
  intro v10 hv10
  refine t_m rfl ?_ rfl
  refine t_idx e_asn (k := r.toNat) ‹_› hx B rfl rfl (by first | rfl | omega) ?_ rfl
  intro p12 hp12
  refine t_fld ln_asn_0 ‹_› fb_asn_0 rfl ?_ rfl
  intro p13 hp13
  refine t_ldi ‹_› ab_int B rfl ?_ rfl
  refine t_x Tryz.call104 rfl (impl_FormatInt _ _ ‹_›) ?_ rfl rfl
  intro w5 x6
  have B := bx Hb B x6
  have S := S.below x6
  refine t_cats rfl rfl (by first | omega | (simp; done) | (simp; omega)) ?_ rfl
  refine t_m rfl ?_ rfl
  refine t_x Tryz.call104 rfl (impl_FormatInt _ _ ‹_›) ?_ rfl rfl
  intro w7 x8
  have B := bx Hb B x8
  have S := S.below x8
  refine t_cats rfl rfl (by first | omega | (simp; done) | (simp; omega)) ?_ rfl
  refine t_a rfl ?_ rfl
  refine t_d ?_
  refine x_s ?_
  refine w_r ?_
  refine x_ret1 rfl rfl ?_
  exact ⟨ret_str (by unfold fmtAS; rw [if_pos h1', hx]), ext_trans X0 B⟩
theorem spec_FormatAS (t : Topo) (v : Value) (r : Int) (w : World) (h : VA topoT w v t) (hz : sz_topo t ≤ 1048576) (hg : rng_topo t) (hr : In64 r) : Calls Tryz.prog 78 #[v, I r] w fun e w' => e = .returned (Sv (fmtAS t r)) ∧ Below w.heap.size w w' := by
 have X0 := Below.refl w.heap.size w
 refine enter Tryz.func78 rfl Tryz.ntmps78 rfl ?_
 refine w_s ?_
 refine w_g ?_
 refine t_boxr ‹_› rfl ?_ rfl rfl
 intro p2 w9 x10 hp2
 replace h := h.below x10
 have X0 := ext_trans X0 x10
 have S := Sep.nil w9
 have B := Below.refl w9.heap.size w9
 have Hb := Nat.le_refl w9.heap.size
 refine t_a rfl ?_ rfl
 refine t_d ?_
 refine x_s ?_
 iterate 2 refine w_s ?_
 refine w_g ?_
 refine t_lda ‹_› ab_topo sb_topo B rfl ?_ rfl
 intro v5 hv5
 obtain ⟨v5_0, v5_1, rfl, hv5_0, hv5_1⟩ := topo_va hv5
 refine t_m rfl ?_ rfl
 refine t_x Tryz.call125 rfl (spec_l5Realm _ _ _ _ (by first | assumption | exact VA.below ‹_› B | exact topo_mkv (by first | assumption | exact SlR.below ‹_› B) (by first | assumption | exact SlR.below ‹_› B)) (by omega)) ?_ rfl rfl
 intro w11 x12
 have B := bx Hb B x12
 have S := S.below x12
 refine t_notb rfl ?_ rfl
 refine t_d ?_
 refine x_s ?_
 refine w_ifb rfl ?_ ?_
 ·intro h1
  refine w_s ?_
  refine w_g ?_
  refine t_a rfl ?_ rfl
  refine t_d ?_
  refine x_s ?_
  refine w_r ?_
  refine x_t ?_
  refine x_ret1 rfl rfl ?_
  exact ⟨ret_str (by unfold fmtAS; rw [if_neg (by simpa using h1)]), ext_trans X0 B⟩
 ·intro h1
  have h1' : isAS t r = true := by simpa using h1
  have h2 := h1'
  unfold isAS at h2
  have h3 := inR_iff.1 h2
  obtain ⟨x, hx⟩ : ∃ e, t.ases[r.toNat]? = some e := getx (by omega)
  have hxi : In64 x.isd := (hg.1 x (List.mem_of_getElem? hx)).1
  have hl1 := (fmtI_len hxi).2
  have hl2 := (fmtI_len hr).2
  refine w_k ?_
  refine x_s ?_
  refine w_s ?_
  refine w_g ?_
  refine t_fld ln_topo_0 ‹_› fb_topo_0 rfl ?_ rfl
  intro p9 hp9
  refine t_lds ‹_› ab_s_asn B rfl ?_ rfl
  intro v10 hv10
  refine t_m rfl ?_ rfl
  refine t_idx e_asn (k := r.toNat) ‹_› hx B rfl rfl (by first | rfl | omega) ?_ rfl
  intro p12 hp12
  refine t_fld ln_asn_0 ‹_› fb_asn_0 rfl ?_ rfl
  intro p13 hp13
  refine t_ldi ‹_› ab_int B rfl ?_ rfl
  refine t_x Tryz.call77 rfl (spec_FormatInt _ _ ‹_›) ?_ rfl rfl
  intro w13 x14
  have B := bx Hb B x14
  have S := S.below x14
  refine t_cats rfl rfl (by first | omega | (simp; done) | (simp; omega)) ?_ rfl
  refine t_m rfl ?_ rfl
  refine t_x Tryz.call77 rfl (spec_FormatInt _ _ ‹_›) ?_ rfl rfl
  intro w15 x16
  have B := bx Hb B x16
  have S := S.below x16
  refine t_cats rfl rfl (by first | omega | (simp; done) | (simp; omega)) ?_ rfl
  refine t_a rfl ?_ rfl
  refine t_d ?_
  refine x_s ?_
  refine w_r ?_
  refine x_ret1 rfl rfl ?_
  exact ⟨ret_str (by unfold fmtAS; rw [if_pos h1', hx]), ext_trans X0 B⟩
theorem impl_formatSteps (t : Topo) (v : Value) (l : List Stp) (u : Value) (w : World) (h : VA topoT w v t) (h' : SlR stepT w u l) (hz : sz_topo t ≤ 1048576) (hg : rng_topo t) (hl : l.length ≤ 1048576) (hs : allS l) : Calls Tryz.prog 76 #[v, u] w fun e w' => ∃ v fp, e = .returned v ∧ SlO strT 9 w.heap.size w' v (l.map (stepTxt t)) fp ∧ Below w.heap.size w w' := by
 have X0 := Below.refl w.heap.size w
 refine enter Tryz.func76 rfl Tryz.ntmps76 rfl ?_
 refine w_s ?_
 refine w_g ?_
 refine t_boxr ‹_› rfl ?_ rfl rfl
 intro p2 w17 x18 hp2
 replace h := h.below x18
 replace h' := h'.below x18
 have X0 := ext_trans X0 x18
 have S := Sep.nil w17
 have B := Below.refl w17.heap.size w17
 have Hb := Nat.le_refl w17.heap.size
 refine t_a rfl ?_ rfl
 refine t_d ?_
 refine x_s ?_
 refine w_s ?_
 refine w_g ?_
 refine t_a rfl ?_ rfl
 refine t_d ?_
 refine x_s ?_
 iterate 2 refine w_s ?_
 refine w_g ?_
 refine t_m rfl ?_ rfl
 refine t_len e_step ‹_› rfl rfl ?_ rfl
 refine t_m rfl ?_ rfl
 refine t_d ?_
 refine x_s ?_
 refine w_block ?_
 refine w_loop (X := Nat × List (List UInt8) × Value) (fun x wq => (fun k acc q => k ≤ l.length ∧ acc = (l.take k).map (stepTxt t) ∧ Below w17.heap.size w17 wq ∧ Sep w17.heap.size wq [slO strT 9 q acc]) x.1 x.2.1 x.2.2) (fun x => (fun k acc q => [(10, I ((k : Int))), (5, q), (2, p2), (4, .slice none 0 0), (8, u), (9, I ((l.length : Int)))]) x.1 x.2.1 x.2.2) (fun x => (fun k acc q => l.length - k) x.1 x.2.1 x.2.2) (0, [], .slice none 0 0) ?_ ⟨rfl, rfl, rfl, rfl, rfl, rfl, trivial⟩ ?_
 ·exact ⟨by omega, rfl, B, S.addNil⟩
 ·rintro ⟨k, acc, q⟩ w19 hI
  try dsimp only at hI ⊢
  obtain ⟨hk, ha, B, S⟩ := hI
  refine w_s ?_
  refine w_g ?_
  refine t_lss rfl rfl ?_ rfl
  refine t_d ?_
  refine x_s ?_
  refine w_s ?_
  refine w_if rfl ?_ ?_
  ·intro hlt
   obtain ⟨x, hx⟩ : ∃ e, l[k]? = some e := getx (by omega)
   have hxs := hs x (List.mem_of_getElem? hx)
   have hx1 := hxs.1
   have hx2 := hxs.2.1
   have hx3 := hxs.2.2
   have hl1 := (fmtI_len hx2).2
   have hl2 := (fmtI_len hx3).2
   have hl3 := fmtAS_len hg hx1
   have hal : acc.length = k := by rw [ha, List.length_map, List.length_take]; omega
   refine w_k ?_
   refine x_s ?_
   refine w_s ?_
   refine w_block ?_
   refine w_s ?_
   refine w_g ?_
   refine t_idx e_step (k := k) ‹_› hx B rfl rfl (by first | rfl | omega) ?_ rfl
   intro p12 hp12
   refine t_lda ‹_› ab_step sb_step B rfl ?_ rfl
   intro v13 hv13
   obtain rfl := step_va hv13
   refine t_w S z_step rfl ?_ rfl rfl
   intro g7 w20 x21 S
   have B := bx Hb B x21
   refine t_stn S sb_step rfl rfl rfl rfl (by simp [Value.oneCell']) ?_
   intro w22 b23 S
   have B := B.trans b23
   refine t_d ?_
   refine x_s ?_
   refine w_draw (.st .take 0 (.st .take 1 (.st .take 2 (.st .take 5 (.st .take 6 (.st .take 7 (.st .take 11 (.st .take 12 (.st .run 3 (.st .take 4 (.st .run 8 (.st .take 9 (.st .take 10 (.st .run 13 (.st .take 14 (.st .run 15 (.st .fin 16 (.st .fin 17 .done)))))))))))))))))) mixed (by kernel_rfl) ?_
   intro w24 x25
   have B := bx Hb B x25
   have S := S.below x25
   refine t_m rfl ?_ rfl
   refine t_y fb_step_1 rfl rfl ?_ rfl
   refine t_bx1 S.box ab_int rfl rfl ?_ rfl
   refine t_lda ‹_› ab_topo sb_topo B rfl ?_ rfl
   intro v19 hv19
   obtain ⟨v19_0, v19_1, rfl, hv19_0, hv19_1⟩ := topo_va hv19
   refine t_y fb_step_0 rfl rfl ?_ rfl
   refine t_bx1 S.box ab_int rfl rfl ?_ rfl
   refine t_y fb_step_2 rfl rfl ?_ rfl
   refine t_bx1 S.box ab_int rfl rfl ?_ rfl
   refine t_x Tryz.call104 rfl (impl_FormatInt _ _ ‹_›) ?_ rfl rfl
   intro w26 x27
   have B := bx Hb B x27
   have S := S.below x27
   refine t_cats rfl rfl (by first | omega | (simp; done) | (simp; omega)) ?_ rfl
   refine t_x Tryz.call135 rfl (impl_FormatAS _ _ _ _ (by first | assumption | exact VA.below ‹_› B | exact topo_mkv (by first | assumption | exact SlR.below ‹_› B) (by first | assumption | exact SlR.below ‹_› B)) (by omega) ‹_› ‹_›) ?_ rfl rfl
   intro w28 x29
   have B := bx Hb B x29
   have S := S.below x29
   refine t_cats rfl rfl (by first | omega | (simp; done) | (simp; omega)) ?_ rfl
   refine t_cats rfl rfl (by first | omega | (simp; done) | (simp; omega)) ?_ rfl
   refine t_x Tryz.call104 rfl (impl_FormatInt _ _ ‹_›) ?_ rfl rfl
   intro w30 x31
   have B := bx Hb B x31
   have S := S.below x31
   refine t_cats rfl rfl (by first | omega | (simp; done) | (simp; omega)) ?_ rfl
   refine t_lit (T := strT) (l := [((((fmtI x.ing) ++ ([62])) ++ (fmtAS t x.ia)) ++ ([62])) ++ (fmtI x.eg)]) (css := [[Sv (((((fmtI x.ing) ++ ([62])) ++ (fmtAS t x.ia)) ++ ([62])) ++ (fmtI x.eg))]]) str_flat S (fun w => bs_str1 _ w) rfl rfl rfl rfl (by simp [maxLen]) (litR_one fun _ => rfl) ?_ rfl rfl
   intro u29 w32 x33 S
   have B := bx Hb B x33
   have hR := S.sl
   have S := S.f2
   refine t_cat str_flat e_str S hR rfl rfl rfl (by first | omega | (simp [-List.length_flatMap]; omega)) (by (simp [maxLen, -List.length_flatMap]; try omega)) ?_ rfl
   intro v30 w34 x35 S
   have B := B.trans x35
   clear hR
   have S := S.f1.tail
   refine t_a rfl ?_ rfl
   refine t_d' ?_
   refine x_b ?_
   refine x_s ?_
   refine w_g ?_
   refine t_add rfl rfl (by omega) ?_ rfl
   refine t_m rfl ?_ rfl
   refine t_d ?_
   have S := S.f1.tail
   refine x_r (X := Nat × List (List UInt8) × Value) (k + 1, acc ++ [stepTxt t x], v30) ?_ (by exact ⟨rfl, rfl, rfl, rfl, rfl, rfl, trivial⟩) (by (try dsimp only); omega)
   try dsimp only
   exact ⟨by omega, by rw [take_succ hx, List.map_append, ha]; rfl, B, S⟩
  ·intro hge
   refine w_exit ?_
   iterate 2 refine x_then_exit ?_
   refine x_block_exit ?_
   refine x_s ?_
   refine w_s ?_
   refine w_g ?_
   refine t_m rfl ?_ rfl
   refine t_a rfl ?_ rfl
   refine t_d ?_
   refine x_s ?_
   refine w_r ?_
   refine x_ret1 rfl rfl ?_
   rw [List.take_of_length_le (by omega)] at ha
   rw [← ha]
   obtain ⟨fp, hO⟩ := (S.mono X0.size).head
   exact ⟨_, fp, rfl, hO, ext_trans X0 B⟩
theorem impl_joinTexts (l : List (List UInt8)) (u : Value) (b : List UInt8) (w : World) (h : SlR strT w u l) (hl : l.length ≤ 1048576) (hb : b.length ≤ 100) (hm : ∀ x ∈ l, x.length ≤ 100) : Calls Tryz.prog 134 #[u, Sv b] w fun e w' => e = .returned (Sv (jn b l)) ∧ Below w.heap.size w w' := by
 have X0 := Below.refl w.heap.size w
 refine enter Tryz.func134 rfl Tryz.ntmps134 rfl ?_
 refine w_s ?_
 refine w_g ?_
 have S := Sep.nil w
 have B := Below.refl w.heap.size w
 have Hb := Nat.le_refl w.heap.size
 refine t_a rfl ?_ rfl
 refine t_d ?_
 refine x_s ?_
 refine w_s ?_
 refine w_g ?_
 refine t_a rfl ?_ rfl
 refine t_d ?_
 refine x_s ?_
 iterate 2 refine w_s ?_
 refine w_g ?_
 refine t_m rfl ?_ rfl
 refine t_len e_str ‹_› rfl rfl ?_ rfl
 refine t_m rfl ?_ rfl
 refine t_d ?_
 refine x_s ?_
 refine w_block ?_
 refine w_loop (X := Nat × List UInt8) (fun x wq => (fun k s => k ≤ l.length ∧ s = jn b (l.take k) ∧ Below w.heap.size w wq ∧ Sep w.heap.size wq []) x.1 x.2) (fun x => (fun k s => [(10, I ((k : Int))), (5, Sv s), (1, Sv b), (4, Sv []), (8, u), (9, I ((l.length : Int)))]) x.1 x.2) (fun x => (fun k s => l.length - k) x.1 x.2) (0, []) ?_ ⟨rfl, rfl, rfl, rfl, rfl, rfl, trivial⟩ ?_
 ·exact ⟨by omega, rfl, B, S⟩
 ·rintro ⟨k, s⟩ w36 hI
  try dsimp only at hI ⊢
  obtain ⟨hk, ha, B, S⟩ := hI
  have hsl : s.length ≤ 209715200 := by
   have h1 := jn_len b 100 (l.take k) fun x hx => hm x (List.mem_of_mem_take hx)
   rw [← ha] at h1
   have h2 : (100 + b.length) * (l.take k).length ≤ 200 * 1048576 := Nat.mul_le_mul (by omega) (by rw [List.length_take]; omega)
   omega
  refine w_s ?_
  refine w_g ?_
  refine t_lss rfl rfl ?_ rfl
  refine t_d ?_
  refine x_s ?_
  refine w_s ?_
  refine w_if rfl ?_ ?_
  ·intro hlt
   obtain ⟨x, hx⟩ : ∃ e, l[k]? = some e := getx (by omega)
   have hxl := hm x (List.mem_of_getElem? hx)
   refine w_k ?_
   refine x_s ?_
   refine w_s ?_
   refine w_block ?_
   refine w_s ?_
   refine w_g ?_
   refine t_m rfl ?_ rfl
   refine t_idx e_str (k := k) ‹_› hx B rfl rfl (by first | rfl | omega) ?_ rfl
   intro p13 hp13
   refine t_ldstr ‹_› ab_str B rfl ?_ rfl
   iterate 2 refine t_a rfl ?_ rfl
   refine t_d ?_
   refine x_s ?_
   iterate 2 refine w_s ?_
   refine w_g ?_
   refine t_m rfl ?_ rfl
   refine t_gtr rfl rfl ?_ rfl
   refine t_d ?_
   refine x_s ?_
   refine w_if rfl ?_ ?_
   ·intro hk0
    refine w_g ?_
    iterate 2 refine t_m rfl ?_ rfl
    refine t_cats rfl rfl (by first | omega | (simp; done) | (simp; omega)) ?_ rfl
    refine t_a rfl ?_ rfl
    refine t_d ?_
    refine x_s ?_
    refine w_g ?_
    iterate 2 refine t_m rfl ?_ rfl
    refine t_cats rfl rfl (by first | omega | (simp; done) | (simp; omega)) ?_ rfl
    refine t_a rfl ?_ rfl
    refine t_d ?_
    refine x_b ?_
    refine x_s ?_
    refine w_g ?_
    refine t_add rfl rfl (by omega) ?_ rfl
    refine t_m rfl ?_ rfl
    refine t_d ?_
    refine x_r (X := Nat × List UInt8) (k + 1, (s ++ b) ++ x) ?_ (by exact ⟨rfl, rfl, rfl, rfl, rfl, rfl, trivial⟩) (by (try dsimp only); omega)
    try dsimp only
    refine ⟨by omega, ?_, B, S⟩
    rw [take_succ hx, jn_snoc b x (by intro h0; have h1 := congrArg List.length h0; rw [List.length_take, List.length_nil] at h1; omega), ← ha]
   ·intro hk0
    have hk1 : k = 0 := by omega
    subst hk1
    refine w_k ?_
    refine x_s ?_
    refine w_g ?_
    iterate 2 refine t_m rfl ?_ rfl
    refine t_cats rfl rfl (by first | omega | (simp; done) | (simp; omega)) ?_ rfl
    refine t_a rfl ?_ rfl
    refine t_d ?_
    refine x_b ?_
    refine x_s ?_
    refine w_g ?_
    refine t_add rfl rfl (by omega) ?_ rfl
    refine t_m rfl ?_ rfl
    refine t_d ?_
    refine x_r (X := Nat × List UInt8) (0 + 1, s ++ x) ?_ (by exact ⟨rfl, rfl, rfl, rfl, rfl, rfl, trivial⟩) (by (try dsimp only); omega)
    try dsimp only
    refine ⟨by omega, ?_, B, S⟩
    rw [take_succ hx, ha]
    exact (jn_first b x).symm
  ·intro hge
   refine w_exit ?_
   iterate 2 refine x_then_exit ?_
   refine x_block_exit ?_
   refine x_s ?_
   refine w_s ?_
   refine w_g ?_
   refine t_m rfl ?_ rfl
   refine t_a rfl ?_ rfl
   refine t_d ?_
   refine x_s ?_
   refine w_r ?_
   refine x_ret1 rfl rfl ?_
   rw [List.take_of_length_le (by omega)] at ha
   exact ⟨ret_str ha, ext_trans X0 B⟩
theorem impl_spaced (l : List (List UInt8)) (u : Value) (w : World) (h : SlR strT w u l) (hl : l.length ≤ 1048576) (hm : ∀ x ∈ l, x.length ≤ 100) : Calls Tryz.prog 75 #[u] w fun e w' => e = .returned (Sv (if l.length = 0 then [45] else jn [32] l)) ∧ Below w.heap.size w w' := by
 have X0 := Below.refl w.heap.size w
 refine enter Tryz.func75 rfl Tryz.ntmps75 rfl ?_
 refine w_s ?_
 refine w_g ?_
 have S := Sep.nil w
 have B := Below.refl w.heap.size w
 have Hb := Nat.le_refl w.heap.size
 refine t_a rfl ?_ rfl
 refine t_d ?_
 refine x_s ?_
 iterate 2 refine w_s ?_
 refine w_g ?_
 refine t_m rfl ?_ rfl
 refine t_len e_str ‹_› rfl rfl ?_ rfl
 refine t_eql rfl rfl ?_ rfl
 refine t_d ?_
 refine x_s ?_
 refine w_if rfl ?_ ?_
 ·intro h0
  refine w_s ?_
  refine w_g ?_
  refine t_a rfl ?_ rfl
  refine t_d ?_
  refine x_s ?_
  refine w_r ?_
  refine x_t ?_
  refine x_ret1 rfl rfl ?_
  exact ⟨ret_str (by rw [if_pos (by omega)]), ext_trans X0 B⟩
 ·intro h0
  refine w_k ?_
  refine x_s ?_
  refine w_s ?_
  refine w_g ?_
  refine t_m rfl ?_ rfl
  refine t_x Tryz.call134 rfl (impl_joinTexts _ _ _ _ (by first | assumption | exact SlR.below ‹_› B) (by omega) (by simp) ‹_›) ?_ rfl rfl
  intro w37 x38
  have B := bx Hb B x38
  have S := S.below x38
  refine t_a rfl ?_ rfl
  refine t_d ?_
  refine x_s ?_
  refine w_r ?_
  refine x_ret1 rfl rfl ?_
  exact ⟨ret_str (by rw [if_neg (by omega)]), ext_trans X0 B⟩
theorem impl_FormatPath (t : Topo) (v : Value) (p : Path) (u : Value) (w : World) (h : VA topoT w v t) (hp : VA pathT w u p) (hz : sz_topo t ≤ 1048576) (hgt : rng_topo t) (hz' : sz_path p ≤ 1048576) (hl : lenOk_path p) (hg : rng_path p) : Calls Tryz.prog 22 #[v, u] w fun e w' => e = .returned (Sv (fmtPath t p)) ∧ Below w.heap.size w w' := by
 have hsl := pathSteps_len p
 have hsi := pathSteps_in hg
 have hmx : ∀ x ∈ (pathSteps p).map (stepTxt t), x.length ≤ 100 := fun x hx => by
  obtain ⟨s, hs, rfl⟩ := List.mem_map.1 hx
  have := stepTxt_len hgt (hsi s hs)
  omega
 have X0 := Below.refl w.heap.size w
 refine enter Tryz.func22 rfl Tryz.ntmps22 rfl ?_
 refine w_s ?_
 refine w_g ?_
 refine t_boxr ‹_› rfl ?_ rfl rfl
 intro p2 w39 x40 hp2
 replace h := h.below x40
 replace hp := hp.below x40
 have X0 := ext_trans X0 x40
 refine t_boxr ‹_› rfl ?_ rfl rfl
 intro p3 w41 x42 hp3
 replace h := h.below x42
 replace hp := hp.below x42
 replace hp2 := hp2.below x42
 have X0 := ext_trans X0 x42
 have S := Sep.nil w41
 have B := Below.refl w41.heap.size w41
 have Hb := Nat.le_refl w41.heap.size
 refine t_a rfl ?_ rfl
 refine t_d ?_
 refine x_s ?_
 refine w_s ?_
 refine w_draw (.st .take 0 (.st .take 1 (.st .run 2 (.st .run 3 (.st .run 4 (.st .take 5 .done)))))) mixed (by kernel_rfl) ?_
 intro w43 x44
 have B := bx Hb B x44
 have S := S.below x44
 refine t_lda ‹_› ab_topo sb_topo B rfl ?_ rfl
 intro v5 hv5
 obtain ⟨v5_0, v5_1, rfl, hv5_0, hv5_1⟩ := topo_va hv5
 refine t_lda ‹_› ab_path sb_path B rfl ?_ rfl
 intro v6 hv6
 obtain ⟨v6_0, rfl, hv6_0⟩ := path_va hv6
 refine t_c Tryz.call28 rfl (va1 (by first | assumption | exact VA.below ‹_› B | exact path_mkv (by first | assumption | exact SlR.below ‹_› B)) fun cs h => impl_PathSteps _ cs _ h (by omega) ‹_› ‹_›) ?_ rfl rfl
 rintro e w45 ⟨v7, fpv7, rfl, hOv7, x46⟩
 refine ⟨_, rfl, x46, ?_⟩
 have S := S.add (o := slO _ _ _ _) x46 hOv7
 have B := bx Hb B x46
 refine t_c Tryz.call76 rfl (impl_formatSteps _ _ _ _ _ (by first | assumption | exact VA.below ‹_› B | exact topo_mkv (by first | assumption | exact SlR.below ‹_› B) (by first | assumption | exact SlR.below ‹_› B)) (S.sl) (by omega) ‹_› (by omega) ‹_›) ?_ rfl rfl
 rintro e w47 ⟨v8, fpv8, rfl, hOv8, x48⟩
 refine ⟨_, rfl, x48, ?_⟩
 have S := S.add (o := slO _ _ _ _) x48 hOv8
 have B := bx Hb B x48
 refine t_x Tryz.call75 rfl (impl_spaced _ _ _ (S.sl) (by rw [List.length_map]; omega) ‹_›) ?_ rfl rfl
 intro w49 x50
 have B := bx Hb B x50
 have S := S.below x50
 refine t_a rfl ?_ rfl
 refine t_d' ?_
 refine x_s ?_
 refine w_r ?_
 refine x_ret1 rfl rfl ?_
 exact ⟨ret_str (by unfold fmtPath; rw [List.length_map]), ext_trans X0 B⟩
theorem spec_FormatPath (t : Topo) (v : Value) (p : Path) (u : Value) (w : World) (h : VA topoT w v t) (hp : VA pathT w u p) (hz : sz_topo t ≤ 1048576) (hgt : rng_topo t) (hz' : sz_path p ≤ 1048576) (hl : lenOk_path p) (hg : rng_path p) : Calls Tryz.prog 23 #[v, u] w fun e w' => e = .returned (Sv (fmtPath t p)) ∧ Below w.heap.size w w' := by
 have hsl := pathSteps_len p
 have hsi := pathSteps_in hg
 have X0 := Below.refl w.heap.size w
 refine enter Tryz.func23 rfl Tryz.ntmps23 rfl ?_
 refine w_s ?_
 refine w_g ?_
 refine t_boxr ‹_› rfl ?_ rfl rfl
 intro p2 w51 x52 hp2
 replace h := h.below x52
 replace hp := hp.below x52
 have X0 := ext_trans X0 x52
 refine t_boxr ‹_› rfl ?_ rfl rfl
 intro p3 w53 x54 hp3
 replace h := h.below x54
 replace hp := hp.below x54
 replace hp2 := hp2.below x54
 have X0 := ext_trans X0 x54
 have S := Sep.nil w53
 have B := Below.refl w53.heap.size w53
 have Hb := Nat.le_refl w53.heap.size
 refine t_a rfl ?_ rfl
 refine t_d ?_
 refine x_s ?_
 refine w_s ?_
 refine w_g ?_
 refine t_a rfl ?_ rfl
 refine t_d ?_
 refine x_s ?_
 refine w_s ?_
 refine w_g ?_
 refine t_lda ‹_› ab_path sb_path B rfl ?_ rfl
 intro v8 hv8
 obtain ⟨v8_0, rfl, hv8_0⟩ := path_va hv8
 refine t_c Tryz.call29 rfl (va1 (by first | assumption | exact VA.below ‹_› B | exact path_mkv (by first | assumption | exact SlR.below ‹_› B)) fun cs h => spec_PathSteps _ cs _ h (by omega) ‹_› ‹_›) ?_ rfl rfl
 rintro e w55 ⟨v9, fpv9, rfl, hOv9, x56⟩
 refine ⟨_, rfl, x56, ?_⟩
 have S := S.add (o := slO _ _ _ _) x56 hOv9
 have B := bx Hb B x56
 refine t_a rfl ?_ rfl
 refine t_d ?_
 refine x_s ?_
 iterate 2 refine w_s ?_
 refine w_g ?_
 refine t_a rfl ?_ rfl
 refine t_d ?_
 refine x_s ?_
 refine w_block ?_
 refine w_loop (X := Nat × List UInt8) (fun x wq => (fun k s => k ≤ (pathSteps p).length ∧ s = jn [32] (((pathSteps p).take k).map (stepTxt t)) ∧ Below w53.heap.size w53 wq ∧ Sep w53.heap.size wq [slO stepT 78 v9 (pathSteps p)]) x.1 x.2) (fun x => (fun k s => [(7, I ((k : Int))), (5, Sv s), (2, p2), (4, Sv []), (6, v9)]) x.1 x.2) (fun x => (fun k s => (pathSteps p).length - k) x.1 x.2) (0, []) ?_ ⟨rfl, rfl, rfl, rfl, rfl, trivial⟩ ?_
 ·exact ⟨by omega, rfl, B, S⟩
 ·rintro ⟨k, s⟩ w57 hI
  try dsimp only at hI ⊢
  obtain ⟨hk, ha, B, S⟩ := hI
  have hsz : s.length ≤ 209715200 := by
   have h1 := jn_len [32] 100 (((pathSteps p).take k).map (stepTxt t)) fun x hx => by
    obtain ⟨s, hs, rfl⟩ := List.mem_map.1 hx
    have := stepTxt_len hgt (hsi s (List.mem_of_mem_take hs))
    omega
   rw [← ha] at h1
   have h2 : (100 + [(32 : UInt8)].length) * (((pathSteps p).take k).map (stepTxt t)).length ≤ 101 * 1048576 := Nat.mul_le_mul (by simp) (by rw [List.length_map, List.length_take]; omega)
   omega
  iterate 2 refine w_s ?_
  refine w_g ?_
  iterate 2 refine t_m rfl ?_ rfl
  refine t_len e_step (S.sl) rfl rfl ?_ rfl
  refine t_lss rfl rfl ?_ rfl
  refine t_d ?_
  refine x_s ?_
  refine w_if rfl ?_ ?_
  ·intro hlt
   obtain ⟨x, hx⟩ : ∃ e, (pathSteps p)[k]? = some e := getx (by omega)
   have hxs := hsi x (List.mem_of_getElem? hx)
   have hx1 := hxs.1
   have hx2 := hxs.2.1
   have hx3 := hxs.2.2
   have hl1 := (fmtI_len hx2).2
   have hl2 := (fmtI_len hx3).2
   have hl3 := fmtAS_len hgt hx1
   refine w_k ?_
   refine x_s ?_
   refine w_s ?_
   refine w_block ?_
   iterate 2 refine w_s ?_
   refine w_g ?_
   refine t_m rfl ?_ rfl
   refine t_gtr rfl rfl ?_ rfl
   refine t_d ?_
   refine x_s ?_
   refine w_if rfl ?_ ?_
   ·intro hk0
    refine w_g ?_
    refine t_m rfl ?_ rfl
    refine t_cats rfl rfl (by first | omega | (simp; done) | (simp; omega)) ?_ rfl
    refine t_a rfl ?_ rfl
    refine t_d ?_
    refine x_s ?_
    refine w_draw (.st .take 0 (.st .take 1 (.st .take 2 (.st .take 3 (.st .take 4 (.st .take 5 (.st .take 9 (.st .take 10 (.st .take 11 (.st .take 12 (.st .take 13 (.st .take 14 (.st .take 18 (.st .take 19 (.st .take 20 (.st .take 21 (.st .take 22 (.st .run 6 (.st .take 7 (.st .take 8 (.st .run 15 (.st .take 16 (.st .take 17 (.st .run 23 (.st .take 24 (.st .take 25 .done)))))))))))))))))))))))))) mixed (by kernel_rfl) ?_
    intro w58 x59
    have B := bx Hb B x59
    have S := S.below x59
    iterate 3 refine t_m rfl ?_ rfl
    refine t_idx e_step (k := k) (S.sl) hx (Below.refl _ _) rfl rfl (by first | rfl | omega) ?_ rfl
    intro p23 hp23
    refine t_fld ln_step_1 ‹_› fb_step_1 rfl ?_ rfl
    intro p24 hp24
    refine t_ldi ‹_› ab_int (Below.refl _ _) rfl ?_ rfl
    refine t_lda ‹_› ab_topo sb_topo B rfl ?_ rfl
    intro v29 hv29
    obtain ⟨v29_0, v29_1, rfl, hv29_0, hv29_1⟩ := topo_va hv29
    iterate 2 refine t_m rfl ?_ rfl
    refine t_idx e_step (k := k) (S.sl) hx (Below.refl _ _) rfl rfl (by first | rfl | omega) ?_ rfl
    intro p32 hp32
    refine t_fld ln_step_0 ‹_› fb_step_0 rfl ?_ rfl
    intro p33 hp33
    refine t_ldi ‹_› ab_int (Below.refl _ _) rfl ?_ rfl
    iterate 2 refine t_m rfl ?_ rfl
    refine t_idx e_step (k := k) (S.sl) hx (Below.refl _ _) rfl rfl (by first | rfl | omega) ?_ rfl
    intro p40 hp40
    refine t_fld ln_step_2 ‹_› fb_step_2 rfl ?_ rfl
    intro p41 hp41
    refine t_ldi ‹_› ab_int (Below.refl _ _) rfl ?_ rfl
    refine t_x Tryz.call77 rfl (spec_FormatInt _ _ ‹_›) ?_ rfl rfl
    intro w60 x61
    have B := bx Hb B x61
    have S := S.below x61
    refine t_cats rfl rfl (by first | omega | (simp; done) | (simp; omega)) ?_ rfl
    refine t_cats rfl rfl (by first | omega | (simp; done) | (simp; omega)) ?_ rfl
    refine t_x Tryz.call78 rfl (spec_FormatAS _ _ _ _ (by first | assumption | exact VA.below ‹_› B | exact topo_mkv (by first | assumption | exact SlR.below ‹_› B) (by first | assumption | exact SlR.below ‹_› B)) (by omega) ‹_› ‹_›) ?_ rfl rfl
    intro w62 x63
    have B := bx Hb B x63
    have S := S.below x63
    refine t_cats rfl rfl (by first | omega | (simp; done) | (simp; omega)) ?_ rfl
    refine t_cats rfl rfl (by first | omega | (simp; done) | (simp; omega)) ?_ rfl
    refine t_x Tryz.call77 rfl (spec_FormatInt _ _ ‹_›) ?_ rfl rfl
    intro w64 x65
    have B := bx Hb B x65
    have S := S.below x65
    refine t_cats rfl rfl (by first | omega | (simp; done) | (simp; omega)) ?_ rfl
    refine t_a rfl ?_ rfl
    refine t_d' ?_
    refine x_b ?_
    refine x_s ?_
    refine w_g ?_
    refine t_m rfl ?_ rfl
    refine t_add rfl rfl (by omega) ?_ rfl
    refine t_a rfl ?_ rfl
    refine t_d ?_
    refine x_r (X := Nat × List UInt8) (k + 1, (((((s ++ ([32])) ++ (fmtI x.ing)) ++ ([62])) ++ (fmtAS t x.ia)) ++ ([62])) ++ (fmtI x.eg)) ?_ (by exact ⟨rfl, rfl, rfl, rfl, rfl, trivial⟩) (by (try dsimp only); omega)
    try dsimp only
    refine ⟨by omega, ?_, B, S⟩
    rw [take_succ hx, List.map_append, List.map_cons, List.map_nil, jn_snoc [32] (stepTxt t x) (by intro h0; have h1 := congrArg List.length h0; rw [List.length_map, List.length_take, List.length_nil] at h1; omega), ← ha]
    unfold stepTxt
    simp only [List.append_assoc]
   ·intro hk0
    have hk1 : k = 0 := by omega
    refine w_k ?_
    refine x_s ?_
    refine w_draw (.st .take 0 (.st .take 1 (.st .take 2 (.st .take 3 (.st .take 4 (.st .take 5 (.st .take 9 (.st .take 10 (.st .take 11 (.st .take 12 (.st .take 13 (.st .take 14 (.st .take 18 (.st .take 19 (.st .take 20 (.st .take 21 (.st .take 22 (.st .run 6 (.st .take 7 (.st .take 8 (.st .run 15 (.st .take 16 (.st .take 17 (.st .run 23 (.st .take 24 (.st .take 25 .done)))))))))))))))))))))))))) mixed (by kernel_rfl) ?_
    intro w66 x67
    have B := bx Hb B x67
    have S := S.below x67
    iterate 3 refine t_m rfl ?_ rfl
    refine t_idx e_step (k := k) (S.sl) hx (Below.refl _ _) rfl rfl (by first | rfl | omega) ?_ rfl
    intro p23 hp23
    refine t_fld ln_step_1 ‹_› fb_step_1 rfl ?_ rfl
    intro p24 hp24
    refine t_ldi ‹_› ab_int (Below.refl _ _) rfl ?_ rfl
    refine t_lda ‹_› ab_topo sb_topo B rfl ?_ rfl
    intro v29 hv29
    obtain ⟨v29_0, v29_1, rfl, hv29_0, hv29_1⟩ := topo_va hv29
    iterate 2 refine t_m rfl ?_ rfl
    refine t_idx e_step (k := k) (S.sl) hx (Below.refl _ _) rfl rfl (by first | rfl | omega) ?_ rfl
    intro p32 hp32
    refine t_fld ln_step_0 ‹_› fb_step_0 rfl ?_ rfl
    intro p33 hp33
    refine t_ldi ‹_› ab_int (Below.refl _ _) rfl ?_ rfl
    iterate 2 refine t_m rfl ?_ rfl
    refine t_idx e_step (k := k) (S.sl) hx (Below.refl _ _) rfl rfl (by first | rfl | omega) ?_ rfl
    intro p40 hp40
    refine t_fld ln_step_2 ‹_› fb_step_2 rfl ?_ rfl
    intro p41 hp41
    refine t_ldi ‹_› ab_int (Below.refl _ _) rfl ?_ rfl
    refine t_x Tryz.call77 rfl (spec_FormatInt _ _ ‹_›) ?_ rfl rfl
    intro w68 x69
    have B := bx Hb B x69
    have S := S.below x69
    refine t_cats rfl rfl (by first | omega | (simp; done) | (simp; omega)) ?_ rfl
    refine t_cats rfl rfl (by first | omega | (simp; done) | (simp; omega)) ?_ rfl
    refine t_x Tryz.call78 rfl (spec_FormatAS _ _ _ _ (by first | assumption | exact VA.below ‹_› B | exact topo_mkv (by first | assumption | exact SlR.below ‹_› B) (by first | assumption | exact SlR.below ‹_› B)) (by omega) ‹_› ‹_›) ?_ rfl rfl
    intro w70 x71
    have B := bx Hb B x71
    have S := S.below x71
    refine t_cats rfl rfl (by first | omega | (simp; done) | (simp; omega)) ?_ rfl
    refine t_cats rfl rfl (by first | omega | (simp; done) | (simp; omega)) ?_ rfl
    refine t_x Tryz.call77 rfl (spec_FormatInt _ _ ‹_›) ?_ rfl rfl
    intro w72 x73
    have B := bx Hb B x73
    have S := S.below x73
    refine t_cats rfl rfl (by first | omega | (simp; done) | (simp; omega)) ?_ rfl
    refine t_a rfl ?_ rfl
    refine t_d' ?_
    refine x_b ?_
    refine x_s ?_
    refine w_g ?_
    refine t_m rfl ?_ rfl
    refine t_add rfl rfl (by omega) ?_ rfl
    refine t_a rfl ?_ rfl
    refine t_d ?_
    refine x_r (X := Nat × List UInt8) (k + 1, ((((s ++ (fmtI x.ing)) ++ ([62])) ++ (fmtAS t x.ia)) ++ ([62])) ++ (fmtI x.eg)) ?_ (by exact ⟨rfl, rfl, rfl, rfl, rfl, trivial⟩) (by (try dsimp only); omega)
    try dsimp only
    refine ⟨by omega, ?_, B, S⟩
    have hs0 : s = [] := by rw [ha, hk1]; rfl
    rw [take_succ hx, hk1, List.take_zero, List.nil_append, List.map_cons, List.map_nil, hs0]
    show _ = jn [32] ([] ++ [stepTxt t x])
    rw [jn_first]
    unfold stepTxt
    simp only [List.append_assoc, List.nil_append]
  ·intro hge
   rw [List.take_of_length_le (by omega)] at ha
   refine w_exit ?_
   iterate 2 refine x_then_exit ?_
   refine x_block_exit ?_
   refine x_s ?_
   iterate 2 refine w_s ?_
   refine w_g ?_
   refine t_m rfl ?_ rfl
   refine t_len e_step (S.sl) rfl rfl ?_ rfl
   refine t_eql rfl rfl ?_ rfl
   refine t_d ?_
   refine x_s ?_
   refine w_if rfl ?_ ?_
   ·intro h0
    refine w_s ?_
    refine w_g ?_
    refine t_a rfl ?_ rfl
    refine t_d ?_
    refine x_s ?_
    refine w_r ?_
    refine x_t ?_
    refine x_ret1 rfl rfl ?_
    exact ⟨ret_str (by unfold fmtPath; rw [if_pos (by omega)]), ext_trans X0 B⟩
   ·intro h0
    refine w_k ?_
    refine x_s ?_
    refine w_s ?_
    refine w_g ?_
    refine t_m rfl ?_ rfl
    refine t_a rfl ?_ rfl
    refine t_d ?_
    refine x_s ?_
    refine w_r ?_
    refine x_ret1 rfl rfl ?_
    exact ⟨ret_str (by unfold fmtPath; rw [if_neg (by omega), ha]), ext_trans X0 B⟩
def pkName (k : Int) : List UInt8 := if k = 1 then [100, 97, 116, 97] else if k = 2 then [97, 99, 107] else if k = 3 then [114, 101, 118, 111, 99, 97, 116, 105, 111, 110] else []
def fmtPkt (t : Topo) (x : Pkt) : List UInt8 := (((pkName x.kind ++ [32]) ++ fmtI x.seq) ++ [32]) ++ fmtPath t x.path
theorem impl_FormatPacket (t : Topo) (v : Value) (x : Pkt) (u : Value) (w : World) (h : VA topoT w v t) (hp : VA pktT w u x) (hz : sz_topo t ≤ 1048576) (hgt : rng_topo t) (hz' : sz_pkt x ≤ 1048576) (hl : lenOk_pkt x) (hg : rng_pkt x) : Calls Tryz.prog 45 #[v, u] w fun e w' => e = .returned (Sv (fmtPkt t x)) ∧ Below w.heap.size w w' := by
 have hz1 : sz_path x.path ≤ 1048576 := by unfold sz_pkt at hz'; omega
 have hl1 := hl.1
 have hg1 := hg.2.2.2.1
 have hg2 : In64 x.seq := hg.2.2.2.2.2.2.2.2
 have hb1 := (fmtI_len hg2).2
 have hb2 := fmtPath_len hgt hg1 hz1
 have X0 := Below.refl w.heap.size w
 refine enter Tryz.func45 rfl Tryz.ntmps45 rfl ?_
 refine w_s ?_
 refine w_g ?_
 refine t_boxr ‹_› rfl ?_ rfl rfl
 intro p2 w74 x75 hp2
 replace h := h.below x75
 replace hp := hp.below x75
 have X0 := ext_trans X0 x75
 refine t_boxr ‹_› rfl ?_ rfl rfl
 intro p3 w76 x77 hp3
 replace h := h.below x77
 replace hp := hp.below x77
 replace hp2 := hp2.below x77
 have X0 := ext_trans X0 x77
 have S := Sep.nil w76
 have B := Below.refl w76.heap.size w76
 have Hb := Nat.le_refl w76.heap.size
 refine t_a rfl ?_ rfl
 refine t_d ?_
 refine x_s ?_
 refine w_s ?_
 refine w_g ?_
 refine t_a rfl ?_ rfl
 refine t_d ?_
 refine x_s ?_
 iterate 2 refine w_s ?_
 refine w_g ?_
 refine t_fld ln_pkt_0 ‹_› fb_pkt_0 rfl ?_ rfl
 intro p6 hp6
 refine t_ldi ‹_› ab_int B rfl ?_ rfl
 refine t_d ?_
 refine x_s ?_
 refine w_block ?_
 refine w_s ?_
 refine w_g ?_
 refine t_eql rfl rfl ?_ rfl
 refine t_a rfl ?_ rfl
 refine t_d ?_
 refine x_s ?_
 refine w_if rfl ?_ ?_
 ·intro h1
  refine w_g ?_
  refine t_a rfl ?_ rfl
  refine t_d ?_
  refine x_b ?_
  refine x_s ?_
  refine w_s ?_
  refine w_draw (.st .take 0 (.st .take 1 (.st .take 2 (.st .take 3 (.st .take 7 (.st .take 8 (.st .take 9 (.st .run 4 (.st .take 5 (.st .take 6 (.st .run 10 (.st .take 11 (.st .take 12 .done))))))))))))) mixed (by kernel_rfl) ?_
  intro w78 x79
  have B := bx Hb B x79
  have S := S.below x79
  refine t_m rfl ?_ rfl
  refine t_cats rfl rfl (by first | omega | (simp; done) | (simp; omega)) ?_ rfl
  refine t_fld ln_pkt_8 ‹_› fb_pkt_8 rfl ?_ rfl
  intro p16 hp16
  refine t_ldi ‹_› ab_int B rfl ?_ rfl
  refine t_lda ‹_› ab_topo sb_topo B rfl ?_ rfl
  intro v21 hv21
  obtain ⟨v21_0, v21_1, rfl, hv21_0, hv21_1⟩ := topo_va hv21
  refine t_fld ln_pkt_3 ‹_› fb_pkt_3 rfl ?_ rfl
  intro p22 hp22
  refine t_lda ‹_› ab_path sb_path B rfl ?_ rfl
  intro v23 hv23
  obtain ⟨v23_0, rfl, hv23_0⟩ := path_va hv23
  refine t_x Tryz.call104 rfl (impl_FormatInt _ _ ‹_›) ?_ rfl rfl
  intro w80 x81
  have B := bx Hb B x81
  have S := S.below x81
  refine t_cats rfl rfl (by first | omega | (simp; done) | (simp; omega)) ?_ rfl
  refine t_cats rfl rfl (by first | omega | (simp; done) | (simp; omega)) ?_ rfl
  refine t_x Tryz.call22 rfl (impl_FormatPath _ _ _ _ _ (by first | assumption | exact VA.below ‹_› B | exact topo_mkv (by first | assumption | exact SlR.below ‹_› B) (by first | assumption | exact SlR.below ‹_› B)) (by first | assumption | exact VA.below ‹_› B | exact path_mkv (by first | assumption | exact SlR.below ‹_› B)) (by omega) ‹_› (by omega) ‹_› ‹_›) ?_ rfl rfl
  intro w82 x83
  have B := bx Hb B x83
  have S := S.below x83
  refine t_cats rfl rfl (by first | omega | (simp; done) | (simp; omega)) ?_ rfl
  refine t_a rfl ?_ rfl
  refine t_d' ?_
  refine x_s ?_
  refine w_r ?_
  refine x_ret1 rfl rfl ?_
  exact ⟨ret_str (by unfold fmtPkt pkName; rw [if_pos h1]), ext_trans X0 B⟩
 ·intro h1
  refine w_s ?_
  refine w_g ?_
  refine t_eql rfl rfl ?_ rfl
  refine t_a rfl ?_ rfl
  refine t_d ?_
  refine x_s ?_
  refine w_if rfl ?_ ?_
  ·intro h2
   refine w_g ?_
   refine t_a rfl ?_ rfl
   refine t_d ?_
   refine x_b ?_
   refine x_s ?_
   refine w_s ?_
   refine w_draw (.st .take 0 (.st .take 1 (.st .take 2 (.st .take 3 (.st .take 7 (.st .take 8 (.st .take 9 (.st .run 4 (.st .take 5 (.st .take 6 (.st .run 10 (.st .take 11 (.st .take 12 .done))))))))))))) mixed (by kernel_rfl) ?_
   intro w84 x85
   have B := bx Hb B x85
   have S := S.below x85
   refine t_m rfl ?_ rfl
   refine t_cats rfl rfl (by first | omega | (simp; done) | (simp; omega)) ?_ rfl
   refine t_fld ln_pkt_8 ‹_› fb_pkt_8 rfl ?_ rfl
   intro p16 hp16
   refine t_ldi ‹_› ab_int B rfl ?_ rfl
   refine t_lda ‹_› ab_topo sb_topo B rfl ?_ rfl
   intro v21 hv21
   obtain ⟨v21_0, v21_1, rfl, hv21_0, hv21_1⟩ := topo_va hv21
   refine t_fld ln_pkt_3 ‹_› fb_pkt_3 rfl ?_ rfl
   intro p22 hp22
   refine t_lda ‹_› ab_path sb_path B rfl ?_ rfl
   intro v23 hv23
   obtain ⟨v23_0, rfl, hv23_0⟩ := path_va hv23
   refine t_x Tryz.call104 rfl (impl_FormatInt _ _ ‹_›) ?_ rfl rfl
   intro w86 x87
   have B := bx Hb B x87
   have S := S.below x87
   refine t_cats rfl rfl (by first | omega | (simp; done) | (simp; omega)) ?_ rfl
   refine t_cats rfl rfl (by first | omega | (simp; done) | (simp; omega)) ?_ rfl
   refine t_x Tryz.call22 rfl (impl_FormatPath _ _ _ _ _ (by first | assumption | exact VA.below ‹_› B | exact topo_mkv (by first | assumption | exact SlR.below ‹_› B) (by first | assumption | exact SlR.below ‹_› B)) (by first | assumption | exact VA.below ‹_› B | exact path_mkv (by first | assumption | exact SlR.below ‹_› B)) (by omega) ‹_› (by omega) ‹_› ‹_›) ?_ rfl rfl
   intro w88 x89
   have B := bx Hb B x89
   have S := S.below x89
   refine t_cats rfl rfl (by first | omega | (simp; done) | (simp; omega)) ?_ rfl
   refine t_a rfl ?_ rfl
   refine t_d' ?_
   refine x_s ?_
   refine w_r ?_
   refine x_ret1 rfl rfl ?_
   exact ⟨ret_str (by unfold fmtPkt pkName; rw [if_neg h1, if_pos h2]), ext_trans X0 B⟩
  ·intro h2
   refine w_s ?_
   refine w_g ?_
   refine t_eql rfl rfl ?_ rfl
   refine t_a rfl ?_ rfl
   refine t_d ?_
   refine x_s ?_
   refine w_if rfl ?_ ?_
   ·intro h3
    refine w_g ?_
    refine t_a rfl ?_ rfl
    refine t_d ?_
    refine x_b ?_
    refine x_s ?_
    refine w_s ?_
    refine w_draw (.st .take 0 (.st .take 1 (.st .take 2 (.st .take 3 (.st .take 7 (.st .take 8 (.st .take 9 (.st .run 4 (.st .take 5 (.st .take 6 (.st .run 10 (.st .take 11 (.st .take 12 .done))))))))))))) mixed (by kernel_rfl) ?_
    intro w90 x91
    have B := bx Hb B x91
    have S := S.below x91
    refine t_m rfl ?_ rfl
    refine t_cats rfl rfl (by first | omega | (simp; done) | (simp; omega)) ?_ rfl
    refine t_fld ln_pkt_8 ‹_› fb_pkt_8 rfl ?_ rfl
    intro p16 hp16
    refine t_ldi ‹_› ab_int B rfl ?_ rfl
    refine t_lda ‹_› ab_topo sb_topo B rfl ?_ rfl
    intro v21 hv21
    obtain ⟨v21_0, v21_1, rfl, hv21_0, hv21_1⟩ := topo_va hv21
    refine t_fld ln_pkt_3 ‹_› fb_pkt_3 rfl ?_ rfl
    intro p22 hp22
    refine t_lda ‹_› ab_path sb_path B rfl ?_ rfl
    intro v23 hv23
    obtain ⟨v23_0, rfl, hv23_0⟩ := path_va hv23
    refine t_x Tryz.call104 rfl (impl_FormatInt _ _ ‹_›) ?_ rfl rfl
    intro w92 x93
    have B := bx Hb B x93
    have S := S.below x93
    refine t_cats rfl rfl (by first | omega | (simp; done) | (simp; omega)) ?_ rfl
    refine t_cats rfl rfl (by first | omega | (simp; done) | (simp; omega)) ?_ rfl
    refine t_x Tryz.call22 rfl (impl_FormatPath _ _ _ _ _ (by first | assumption | exact VA.below ‹_› B | exact topo_mkv (by first | assumption | exact SlR.below ‹_› B) (by first | assumption | exact SlR.below ‹_› B)) (by first | assumption | exact VA.below ‹_› B | exact path_mkv (by first | assumption | exact SlR.below ‹_› B)) (by omega) ‹_› (by omega) ‹_› ‹_›) ?_ rfl rfl
    intro w94 x95
    have B := bx Hb B x95
    have S := S.below x95
    refine t_cats rfl rfl (by first | omega | (simp; done) | (simp; omega)) ?_ rfl
    refine t_a rfl ?_ rfl
    refine t_d' ?_
    refine x_s ?_
    refine w_r ?_
    refine x_ret1 rfl rfl ?_
    exact ⟨ret_str (by unfold fmtPkt pkName; rw [if_neg h1, if_neg h2, if_pos h3]), ext_trans X0 B⟩
   ·intro h3
    refine w_k ?_
    refine x_b ?_
    refine x_s ?_
    refine w_s ?_
    refine w_draw (.st .take 0 (.st .take 1 (.st .take 2 (.st .take 3 (.st .take 7 (.st .take 8 (.st .take 9 (.st .run 4 (.st .take 5 (.st .take 6 (.st .run 10 (.st .take 11 (.st .take 12 .done))))))))))))) mixed (by kernel_rfl) ?_
    intro w96 x97
    have B := bx Hb B x97
    have S := S.below x97
    refine t_m rfl ?_ rfl
    refine t_cats rfl rfl (by first | omega | (simp; done) | (simp; omega)) ?_ rfl
    refine t_fld ln_pkt_8 ‹_› fb_pkt_8 rfl ?_ rfl
    intro p16 hp16
    refine t_ldi ‹_› ab_int B rfl ?_ rfl
    refine t_lda ‹_› ab_topo sb_topo B rfl ?_ rfl
    intro v21 hv21
    obtain ⟨v21_0, v21_1, rfl, hv21_0, hv21_1⟩ := topo_va hv21
    refine t_fld ln_pkt_3 ‹_› fb_pkt_3 rfl ?_ rfl
    intro p22 hp22
    refine t_lda ‹_› ab_path sb_path B rfl ?_ rfl
    intro v23 hv23
    obtain ⟨v23_0, rfl, hv23_0⟩ := path_va hv23
    refine t_x Tryz.call104 rfl (impl_FormatInt _ _ ‹_›) ?_ rfl rfl
    intro w98 x99
    have B := bx Hb B x99
    have S := S.below x99
    refine t_cats rfl rfl (by first | omega | (simp; done) | (simp; omega)) ?_ rfl
    refine t_cats rfl rfl (by first | omega | (simp; done) | (simp; omega)) ?_ rfl
    refine t_x Tryz.call22 rfl (impl_FormatPath _ _ _ _ _ (by first | assumption | exact VA.below ‹_› B | exact topo_mkv (by first | assumption | exact SlR.below ‹_› B) (by first | assumption | exact SlR.below ‹_› B)) (by first | assumption | exact VA.below ‹_› B | exact path_mkv (by first | assumption | exact SlR.below ‹_› B)) (by omega) ‹_› (by omega) ‹_› ‹_›) ?_ rfl rfl
    intro w100 x101
    have B := bx Hb B x101
    have S := S.below x101
    refine t_cats rfl rfl (by first | omega | (simp; done) | (simp; omega)) ?_ rfl
    refine t_a rfl ?_ rfl
    refine t_d' ?_
    refine x_s ?_
    refine w_r ?_
    refine x_ret1 rfl rfl ?_
    exact ⟨ret_str (by unfold fmtPkt pkName; rw [if_neg h1, if_neg h2, if_neg h3]), ext_trans X0 B⟩
theorem spec_FormatPacket (t : Topo) (v : Value) (x : Pkt) (u : Value) (w : World) (h : VA topoT w v t) (hp : VA pktT w u x) (hz : sz_topo t ≤ 1048576) (hgt : rng_topo t) (hz' : sz_pkt x ≤ 1048576) (hl : lenOk_pkt x) (hg : rng_pkt x) : Calls Tryz.prog 46 #[v, u] w fun e w' => e = .returned (Sv (fmtPkt t x)) ∧ Below w.heap.size w w' := by
 have hz1 : sz_path x.path ≤ 1048576 := by unfold sz_pkt at hz'; omega
 have hl1 := hl.1
 have hg1 := hg.2.2.2.1
 have hg2 : In64 x.seq := hg.2.2.2.2.2.2.2.2
 have hb1 := (fmtI_len hg2).2
 have hb2 := fmtPath_len hgt hg1 hz1
 have X0 := Below.refl w.heap.size w
 refine enter Tryz.func46 rfl Tryz.ntmps46 rfl ?_
 refine w_s ?_
 refine w_g ?_
 refine t_boxr ‹_› rfl ?_ rfl rfl
 intro p2 w102 x103 hp2
 replace h := h.below x103
 replace hp := hp.below x103
 have X0 := ext_trans X0 x103
 refine t_boxr ‹_› rfl ?_ rfl rfl
 intro p3 w104 x105 hp3
 replace h := h.below x105
 replace hp := hp.below x105
 replace hp2 := hp2.below x105
 have X0 := ext_trans X0 x105
 have S := Sep.nil w104
 have B := Below.refl w104.heap.size w104
 have Hb := Nat.le_refl w104.heap.size
 refine t_a rfl ?_ rfl
 refine t_d ?_
 refine x_s ?_
 refine w_s ?_
 refine w_g ?_
 refine t_a rfl ?_ rfl
 refine t_d ?_
 refine x_s ?_
 iterate 2 refine w_s ?_
 refine w_g ?_
 refine t_fld ln_pkt_0 ‹_› fb_pkt_0 rfl ?_ rfl
 intro p6 hp6
 refine t_ldi ‹_› ab_int B rfl ?_ rfl
 refine t_d ?_
 refine x_s ?_
 refine w_block ?_
 refine w_s ?_
 refine w_g ?_
 refine t_eql rfl rfl ?_ rfl
 refine t_a rfl ?_ rfl
 refine t_d ?_
 refine x_s ?_
 refine w_if rfl ?_ ?_
 ·intro h1
  refine w_g ?_
  refine t_a rfl ?_ rfl
  refine t_d ?_
  refine x_b ?_
  refine x_s ?_
  refine w_s ?_
  refine w_draw (.st .take 0 (.st .take 1 (.st .take 2 (.st .take 3 (.st .take 7 (.st .take 8 (.st .take 9 (.st .run 4 (.st .take 5 (.st .take 6 (.st .run 10 (.st .take 11 (.st .take 12 .done))))))))))))) mixed (by kernel_rfl) ?_
  intro w106 x107
  have B := bx Hb B x107
  have S := S.below x107
  refine t_m rfl ?_ rfl
  refine t_cats rfl rfl (by first | omega | (simp; done) | (simp; omega)) ?_ rfl
  refine t_fld ln_pkt_8 ‹_› fb_pkt_8 rfl ?_ rfl
  intro p16 hp16
  refine t_ldi ‹_› ab_int B rfl ?_ rfl
  refine t_lda ‹_› ab_topo sb_topo B rfl ?_ rfl
  intro v21 hv21
  obtain ⟨v21_0, v21_1, rfl, hv21_0, hv21_1⟩ := topo_va hv21
  refine t_fld ln_pkt_3 ‹_› fb_pkt_3 rfl ?_ rfl
  intro p22 hp22
  refine t_lda ‹_› ab_path sb_path B rfl ?_ rfl
  intro v23 hv23
  obtain ⟨v23_0, rfl, hv23_0⟩ := path_va hv23
  refine t_x Tryz.call77 rfl (spec_FormatInt _ _ ‹_›) ?_ rfl rfl
  intro w108 x109
  have B := bx Hb B x109
  have S := S.below x109
  refine t_cats rfl rfl (by first | omega | (simp; done) | (simp; omega)) ?_ rfl
  refine t_cats rfl rfl (by first | omega | (simp; done) | (simp; omega)) ?_ rfl
  refine t_x Tryz.call23 rfl (spec_FormatPath _ _ _ _ _ (by first | assumption | exact VA.below ‹_› B | exact topo_mkv (by first | assumption | exact SlR.below ‹_› B) (by first | assumption | exact SlR.below ‹_› B)) (by first | assumption | exact VA.below ‹_› B | exact path_mkv (by first | assumption | exact SlR.below ‹_› B)) (by omega) ‹_› (by omega) ‹_› ‹_›) ?_ rfl rfl
  intro w110 x111
  have B := bx Hb B x111
  have S := S.below x111
  refine t_cats rfl rfl (by first | omega | (simp; done) | (simp; omega)) ?_ rfl
  refine t_a rfl ?_ rfl
  refine t_d' ?_
  refine x_s ?_
  refine w_r ?_
  refine x_ret1 rfl rfl ?_
  exact ⟨ret_str (by unfold fmtPkt pkName; rw [if_pos h1]), ext_trans X0 B⟩
 ·intro h1
  refine w_s ?_
  refine w_g ?_
  refine t_eql rfl rfl ?_ rfl
  refine t_a rfl ?_ rfl
  refine t_d ?_
  refine x_s ?_
  refine w_if rfl ?_ ?_
  ·intro h2
   refine w_g ?_
   refine t_a rfl ?_ rfl
   refine t_d ?_
   refine x_b ?_
   refine x_s ?_
   refine w_s ?_
   refine w_draw (.st .take 0 (.st .take 1 (.st .take 2 (.st .take 3 (.st .take 7 (.st .take 8 (.st .take 9 (.st .run 4 (.st .take 5 (.st .take 6 (.st .run 10 (.st .take 11 (.st .take 12 .done))))))))))))) mixed (by kernel_rfl) ?_
   intro w112 x113
   have B := bx Hb B x113
   have S := S.below x113
   refine t_m rfl ?_ rfl
   refine t_cats rfl rfl (by first | omega | (simp; done) | (simp; omega)) ?_ rfl
   refine t_fld ln_pkt_8 ‹_› fb_pkt_8 rfl ?_ rfl
   intro p16 hp16
   refine t_ldi ‹_› ab_int B rfl ?_ rfl
   refine t_lda ‹_› ab_topo sb_topo B rfl ?_ rfl
   intro v21 hv21
   obtain ⟨v21_0, v21_1, rfl, hv21_0, hv21_1⟩ := topo_va hv21
   refine t_fld ln_pkt_3 ‹_› fb_pkt_3 rfl ?_ rfl
   intro p22 hp22
   refine t_lda ‹_› ab_path sb_path B rfl ?_ rfl
   intro v23 hv23
   obtain ⟨v23_0, rfl, hv23_0⟩ := path_va hv23
   refine t_x Tryz.call77 rfl (spec_FormatInt _ _ ‹_›) ?_ rfl rfl
   intro w114 x115
   have B := bx Hb B x115
   have S := S.below x115
   refine t_cats rfl rfl (by first | omega | (simp; done) | (simp; omega)) ?_ rfl
   refine t_cats rfl rfl (by first | omega | (simp; done) | (simp; omega)) ?_ rfl
   refine t_x Tryz.call23 rfl (spec_FormatPath _ _ _ _ _ (by first | assumption | exact VA.below ‹_› B | exact topo_mkv (by first | assumption | exact SlR.below ‹_› B) (by first | assumption | exact SlR.below ‹_› B)) (by first | assumption | exact VA.below ‹_› B | exact path_mkv (by first | assumption | exact SlR.below ‹_› B)) (by omega) ‹_› (by omega) ‹_› ‹_›) ?_ rfl rfl
   intro w116 x117
   have B := bx Hb B x117
   have S := S.below x117
   refine t_cats rfl rfl (by first | omega | (simp; done) | (simp; omega)) ?_ rfl
   refine t_a rfl ?_ rfl
   refine t_d' ?_
   refine x_s ?_
   refine w_r ?_
   refine x_ret1 rfl rfl ?_
   exact ⟨ret_str (by unfold fmtPkt pkName; rw [if_neg h1, if_pos h2]), ext_trans X0 B⟩
  ·intro h2
   refine w_s ?_
   refine w_g ?_
   refine t_eql rfl rfl ?_ rfl
   refine t_a rfl ?_ rfl
   refine t_d ?_
   refine x_s ?_
   refine w_if rfl ?_ ?_
   ·intro h3
    refine w_g ?_
    refine t_a rfl ?_ rfl
    refine t_d ?_
    refine x_b ?_
    refine x_s ?_
    refine w_s ?_
    refine w_draw (.st .take 0 (.st .take 1 (.st .take 2 (.st .take 3 (.st .take 7 (.st .take 8 (.st .take 9 (.st .run 4 (.st .take 5 (.st .take 6 (.st .run 10 (.st .take 11 (.st .take 12 .done))))))))))))) mixed (by kernel_rfl) ?_
    intro w118 x119
    have B := bx Hb B x119
    have S := S.below x119
    refine t_m rfl ?_ rfl
    refine t_cats rfl rfl (by first | omega | (simp; done) | (simp; omega)) ?_ rfl
    refine t_fld ln_pkt_8 ‹_› fb_pkt_8 rfl ?_ rfl
    intro p16 hp16
    refine t_ldi ‹_› ab_int B rfl ?_ rfl
    refine t_lda ‹_› ab_topo sb_topo B rfl ?_ rfl
    intro v21 hv21
    obtain ⟨v21_0, v21_1, rfl, hv21_0, hv21_1⟩ := topo_va hv21
    refine t_fld ln_pkt_3 ‹_› fb_pkt_3 rfl ?_ rfl
    intro p22 hp22
    refine t_lda ‹_› ab_path sb_path B rfl ?_ rfl
    intro v23 hv23
    obtain ⟨v23_0, rfl, hv23_0⟩ := path_va hv23
    refine t_x Tryz.call77 rfl (spec_FormatInt _ _ ‹_›) ?_ rfl rfl
    intro w120 x121
    have B := bx Hb B x121
    have S := S.below x121
    refine t_cats rfl rfl (by first | omega | (simp; done) | (simp; omega)) ?_ rfl
    refine t_cats rfl rfl (by first | omega | (simp; done) | (simp; omega)) ?_ rfl
    refine t_x Tryz.call23 rfl (spec_FormatPath _ _ _ _ _ (by first | assumption | exact VA.below ‹_› B | exact topo_mkv (by first | assumption | exact SlR.below ‹_› B) (by first | assumption | exact SlR.below ‹_› B)) (by first | assumption | exact VA.below ‹_› B | exact path_mkv (by first | assumption | exact SlR.below ‹_› B)) (by omega) ‹_› (by omega) ‹_› ‹_›) ?_ rfl rfl
    intro w122 x123
    have B := bx Hb B x123
    have S := S.below x123
    refine t_cats rfl rfl (by first | omega | (simp; done) | (simp; omega)) ?_ rfl
    refine t_a rfl ?_ rfl
    refine t_d' ?_
    refine x_s ?_
    refine w_r ?_
    refine x_ret1 rfl rfl ?_
    exact ⟨ret_str (by unfold fmtPkt pkName; rw [if_neg h1, if_neg h2, if_pos h3]), ext_trans X0 B⟩
   ·intro h3
    refine w_k ?_
    refine x_b ?_
    refine x_s ?_
    refine w_s ?_
    refine w_draw (.st .take 0 (.st .take 1 (.st .take 2 (.st .take 3 (.st .take 7 (.st .take 8 (.st .take 9 (.st .run 4 (.st .take 5 (.st .take 6 (.st .run 10 (.st .take 11 (.st .take 12 .done))))))))))))) mixed (by kernel_rfl) ?_
    intro w124 x125
    have B := bx Hb B x125
    have S := S.below x125
    refine t_m rfl ?_ rfl
    refine t_cats rfl rfl (by first | omega | (simp; done) | (simp; omega)) ?_ rfl
    refine t_fld ln_pkt_8 ‹_› fb_pkt_8 rfl ?_ rfl
    intro p16 hp16
    refine t_ldi ‹_› ab_int B rfl ?_ rfl
    refine t_lda ‹_› ab_topo sb_topo B rfl ?_ rfl
    intro v21 hv21
    obtain ⟨v21_0, v21_1, rfl, hv21_0, hv21_1⟩ := topo_va hv21
    refine t_fld ln_pkt_3 ‹_› fb_pkt_3 rfl ?_ rfl
    intro p22 hp22
    refine t_lda ‹_› ab_path sb_path B rfl ?_ rfl
    intro v23 hv23
    obtain ⟨v23_0, rfl, hv23_0⟩ := path_va hv23
    refine t_x Tryz.call77 rfl (spec_FormatInt _ _ ‹_›) ?_ rfl rfl
    intro w126 x127
    have B := bx Hb B x127
    have S := S.below x127
    refine t_cats rfl rfl (by first | omega | (simp; done) | (simp; omega)) ?_ rfl
    refine t_cats rfl rfl (by first | omega | (simp; done) | (simp; omega)) ?_ rfl
    refine t_x Tryz.call23 rfl (spec_FormatPath _ _ _ _ _ (by first | assumption | exact VA.below ‹_› B | exact topo_mkv (by first | assumption | exact SlR.below ‹_› B) (by first | assumption | exact SlR.below ‹_› B)) (by first | assumption | exact VA.below ‹_› B | exact path_mkv (by first | assumption | exact SlR.below ‹_› B)) (by omega) ‹_› (by omega) ‹_› ‹_›) ?_ rfl rfl
    intro w128 x129
    have B := bx Hb B x129
    have S := S.below x129
    refine t_cats rfl rfl (by first | omega | (simp; done) | (simp; omega)) ?_ rfl
    refine t_a rfl ?_ rfl
    refine t_d' ?_
    refine x_s ?_
    refine w_r ?_
    refine x_ret1 rfl rfl ?_
    exact ⟨ret_str (by unfold fmtPkt pkName; rw [if_neg h1, if_neg h2, if_neg h3]), ext_trans X0 B⟩
end Go.Proofs.YtdaecknfahgddaaGreat
namespace Go.Proofs.YtdaecknfahgddaaGreat
open Go.RowKit
set_option linter.unusedVariables false
set_option maxRecDepth 20000
def hop0 : Hop := ⟨0, 0, 0, 0, 0⟩
def readHop (b : List UInt8) (i : Int) : Option (Hop × Nat) := match decI b i 5 with
  | none => none
  | some (l, j) => if validHop (hopAt l 0) then some (hopAt l 0, j) else none
def rh3 : Option (Hop × Nat) → Hop × Int × Bool
  | none => (hop0, 0, false)
  | some (h, j) => (h, j, true)
def rhK (b : List UInt8) : Nat → Int → List Hop → Option (List Hop × Int)
  | 0, i, acc => some (acc, i)
  | n + 1, i, acc => match readHop b i with
    | none => none
    | some (h, j) => rhK b n j (acc ++ [h])
def rhs3 : Option (List Hop × Int) → List Hop × Int × Bool
  | none => ([], 0, false)
  | some (l, j) => (l, j, true)
def readHs (b : List UInt8) (i n : Int) : Option (List Hop × Int) := if 8 < n then none else rhK b n.toNat i []
theorem decI_at {b : List UInt8} {i n : Int} (h0 : 0 ≤ i) (h1 : i ≤ b.length) (h2 : 0 ≤ n) (h3 : n ≤ 100) : decI b i n = decA b n.toNat i.toNat [] := by
  rw [decI, inR_iff.2 ⟨h2, h3⟩, inR_iff.2 ⟨h0, h1⟩]; rfl
theorem readHop_no {b : List UInt8} {i : Int} (h : decI b i 5 = none) : readHop b i = none := by rw [readHop, h]
theorem readHop_bad {b : List UInt8} {i : Int} {l : List Int} {j : Nat} (h : decI b i 5 = some (l, j)) (hv : validHop (hopAt l 0) = false) : readHop b i = none := by rw [readHop, h]; simp only [hv]; rfl
theorem readHop_yes {b : List UInt8} {i : Int} {l : List Int} {j : Nat} (h : decI b i 5 = some (l, j)) (hv : validHop (hopAt l 0) = true) : readHop b i = some (hopAt l 0, j) := by rw [readHop, h]; simp only [hv]; rfl
theorem rhK_eq {b : List UInt8} : ∀ (n : Nat) (i : Nat) (acc : List Hop), i ≤ b.length → rhK b n i acc = match decA b (5 * n) i [] with
  | none => none
  | some (l, j) => if (hopsAt l 0 n).all validHop then some (acc ++ hopsAt l 0 n, (j : Int)) else none
 | 0, i, acc, hi => by simp [rhK, decA, hopsAt_zero]
 | n + 1, i, acc, hi => by
  have h5 : decI b (i : Int) 5 = decA b 5 i [] := decI_at (by omega) (by omega) (by omega) (by omega)
  rw [show 5 * (n + 1) = 5 + 5 * n by omega, decA_add, rhK]
  cases hd : decA b 5 i [] with
  | none => rw [readHop_no (h5.trans hd)]
  | some r =>
   obtain ⟨l5, j⟩ := r
   have ho := decA_out hd (fun x hx => by cases hx) hi
   have hl5 : l5.length = 5 := by simpa using ho.1
   have hj : j ≤ b.length := ho.2.2.2
   have hpre := decA_pre (b := b) (5 * n) j l5
   simp only
   rw [hpre]
   cases hv : validHop (hopAt l5 0) with
   | false =>
    rw [readHop_bad (h5.trans hd) hv]
    cases hd2 : decA b (5 * n) j [] with
    | none => rfl
    | some r =>
     obtain ⟨l, j2⟩ := r
     have e1 : hopAt (l5 ++ l) 0 = hopAt l5 0 := by
      unfold hopAt
      simp only [gI_left (a := l5) (b := l) (i := 0) (by omega), gI_left (a := l5) (b := l) (i := 0 + 1) (by omega), gI_left (a := l5) (b := l) (i := 0 + 2) (by omega), gI_left (a := l5) (b := l) (i := 0 + 3) (by omega), gI_left (a := l5) (b := l) (i := 0 + 4) (by omega)]
     simp [hopsAt_cons, e1, hv]
   | true =>
    rw [readHop_yes (h5.trans hd) hv]
    simp only
    rw [rhK_eq n j _ hj]
    cases hd2 : decA b (5 * n) j [] with
    | none => rfl
    | some r =>
     obtain ⟨l, j2⟩ := r
     have e1 : hopAt (l5 ++ l) 0 = hopAt l5 0 := by
      unfold hopAt
      simp only [gI_left (a := l5) (b := l) (i := 0) (by omega), gI_left (a := l5) (b := l) (i := 0 + 1) (by omega), gI_left (a := l5) (b := l) (i := 0 + 2) (by omega), gI_left (a := l5) (b := l) (i := 0 + 3) (by omega), gI_left (a := l5) (b := l) (i := 0 + 4) (by omega)]
     have e2 : hopsAt (l5 ++ l) (0 + 5) n = hopsAt l 0 n := by
      have := hopsAt_app (a := l5) (b := l) (i := 0) (n := n)
      rw [hl5] at this
      rw [show 0 + 5 = 5 + 0 by omega]
      exact this
     simp [hopsAt_cons, e1, e2, hv]
theorem rh_out {b : List UInt8} {i : Int} {h : Hop} {j : Int} {ok : Bool} (hr : rh3 (readHop b i) = (h, j, ok)) (hok : (!ok) = false) : readHop b i = some (h, j.toNat) ∧ i ≤ j ∧ j ≤ b.length ∧ 0 ≤ j ∧ rng_hop h := by
  cases ok
  · cases hok
  · unfold readHop at hr ⊢
    cases hd : decI b i 5 with
    | none => rw [hd] at hr; cases hr
    | some r =>
      obtain ⟨l, m⟩ := r
      have ho := decI_out hd
      rw [hd] at hr
      simp only at hr ⊢
      cases hv : validHop (hopAt l 0) with
      | false => rw [hv] at hr; cases hr
      | true =>
        rw [hv] at hr
        cases hr
        have hi : ∀ x ∈ l, In64 x := fun x hx => by
          have := ho.2.1 x hx
          unfold In64; omega
        exact ⟨rfl, ho.2.2.1, by have := ho.2.2.2; show (m : Int) ≤ _; omega, Int.natCast_nonneg m, gI_in hi _, gI_in hi _, gI_in hi _, gI_in hi _, gI_in hi _⟩
theorem rh_no {b : List UInt8} {i : Int} {h : Hop} {j : Int} {ok : Bool} (hr : rh3 (readHop b i) = (h, j, ok)) (hok : (!ok) = true) : readHop b i = none := by
  cases ok
  · cases ho : readHop b i with
    | none => rfl
    | some r => rw [ho] at hr; cases hr
  · cases hok
theorem impl_ReadHop (b : List UInt8) (v : Value) (i : Int) {h0 : Hop} {j0 : Int} {ok0 : Bool} (w : World) (h : SlR byteT w v b) (hz : b.length ≤ 1048576) (hr : rh3 (readHop b i) = (h0, j0, ok0)) : Calls Tryz.prog 166 #[v, I i] w fun e w' => e = .returned (.tuple #[.agg #[I h0.ia, I h0.ing, I h0.eg, I h0.exp, I h0.mac], I j0, .bool ok0]) ∧ Below w.heap.size w w' := by
 obtain ⟨l1, j1, ok1, hr1⟩ : ∃ l j ok, dec3 (decI b i 5) = (l, j, ok) := ⟨_, _, _, rfl⟩
 have X0 := Below.refl w.heap.size w
 refine enter Tryz.func166 rfl Tryz.ntmps166 rfl ?_
 refine w_s ?_
 refine w_g ?_
 have S := Sep.nil w
 have B := Below.refl w.heap.size w
 have Hb := Nat.le_refl w.heap.size
 refine t_w S z_hop rfl ?_ rfl rfl
 intro g4 w1 x2 S
 have B := bx Hb B x2
 iterate 2 refine t_a rfl ?_ rfl
 refine t_d ?_
 refine x_s ?_
 refine w_s ?_
 refine w_g ?_
 iterate 2 refine t_m rfl ?_ rfl
 refine t_c Tryz.call89 rfl (impl_DecodeInts _ _ _ _ _ (by first | assumption | exact SlR.below ‹_› B) (by omega) hr1) ?_ rfl rfl
 rintro e w3 ⟨v14, fpv14, rfl, hOv14, x4⟩
 refine ⟨_, rfl, x4, ?_⟩
 have S := S.add (o := slO _ _ _ _) x4 hOv14
 have B := bx Hb B x4
 refine t_m rfl ?_ rfl
 iterate 3 refine t_extract rfl rfl ?_ rfl
 iterate 3 refine t_a rfl ?_ rfl
 refine t_d ?_
 refine x_s ?_
 iterate 2 refine w_s ?_
 refine w_g ?_
 refine t_m rfl ?_ rfl
 refine t_notb rfl ?_ rfl
 refine t_d ?_
 refine x_s ?_
 refine w_ifb rfl ?_ ?_
 ·intro hno
  refine w_s ?_
  refine w_g ?_
  refine t_g (fun w => b_hop0 w) rfl ?_ rfl
  have S := S.f1
  refine t_stn S sb_hop rfl rfl rfl rfl (by repeat first | exact oc0 | refine oc rfl ?_) ?_
  intro w5 b6 S
  have B := B.trans b6
  iterate 2 refine t_a rfl ?_ rfl
  refine t_d ?_
  refine x_s ?_
  refine w_r ?_
  refine x_t ?_
  refine x_retctt rfl rfl S.box ab_hop sb_hop rfl rfl rfl ?_
  rw [readHop_no (dec_no hr1 hno)] at hr
  cases hr
  exact ⟨rfl, ext_trans X0 B⟩
 intro hyes
 obtain ⟨hy1, hy2, hy3, hy4, hy5, hy6⟩ := dec_yes hr1 hyes
 have hl5 : l1.length = 5 := by simpa using hy2
 refine w_k ?_
 refine x_s ?_
 refine w_s ?_
 refine w_draw (.st .take 0 (.st .take 1 (.st .take 2 (.st .take 3 (.st .take 4 (.st .take 5 (.st .take 6 (.st .take 7 (.st .take 8 (.st .take 9 (.st .take 10 (.st .take 11 (.st .take 12 (.st .take 13 (.st .take 14 (.st .take 15 (.st .run 16 (.st .fin 17 .done)))))))))))))))))) mixed (by kernel_rfl) ?_
 intro w7 x8
 have B := bx Hb B x8
 have S := S.below x8
 refine t_m rfl ?_ rfl
 obtain ⟨e22, he22⟩ : ∃ e, (l1)[0]? = some e := getx (by omega)
 refine t_idx e_int (k := 0) (S.sl) he22 (Below.refl _ _) rfl rfl (by first | rfl | omega) ?_ rfl
 intro p22 hp22
 refine t_ldi ‹_› ab_int (Below.refl _ _) rfl ?_ rfl
 refine t_m rfl ?_ rfl
 obtain ⟨e25, he25⟩ : ∃ e, (l1)[1]? = some e := getx (by omega)
 refine t_idx e_int (k := 1) (S.sl) he25 (Below.refl _ _) rfl rfl (by first | rfl | omega) ?_ rfl
 intro p25 hp25
 refine t_ldi ‹_› ab_int (Below.refl _ _) rfl ?_ rfl
 refine t_m rfl ?_ rfl
 obtain ⟨e28, he28⟩ : ∃ e, (l1)[2]? = some e := getx (by omega)
 refine t_idx e_int (k := 2) (S.sl) he28 (Below.refl _ _) rfl rfl (by first | rfl | omega) ?_ rfl
 intro p28 hp28
 refine t_ldi ‹_› ab_int (Below.refl _ _) rfl ?_ rfl
 refine t_m rfl ?_ rfl
 obtain ⟨e31, he31⟩ : ∃ e, (l1)[3]? = some e := getx (by omega)
 refine t_idx e_int (k := 3) (S.sl) he31 (Below.refl _ _) rfl rfl (by first | rfl | omega) ?_ rfl
 intro p31 hp31
 refine t_ldi ‹_› ab_int (Below.refl _ _) rfl ?_ rfl
 refine t_m rfl ?_ rfl
 obtain ⟨e34, he34⟩ : ∃ e, (l1)[4]? = some e := getx (by omega)
 refine t_idx e_int (k := 4) (S.sl) he34 (Below.refl _ _) rfl rfl (by first | rfl | omega) ?_ rfl
 intro p34 hp34
 refine t_ldi ‹_› ab_int (Below.refl _ _) rfl ?_ rfl
 refine t_g (fun w => b_hop _ _ _ _ _ w) rfl ?_ rfl
 refine t_w S z_hop rfl ?_ rfl rfl
 intro g10 w9 x10 S
 have B := bx Hb B x10
 refine t_stn S sb_hop rfl rfl rfl rfl (by repeat first | exact oc0 | refine oc rfl ?_) ?_
 intro w11 b12 S
 have B := B.trans b12
 refine t_d' ?_
 refine x_s ?_
 iterate 2 refine w_s ?_
 refine w_g ?_
 refine t_b S.box ab_hop sb_hop rfl rfl ?_ rfl
 refine t_x Tryz.call156 rfl (impl_ValidHop (⟨e22, e25, e28, e31, e34⟩) _) ?_ rfl rfl
 intro w13 x14
 have B := bx Hb B x14
 have S := S.below x14
 refine t_notb rfl ?_ rfl
 refine t_d ?_
 refine x_s ?_
 have hh : hopAt l1 0 = ⟨e22, e25, e28, e31, e34⟩ := by
  unfold hopAt
  rw [gI_eq he22, gI_eq he25, gI_eq he28, gI_eq he31, gI_eq he34]
 refine w_ifb rfl ?_ ?_
 ·intro hbad
  refine w_s ?_
  refine w_g ?_
  refine t_g (fun w => b_hop0 w) rfl ?_ rfl
  have S := S.f2
  refine t_stn S sb_hop rfl rfl rfl rfl (by repeat first | exact oc0 | refine oc rfl ?_) ?_
  intro w15 b16 S
  have B := B.trans b16
  iterate 2 refine t_a rfl ?_ rfl
  refine t_d ?_
  refine x_s ?_
  refine w_r ?_
  refine x_t ?_
  refine x_retctt rfl rfl S.box ab_hop sb_hop rfl rfl rfl ?_
  rw [readHop_bad hy1 (by rw [hh]; simpa using hbad)] at hr
  cases hr
  exact ⟨rfl, ext_trans X0 B⟩
 ·intro hgood
  refine w_k ?_
  refine x_s ?_
  refine w_s ?_
  refine w_g ?_
  refine t_b S.box ab_hop sb_hop rfl rfl ?_ rfl
  refine t_m rfl ?_ rfl
  have S := S.f2
  refine t_stn S sb_hop rfl rfl rfl rfl (by repeat first | exact oc0 | refine oc rfl ?_) ?_
  intro w17 b18 S
  have B := B.trans b18
  iterate 2 refine t_a rfl ?_ rfl
  refine t_d ?_
  refine x_s ?_
  refine w_r ?_
  refine x_retctt rfl rfl S.box ab_hop sb_hop rfl rfl rfl ?_
  rw [readHop_yes hy1 (by rw [hh]; simpa using hgood), hh] at hr
  have e0 : (h0, j0, ok0) = (⟨e22, e25, e28, e31, e34⟩, j1, true) := by rw [← hr]; simp only [rh3]; congr 2; omega
  cases e0
  exact ⟨rfl, ext_trans X0 B⟩
theorem impl_readHops (b : List UInt8) (v : Value) (i n : Int) {l0 : List Hop} {j0 : Int} {ok0 : Bool} (w : World) (h : SlR byteT w v b) (hz : b.length ≤ 1048576) (hi : 0 ≤ i ∧ i ≤ b.length) (hn : 0 ≤ n) (hr : rhs3 (readHs b i n) = (l0, j0, ok0)) : Calls Tryz.prog 141 #[v, I i, I n] w fun e w' => ∃ v fp, e = .returned (.tuple #[v, I j0, .bool ok0]) ∧ SlO hopT 86 w.heap.size w' v l0 fp ∧ Below w.heap.size w w' := by
 have X0 := Below.refl w.heap.size w
 refine enter Tryz.func141 rfl Tryz.ntmps141 rfl ?_
 refine w_s ?_
 refine w_g ?_
 have S := Sep.nil w
 have B := Below.refl w.heap.size w
 have Hb := Nat.le_refl w.heap.size
 iterate 3 refine t_a rfl ?_ rfl
 refine t_d ?_
 refine x_s ?_
 refine w_s ?_
 refine w_g ?_
 refine t_a rfl ?_ rfl
 refine t_d ?_
 refine x_s ?_
 iterate 2 refine w_s ?_
 refine w_g ?_
 refine t_m rfl ?_ rfl
 refine t_gtr rfl rfl ?_ rfl
 refine t_d ?_
 refine x_s ?_
 refine w_if rfl ?_ ?_
 ·intro h8
  refine w_s ?_
  refine w_g ?_
  iterate 3 refine t_a rfl ?_ rfl
  refine t_d ?_
  refine x_s ?_
  refine w_r ?_
  refine x_t ?_
  refine x_ret3 rfl rfl rfl rfl ?_
  rw [readHs, if_pos h8] at hr
  cases hr
  obtain ⟨fp, hO⟩ := (S.addNil.mono X0.size).head
  exact ⟨_, fp, rfl, hO, ext_trans X0 B⟩
 intro h8
 rw [readHs, if_neg h8] at hr
 refine w_k ?_
 refine x_s ?_
 iterate 2 refine w_s ?_
 refine w_g ?_
 refine t_a rfl ?_ rfl
 refine t_d ?_
 refine x_s ?_
 refine w_block ?_
 refine w_loop (X := Nat × Int × List Hop × Value) (fun x wq => (fun k q acc u => k ≤ n.toNat ∧ (0 : Int) ≤ q ∧ q ≤ b.length ∧ acc.length = k ∧ rhK b (n.toNat - k) q acc = rhK b n.toNat i [] ∧ Below w.heap.size w wq ∧ Sep w.heap.size wq [slO hopT 86 u acc]) x.1 x.2.1 x.2.2.1 x.2.2.2) (fun x => (fun k q acc u => [(10, I ((k : Int))), (1, I q), (9, u), (0, v), (2, I n)]) x.1 x.2.1 x.2.2.1 x.2.2.2) (fun x => (fun k q acc u => n.toNat - k) x.1 x.2.1 x.2.2.1 x.2.2.2) (0, i, [], .slice none 0 0) ?_ ⟨rfl, rfl, rfl, rfl, rfl, trivial⟩ ?_
 ·exact ⟨by omega, hi.1, hi.2, rfl, rfl, B, S.addNil⟩
 ·rintro ⟨k, q, acc, u⟩ w19 hI
  try dsimp only at hI ⊢
  obtain ⟨hk, hq0, hq1, hal, hq, B, S⟩ := hI
  iterate 2 refine w_s ?_
  refine w_g ?_
  iterate 2 refine t_m rfl ?_ rfl
  refine t_lss rfl rfl ?_ rfl
  refine t_d ?_
  refine x_s ?_
  refine w_if rfl ?_ ?_
  ·intro hlt
   have hf : n.toNat - k = (n.toNat - (k + 1)) + 1 := by omega
   rw [hf, rhK] at hq
   obtain ⟨x1, j1, ok1, hr1⟩ : ∃ x j ok, rh3 (readHop b q) = (x, j, ok) := ⟨_, _, _, rfl⟩
   refine w_k ?_
   refine x_s ?_
   refine w_s ?_
   refine w_block ?_
   refine w_s ?_
   refine w_g ?_
   iterate 2 refine t_m rfl ?_ rfl
   refine t_x Tryz.call166 rfl (impl_ReadHop _ _ _ _ (by first | assumption | exact SlR.below ‹_› B) (by omega) hr1) ?_ rfl rfl
   intro w20 x21
   have B := bx Hb B x21
   have S := S.below x21
   refine t_m rfl ?_ rfl
   iterate 3 refine t_extract rfl rfl ?_ rfl
   refine t_w S z_hop rfl ?_ rfl rfl
   intro g11 w22 x23 S
   have B := bx Hb B x23
   refine t_stn S sb_hop rfl rfl rfl rfl (by repeat first | exact oc0 | refine oc rfl ?_) ?_
   intro w24 b25 S
   have B := B.trans b25
   iterate 2 refine t_a rfl ?_ rfl
   refine t_d ?_
   refine x_s ?_
   iterate 2 refine w_s ?_
   refine w_g ?_
   refine t_m rfl ?_ rfl
   refine t_notb rfl ?_ rfl
   refine t_d ?_
   refine x_s ?_
   refine w_ifb rfl ?_ ?_
   ·intro hno
    refine w_s ?_
    refine w_g ?_
    iterate 3 refine t_a rfl ?_ rfl
    refine t_d ?_
    refine x_s ?_
    refine w_r ?_
    refine x_t ?_
    refine x_block_ret ?_
    iterate 2 refine x_t ?_
    refine x_block_ret ?_
    refine x_t ?_
    refine x_ret3 rfl rfl rfl rfl ?_
    rw [rh_no hr1 hno] at hq
    rw [← hq] at hr
    cases hr
    obtain ⟨fp, hO⟩ := (S.tail.addNil.mono X0.size).head
    exact ⟨_, fp, rfl, hO, ext_trans X0 B⟩
   ·intro hyes
    obtain ⟨hy1, hy2, hy3, hy4, hy5⟩ := rh_out hr1 hyes
    rw [hy1] at hq
    simp only [Int.toNat_of_nonneg hy4] at hq
    refine w_k ?_
    refine x_s ?_
    refine w_s ?_
    refine w_g ?_
    refine t_m rfl ?_ rfl
    refine t_b S.box ab_hop sb_hop rfl rfl ?_ rfl
    refine t_lit (T := hopT) (l := [(x1 : Hop)]) (css := [[I x1.ia, I x1.ing, I x1.eg, I x1.exp, I x1.mac]]) hop_flat S (fun w => bs_hop1 _ _ _ _ _ w) rfl rfl rfl rfl (by simp [maxLen]) (litR_one fun _ => rfl) ?_ rfl rfl
    intro u32 w26 x27 S
    have B := bx Hb B x27
    have hR := S.sl
    have S := S.f2
    refine t_cat hop_flat e_hop S hR rfl rfl rfl (by first | omega | (simp [-List.length_flatMap]; omega)) (by (simp [maxLen, -List.length_flatMap]; try omega)) ?_ rfl
    intro v33 w28 x29 S
    have B := B.trans x29
    clear hR
    have S := S.f1.tail
    refine t_a rfl ?_ rfl
    refine t_d ?_
    refine x_s ?_
    refine w_g ?_
    refine t_m rfl ?_ rfl
    refine t_a rfl ?_ rfl
    refine t_d ?_
    refine x_b ?_
    refine x_s ?_
    refine w_g ?_
    refine t_m rfl ?_ rfl
    refine t_add rfl rfl (by omega) ?_ rfl
    refine t_a rfl ?_ rfl
    refine t_d ?_
    have S := S.f1.tail
    refine x_r (X := Nat × Int × List Hop × Value) (k + 1, j1, acc ++ [x1], v33) ?_ (by exact ⟨rfl, rfl, rfl, rfl, rfl, trivial⟩) (by (try dsimp only); omega)
    try dsimp only
    exact ⟨by omega, by omega, by omega, by rw [List.length_append, hal]; rfl, hq, B, S⟩
  ·intro hge
   refine w_exit ?_
   iterate 2 refine x_then_exit ?_
   refine x_block_exit ?_
   refine x_s ?_
   refine w_s ?_
   refine w_g ?_
   iterate 2 refine t_m rfl ?_ rfl
   iterate 3 refine t_a rfl ?_ rfl
   refine t_d ?_
   refine x_s ?_
   refine w_r ?_
   refine x_ret3 rfl rfl rfl rfl ?_
   have : n.toNat - k = 0 := by omega
   rw [this] at hq
   rw [← hq] at hr
   cases hr
   obtain ⟨fp, hO⟩ := (S.mono X0.size).head
   exact ⟨_, fp, rfl, hO, ext_trans X0 B⟩
theorem rhs_no {o : Option (List Hop × Int)} {l : List Hop} {j : Int} {ok : Bool} (hr : rhs3 o = (l, j, ok)) (hok : (!ok) = true) : o = none := by
  cases ok
  · cases o with
    | none => rfl
    | some r => cases hr
  · cases hok
theorem rhs_yes {o : Option (List Hop × Int)} {l : List Hop} {j : Int} {ok : Bool} (hr : rhs3 o = (l, j, ok)) (hok : (!ok) = false) : o = some (l, j) := by
  cases ok
  · cases hok
  · cases o with
    | none => cases hr
    | some r => cases hr; rfl
theorem readHs_eq {b : List UInt8} {j : Nat} {n : Int} (hj : j ≤ b.length) (h8 : n ≤ 8) : readHs b j n = match decA b (5 * n.toNat) j [] with
    | none => none
    | some (l, m) => if (hopsAt l 0 n.toNat).all validHop then some (hopsAt l 0 n.toNat, (m : Int)) else none := by
  rw [readHs, if_neg (by omega), rhK_eq _ _ _ hj]
  cases decA b (5 * n.toNat) j [] with
  | none => rfl
  | some r => rfl
theorem hopsAt_in {l : List Int} (h : ∀ x ∈ l, In64 x) (i n : Nat) : ∀ x ∈ hopsAt l i n, rng_hop x := by
  intro x hx
  obtain ⟨j, _, rfl⟩ := List.mem_map.1 hx
  exact ⟨gI_in h _, gI_in h _, gI_in h _, gI_in h _, gI_in h _⟩
theorem rp_yes {b : List UInt8} {n i j : Nat} {acc : Path} {h : List Int} {hs : List Hop} {j2 : Int} (hd : decA b 4 i [] = some (h, j)) (hj : j ≤ b.length) (hr : readHs b j (gI h 3) = some (hs, j2)) :
    rpK b (n + 1) i acc = rpK b n j2.toNat (acc ++ [⟨gI h 0, gI h 1, gI h 2, hs⟩]) ∧ 0 ≤ j2 ∧ j2 ≤ b.length ∧ hs.length ≤ 8 ∧ ∀ x ∈ hs, rng_hop x := by
  by_cases h8 : 8 < gI h 3
  · rw [readHs, if_pos h8] at hr; cases hr
  · rw [readHs_eq hj (by omega)] at hr
    cases hd2 : decA b (5 * (gI h 3).toNat) j [] with
    | none => rw [hd2] at hr; cases hr
    | some r =>
      obtain ⟨l, m⟩ := r
      have ho := decA_out hd2 (fun x hx => by cases hx) hj
      have hin : ∀ x ∈ l, In64 x := fun x hx => by
        have := ho.2.1 x hx
        unfold In64; omega
      rw [hd2] at hr
      simp only at hr
      cases hv : (hopsAt l 0 (gI h 3).toNat).all validHop with
      | false => rw [hv] at hr; cases hr
      | true =>
        rw [hv] at hr
        cases hr
        rw [rpK, hd]
        simp only [if_neg h8, hd2]
        exact ⟨rfl, Int.natCast_nonneg _, by have := ho.2.2.2; show (m : Int) ≤ _; omega, by rw [hopsAt_len]; omega, hopsAt_in hin _ _⟩
theorem rp_no {b : List UInt8} {n i j : Nat} {acc : Path} {h : List Int} (hd : decA b 4 i [] = some (h, j)) (hj : j ≤ b.length) (hr : readHs b j (gI h 3) = none) : rpK b (n + 1) i acc = none := by
  rw [rpK, hd]
  by_cases h8 : 8 < gI h 3
  · simp only [if_pos h8]
  · simp only [if_neg h8]
    rw [readHs_eq hj (by omega)] at hr
    cases hd2 : decA b (5 * (gI h 3).toNat) j [] with
    | none => rfl
    | some r =>
      obtain ⟨l, m⟩ := r
      rw [hd2] at hr
      simp only at hr ⊢
      cases hv : (hopsAt l 0 (gI h 3).toNat).all validHop with
      | true => rw [hv] at hr; cases hr
      | false =>
        refine rpK_spoilt _ _ _ ?_
        cases he : encPath (acc ++ [partOfI h l]) with
        | false => rfl
        | true =>
          exfalso
          unfold encPath at he
          simp only [Bool.and_eq_true, List.all_append, List.all_cons, List.all_nil, Bool.and_true] at he
          have h1 := he.2.2
          unfold encPart encHops at h1
          simp only [Bool.and_eq_true] at h1
          have h2 : (partOfI h l).hops = hopsAt l 0 (gI h 3).toNat := rfl
          rw [h2, hv] at h1
          exact absurd h1.2.2.2 (by decide)
theorem rp_none {b : List UInt8} {n i : Nat} {acc : Path} (hd : decA b 4 i [] = none) : rpK b (n + 1) i acc = none := by rw [rpK, hd]
theorem rp_end {b : List UInt8} {i : Nat} {acc : Path} : rpK b 0 i acc = if encPath acc then some (acc, i) else none := rfl
theorem readP_no {b : List UInt8} {i : Int} (h : readVI b i = none) : readP b i = none := by rw [readP, h]
theorem readP_big {b : List UInt8} {i n : Int} {j : Nat} (h : readVI b i = some (n, j)) (hn : 3 < n) : readP b i = none := by rw [readP, h]; simp only [if_pos hn]
theorem readP_eq {b : List UInt8} {i n : Int} {j : Nat} (h : readVI b i = some (n, j)) (hn : ¬ 3 < n) : readP b i = rpK b n.toNat j [] := by rw [readP, h]; simp only [if_neg hn]
theorem rp3_out {b : List UInt8} {i : Int} {p : Path} {j : Int} {ok : Bool} (hr : rp3 (readP b i) = (p, j, ok)) : sz_path p ≤ 27 ∧ encPath p = true ∧ 0 ≤ j ∧ j ≤ b.length := by
  cases ho : readP b i with
  | none => rw [ho] at hr; cases hr; exact ⟨by decide, by decide, by omega, by omega⟩
  | some r =>
    obtain ⟨q, m⟩ := r
    have := readP_out ho
    rw [ho] at hr
    cases hr
    exact ⟨encPath_sz this.1, this.1, Int.natCast_nonneg _, by have := this.2; show (m : Int) ≤ _; omega⟩
theorem impl_ReadPath (b : List UInt8) (v : Value) (i : Int) {p0 : Path} {j0 : Int} {ok0 : Bool} (w : World) (h : SlR byteT w v b) (hz : b.length ≤ 1048576) (hi : i ≤ 9223372036854775807) (hr : rp3 (readP b i) = (p0, j0, ok0)) : Calls Tryz.prog 91 #[v, I i] w fun e w' => ∃ cs fp, e = .returned (.tuple #[.agg cs.toArray, I j0, .bool ok0]) ∧ pathT.O w.heap.size w' cs p0 fp ∧ Below w.heap.size w w' := by
 obtain ⟨n1, j1, ok1, hr1⟩ : ∃ n j ok, rv3 (readVI b i) = (n, j, ok) := ⟨_, _, _, rfl⟩
 have X0 := Below.refl w.heap.size w
 refine enter Tryz.func91 rfl Tryz.ntmps91 rfl ?_
 refine w_s ?_
 refine w_g ?_
 have S := Sep.nil w
 have B := Below.refl w.heap.size w
 have Hb := Nat.le_refl w.heap.size
 refine t_w S z_path rfl ?_ rfl rfl
 intro g4 w30 x31 S
 have B := bx Hb B x31
 iterate 2 refine t_a rfl ?_ rfl
 refine t_d ?_
 refine x_s ?_
 refine w_s ?_
 refine w_g ?_
 iterate 2 refine t_m rfl ?_ rfl
 refine t_x Tryz.call140 rfl (impl_ReadVarint _ _ _ _ (by first | assumption | exact SlR.below ‹_› B) (by omega) (by omega) hr1) ?_ rfl rfl
 intro w32 x33
 have B := bx Hb B x33
 have S := S.below x33
 refine t_m rfl ?_ rfl
 iterate 3 refine t_extract rfl rfl ?_ rfl
 iterate 3 refine t_a rfl ?_ rfl
 refine t_d ?_
 refine x_s ?_
 iterate 2 refine w_s ?_
 refine w_g ?_
 refine t_m rfl ?_ rfl
 refine t_notb rfl ?_ rfl
 refine t_m rfl ?_ rfl
 refine t_part (t := 26) rfl ?_ ?_
 ·intro hno
  iterate 2 refine t_off rfl rfl rfl ?_ rfl
  refine t_q rfl rfl ?_ rfl
  refine t_d ?_
  refine x_s ?_
  refine w_yes rfl ?_
  refine w_s ?_
  refine w_g ?_
  refine t_g (fun w => b_path0 w) rfl ?_ rfl
  refine t_stn S sb_path rfl rfl rfl rfl (by simp [Value.oneCell']) ?_
  intro w34 b35 S
  have B := B.trans b35
  iterate 2 refine t_a rfl ?_ rfl
  refine t_d ?_
  refine x_s ?_
  refine w_r ?_
  refine x_t ?_
  refine x_retctt rfl rfl S.box ab_path sb_path rfl rfl rfl ?_
  rw [readP_no (rv_no hr1 hno)] at hr
  cases hr
  obtain ⟨fp, hO⟩ := ((S.addNil (T := partT) (e := 82)).pathShut (x := [])).head
  exact ⟨_, fp, rfl, pathT.mono _ _ _ _ _ _ X0.size hO, ext_trans X0 B⟩
 intro hyes
 obtain ⟨hy1, hy2, hy3, hy4, hy5, hy6⟩ := rv_yes hr1 hyes
 refine t_on rfl rfl ?_
 refine t_m rfl ?_ rfl
 refine t_on rfl rfl ?_
 refine t_gtr rfl rfl ?_ rfl
 refine t_p rfl rfl ?_ rfl
 refine t_d ?_
 refine x_s ?_
 refine w_if rfl ?_ ?_
 ·intro hbig
  refine w_s ?_
  refine w_g ?_
  refine t_g (fun w => b_path0 w) rfl ?_ rfl
  refine t_stn S sb_path rfl rfl rfl rfl (by simp [Value.oneCell']) ?_
  intro w36 b37 S
  have B := B.trans b37
  iterate 2 refine t_a rfl ?_ rfl
  refine t_d ?_
  refine x_s ?_
  refine w_r ?_
  refine x_t ?_
  refine x_retctt rfl rfl S.box ab_path sb_path rfl rfl rfl ?_
  rw [readP_big hy1 (by omega)] at hr
  cases hr
  obtain ⟨fp, hO⟩ := ((S.addNil (T := partT) (e := 82)).pathShut (x := [])).head
  exact ⟨_, fp, rfl, pathT.mono _ _ _ _ _ _ X0.size hO, ext_trans X0 B⟩
 intro hbig
 rw [readP_eq hy1 (by omega)] at hr
 refine w_k ?_
 refine x_s ?_
 refine w_s ?_
 refine w_g ?_
 refine t_w S z_path rfl ?_ rfl rfl
 intro g9 w38 x39 S
 have B := bx Hb B x39
 refine t_d ?_
 refine x_s ?_
 iterate 2 refine w_s ?_
 refine w_g ?_
 refine t_a rfl ?_ rfl
 refine t_d ?_
 refine x_s ?_
 refine w_block ?_
 refine w_loop (X := Nat × Int × Path × Value) (fun x wq => (fun k q acc u => k ≤ n1.toNat ∧ (0 : Int) ≤ q ∧ q ≤ b.length ∧ List.length acc = k ∧ sz_path acc ≤ 9 * k ∧ rng_path acc ∧ rpK b (n1.toNat - k) q.toNat acc = rpK b n1.toNat j1.toNat [] ∧ Below w.heap.size w wq ∧ Sep w.heap.size wq [bxO g9 30 #[u], slO partT 82 u acc, bxO g4 30 #[.slice none 0 0]]) x.1 x.2.1 x.2.2.1 x.2.2.2) (fun x => (fun k q acc u => [(10, I ((k : Int))), (1, I q), (0, v), (4, .pointer (some ⟨g4, 0, none⟩)), (7, I n1), (9, .pointer (some ⟨g9, 0, none⟩))]) x.1 x.2.1 x.2.2.1 x.2.2.2) (fun x => (fun k q acc u => n1.toNat - k) x.1 x.2.1 x.2.2.1 x.2.2.2) (0, j1, [], .slice none 0 0) ?_ ⟨rfl, rfl, rfl, rfl, rfl, rfl, trivial⟩ ?_
 ·exact ⟨by omega, (by show (0 : Int) ≤ j1; omega), hy5, rfl, Nat.le_refl _, (fun x hx => by cases hx), rfl, B, S.addNil.f1⟩
 ·rintro ⟨k, q, acc, u⟩ w40 hI
  try dsimp only at hI ⊢
  obtain ⟨hk, hq0, hq1, hal, hsz, hrg, hq, B, S⟩ := hI
  iterate 2 refine w_s ?_
  refine w_g ?_
  iterate 2 refine t_m rfl ?_ rfl
  refine t_lss rfl rfl ?_ rfl
  refine t_d ?_
  refine x_s ?_
  refine w_if rfl ?_ ?_
  ·intro hlt
   have hf : n1.toNat - k = (n1.toNat - (k + 1)) + 1 := by omega
   rw [hf] at hq
   obtain ⟨l2, j2, ok2, hr2⟩ : ∃ l j ok, dec3 (decI b q 4) = (l, j, ok) := ⟨_, _, _, rfl⟩
   have hd4 : decI b q 4 = decA b 4 q.toNat [] := decI_at hq0 hq1 (by omega) (by omega)
   refine w_k ?_
   refine x_s ?_
   refine w_s ?_
   refine w_block ?_
   refine w_s ?_
   refine w_g ?_
   iterate 2 refine t_m rfl ?_ rfl
   refine t_c Tryz.call89 rfl (impl_DecodeInts _ _ _ _ _ (by first | assumption | exact SlR.below ‹_› B) (by omega) hr2) ?_ rfl rfl
   rintro e w41 ⟨v39, fpv39, rfl, hOv39, x42⟩
   refine ⟨_, rfl, x42, ?_⟩
   have S := S.add (o := slO _ _ _ _) x42 hOv39
   have B := bx Hb B x42
   refine t_m rfl ?_ rfl
   iterate 3 refine t_extract rfl rfl ?_ rfl
   iterate 3 refine t_a rfl ?_ rfl
   refine t_d ?_
   refine x_s ?_
   iterate 2 refine w_s ?_
   refine w_g ?_
   refine t_m rfl ?_ rfl
   refine t_notb rfl ?_ rfl
   refine t_d ?_
   refine x_s ?_
   refine w_ifb rfl ?_ ?_
   ·intro hno
    refine w_s ?_
    refine w_g ?_
    refine t_g (fun w => b_path0 w) rfl ?_ rfl
    have S := S.f3
    refine t_stn S sb_path rfl rfl rfl rfl (by simp [Value.oneCell']) ?_
    intro w43 b44 S
    have B := B.trans b44
    iterate 2 refine t_a rfl ?_ rfl
    refine t_d ?_
    refine x_s ?_
    refine w_r ?_
    refine x_t ?_
    refine x_block_ret ?_
    iterate 2 refine x_t ?_
    refine x_block_ret ?_
    refine x_t ?_
    refine x_retctt rfl rfl S.box ab_path sb_path rfl rfl rfl ?_
    have hdn := dec_no hr2 hno
    rw [hd4] at hdn
    rw [rp_none hdn] at hq
    rw [← hq] at hr
    cases hr
    obtain ⟨fp, hO⟩ := ((S.addNil (T := partT) (e := 82)).pathShut (x := [])).head
    exact ⟨_, fp, rfl, pathT.mono _ _ _ _ _ _ X0.size hO, ext_trans X0 B⟩
   intro hyes2
   obtain ⟨ha1, ha2, ha3, ha4, ha5, ha6⟩ := dec_yes hr2 hyes2
   rw [hd4] at ha1
   have hl4 : l2.length = 4 := by simpa using ha2
   have hin : ∀ x ∈ l2, In64 x := fun x hx => by
    have := ha3 x hx
    unfold In64; omega
   obtain ⟨e50, he50⟩ : ∃ e, l2[3]? = some e := getx (by omega)
   have hg3 := gI_eq he50
   have h50 := ha3 e50 (List.mem_of_getElem? he50)
   obtain ⟨l3, j3, ok3, hr3⟩ : ∃ l j ok, rhs3 (readHs b j2 e50) = (l, j, ok) := ⟨_, _, _, rfl⟩
   have hj2 : ((j2.toNat : Nat) : Int) = j2 := Int.toNat_of_nonneg ha6
   refine w_k ?_
   refine x_s ?_
   refine w_s ?_
   refine w_g ?_
   iterate 3 refine t_m rfl ?_ rfl
   refine t_idx e_int (k := 3) (S.sl) he50 (Below.refl _ _) rfl rfl (by first | rfl | omega) ?_ rfl
   intro p50 hp50
   refine t_ldi ‹_› ab_int (Below.refl _ _) rfl ?_ rfl
   refine t_c Tryz.call141 rfl (impl_readHops _ _ _ _ _ (by first | assumption | exact SlR.below ‹_› B) (by omega) (by omega) (by omega) hr3) ?_ rfl rfl
   rintro e w45 ⟨v52, fpv52, rfl, hOv52, x46⟩
   refine ⟨_, rfl, x46, ?_⟩
   have S := S.add (o := slO _ _ _ _) x46 hOv52
   have B := bx Hb B x46
   refine t_m rfl ?_ rfl
   iterate 3 refine t_extract rfl rfl ?_ rfl
   iterate 3 refine t_a rfl ?_ rfl
   refine t_d ?_
   refine x_s ?_
   iterate 2 refine w_s ?_
   refine w_g ?_
   refine t_m rfl ?_ rfl
   refine t_notb rfl ?_ rfl
   refine t_d ?_
   refine x_s ?_
   refine w_ifb rfl ?_ ?_
   ·intro hno
    refine w_s ?_
    refine w_g ?_
    refine t_g (fun w => b_path0 w) rfl ?_ rfl
    have S := S.f4
    refine t_stn S sb_path rfl rfl rfl rfl (by simp [Value.oneCell']) ?_
    intro w47 b48 S
    have B := B.trans b48
    iterate 2 refine t_a rfl ?_ rfl
    refine t_d ?_
    refine x_s ?_
    refine w_r ?_
    refine x_t ?_
    refine x_block_ret ?_
    iterate 2 refine x_t ?_
    refine x_block_ret ?_
    refine x_t ?_
    refine x_retctt rfl rfl S.box ab_path sb_path rfl rfl rfl ?_
    have hdn := rhs_no hr3 hno
    rw [rp_no ha1 (by omega) (by rw [hg3, hj2]; exact hdn)] at hq
    rw [← hq] at hr
    cases hr
    obtain ⟨fp, hO⟩ := ((S.addNil (T := partT) (e := 82)).pathShut (x := [])).head
    exact ⟨_, fp, rfl, pathT.mono _ _ _ _ _ _ X0.size hO, ext_trans X0 B⟩
   intro hyes3
   have hdy := rhs_yes hr3 hyes3
   obtain ⟨hb1, hb2, hb3, hb4, hb5⟩ := rp_yes (n := n1.toNat - (k + 1)) (acc := acc) ha1 (by omega) (by rw [hg3, hj2]; exact hdy)
   obtain ⟨e62, he62⟩ : ∃ e, l2[0]? = some e := getx (by omega)
   obtain ⟨e65, he65⟩ : ∃ e, l2[1]? = some e := getx (by omega)
   obtain ⟨e68, he68⟩ : ∃ e, l2[2]? = some e := getx (by omega)
   rw [gI_eq he62, gI_eq he65, gI_eq he68, hq] at hb1
   refine w_k ?_
   refine x_s ?_
   refine w_s ?_
   refine w_draw (.st .take 0 (.st .take 1 (.st .take 2 (.st .take 3 (.st .take 4 (.st .take 5 (.st .take 6 (.st .take 7 (.st .take 8 (.st .take 9 (.st .take 10 (.st .take 11 (.st .take 12 (.st .run 13 (.st .fin 14 (.st .fin 15 (.st .fin 16 .done))))))))))))))))) mixed (by kernel_rfl) ?_
   intro w49 x50
   have B := bx Hb B x50
   have S := S.below x50
   refine t_y fb_path_0 rfl rfl ?_ rfl
   refine t_bx1 S.tail.tail.box ab_s_part rfl rfl ?_ rfl
   refine t_m rfl ?_ rfl
   refine t_idx e_int (k := 0) (S.tail.sl) he62 (Below.refl _ _) rfl rfl (by first | rfl | omega) ?_ rfl
   intro p62 hp62
   refine t_ldi ‹_› ab_int (Below.refl _ _) rfl ?_ rfl
   refine t_m rfl ?_ rfl
   refine t_idx e_int (k := 1) (S.tail.sl) he65 (Below.refl _ _) rfl rfl (by first | rfl | omega) ?_ rfl
   intro p65 hp65
   refine t_ldi ‹_› ab_int (Below.refl _ _) rfl ?_ rfl
   refine t_m rfl ?_ rfl
   refine t_idx e_int (k := 2) (S.tail.sl) he68 (Below.refl _ _) rfl rfl (by first | rfl | omega) ?_ rfl
   intro p68 hp68
   refine t_ldi ‹_› ab_int (Below.refl _ _) rfl ?_ rfl
   refine t_m rfl ?_ rfl
   obtain ⟨Av52, cv52, rfl, _⟩ := S.sl.form
   refine t_g (fun w => b_part _ _ _ _ _ _ w) rfl ?_ rfl
   refine t_lit1 (fun w => bs_part1 _ _ _ _ w) rfl ?_ rfl rfl
   intro A72 w51 x52 hA72
   have B := bx Hb B x52
   have S := S.below x52
   have S := S.partShut (x := (⟨e62, e65, e68, l3⟩ : Part))
   have S := S.f3
   refine t_snoc e_part S hA72 rfl rfl rfl (by first | omega | (simp; done) | (simp; omega)) (by (simp only [maxLen]); first | omega | (simp; done) | (simp; omega)) ?_ rfl
   intro v73 w53 x54 S
   have B := B.trans x54
   refine t_y fb_path_0 rfl rfl ?_ rfl
   obtain ⟨Av73, cv73, rfl, _⟩ := S.sl.form
   have S := S.f2
   refine t_st1 S sb_s_part rfl rfl rfl rfl rfl ?_
   intro w55 b56 S
   have B := B.trans b56
   refine t_d' ?_
   refine x_s ?_
   refine w_g ?_
   refine t_m rfl ?_ rfl
   refine t_a rfl ?_ rfl
   refine t_d ?_
   refine x_b ?_
   refine x_s ?_
   refine w_g ?_
   refine t_m rfl ?_ rfl
   refine t_add rfl rfl (by omega) ?_ rfl
   refine t_a rfl ?_ rfl
   refine t_d ?_
   have S := S.f2.tail
   refine x_r (X := Nat × Int × Path × Value) (k + 1, j3, acc ++ [⟨e62, e65, e68, l3⟩], .slice Av73 (acc ++ [(⟨e62, e65, e68, l3⟩ : Part)]).length cv73) ?_ (by exact ⟨rfl, rfl, rfl, rfl, rfl, rfl, trivial⟩) (by (try dsimp only); omega)
   try dsimp only
   refine ⟨by omega, hb2, hb3, by rw [List.length_append, hal]; rfl, by rw [sz_snoc]; show sz_path acc + 1 + l3.length ≤ _; omega, ?_, hb1.symm, B, S⟩
   intro x hx
   rcases List.mem_append.1 hx with hx | hx
   ·exact hrg x hx
   ·rw [List.mem_singleton] at hx
    rw [hx]
    exact ⟨hin _ (List.mem_of_getElem? he62), hin _ (List.mem_of_getElem? he65), hin _ (List.mem_of_getElem? he68), hb5⟩
  ·intro hge
   have : n1.toNat - k = 0 := by omega
   rw [this, rp_end] at hq
   have hok2 := lenOk_sz (p := acc) (by omega)
   refine w_exit ?_
   iterate 2 refine x_then_exit ?_
   refine x_block_exit ?_
   refine x_s ?_
   iterate 2 refine w_s ?_
   refine w_g ?_
   refine t_b S.box ab_path sb_path rfl rfl ?_ rfl
   refine t_x Tryz.call105 rfl (va1 (path_mkv (S.tail.sl)) fun cs h => impl_EncodablePath _ cs _ h (by omega) ‹_› ‹_›) ?_ rfl rfl
   intro w57 x58
   have B := bx Hb B x58
   have S := S.below x58
   refine t_notb rfl ?_ rfl
   refine t_d ?_
   refine x_s ?_
   refine w_ifb rfl ?_ ?_
   ·intro h4
    refine w_s ?_
    refine w_g ?_
    refine t_g (fun w => b_path0 w) rfl ?_ rfl
    have S := S.f2
    refine t_stn S sb_path rfl rfl rfl rfl (by simp [Value.oneCell']) ?_
    intro w59 b60 S
    have B := B.trans b60
    iterate 2 refine t_a rfl ?_ rfl
    refine t_d ?_
    refine x_s ?_
    refine w_r ?_
    refine x_t ?_
    refine x_retctt rfl rfl S.box ab_path sb_path rfl rfl rfl ?_
    rw [show encPath acc = false by simpa using h4] at hq
    rw [← hq] at hr
    cases hr
    obtain ⟨fp, hO⟩ := ((S.addNil (T := partT) (e := 82)).pathShut (x := [])).head
    exact ⟨_, fp, rfl, pathT.mono _ _ _ _ _ _ X0.size hO, ext_trans X0 B⟩
   ·intro h4
    refine w_k ?_
    refine x_s ?_
    refine w_s ?_
    refine w_g ?_
    refine t_b S.box ab_path sb_path rfl rfl ?_ rfl
    refine t_m rfl ?_ rfl
    have S := S.f2
    refine t_stn S sb_path rfl rfl rfl rfl (by repeat first | exact oc0 | refine oc rfl ?_ | refine oc (SlR.cells (by have z := S; repeat first | assumption | exact z.sl | replace z := z.tail)).2 ?_) ?_
    intro w61 b62 S
    have B := B.trans b62
    iterate 2 refine t_a rfl ?_ rfl
    refine t_d ?_
    refine x_s ?_
    refine w_r ?_
    refine x_retctt rfl rfl S.box ab_path sb_path rfl rfl rfl ?_
    rw [show encPath acc = true by simpa using h4] at hq
    rw [← hq] at hr
    have e0 : (p0, j0, ok0) = (acc, q, true) := by rw [← hr]; simp only [if_true, rp3]; congr 2; omega
    cases e0
    obtain ⟨fp, hO⟩ := (S.f2.pathShut).head
    exact ⟨_, fp, rfl, pathT.mono _ _ _ _ _ _ X0.size hO, ext_trans X0 B⟩
theorem pathInts_snoc (p : Path) (x : Part) : pathInts (p ++ [x]) = pathInts p ++ (piP x ++ x.hops.flatMap piH) := intsOf_snoc piP piH p x
theorem piP_of {h : List Int} {e0 e1 e2 e3 : Int} {hs : List Hop} (hl : h.length = 4) (h0 : h[0]? = some e0) (h1 : h[1]? = some e1) (h2 : h[2]? = some e2) (h3 : h[3]? = some e3) (hh : (hs.length : Int) = e3) : piP ⟨e0, e1, e2, hs⟩ = h := by
  obtain ⟨a, b, c, d, rfl⟩ : ∃ a b c d, h = [a, b, c, d] := by
    rcases h with _ | ⟨a, _ | ⟨b, _ | ⟨c, _ | ⟨d, _ | ⟨e, t⟩⟩⟩⟩⟩
    all_goals first | exact ⟨_, _, _, _, rfl⟩ | (simp at hl; done) | (simp at hl; omega)
  cases h0
  cases h1
  cases h2
  cases h3
  show [e0, e1, e2, (hs.length : Int)] = _
  rw [hh]
theorem rp_step {b : List UInt8} {n i j m : Nat} {acc : Path} {h l : List Int} (hd : decA b 4 i [] = some (h, j)) (h8 : ¬ 8 < gI h 3) (hd2 : decA b (5 * (gI h 3).toNat) j [] = some (l, m)) : rpK b (n + 1) i acc = rpK b n m (acc ++ [partOfI h l]) := by
  rw [rpK, hd]
  simp only [if_neg h8, hd2]
theorem rp_bad8 {b : List UInt8} {n i j : Nat} {acc : Path} {h : List Int} (hd : decA b 4 i [] = some (h, j)) (h8 : 8 < gI h 3) : rpK b (n + 1) i acc = none := by
  rw [rpK, hd]
  simp only [if_pos h8]
theorem rp_bad5 {b : List UInt8} {n i j : Nat} {acc : Path} {h : List Int} (hd : decA b 4 i [] = some (h, j)) (hd2 : decA b (5 * (gI h 3).toNat) j [] = none) : rpK b (n + 1) i acc = none := by
  rw [rpK, hd]
  by_cases h8 : 8 < gI h 3
  · simp only [if_pos h8]
  · simp only [if_neg h8, hd2]
theorem spec_ReadPath (b : List UInt8) (v : Value) (i : Int) {p0 : Path} {j0 : Int} {ok0 : Bool} (w : World) (h : SlR byteT w v b) (hz : b.length ≤ 1048576) (hi : i ≤ 9223372036854775807) (hr : rp3 (readP b i) = (p0, j0, ok0)) : Calls Tryz.prog 94 #[v, I i] w fun e w' => ∃ cs fp, e = .returned (.tuple #[.agg cs.toArray, I j0, .bool ok0]) ∧ pathT.O w.heap.size w' cs p0 fp ∧ Below w.heap.size w w' := by
 obtain ⟨n1, j1, ok1, hr1⟩ : ∃ n j ok, rv3 (readVI b i) = (n, j, ok) := ⟨_, _, _, rfl⟩
 have X0 := Below.refl w.heap.size w
 refine enter Tryz.func94 rfl Tryz.ntmps94 rfl ?_
 refine w_s ?_
 refine w_g ?_
 have S := Sep.nil w
 have B := Below.refl w.heap.size w
 have Hb := Nat.le_refl w.heap.size
 refine t_w S z_path rfl ?_ rfl rfl
 intro g4 w63 x64 S
 have B := bx Hb B x64
 iterate 2 refine t_a rfl ?_ rfl
 refine t_d ?_
 refine x_s ?_
 refine w_s ?_
 refine w_g ?_
 refine t_g (fun w => b_path0 w) rfl ?_ rfl
 refine t_w S z_path rfl ?_ rfl rfl
 intro g7 w65 x66 S
 have B := bx Hb B x66
 refine t_stn S sb_path rfl rfl rfl rfl (by simp [Value.oneCell']) ?_
 intro w67 b68 S
 have B := B.trans b68
 refine t_d ?_
 refine x_s ?_
 refine w_s ?_
 refine w_g ?_
 iterate 2 refine t_m rfl ?_ rfl
 refine t_x Tryz.call142 rfl (spec_ReadVarint _ _ _ _ (by first | assumption | exact SlR.below ‹_› B) (by omega) (by omega) hr1) ?_ rfl rfl
 intro w69 x70
 have B := bx Hb B x70
 have S := S.below x70
 refine t_m rfl ?_ rfl
 iterate 3 refine t_extract rfl rfl ?_ rfl
 iterate 3 refine t_a rfl ?_ rfl
 refine t_d ?_
 refine x_s ?_
 iterate 2 refine w_s ?_
 refine w_g ?_
 refine t_m rfl ?_ rfl
 refine t_notb rfl ?_ rfl
 refine t_m rfl ?_ rfl
 refine t_part (t := 31) rfl ?_ ?_
 ·intro hno
  iterate 2 refine t_off rfl rfl rfl ?_ rfl
  refine t_q rfl rfl ?_ rfl
  refine t_d ?_
  refine x_s ?_
  refine w_yes rfl ?_
  refine w_s ?_
  refine w_g ?_
  refine t_b S.box ab_path sb_path rfl rfl ?_ rfl
  have S := S.f1
  refine t_stn S sb_path rfl rfl rfl rfl (by simp [Value.oneCell']) ?_
  intro w71 b72 S
  have B := B.trans b72
  iterate 2 refine t_a rfl ?_ rfl
  refine t_d ?_
  refine x_s ?_
  refine w_r ?_
  refine x_t ?_
  refine x_retctt rfl rfl S.box ab_path sb_path rfl rfl rfl ?_
  rw [readP_no (rv_no hr1 hno)] at hr
  cases hr
  obtain ⟨fp, hO⟩ := ((S.addNil (T := partT) (e := 82)).pathShut (x := [])).head
  exact ⟨_, fp, rfl, pathT.mono _ _ _ _ _ _ X0.size hO, ext_trans X0 B⟩
 intro hyes
 obtain ⟨hy1, hy2, hy3, hy4, hy5, hy6⟩ := rv_yes hr1 hyes
 refine t_on rfl rfl ?_
 refine t_m rfl ?_ rfl
 refine t_on rfl rfl ?_
 refine t_gtr rfl rfl ?_ rfl
 refine t_p rfl rfl ?_ rfl
 refine t_d ?_
 refine x_s ?_
 refine w_if rfl ?_ ?_
 ·intro hbig
  refine w_s ?_
  refine w_g ?_
  refine t_b S.box ab_path sb_path rfl rfl ?_ rfl
  have S := S.f1
  refine t_stn S sb_path rfl rfl rfl rfl (by simp [Value.oneCell']) ?_
  intro w73 b74 S
  have B := B.trans b74
  iterate 2 refine t_a rfl ?_ rfl
  refine t_d ?_
  refine x_s ?_
  refine w_r ?_
  refine x_t ?_
  refine x_retctt rfl rfl S.box ab_path sb_path rfl rfl rfl ?_
  rw [readP_big hy1 (by omega)] at hr
  cases hr
  obtain ⟨fp, hO⟩ := ((S.addNil (T := partT) (e := 82)).pathShut (x := [])).head
  exact ⟨_, fp, rfl, pathT.mono _ _ _ _ _ _ X0.size hO, ext_trans X0 B⟩
 intro hbig
 rw [readP_eq hy1 (by omega)] at hr
 refine w_k ?_
 refine x_s ?_
 refine w_s ?_
 refine w_g ?_
 refine t_lit (T := intT) (css := []) (l := []) int_flat S bs_int0 rfl rfl rfl rfl (Nat.zero_le _) litR_nil ?_ rfl rfl
 intro u36 w75 x76 S
 have B := bx Hb B x76
 refine t_a rfl ?_ rfl
 refine t_d ?_
 refine x_s ?_
 iterate 2 refine w_s ?_
 refine w_g ?_
 refine t_a rfl ?_ rfl
 refine t_d ?_
 refine x_s ?_
 refine w_block ?_
 refine w_loop (X := Nat × Int × Path × Value) (fun x wq => (fun k q acc u => k ≤ n1.toNat ∧ (0 : Int) ≤ q ∧ q ≤ b.length ∧ (pathInts acc).length ≤ 44 * k ∧ (∀ x ∈ acc, x.hops.length ≤ 8) ∧ (∀ x ∈ pathInts acc, In64 x) ∧ rpK b (n1.toNat - k) q.toNat acc = rpK b n1.toNat j1.toNat [] ∧ Below w.heap.size w wq ∧ Sep w.heap.size wq [slO intT 3 u (pathInts acc), bxO g7 30 #[.slice none 0 0], bxO g4 30 #[.slice none 0 0]]) x.1 x.2.1 x.2.2.1 x.2.2.2) (fun x => (fun k q acc u => [(12, I ((k : Int))), (9, I q), (11, u), (0, v), (4, .pointer (some ⟨g4, 0, none⟩)), (7, .pointer (some ⟨g7, 0, none⟩)), (8, I n1)]) x.1 x.2.1 x.2.2.1 x.2.2.2) (fun x => (fun k q acc u => n1.toNat - k) x.1 x.2.1 x.2.2.1 x.2.2.2) (0, j1, [], u36) ?_ ⟨rfl, rfl, rfl, rfl, rfl, rfl, rfl, trivial⟩ ?_
 ·exact ⟨by omega, (by show (0 : Int) ≤ j1; omega), hy5, Nat.le_refl _, (fun x hx => by cases hx), (fun x hx => by cases hx), rfl, B, S⟩
 ·rintro ⟨k, q, acc, u⟩ w77 hI
  try dsimp only at hI ⊢
  obtain ⟨hk, hq0, hq1, hal, hh8, hin, hq, B, S⟩ := hI
  iterate 2 refine w_s ?_
  refine w_g ?_
  iterate 2 refine t_m rfl ?_ rfl
  refine t_lss rfl rfl ?_ rfl
  refine t_d ?_
  refine x_s ?_
  refine w_if rfl ?_ ?_
  ·intro hlt
   have hf : n1.toNat - k = (n1.toNat - (k + 1)) + 1 := by omega
   rw [hf] at hq
   obtain ⟨l2, j2, ok2, hr2⟩ : ∃ l j ok, dec3 (decI b q 4) = (l, j, ok) := ⟨_, _, _, rfl⟩
   have hd4 : decI b q 4 = decA b 4 q.toNat [] := decI_at hq0 hq1 (by omega) (by omega)
   refine w_k ?_
   refine x_s ?_
   refine w_s ?_
   refine w_block ?_
   refine w_s ?_
   refine w_g ?_
   iterate 2 refine t_m rfl ?_ rfl
   refine t_c Tryz.call92 rfl (spec_DecodeInts _ _ _ _ _ (by first | assumption | exact SlR.below ‹_› B) (by omega) hr2) ?_ rfl rfl
   rintro e w78 ⟨v45, fpv45, rfl, hOv45, x79⟩
   refine ⟨_, rfl, x79, ?_⟩
   have S := S.add (o := slO _ _ _ _) x79 hOv45
   have B := bx Hb B x79
   refine t_m rfl ?_ rfl
   iterate 3 refine t_extract rfl rfl ?_ rfl
   iterate 3 refine t_a rfl ?_ rfl
   refine t_d ?_
   refine x_s ?_
   iterate 2 refine w_s ?_
   refine w_g ?_
   refine t_m rfl ?_ rfl
   refine t_notb rfl ?_ rfl
   refine t_m rfl ?_ rfl
   refine t_part (t := 51) rfl ?_ ?_
   ·intro hno
    iterate 4 refine t_off rfl rfl rfl ?_ rfl
    refine t_q rfl rfl ?_ rfl
    refine t_d ?_
    refine x_s ?_
    refine w_yes rfl ?_
    refine w_s ?_
    refine w_g ?_
    refine t_b S.tail.tail.box ab_path sb_path rfl rfl ?_ rfl
    have S := S.f3
    refine t_stn S sb_path rfl rfl rfl rfl (by simp [Value.oneCell']) ?_
    intro w80 b81 S
    have B := B.trans b81
    iterate 2 refine t_a rfl ?_ rfl
    refine t_d ?_
    refine x_s ?_
    refine w_r ?_
    refine x_t ?_
    refine x_block_ret ?_
    iterate 2 refine x_t ?_
    refine x_block_ret ?_
    refine x_t ?_
    refine x_retctt rfl rfl S.box ab_path sb_path rfl rfl rfl ?_
    have hdn := dec_no hr2 hno
    rw [hd4] at hdn
    rw [rp_none hdn] at hq
    rw [← hq] at hr
    cases hr
    obtain ⟨fp, hO⟩ := ((S.addNil (T := partT) (e := 82)).pathShut (x := [])).head
    exact ⟨_, fp, rfl, pathT.mono _ _ _ _ _ _ X0.size hO, ext_trans X0 B⟩
   intro hyes2
   obtain ⟨ha1, ha2, ha3, ha4, ha5, ha6⟩ := dec_yes hr2 hyes2
   rw [hd4] at ha1
   have hl4 : l2.length = 4 := by simpa using ha2
   have hin2 : ∀ x ∈ l2, In64 x := fun x hx => by
    have := ha3 x hx
    unfold In64; omega
   obtain ⟨e53, he53⟩ : ∃ e, l2[3]? = some e := getx (by omega)
   have hg3 := gI_eq he53
   have h53 := ha3 e53 (List.mem_of_getElem? he53)
   refine t_on rfl rfl ?_
   refine t_m rfl ?_ rfl
   refine t_on rfl rfl ?_
   refine t_idx e_int (k := 3) (S.sl) he53 (Below.refl _ _) rfl rfl (by first | rfl | omega) ?_ rfl
   intro p53 hp53
   refine t_on rfl rfl ?_
   refine t_ldi ‹_› ab_int (Below.refl _ _) rfl ?_ rfl
   refine t_on rfl rfl ?_
   refine t_gtr rfl rfl ?_ rfl
   refine t_p rfl rfl ?_ rfl
   refine t_d ?_
   refine x_s ?_
   refine w_if rfl ?_ ?_
   ·intro hbig8
    refine w_s ?_
    refine w_g ?_
    refine t_b S.tail.tail.box ab_path sb_path rfl rfl ?_ rfl
    have S := S.f3
    refine t_stn S sb_path rfl rfl rfl rfl (by simp [Value.oneCell']) ?_
    intro w82 b83 S
    have B := B.trans b83
    iterate 2 refine t_a rfl ?_ rfl
    refine t_d ?_
    refine x_s ?_
    refine w_r ?_
    refine x_t ?_
    refine x_block_ret ?_
    iterate 2 refine x_t ?_
    refine x_block_ret ?_
    refine x_t ?_
    refine x_retctt rfl rfl S.box ab_path sb_path rfl rfl rfl ?_
    rw [rp_bad8 ha1 (by rw [hg3]; exact hbig8)] at hq
    rw [← hq] at hr
    cases hr
    obtain ⟨fp, hO⟩ := ((S.addNil (T := partT) (e := 82)).pathShut (x := [])).head
    exact ⟨_, fp, rfl, pathT.mono _ _ _ _ _ _ X0.size hO, ext_trans X0 B⟩
   intro hbig8
   obtain ⟨l3, j3, ok3, hr3⟩ : ∃ l j ok, dec3 (decI b j2 (5 * e53)) = (l, j, ok) := ⟨_, _, _, rfl⟩
   have hd5 : decI b j2 (5 * e53) = decA b (5 * e53.toNat) j2.toNat [] := by
    rw [decI_at ha6 ha5 (by omega) (by omega), show (5 * e53).toNat = 5 * e53.toNat by omega]
   refine w_k ?_
   refine x_s ?_
   refine w_s ?_
   refine w_g ?_
   iterate 3 refine t_m rfl ?_ rfl
   refine t_idx e_int (k := 3) (S.sl) he53 (Below.refl _ _) rfl rfl (by first | rfl | omega) ?_ rfl
   intro p62 hp62
   refine t_ldi ‹_› ab_int (Below.refl _ _) rfl ?_ rfl
   refine t_mul rfl rfl (by omega) ?_ rfl
   refine t_c Tryz.call92 rfl (spec_DecodeInts _ _ _ _ _ (by first | assumption | exact SlR.below ‹_› B) (by omega) hr3) ?_ rfl rfl
   rintro e w84 ⟨v65, fpv65, rfl, hOv65, x85⟩
   refine ⟨_, rfl, x85, ?_⟩
   have S := S.add (o := slO _ _ _ _) x85 hOv65
   have B := bx Hb B x85
   refine t_m rfl ?_ rfl
   iterate 3 refine t_extract rfl rfl ?_ rfl
   iterate 3 refine t_a rfl ?_ rfl
   refine t_d ?_
   refine x_s ?_
   iterate 2 refine w_s ?_
   refine w_g ?_
   refine t_m rfl ?_ rfl
   refine t_notb rfl ?_ rfl
   refine t_d ?_
   refine x_s ?_
   refine w_ifb rfl ?_ ?_
   ·intro hno
    refine w_s ?_
    refine w_g ?_
    refine t_b S.tail.tail.tail.box ab_path sb_path rfl rfl ?_ rfl
    have S := S.f4
    refine t_stn S sb_path rfl rfl rfl rfl (by simp [Value.oneCell']) ?_
    intro w86 b87 S
    have B := B.trans b87
    iterate 2 refine t_a rfl ?_ rfl
    refine t_d ?_
    refine x_s ?_
    refine w_r ?_
    refine x_t ?_
    refine x_block_ret ?_
    iterate 2 refine x_t ?_
    refine x_block_ret ?_
    refine x_t ?_
    refine x_retctt rfl rfl S.box ab_path sb_path rfl rfl rfl ?_
    have hdn := dec_no hr3 hno
    rw [hd5] at hdn
    rw [rp_bad5 ha1 (by rw [hg3]; exact hdn)] at hq
    rw [← hq] at hr
    cases hr
    obtain ⟨fp, hO⟩ := ((S.addNil (T := partT) (e := 82)).pathShut (x := [])).head
    exact ⟨_, fp, rfl, pathT.mono _ _ _ _ _ _ X0.size hO, ext_trans X0 B⟩
   intro hyes3
   obtain ⟨hb1, hb2, hb3, hb4, hb5, hb6⟩ := dec_yes hr3 hyes3
   rw [hd5] at hb1
   have hst := rp_step (n := n1.toNat - (k + 1)) (acc := acc) ha1 (by rw [hg3]; exact hbig8) (by rw [hg3]; exact hb1)
   rw [hq] at hst
   have hl3 : l3.length = 5 * e53.toNat := by rw [hb2]; omega
   obtain ⟨e0, he0⟩ : ∃ e, l2[0]? = some e := getx (by omega)
   obtain ⟨e1, he1⟩ : ∃ e, l2[1]? = some e := getx (by omega)
   obtain ⟨e2, he2⟩ : ∃ e, l2[2]? = some e := getx (by omega)
   have hhl := hopsAt_len l3 0 e53.toNat
   have hpo : partOfI l2 l3 = ⟨e0, e1, e2, hopsAt l3 0 e53.toNat⟩ := by
    unfold partOfI; rw [gI_eq he0, gI_eq he1, gI_eq he2, hg3]
   have hpi : pathInts (acc ++ [partOfI l2 l3]) = (pathInts acc ++ l2) ++ l3 := by
    rw [pathInts_snoc, hpo, piP_of hl4 he0 he1 he2 he53 (by rw [hhl]; omega)]
    show pathInts acc ++ (l2 ++ (hopsAt l3 0 e53.toNat).flatMap piH) = _
    rw [hopsAt_ints l3 _ hl3, List.append_assoc]
   refine w_k ?_
   refine x_s ?_
   refine w_s ?_
   refine w_g ?_
   iterate 2 refine t_m rfl ?_ rfl
   have hR := S.tail.sl
   have S := S.f2
   refine t_cat int_flat e_int S hR rfl rfl rfl (by first | omega | (simp [-List.length_flatMap]; omega)) (by (simp [maxLen, -List.length_flatMap]; try omega)) ?_ rfl
   intro v74 w88 x89 S
   have B := B.trans x89
   clear hR
   refine t_m rfl ?_ rfl
   have hR := S.tail.sl
   refine t_cat int_flat e_int S hR rfl rfl rfl (by first | omega | (simp [-List.length_flatMap]; omega)) (by (simp [maxLen, -List.length_flatMap]; try omega)) ?_ rfl
   intro v76 w90 x91 S
   have B := B.trans x91
   clear hR
   refine t_a rfl ?_ rfl
   refine t_d ?_
   refine x_s ?_
   refine w_g ?_
   refine t_m rfl ?_ rfl
   refine t_a rfl ?_ rfl
   refine t_d ?_
   refine x_b ?_
   refine x_s ?_
   refine w_g ?_
   refine t_m rfl ?_ rfl
   refine t_add rfl rfl (by omega) ?_ rfl
   refine t_a rfl ?_ rfl
   refine t_d ?_
   have S := S.f1.tail.f1.tail
   refine x_r (X := Nat × Int × Path × Value) (k + 1, j3, acc ++ [partOfI l2 l3], v76) ?_ (by exact ⟨rfl, rfl, rfl, rfl, rfl, rfl, rfl, trivial⟩) (by (try dsimp only); omega)
   try dsimp only
   refine ⟨by omega, hb6, hb5, by rw [hpi]; simp only [List.length_append]; omega, ?_, ?_, hst.symm, B, by rw [hpi]; exact S⟩
   ·intro x hx
    rcases List.mem_append.1 hx with hx | hx
    ·exact hh8 x hx
    ·rw [List.mem_singleton] at hx
     rw [hx, hpo]
     show (hopsAt l3 0 e53.toNat).length ≤ 8
     omega
   ·intro x hx
    rw [hpi] at hx
    rcases List.mem_append.1 hx with hx | hx
    ·rcases List.mem_append.1 hx with hx | hx
     ·exact hin x hx
     ·exact hin2 x hx
    ·have := hb3 x hx
     unfold In64; omega
  ·intro hge
   have : n1.toNat - k = 0 := by omega
   rw [this, rp_end] at hq
   have hpo := pathOf_ints hh8
   obtain ⟨q1, ok3, hpq⟩ : ∃ q1 ok3, pathOf (pathInts acc) = (q1, ok3) := ⟨_, _, rfl⟩
   refine w_exit ?_
   iterate 2 refine x_then_exit ?_
   refine x_block_exit ?_
   refine x_s ?_
   refine w_s ?_
   refine w_g ?_
   refine t_m rfl ?_ rfl
   refine t_c Tryz.call143 rfl (spec_PathFromInts _ _ _ (S.sl) (by omega) ‹_›) ?_ rfl rfl
   rintro e w92 ⟨cs80, fp80, rfl, hO80, x93⟩
   refine ⟨_, rfl, x93, ?_⟩
   have S := S.add (o := tyO pathT _ _) x93 hO80
   have B := bx Hb B x93
   obtain ⟨u80_0, heq, S2⟩ := S.pathOpen
   subst heq
   have S := S2
   clear S2
   refine t_m rfl ?_ rfl
   iterate 2 refine t_extract rfl rfl ?_ rfl
   refine t_w S z_path rfl ?_ rfl rfl
   intro g19 w94 x95 S
   have B := bx Hb B x95
   refine t_stn S sb_path rfl rfl rfl rfl (by repeat first | exact oc0 | refine oc rfl ?_ | refine oc (SlR.cells (by have z := S; repeat first | assumption | exact z.sl | replace z := z.tail)).2 ?_) ?_
   intro w96 b97 S
   have B := B.trans b97
   refine t_a rfl ?_ rfl
   refine t_d ?_
   refine x_s ?_
   iterate 2 refine w_s ?_
   refine w_g ?_
   refine t_m rfl ?_ rfl
   refine t_notb rfl ?_ rfl
   refine t_d ?_
   refine x_s ?_
   refine w_ifb rfl ?_ ?_
   ·intro h4
    refine w_s ?_
    refine w_g ?_
    refine t_b S.tail.tail.tail.box ab_path sb_path rfl rfl ?_ rfl
    have S := S.f4
    refine t_stn S sb_path rfl rfl rfl rfl (by simp [Value.oneCell']) ?_
    intro w98 b99 S
    have B := B.trans b99
    iterate 2 refine t_a rfl ?_ rfl
    refine t_d ?_
    refine x_s ?_
    refine w_r ?_
    refine x_t ?_
    refine x_retctt rfl rfl S.box ab_path sb_path rfl rfl rfl ?_
    have h5 : encPath acc = false := by
     cases he : encPath acc with
     | false => rfl
     | true => rw [hpo, he] at h4; exact absurd h4 (by simp)
    rw [h5] at hq
    rw [← hq] at hr
    cases hr
    obtain ⟨fp, hO⟩ := ((S.addNil (T := partT) (e := 82)).pathShut (x := [])).head
    exact ⟨_, fp, rfl, pathT.mono _ _ _ _ _ _ X0.size hO, ext_trans X0 B⟩
   ·intro h4
    have h5 : encPath acc = true := by
     cases he : encPath acc with
     | true => rfl
     | false => rw [hpo, he] at h4; exact absurd h4 (by simp)
    refine w_k ?_
    refine x_s ?_
    refine w_s ?_
    refine w_g ?_
    refine t_b S.box ab_path sb_path rfl rfl ?_ rfl
    refine t_m rfl ?_ rfl
    have S := S.f4
    refine t_stn S sb_path rfl rfl rfl rfl (by repeat first | exact oc0 | refine oc rfl ?_ | refine oc (SlR.cells (by have z := S; repeat first | assumption | exact z.sl | replace z := z.tail)).2 ?_) ?_
    intro w100 b101 S
    have B := B.trans b101
    iterate 2 refine t_a rfl ?_ rfl
    refine t_d ?_
    refine x_s ?_
    refine w_r ?_
    refine x_retctt rfl rfl S.box ab_path sb_path rfl rfl rfl ?_
    have S := S.f2
    have S := S.pathShut (x := (pathOf (pathInts acc)).1)
    obtain ⟨fp, hO⟩ := (S.mono X0.size).head
    rw [h5] at hq
    rw [← hq] at hr
    have e0 : (p0, j0, ok0) = (acc, q, true) := by rw [← hr]; simp only [if_true, rp3]; congr 2; omega
    cases e0
    rw [show (pathOf (pathInts p0)).1 = p0 by rw [hpo, h5]; rfl] at hO
    exact ⟨_, fp, rfl, hO, ext_trans X0 B⟩
end Go.Proofs.YtdaecknfahgddaaGreat
namespace Go.Proofs.YtdaecknfahgddaaGreat
open Go.RowKit
set_option linter.unusedVariables false
set_option maxRecDepth 20000
theorem bt_small {n : Nat} (h : n < 256) : (bt (n : Int)).toNat = n := by
  have := bt_toNat (n : Int)
  rw [IntKind.wrap_u8] at this
  omega
theorem bt_self (x : UInt8) : bt ((x.toNat : Nat) : Int) = x := by
  apply UInt8.toNat_inj.1
  exact bt_small x.toNat_lt
theorem take_snoc1 {α : Type} {l : List α} {i : Nat} {x : α} (h : l[i]? = some x) : l.take (i + 1) = l.take i ++ [x] := take_succ h
theorem venc_pos (n : Nat) : 1 ≤ (venc n).length := by
  by_cases h : n < 128
  · rw [venc_small h]; simp
  · rw [venc_big h]; simp
/-- A number's bytes are read as_ the number. -/
theorem rvK_venc : ∀ (f m k i : Nat) (a : Int) (b pre post : List UInt8), b = pre ++ (venc m ++ post) → i = pre.length → (venc m).length ≤ f → (m ≠ 0 ∨ k = 0) → a + (m : Int) * 128 ^ k ≤ 1000000000000 →
    rvK b f k a i = some (a + (m : Int) * 128 ^ k, i + (venc m).length)
  | 0, m, k, i, a, b, pre, post, hb, hi, hf, hm, hbd => by have := venc_pos m; omega
  | f + 1, m, k, i, a, b, pre, post, hb, hi, hf, hm, hbd => by
    by_cases hs : m < 128
    · rw [venc_small hs] at hb ⊢
      have hx : b[i]? = some (bt (m : Int)) := by rw [hb, hi]; simp
      have ht := bt_small (n := m) (by omega)
      have e : ((bt (m : Int)).toNat : Int) % 128 = m := by rw [ht]; omega
      rw [rvK_last hx (by omega) (by rw [e, ht]; omega), e]
      rfl
    · rw [venc_big hs] at hb hf ⊢
      have e0 : ((m : Int) % 128 + 128) = (((m % 128 + 128 : Nat)) : Int) := by omega
      rw [e0] at hb hf ⊢
      have hx : b[i]? = some (bt ((m % 128 + 128 : Nat) : Int)) := by rw [hb, hi]; simp
      have ht := bt_small (n := m % 128 + 128) (by omega)
      have e : ((bt ((m % 128 + 128 : Nat) : Int)).toNat : Int) % 128 = ((m % 128 : Nat) : Int) := by rw [ht]; omega
      have hsum : a + ((m % 128 : Nat) : Int) * 128 ^ k + ((m / 128 : Nat) : Int) * 128 ^ (k + 1) = a + (m : Int) * 128 ^ k := by
        have h1 : (m : Int) = ((m % 128 : Nat) : Int) + 128 * ((m / 128 : Nat) : Int) := by omega
        have h2 : (128 : Int) ^ (k + 1) = 128 * 128 ^ k := by rw [Int.pow_succ]; exact Int.mul_comm _ _
        have h3 : (m : Int) * 128 ^ k = ((m % 128 : Nat) : Int) * 128 ^ k + ((m / 128 : Nat) : Int) * 128 ^ (k + 1) := by
          rw [h2, ← Int.mul_assoc, Int.mul_comm ((m / 128 : Nat) : Int) 128, ← Int.add_mul, ← h1]
        omega
      rw [rvK_more hx (by omega), e]
      have hI := rvK_venc f (m / 128) (k + 1) (i + 1) (a + ((m % 128 : Nat) : Int) * 128 ^ k) b (pre ++ [bt ((m % 128 + 128 : Nat) : Int)]) post (by rw [hb]; simp) (by rw [hi]; simp) (by simp only [List.length_cons] at hf; omega) (.inl (by omega)) (by omega)
      rw [hI, hsum]
      simp only [List.length_cons]
      congr 2
      omega
theorem readV_vint {n : Int} (h0 : 0 ≤ n) (h1 : n ≤ 1000000000000) (pre post : List UInt8) : readV (pre ++ (vint n ++ post)) pre.length = some (n, pre.length + (vint n).length) := by
  have e : vint n = venc n.toNat := by unfold vint; rw [if_pos (inR_iff.2 ⟨h0, h1⟩)]
  rw [e]
  have := rvK_venc 6 n.toNat 0 pre.length 0 _ pre post rfl rfl (by rw [← e]; exact vint_len n) (.inr rfl) (by simp; omega)
  unfold readV
  rw [this]
  simp only [Int.pow_zero, Int.mul_one, Int.zero_add]
  congr 2
  omega
/-- What is read as_ a number is that number's bytes. -/
theorem rvK_back : ∀ (f k i : Nat) (a : Int) (b : List UInt8) {r : Int × Nat}, rvK b f k a i = some r → ∃ m : Nat, r.1 = a + (m : Int) * 128 ^ k ∧ (m ≠ 0 ∨ k = 0) ∧ b.take r.2 = b.take i ++ venc m ∧ r.2 = i + (venc m).length
  | 0, _, _, _, _, _, h => by cases h
  | f + 1, k, i, a, b, r, h => by
    cases hx : b[i]? with
    | none => rw [rvK, hx] at h; cases h
    | some x =>
      by_cases hs : x.toNat < 128
      · by_cases hb : (x.toNat = 0 ∧ 0 < k) ∨ 1000000000000 < a + (x.toNat : Int) % 128 * 128 ^ k
        · rw [rvK_bad hx hs hb] at h; cases h
        · rw [rvK_last hx hs hb] at h
          cases h
          refine ⟨x.toNat, by simp only; rw [show (x.toNat : Int) % 128 = x.toNat by omega], by omega, ?_, by rw [venc_small hs]; rfl⟩
          rw [venc_small hs, bt_self]
          exact take_snoc1 hx
      · rw [rvK_more hx hs] at h
        obtain ⟨m', h1, h2, h3, h4⟩ := rvK_back f (k + 1) (i + 1) _ b h
        have hx256 := x.toNat_lt
        have hm0 : m' ≠ 0 := by omega
        have hbig : ¬ (x.toNat % 128 + 128 * m') < 128 := by omega
        have ev : venc (x.toNat % 128 + 128 * m') = x :: venc m' := by
          rw [venc_big hbig, show (x.toNat % 128 + 128 * m') / 128 = m' by omega]
          have : (((x.toNat % 128 + 128 * m' : Nat)) : Int) % 128 + 128 = ((x.toNat : Nat) : Int) := by omega
          rw [this, bt_self]
        refine ⟨x.toNat % 128 + 128 * m', ?_, .inl (by omega), ?_, ?_⟩
        · rw [h1]
          have h5 : (128 : Int) ^ (k + 1) = 128 * 128 ^ k := by rw [Int.pow_succ]; exact Int.mul_comm _ _
          have h6 : (((x.toNat % 128 + 128 * m' : Nat)) : Int) * 128 ^ k = ((x.toNat : Int) % 128) * 128 ^ k + (m' : Int) * 128 ^ (k + 1) := by
            rw [h5, ← Int.mul_assoc, Int.mul_comm (m' : Int) 128, ← Int.add_mul]
            congr 1
          omega
        · rw [h3, ev, take_snoc1 hx]
          simp
        · rw [h4, ev, List.length_cons]
          omega
theorem readV_back {b : List UInt8} {i : Nat} {r : Int × Nat} (h : readV b i = some r) : b.take r.2 = b.take i ++ vint r.1 ∧ r.2 = i + (vint r.1).length := by
  have ho := readV_out h
  obtain ⟨m, h1, h2, h3, h4⟩ := rvK_back 6 0 i 0 b h
  have e : vint r.1 = venc m := by
    unfold vint
    rw [if_pos (inR_iff.2 ⟨ho.1, ho.2.1⟩)]
    congr 1
    rw [h1]
    simp
  rw [e]
  exact ⟨h3, h4⟩
theorem decA_vint : ∀ (l acc : List Int) (pre post : List UInt8), (∀ x ∈ l, 0 ≤ x ∧ x ≤ 1000000000000) → decA (pre ++ (l.flatMap vint ++ post)) l.length pre.length acc = some (acc ++ l, pre.length + (l.flatMap vint).length)
  | [], acc, pre, post, _ => by simp [decA]
  | a :: t, acc, pre, post, h => by
    have ha := h a (by simp)
    have e : pre ++ ((a :: t).flatMap vint ++ post) = pre ++ (vint a ++ (t.flatMap vint ++ post)) := by simp
    have h1 := readV_vint ha.1 ha.2 pre (t.flatMap vint ++ post)
    rw [← e] at h1
    rw [List.length_cons, decA_yes h1]
    have h2 := decA_vint t (acc ++ [a]) (pre ++ vint a) post fun x hx => h x (by simp [hx])
    have e2 : (pre ++ vint a) ++ (t.flatMap vint ++ post) = pre ++ ((a :: t).flatMap vint ++ post) := by simp
    rw [e2, List.length_append] at h2
    rw [h2]
    simp [Nat.add_assoc]
theorem decA_back {b : List UInt8} : ∀ (n i : Nat) (acc : List Int) {r : List Int × Nat}, decA b n i acc = some r → ∃ l, r.1 = acc ++ l ∧ l.length = n ∧ b.take r.2 = b.take i ++ l.flatMap vint ∧ ∀ x ∈ l, 0 ≤ x ∧ x ≤ 1000000000000
  | 0, i, acc, r, h => by cases h; exact ⟨[], by simp, rfl, by simp, fun x hx => by cases hx⟩
  | n + 1, i, acc, r, h => by
    cases hr : readV b i with
    | none => rw [decA_no hr] at h; cases h
    | some q =>
      obtain ⟨x, j⟩ := q
      have ho := readV_out hr
      have hb := (readV_back hr).1
      rw [decA_yes hr] at h
      obtain ⟨l, h1, h2, h3, h4⟩ := decA_back n j _ h
      refine ⟨x :: l, by rw [h1]; simp, by simp [h2], by rw [h3]; simp only at hb; rw [hb]; simp, fun y hy => ?_⟩
      rcases List.mem_cons.1 hy with hy | hy
      · rw [hy]; exact ⟨ho.1, ho.2.1⟩
      · exact h4 y hy
theorem pathInts_cons (x : Part) (t : Path) : pathInts (x :: t) = piP x ++ (x.hops.flatMap piH ++ pathInts t) := by
  show intsOf piP piH (x :: t) = _
  unfold intsOf
  rw [List.flatMap_cons, List.append_assoc]
  rfl
theorem encPart_ints {x : Part} (h : encPart x = true) : (∀ y ∈ piP x, 0 ≤ y ∧ y ≤ 1000000000000) ∧ (∀ y ∈ x.hops.flatMap piH, 0 ≤ y ∧ y ≤ 1000000000000) ∧ x.hops.length ≤ 8 := by
  unfold encPart encHops at h
  simp only [Bool.and_eq_true, List.all_eq_true, inR_iff, decide_eq_true_eq] at h
  refine ⟨fun y hy => ?_, fun y hy => ?_, h.2.2.1⟩
  · simp only [piP, List.mem_cons, List.not_mem_nil, or_false] at hy
    have := h.2.2.1
    rcases hy with rfl | rfl | rfl | rfl <;> omega
  · obtain ⟨z, hz, hy⟩ := List.mem_flatMap.1 hy
    have h2 := h.2.2.2 z hz
    unfold validHop at h2
    simp only [Bool.and_eq_true, inR_iff] at h2
    simp only [piH, List.mem_cons, List.not_mem_nil, or_false] at hy
    rcases hy with rfl | rfl | rfl | rfl | rfl <;> omega
theorem partOfI_back (x : Part) : partOfI (piP x) (x.hops.flatMap piH) = x := by
  have h := hopsAt_flat x.hops []
  rw [List.append_nil] at h
  unfold partOfI
  have e3 : gI (piP x) 3 = (x.hops.length : Int) := rfl
  rw [e3, Int.toNat_natCast, h]
  rfl
theorem ints_partOfI {h l : List Int} (hh : h.length = 4) (h3 : 0 ≤ gI h 3) (hl : l.length = 5 * (gI h 3).toNat) : piP (partOfI h l) ++ (partOfI h l).hops.flatMap piH = h ++ l := by
  obtain ⟨e0, he0⟩ : ∃ e, h[0]? = some e := getx (by omega)
  obtain ⟨e1, he1⟩ : ∃ e, h[1]? = some e := getx (by omega)
  obtain ⟨e2, he2⟩ : ∃ e, h[2]? = some e := getx (by omega)
  obtain ⟨e3, he3⟩ : ∃ e, h[3]? = some e := getx (by omega)
  have g3 := gI_eq he3
  have hhl := hopsAt_len l 0 e3.toNat
  rw [g3] at h3 hl
  have hpo : partOfI h l = ⟨e0, e1, e2, hopsAt l 0 e3.toNat⟩ := by
    unfold partOfI; rw [gI_eq he0, gI_eq he1, gI_eq he2, g3]
  rw [hpo, piP_of hh he0 he1 he2 he3 (by rw [hhl]; omega)]
  show h ++ (hopsAt l 0 e3.toNat).flatMap piH = _
  rw [hopsAt_ints l _ hl]
theorem rpK_write : ∀ (q acc : Path) (pre post : List UInt8), (∀ x ∈ q, encPart x = true) → rpK (pre ++ ((pathInts q).flatMap vint ++ post)) q.length pre.length acc = if encPath (acc ++ q) then some (acc ++ q, pre.length + ((pathInts q).flatMap vint).length) else none
  | [], acc, pre, post, _ => by simp [rpK, pathInts, intsOf]
  | x :: t, acc, pre, post, h => by
    have hx := encPart_ints (h x (by simp))
    have e0 : (pathInts (x :: t)).flatMap vint = (piP x).flatMap vint ++ ((x.hops.flatMap piH).flatMap vint ++ (pathInts t).flatMap vint) := by rw [pathInts_cons]; simp
    have eb : pre ++ ((pathInts (x :: t)).flatMap vint ++ post) = pre ++ ((piP x).flatMap vint ++ ((x.hops.flatMap piH).flatMap vint ++ ((pathInts t).flatMap vint ++ post))) := by rw [e0]; simp
    have h1 := decA_vint (piP x) [] pre ((x.hops.flatMap piH).flatMap vint ++ ((pathInts t).flatMap vint ++ post)) hx.1
    have h2 := decA_vint (x.hops.flatMap piH) [] (pre ++ (piP x).flatMap vint) ((pathInts t).flatMap vint ++ post) hx.2.1
    have hI := rpK_write t (acc ++ [x]) ((pre ++ (piP x).flatMap vint) ++ (x.hops.flatMap piH).flatMap vint) post fun y hy => h y (by simp [hy])
    have eb2 : (pre ++ (piP x).flatMap vint) ++ ((x.hops.flatMap piH).flatMap vint ++ ((pathInts t).flatMap vint ++ post)) = pre ++ ((pathInts (x :: t)).flatMap vint ++ post) := by rw [eb]; simp
    have eb3 : ((pre ++ (piP x).flatMap vint) ++ (x.hops.flatMap piH).flatMap vint) ++ ((pathInts t).flatMap vint ++ post) = pre ++ ((pathInts (x :: t)).flatMap vint ++ post) := by rw [eb]; simp
    rw [← eb, List.nil_append, show (piP x).length = 4 from rfl] at h1
    rw [eb2, List.nil_append, piH_len, List.length_append] at h2
    rw [eb3, List.length_append, List.length_append] at hI
    have g3 : gI (piP x) 3 = (x.hops.length : Int) := rfl
    rw [List.length_cons, rp_step h1 (by rw [g3]; omega) (by rw [g3, Int.toNat_natCast]; exact h2), partOfI_back, hI, e0]
    have e5 : acc ++ [x] ++ t = acc ++ x :: t := by simp
    rw [e5]
    simp only [List.length_append, Nat.add_assoc]
theorem rpK_back {b : List UInt8} : ∀ (n i : Nat) (acc : Path) {r : Path × Nat}, rpK b n i acc = some r → ∃ q, r.1 = acc ++ q ∧ q.length = n ∧ b.take r.2 = b.take i ++ (pathInts q).flatMap vint
  | 0, i, acc, r, h => by
    rw [rp_end] at h
    split at h
    · cases h; exact ⟨[], by simp, rfl, by simp [pathInts, intsOf]⟩
    · cases h
  | n + 1, i, acc, r, h => by
    cases hd : decA b 4 i [] with
    | none => rw [rp_none hd] at h; cases h
    | some q4 =>
      obtain ⟨h4, j⟩ := q4
      obtain ⟨l4, a1, a2, a3, a4⟩ := decA_back 4 i [] hd
      simp only [List.nil_append] at a1
      subst a1
      by_cases h8 : 8 < gI h4 3
      · rw [rp_bad8 hd h8] at h; cases h
      · cases hd2 : decA b (5 * (gI h4 3).toNat) j [] with
        | none => rw [rp_bad5 hd hd2] at h; cases h
        | some q5 =>
          obtain ⟨h5, e⟩ := q5
          obtain ⟨l5, b1, b2, b3, b4⟩ := decA_back _ j [] hd2
          simp only [List.nil_append] at b1
          subst b1
          rw [rp_step hd h8 hd2] at h
          obtain ⟨q, c1, c2, c3⟩ := rpK_back n e _ h
          obtain ⟨e3, he3⟩ : ∃ e, h4[3]? = some e := getx (by omega)
          have g0 : 0 ≤ gI h4 3 := by rw [gI_eq he3]; exact (a4 _ (List.mem_of_getElem? he3)).1
          have hp := ints_partOfI a2 g0 b2
          refine ⟨partOfI h4 h5 :: q, by rw [c1]; simp, by simp [c2], ?_⟩
          simp only at a3 b3
          rw [c3, b3, a3, pathInts_cons, ← List.append_assoc (piP _), hp]
          simp
theorem encPath_part {p : Path} (h : encPath p = true) : List.length p ≤ 3 ∧ ∀ x ∈ p, encPart x = true := by
  unfold encPath at h
  simp only [Bool.and_eq_true, decide_eq_true_eq, List.all_eq_true] at h
  exact h
theorem readVI_nat (b : List UInt8) (i : Nat) : readVI b (i : Int) = readV b i := by rw [readVI, if_pos (by omega)]; rfl
/-- A path's encoding is read as_ the path. -/
theorem readP_write {p : Path} (h : encPath p = true) (pre post : List UInt8) : readP (pre ++ (pathEnc p ++ post)) pre.length = some (p, pre.length + (pathEnc p).length) := by
  have hp := encPath_part h
  have e : pathEnc p = vint (List.length p : Int) ++ (pathInts p).flatMap vint := by unfold pathEnc; rw [if_pos h]
  have e1 : pre ++ (pathEnc p ++ post) = pre ++ (vint (List.length p : Int) ++ ((pathInts p).flatMap vint ++ post)) := by rw [e]; simp
  have e2 : pre ++ (pathEnc p ++ post) = (pre ++ vint (List.length p : Int)) ++ ((pathInts p).flatMap vint ++ post) := by rw [e]; simp
  have h1 := readV_vint (n := (List.length p : Int)) (by omega) (by omega) pre ((pathInts p).flatMap vint ++ post)
  rw [← e1, ← readVI_nat] at h1
  have h2 := rpK_write p [] (pre ++ vint (List.length p : Int)) post hp.2
  rw [← e2, List.nil_append, h, List.length_append] at h2
  rw [readP_eq h1 (by omega), Int.toNat_natCast]
  show rpK _ p.length _ [] = _
  rw [h2, e]
  simp [Nat.add_assoc]
/-- What is read as_ a path is that path's encoding. -/
theorem readP_back {b : List UInt8} {i : Int} {r : Path × Nat} (h : readP b i = some r) : 0 ≤ i ∧ encPath r.1 = true ∧ b.take r.2 = b.take i.toNat ++ pathEnc r.1 ∧ r.2 ≤ b.length := by
  have ho := readP_out h
  cases hv : readVI b i with
  | none => rw [readP_no hv] at h; cases h
  | some q =>
    obtain ⟨n, j⟩ := q
    have hvo := readVI_out hv
    by_cases hn : 3 < n
    · rw [readP_big hv hn] at h; cases h
    · rw [readP_eq hv hn] at h
      obtain ⟨q, c1, c2, c3⟩ := rpK_back _ _ _ h
      rw [List.nil_append] at c1
      have hi0 : 0 ≤ i := hvo.2.2.2.2
      have hv2 : readV b i.toNat = some (n, j) := by rw [readVI, if_pos hi0] at hv; exact hv
      have hb := (readV_back hv2).1
      simp only at hb
      refine ⟨hi0, ho.1, ?_, ho.2⟩
      have hq : List.length r.1 = n.toNat := by rw [c1]; exact c2
      have hn0 : 0 ≤ n := hvo.1
      unfold pathEnc
      rw [if_pos ho.1, c3, hb, c1, show ((q.length : Nat) : Int) = n by omega]
      simp
end Go.Proofs.YtdaecknfahgddaaGreat
