/- Packets as bytes: AppendBytes, EncodePacket, of the program and of the reference. -/
import Derived.Test.YtfgobdejlfojiaaWkU
import Derived.Test.YtfgobdejlfojiaaValidPacket
namespace Go.Proofs.Ytfgobdejlfojiaa
open Go.RowKit
set_option linter.unusedVariables false
set_option maxRecDepth 20000

theorem impl_EncodeInts (l : List Int) (v : Value) (w : World) (h : SlR intT w v l) (hz : l.length ≤ 1000000) (hne : l ≠ []) : Calls Try.prog 111 #[v] w fun e w' => ∃ v fp, e = .returned v ∧ SlO byteT 5 w.heap.size w' v (l.flatMap vint) fp ∧ Below w.heap.size w w' := by
  have X0 := Below.refl w.heap.size w
  refine enter Try.func111 rfl Try.ntmps111 rfl ?_
  refine w_seq ?_
  refine w_region ?_
  have S := Sep.nil w
  have B := Below.refl w.heap.size w
  have Hb := Nat.le_refl w.heap.size
  refine t_assign rfl ?_ rfl
  refine t_done ?_
  refine x_seq ?_
  refine w_seq ?_
  refine w_region ?_
  refine t_move rfl ?_ rfl
  refine t_call Try.call159 rfl (impl_appendInts _ _ _ _ _ nilR (by first | assumption | exact SlR.below (by assumption) B) (by simp) (by omega) hne) ?_ rfl rfl
  rintro e w1 ⟨v4, fpv4, rfl, hOv4, x2⟩
  refine ⟨_, rfl, x2, ?_⟩
  have S := S.add (o := slO _ _ _ _) x2 hOv4
  have B := bx Hb B x2
  refine t_assign rfl ?_ rfl
  refine t_done ?_
  refine x_seq ?_
  refine w_ret ?_
  refine x_ret1 rfl rfl ?_
  obtain ⟨fp, hO⟩ := (S.mono X0.size).head
  rw [List.nil_append] at hO
  exact ⟨_, fp, rfl, hO, ext_trans X0 B⟩
theorem impl_AppendBytes (b s : List UInt8) (v u : Value) (w : World) (h : SlR byteT w v b) (h' : SlR byteT w u s) (hz : b.length ≤ 1000000) (hz' : s.length ≤ 1048576) : Calls Try.prog 113 #[v, u] w fun e w' => ∃ v fp, e = .returned v ∧ SlO byteT 5 w.heap.size w' v ((b ++ vint (s.length : Int)) ++ s) fp ∧ Below w.heap.size w w' := by
  have hv := vint_len (s.length : Int)
  have X0 := Below.refl w.heap.size w
  refine enter Try.func113 rfl Try.ntmps113 rfl ?_
  refine w_seq ?_
  refine w_region ?_
  have S := Sep.nil w
  have B := Below.refl w.heap.size w
  have Hb := Nat.le_refl w.heap.size
  refine t_assign rfl ?_ rfl
  refine t_done ?_
  refine x_seq ?_
  refine w_seq ?_
  refine w_region ?_
  refine t_move rfl ?_ rfl
  refine t_move rfl ?_ rfl
  refine t_len e_byte (by assumption) rfl rfl ?_ rfl
  refine t_call Try.call160 rfl (impl_AppendVarint _ _ _ _ (by first | assumption | exact SlR.below (by assumption) B) (by first | omega | (simp only [List.nil_append]; omega))) ?_ rfl rfl
  rintro e w3 ⟨v8, fpv8, rfl, hOv8, x4⟩
  refine ⟨_, rfl, x4, ?_⟩
  have S := S.add (o := slO _ _ _ _) x4 hOv8
  have B := bx Hb B x4
  refine t_move rfl ?_ rfl
  refine t_cat byte_flat e_byte S (by first | assumption | exact SlR.below (by assumption) B) rfl rfl rfl (by first | omega | (simp [-List.length_flatMap]; omega)) (by (simp [maxLen, -List.length_flatMap]; try omega)) ?_ rfl
  intro v10 w5 x6 S
  have B := B.trans x6
  refine t_assign rfl ?_ rfl
  refine t_done ?_
  refine x_seq ?_
  refine w_ret ?_
  refine x_ret1 rfl rfl ?_
  obtain ⟨fp, hO⟩ := (S.mono X0.size).head
  exact ⟨_, fp, rfl, hO, ext_trans X0 B⟩
theorem spec_AppendBytes (b s : List UInt8) (v u : Value) (w : World) (h : SlR byteT w v b) (h' : SlR byteT w u s) (hz : b.length ≤ 1000000) (hz' : s.length ≤ 1048576) : Calls Try.prog 109 #[v, u] w fun e w' => ∃ v fp, e = .returned v ∧ SlO byteT 5 w.heap.size w' v ((b ++ vint (s.length : Int)) ++ s) fp ∧ Below w.heap.size w w' := by
  have hv := vint_len (s.length : Int)
  have X0 := Below.refl w.heap.size w
  refine enter Try.func109 rfl Try.ntmps109 rfl ?_
  refine w_seq ?_
  refine w_region ?_
  have S := Sep.nil w
  have B := Below.refl w.heap.size w
  have Hb := Nat.le_refl w.heap.size
  refine t_assign rfl ?_ rfl
  refine t_done ?_
  refine x_seq ?_
  refine w_seq ?_
  refine w_region ?_
  refine t_move rfl ?_ rfl
  refine t_move rfl ?_ rfl
  refine t_len e_byte (by assumption) rfl rfl ?_ rfl
  refine t_call Try.call157 rfl (spec_AppendVarint _ _ _ _ (by first | assumption | exact SlR.below (by assumption) B) (by first | omega | (simp only [List.nil_append]; omega))) ?_ rfl rfl
  rintro e w7 ⟨v8, fpv8, rfl, hOv8, x8⟩
  refine ⟨_, rfl, x8, ?_⟩
  have S := S.add (o := slO _ _ _ _) x8 hOv8
  have B := bx Hb B x8
  refine t_move rfl ?_ rfl
  refine t_cat byte_flat e_byte S (by first | assumption | exact SlR.below (by assumption) B) rfl rfl rfl (by first | omega | (simp [-List.length_flatMap]; omega)) (by (simp [maxLen, -List.length_flatMap]; try omega)) ?_ rfl
  intro v10 w9 x10 S
  have B := B.trans x10
  refine t_assign rfl ?_ rfl
  refine t_done ?_
  refine x_seq ?_
  refine w_ret ?_
  refine x_ret1 rfl rfl ?_
  obtain ⟨fp, hO⟩ := (S.mono X0.size).head
  exact ⟨_, fp, rfl, hO, ext_trans X0 B⟩
def pktInts (x : Pkt) : List Int := [x.kind, x.src, x.dst, x.pidx, x.hidx, x.beta, x.rid, x.seq]
def pktEnc (x : Pkt) : List UInt8 := if validPkt x = true then (((pktInts x).flatMap vint ++ vint (x.pay.length : Int)) ++ x.pay) ++ pathEnc x.path else []
theorem pktInts_enc (x : Pkt) : ((pktInts x).flatMap vint).length ≤ 48 := len_flat_le vint 6 (pktInts x) fun y _ => vint_len y
theorem pktEnc_len (x : Pkt) (h : sz_pkt x ≤ 1048576) : (pktEnc x).length ≤ 200000000 := by
  unfold pktEnc
  split
  · have h1 := pktInts_enc x
    have h2 := vint_len (x.pay.length : Int)
    have h3 := pathEnc_len x.path (by unfold sz_pkt at h; omega)
    have h4 : x.pay.length ≤ 1048576 := by unfold sz_pkt at h; omega
    simp only [List.length_append]
    omega
  · simp
theorem impl_EncodePacket (x : Pkt) (v : Value) (w : World) (hp : VA pktT w v x) (hz : sz_pkt x ≤ 1048576) (hl : lenOk_pkt x) (hg : rng_pkt x) : Calls Try.prog 44 #[v] w fun e w' => ∃ v fp, e = .returned v ∧ SlO byteT 5 w.heap.size w' v (pktEnc x) fp ∧ Below w.heap.size w w' := by
  have h1 := pktInts_enc x
  have h2 := vint_len (x.pay.length : Int)
  have h4 : x.pay.length ≤ 1048576 := by unfold sz_pkt at hz; omega
  have h5 : sz_path x.path ≤ 1048576 := by unfold sz_pkt at hz; omega
  have hl1 := hl.1
  have hg1 := hg.2.2.2.1
  have X0 := Below.refl w.heap.size w
  refine enter Try.func44 rfl Try.ntmps44 rfl ?_
  refine w_seq ?_
  refine w_region ?_
  refine t_boxr (by assumption) rfl ?_ rfl rfl
  intro p1 w11 x12 hp1
  replace hp := hp.below x12
  have X0 := ext_trans X0 x12
  have S := Sep.nil w11
  have B := Below.refl w11.heap.size w11
  have Hb := Nat.le_refl w11.heap.size
  refine t_assign rfl ?_ rfl
  refine t_done ?_
  refine x_seq ?_
  refine w_seq ?_
  refine w_seq ?_
  refine w_region ?_
  refine t_lda (by assumption) ab_pkt sb_pkt B rfl ?_ rfl
  intro v4 hv4
  obtain ⟨v4_3, v4_9, rfl, hv4_3, hv4_9⟩ := pkt_va hv4
  refine t_callx Try.call110 rfl (va1 (by first | assumption | exact VA.below (by assumption) B | exact pkt_mkv (by first | assumption | exact SlR.below (by assumption) B) (by first | assumption | exact SlR.below (by assumption) B)) fun cs h => impl_ValidPacket _ cs _ h (by omega) (by assumption) (by assumption)) ?_ rfl rfl
  intro w13 x14
  have B := bx Hb B x14
  have S := S.below x14
  refine t_notb rfl ?_ rfl
  refine t_done ?_
  refine x_seq ?_
  refine w_ifb rfl ?_ ?_
  · intro hv
    refine w_seq ?_
    refine w_region ?_
    refine t_assign rfl ?_ rfl
    refine t_done ?_
    refine x_seq ?_
    refine w_ret ?_
    refine x_then_ret ?_
    refine x_ret1 rfl rfl ?_
    have e : pktEnc x = [] := by unfold pktEnc; rw [show validPkt x = false by simpa using hv]; rfl
    rw [e]
    obtain ⟨fp, hO⟩ := ((S.addNil (T := byteT) (e := 5)).mono X0.size).head
    first
      | exact ⟨_, fp, rfl, hO, ext_trans X0 B⟩
      | (obtain ⟨fp, hO⟩ := (S.mono X0.size).head
         exact ⟨_, fp, rfl, hO, ext_trans X0 B⟩)
  · intro hv
    have e : pktEnc x = ((((pktInts x).flatMap vint ++ vint (x.pay.length : Int)) ++ x.pay) ++ pathEnc x.path) := by unfold pktEnc; rw [if_pos (by simpa using hv)]
    have e2 : [x.kind, x.src, x.dst, x.pidx, x.hidx, x.beta, x.rid, x.seq].flatMap vint = (pktInts x).flatMap vint := rfl
    have h6 : ([x.kind, x.src, x.dst, x.pidx, x.hidx, x.beta, x.rid, x.seq].flatMap vint).length ≤ 48 := h1
    refine w_skip ?_
    refine x_seq ?_
    refine w_seq ?_
    refine w_region ?_
    refine t_fld ln_pkt_0 (by assumption) fb_pkt_0 rfl ?_ rfl
    intro p7 hp7
    refine t_ldi (by assumption) ab_int B rfl ?_ rfl
    refine t_fld ln_pkt_1 (by assumption) fb_pkt_1 rfl ?_ rfl
    intro p9 hp9
    refine t_ldi (by assumption) ab_int B rfl ?_ rfl
    refine t_fld ln_pkt_2 (by assumption) fb_pkt_2 rfl ?_ rfl
    intro p11 hp11
    refine t_ldi (by assumption) ab_int B rfl ?_ rfl
    refine t_fld ln_pkt_4 (by assumption) fb_pkt_4 rfl ?_ rfl
    intro p13 hp13
    refine t_ldi (by assumption) ab_int B rfl ?_ rfl
    refine t_fld ln_pkt_5 (by assumption) fb_pkt_5 rfl ?_ rfl
    intro p15 hp15
    refine t_ldi (by assumption) ab_int B rfl ?_ rfl
    refine t_fld ln_pkt_6 (by assumption) fb_pkt_6 rfl ?_ rfl
    intro p17 hp17
    refine t_ldi (by assumption) ab_int B rfl ?_ rfl
    refine t_fld ln_pkt_7 (by assumption) fb_pkt_7 rfl ?_ rfl
    intro p19 hp19
    refine t_ldi (by assumption) ab_int B rfl ?_ rfl
    refine t_fld ln_pkt_8 (by assumption) fb_pkt_8 rfl ?_ rfl
    intro p21 hp21
    refine t_ldi (by assumption) ab_int B rfl ?_ rfl
    refine t_lit (T := intT) (l := [x.kind, x.src, x.dst, x.pidx, x.hidx, x.beta, x.rid, x.seq]) (css := ([x.kind, x.src, x.dst, x.pidx, x.hidx, x.beta, x.rid, x.seq]).map fun a => [I a]) int_flat S (fun w => bs_int8 _ _ _ _ _ _ _ _ w) rfl rfl rfl rfl (by simp [maxLen]) (litR_int _) ?_ rfl rfl
    intro u23 w15 x16 S
    have B := bx Hb B x16
    refine t_call Try.call111 rfl (impl_EncodeInts _ _ _ (S.sl) (by simp) (by simp)) ?_ rfl rfl
    rintro e w17 ⟨v24, fpv24, rfl, hOv24, x18⟩
    refine ⟨_, rfl, x18, ?_⟩
    have S := S.add (o := slO _ _ _ _) x18 hOv24
    have B := bx Hb B x18
    refine t_assign rfl ?_ rfl
    refine t_done ?_
    refine x_seq ?_
    refine w_seq ?_
    refine w_draw (.st .take 0 (.st .take 1 (.st .take 2 (.st .take 4 (.st .take 5 (.st .run 3 (.st .run 6 (.st .take 7 .done)))))))) mixed (by kernel_rfl) ?_
    intro w19 x20
    have B := bx Hb B x20
    have S := S.below x20
    refine t_move rfl ?_ rfl
    refine t_fld ln_pkt_9 (by assumption) fb_pkt_9 rfl ?_ rfl
    intro p26 hp26
    refine t_lds (by assumption) ab_s_byte B rfl ?_ rfl
    intro v27 hv27
    refine t_fld ln_pkt_3 (by assumption) fb_pkt_3 rfl ?_ rfl
    intro p29 hp29
    refine t_lda (by assumption) ab_path sb_path B rfl ?_ rfl
    intro v30 hv30
    obtain ⟨v30_0, rfl, hv30_0⟩ := path_va hv30
    refine t_call Try.call113 rfl (impl_AppendBytes _ _ _ _ _ (S.sl) (by first | assumption | exact SlR.below (by assumption) B) (by omega) (by omega)) ?_ rfl rfl
    rintro e w21 ⟨v28, fpv28, rfl, hOv28, x22⟩
    refine ⟨_, rfl, x22, ?_⟩
    have S := S.add (o := slO _ _ _ _) x22 hOv28
    have B := bx Hb B x22
    refine t_call Try.call112 rfl (impl_AppendPath _ _ _ _ _ (S.sl) (by first | assumption | exact VA.below (by assumption) B | exact path_mkv (by first | assumption | exact SlR.below (by assumption) B)) (by first | omega | (simp; done) | (simp only [List.length_append]; omega)) (by omega) (by assumption) (by assumption)) ?_ rfl rfl
    rintro e w23 ⟨v31, fpv31, rfl, hOv31, x24⟩
    refine ⟨_, rfl, x24, ?_⟩
    have S := S.add (o := slO _ _ _ _) x24 hOv31
    have B := bx Hb B x24
    refine t_assign rfl ?_ rfl
    refine t_done' ?_
    refine x_seq ?_
    refine w_ret ?_
    refine x_ret1 rfl rfl ?_
    obtain ⟨fp, hO⟩ := (S.mono X0.size).head
    rw [e]
    exact ⟨_, fp, rfl, hO, ext_trans X0 B⟩
theorem spec_EncodePacket (x : Pkt) (v : Value) (w : World) (hp : VA pktT w v x) (hz : sz_pkt x ≤ 1048576) (hl : lenOk_pkt x) (hg : rng_pkt x) : Calls Try.prog 43 #[v] w fun e w' => ∃ v fp, e = .returned v ∧ SlO byteT 5 w.heap.size w' v (pktEnc x) fp ∧ Below w.heap.size w w' := by
  have h1 := pktInts_enc x
  have h2 := vint_len (x.pay.length : Int)
  have h4 : x.pay.length ≤ 1048576 := by unfold sz_pkt at hz; omega
  have h5 : sz_path x.path ≤ 1048576 := by unfold sz_pkt at hz; omega
  have hl1 := hl.1
  have hg1 := hg.2.2.2.1
  have X0 := Below.refl w.heap.size w
  refine enter Try.func43 rfl Try.ntmps43 rfl ?_
  refine w_seq ?_
  refine w_region ?_
  refine t_boxr (by assumption) rfl ?_ rfl rfl
  intro p1 w25 x26 hp1
  replace hp := hp.below x26
  have X0 := ext_trans X0 x26
  have S := Sep.nil w25
  have B := Below.refl w25.heap.size w25
  have Hb := Nat.le_refl w25.heap.size
  refine t_assign rfl ?_ rfl
  refine t_done ?_
  refine x_seq ?_
  refine w_seq ?_
  refine w_seq ?_
  refine w_region ?_
  refine t_lda (by assumption) ab_pkt sb_pkt B rfl ?_ rfl
  intro v4 hv4
  obtain ⟨v4_3, v4_9, rfl, hv4_3, hv4_9⟩ := pkt_va hv4
  refine t_callx Try.call106 rfl (va1 (by first | assumption | exact VA.below (by assumption) B | exact pkt_mkv (by first | assumption | exact SlR.below (by assumption) B) (by first | assumption | exact SlR.below (by assumption) B)) fun cs h => spec_ValidPacket _ cs _ h (by omega) (by assumption) (by assumption)) ?_ rfl rfl
  intro w27 x28
  have B := bx Hb B x28
  have S := S.below x28
  refine t_notb rfl ?_ rfl
  refine t_done ?_
  refine x_seq ?_
  refine w_ifb rfl ?_ ?_
  · intro hv
    refine w_seq ?_
    refine w_region ?_
    refine t_lit (T := byteT) (css := []) (l := []) byte_flat S bs_byte0 rfl rfl rfl rfl (Nat.zero_le _) litR_nil ?_ rfl rfl
    intro u7 w29 x30 S
    have B := bx Hb B x30
    refine t_assign rfl ?_ rfl
    refine t_done ?_
    refine x_seq ?_
    refine w_ret ?_
    refine x_then_ret ?_
    refine x_ret1 rfl rfl ?_
    have e : pktEnc x = [] := by unfold pktEnc; rw [show validPkt x = false by simpa using hv]; rfl
    rw [e]
    obtain ⟨fp, hO⟩ := ((S.addNil (T := byteT) (e := 5)).mono X0.size).head
    first
      | exact ⟨_, fp, rfl, hO, ext_trans X0 B⟩
      | (obtain ⟨fp, hO⟩ := (S.mono X0.size).head
         exact ⟨_, fp, rfl, hO, ext_trans X0 B⟩)
  · intro hv
    have e : pktEnc x = ((((pktInts x).flatMap vint ++ vint (x.pay.length : Int)) ++ x.pay) ++ pathEnc x.path) := by unfold pktEnc; rw [if_pos (by simpa using hv)]
    have e2 : [x.kind, x.src, x.dst, x.pidx, x.hidx, x.beta, x.rid, x.seq].flatMap vint = (pktInts x).flatMap vint := rfl
    have h6 : ([x.kind, x.src, x.dst, x.pidx, x.hidx, x.beta, x.rid, x.seq].flatMap vint).length ≤ 48 := h1
    refine w_skip ?_
    refine x_seq ?_
    refine w_seq ?_
    refine w_region ?_
    refine t_fld ln_pkt_0 (by assumption) fb_pkt_0 rfl ?_ rfl
    intro p8 hp8
    refine t_ldi (by assumption) ab_int B rfl ?_ rfl
    refine t_fld ln_pkt_1 (by assumption) fb_pkt_1 rfl ?_ rfl
    intro p10 hp10
    refine t_ldi (by assumption) ab_int B rfl ?_ rfl
    refine t_fld ln_pkt_2 (by assumption) fb_pkt_2 rfl ?_ rfl
    intro p12 hp12
    refine t_ldi (by assumption) ab_int B rfl ?_ rfl
    refine t_fld ln_pkt_4 (by assumption) fb_pkt_4 rfl ?_ rfl
    intro p14 hp14
    refine t_ldi (by assumption) ab_int B rfl ?_ rfl
    refine t_fld ln_pkt_5 (by assumption) fb_pkt_5 rfl ?_ rfl
    intro p16 hp16
    refine t_ldi (by assumption) ab_int B rfl ?_ rfl
    refine t_fld ln_pkt_6 (by assumption) fb_pkt_6 rfl ?_ rfl
    intro p18 hp18
    refine t_ldi (by assumption) ab_int B rfl ?_ rfl
    refine t_fld ln_pkt_7 (by assumption) fb_pkt_7 rfl ?_ rfl
    intro p20 hp20
    refine t_ldi (by assumption) ab_int B rfl ?_ rfl
    refine t_fld ln_pkt_8 (by assumption) fb_pkt_8 rfl ?_ rfl
    intro p22 hp22
    refine t_ldi (by assumption) ab_int B rfl ?_ rfl
    refine t_lit (T := intT) (l := [x.kind, x.src, x.dst, x.pidx, x.hidx, x.beta, x.rid, x.seq]) (css := ([x.kind, x.src, x.dst, x.pidx, x.hidx, x.beta, x.rid, x.seq]).map fun a => [I a]) int_flat S (fun w => bs_int8 _ _ _ _ _ _ _ _ w) rfl rfl rfl rfl (by simp [maxLen]) (litR_int _) ?_ rfl rfl
    intro u24 w31 x32 S
    have B := bx Hb B x32
    refine t_call Try.call107 rfl (spec_EncodeInts _ _ _ (S.sl) (by first | omega | (simp; done) | (simp; omega))) ?_ rfl rfl
    rintro e w33 ⟨v25, fpv25, rfl, hOv25, x34⟩
    refine ⟨_, rfl, x34, ?_⟩
    have S := S.add (o := slO _ _ _ _) x34 hOv25
    have B := bx Hb B x34
    refine t_assign rfl ?_ rfl
    refine t_done ?_
    refine x_seq ?_
    refine w_seq ?_
    refine w_draw (.st .take 0 (.st .take 1 (.st .take 2 (.st .take 4 (.st .take 5 (.st .run 3 (.st .run 6 (.st .take 7 .done)))))))) mixed (by kernel_rfl) ?_
    intro w35 x36
    have B := bx Hb B x36
    have S := S.below x36
    refine t_move rfl ?_ rfl
    refine t_fld ln_pkt_9 (by assumption) fb_pkt_9 rfl ?_ rfl
    intro p27 hp27
    refine t_lds (by assumption) ab_s_byte B rfl ?_ rfl
    intro v28 hv28
    refine t_fld ln_pkt_3 (by assumption) fb_pkt_3 rfl ?_ rfl
    intro p30 hp30
    refine t_lda (by assumption) ab_path sb_path B rfl ?_ rfl
    intro v31 hv31
    obtain ⟨v31_0, rfl, hv31_0⟩ := path_va hv31
    refine t_call Try.call109 rfl (spec_AppendBytes _ _ _ _ _ (S.sl) (by first | assumption | exact SlR.below (by assumption) B) (by omega) (by omega)) ?_ rfl rfl
    rintro e w37 ⟨v29, fpv29, rfl, hOv29, x38⟩
    refine ⟨_, rfl, x38, ?_⟩
    have S := S.add (o := slO _ _ _ _) x38 hOv29
    have B := bx Hb B x38
    refine t_call Try.call108 rfl (spec_AppendPath _ _ _ _ _ (S.sl) (by first | assumption | exact VA.below (by assumption) B | exact path_mkv (by first | assumption | exact SlR.below (by assumption) B)) (by first | omega | (simp; done) | (simp only [List.length_append]; omega)) (by omega) (by assumption) (by assumption)) ?_ rfl rfl
    rintro e w39 ⟨v32, fpv32, rfl, hOv32, x40⟩
    refine ⟨_, rfl, x40, ?_⟩
    have S := S.add (o := slO _ _ _ _) x40 hOv32
    have B := bx Hb B x40
    refine t_assign rfl ?_ rfl
    refine t_done' ?_
    refine x_seq ?_
    refine w_ret ?_
    refine x_ret1 rfl rfl ?_
    obtain ⟨fp, hO⟩ := (S.mono X0.size).head
    rw [e]
    exact ⟨_, fp, rfl, hO, ext_trans X0 B⟩
end Go.Proofs.Ytfgobdejlfojiaa
