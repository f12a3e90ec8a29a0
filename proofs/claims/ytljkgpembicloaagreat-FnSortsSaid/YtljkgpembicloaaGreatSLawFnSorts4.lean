/- What LawFnSorts needs of the texts below it, part 4: contracts of functions, plain lemmas. (Put together by slim.py.) -/
import Derived.Test.YtljkgpembicloaaGreatSLawFnSorts3
namespace Go.Proofs.YtljkgpembicloaaGreat
open Go.RowKit
set_option linter.unusedVariables false
set_option maxRecDepth 100000
/-- The AS at either end of a segment. -/
def firstS (s : Seg) : Int := match s.hops[0]? with
  | some h => h.ia
  | none => -1
def lastS (s : Seg) : Int := match s.hops[s.hops.length - 1]? with
  | some h => h.ia
  | none => -1
theorem impl_FirstAS (s : Seg) (v : Value) (w : World) (h : VA segT w v s) (hz : s.hops.length ≤ 1048576) : Calls Tryz.prog 96 #[v] w fun e w' => e = .returned (I (firstS s)) ∧ Below w.heap.size w w' := by
 have X0 := Below.refl w.heap.size w; refine enter Tryz.func96 rfl Tryz.ntmps96 rfl ?_; refine w_h ?_; refine t_boxr ‹_› rfl ?_ rfl rfl; intro p1 w1 x2 hp1; replace h := h.below x2; have X0 := ext_trans X0 x2; have S := Sep.nil w1; have B := Below.refl w1.heap.size w1; have Hb := Nat.le_refl w1.heap.size; refine t_a rfl ?_ rfl; refine t_e ?_; (iterate 2 refine w_s ?_); refine w_g ?_; refine t_fld ln_seg_2 ‹_› fb_seg_2 rfl ?_ rfl; intro p3 hp3; refine t_lds ‹_› ab_s_hop B rfl ?_ rfl; intro v4 hv4; refine t_len e_hop ‹_› rfl rfl ?_ rfl; refine t_eql rfl rfl ?_ rfl; refine t_e ?_; refine w_if rfl ?_ ?_
 ·intro h0; refine w_h ?_; refine t_a rfl ?_ rfl; refine t_e ?_; refine w_r ?_; refine x_t ?_; refine x_ret1 rfl rfl ?_; have e : s.hops = [] := List.length_eq_zero_iff.1 (by omega); exact ⟨ret_int (by unfold firstS; rw [e]; rfl), ext_trans X0 B⟩
 ·intro h0; refine w_k ?_; refine x_s ?_; refine w_h ?_; refine t_fld ln_seg_2 ‹_› fb_seg_2 rfl ?_ rfl; intro p7 hp7; refine t_lds ‹_› ab_s_hop B rfl ?_ rfl; intro v8 hv8; obtain ⟨e9, he9⟩ : ∃ e, (s.hops)[0]? = some e := getx (by omega); refine t_idx e_hop (k := 0) ‹_› he9 B rfl rfl (by first | rfl | omega) ?_ rfl; intro p9 hp9; refine t_fld ln_hop_0 ‹_› fb_hop_0 rfl ?_ rfl; intro p10 hp10; refine t_ldi ‹_› ab_int B rfl ?_ rfl; refine t_a rfl ?_ rfl; refine t_e ?_; refine w_r ?_; refine x_ret1 rfl rfl ?_; exact ⟨ret_int (by unfold firstS; rw [he9]), ext_trans X0 B⟩
theorem impl_LastAS (s : Seg) (v : Value) (w : World) (h : VA segT w v s) (hz : s.hops.length ≤ 1048576) : Calls Tryz.prog 132 #[v] w fun e w' => e = .returned (I (lastS s)) ∧ Below w.heap.size w w' := by
 have X0 := Below.refl w.heap.size w; refine enter Tryz.func132 rfl Tryz.ntmps132 rfl ?_; refine w_h ?_; refine t_boxr ‹_› rfl ?_ rfl rfl; intro p1 w3 x4 hp1; replace h := h.below x4; have X0 := ext_trans X0 x4; have S := Sep.nil w3; have B := Below.refl w3.heap.size w3; have Hb := Nat.le_refl w3.heap.size; refine t_a rfl ?_ rfl; refine t_e ?_; (iterate 2 refine w_s ?_); refine w_g ?_; refine t_fld ln_seg_2 ‹_› fb_seg_2 rfl ?_ rfl; intro p3 hp3; refine t_lds ‹_› ab_s_hop B rfl ?_ rfl; intro v4 hv4; refine t_len e_hop ‹_› rfl rfl ?_ rfl; refine t_eql rfl rfl ?_ rfl; refine t_e ?_; refine w_if rfl ?_ ?_
 ·intro h0; refine w_h ?_; refine t_a rfl ?_ rfl; refine t_e ?_; refine w_r ?_; refine x_t ?_; refine x_ret1 rfl rfl ?_; have e : s.hops = [] := List.length_eq_zero_iff.1 (by omega); exact ⟨ret_int (by unfold lastS; rw [e]; rfl), ext_trans X0 B⟩
 ·intro h0; refine w_k ?_; refine x_s ?_; refine w_h ?_; refine t_fld ln_seg_2 ‹_› fb_seg_2 rfl ?_ rfl; intro p7 hp7; refine t_lds ‹_› ab_s_hop B rfl ?_ rfl; intro v8 hv8; refine t_fld ln_seg_2 ‹_› fb_seg_2 rfl ?_ rfl; intro p9 hp9; refine t_lds ‹_› ab_s_hop B rfl ?_ rfl; intro v10 hv10; refine t_len e_hop ‹_› rfl rfl ?_ rfl; refine t_sub rfl rfl (by omega) ?_ rfl; obtain ⟨e13, he13⟩ : ∃ e, (s.hops)[s.hops.length - 1]? = some e := getx (by omega); refine t_idx e_hop (k := s.hops.length - 1) ‹_› he13 B rfl rfl (by first | rfl | omega) ?_ rfl; intro p13 hp13; refine t_fld ln_hop_0 ‹_› fb_hop_0 rfl ?_ rfl; intro p14 hp14; refine t_ldi ‹_› ab_int B rfl ?_ rfl; refine t_a rfl ?_ rfl; refine t_e ?_; refine w_r ?_; refine x_ret1 rfl rfl ?_; exact ⟨ret_int (by unfold lastS; rw [he13]), ext_trans X0 B⟩
theorem spec_FirstAS (s : Seg) (v : Value) (w : World) (h : VA segT w v s) (hz : s.hops.length ≤ 1048576) : Calls Tryz.prog 103 #[v] w fun e w' => e = .returned (I (firstS s)) ∧ Below w.heap.size w w' := by
 have X0 := Below.refl w.heap.size w; refine enter Tryz.func103 rfl Tryz.ntmps103 rfl ?_; refine w_h ?_; refine t_boxr ‹_› rfl ?_ rfl rfl; intro p1 w5 x6 hp1; replace h := h.below x6; have X0 := ext_trans X0 x6; have S := Sep.nil w5; have B := Below.refl w5.heap.size w5; have Hb := Nat.le_refl w5.heap.size; refine t_a rfl ?_ rfl; refine t_e ?_; (iterate 2 refine w_s ?_); refine w_g ?_; refine t_fld ln_seg_2 ‹_› fb_seg_2 rfl ?_ rfl; intro p3 hp3; refine t_lds ‹_› ab_s_hop B rfl ?_ rfl; intro v4 hv4; refine t_len e_hop ‹_› rfl rfl ?_ rfl; refine t_eql rfl rfl ?_ rfl; refine t_e ?_; refine w_if rfl ?_ ?_
 ·intro h0; refine w_h ?_; refine t_a rfl ?_ rfl; refine t_e ?_; refine w_r ?_; refine x_t ?_; refine x_ret1 rfl rfl ?_; have e : s.hops = [] := List.length_eq_zero_iff.1 (by omega); exact ⟨ret_int (by unfold firstS; rw [e]; rfl), ext_trans X0 B⟩
 ·intro h0; refine w_k ?_; refine x_s ?_; refine w_h ?_; refine t_fld ln_seg_2 ‹_› fb_seg_2 rfl ?_ rfl; intro p7 hp7; refine t_lds ‹_› ab_s_hop B rfl ?_ rfl; intro v8 hv8; obtain ⟨e9, he9⟩ : ∃ e, (s.hops)[0]? = some e := getx (by omega); refine t_idx e_hop (k := 0) ‹_› he9 B rfl rfl (by first | rfl | omega) ?_ rfl; intro p9 hp9; refine t_fld ln_hop_0 ‹_› fb_hop_0 rfl ?_ rfl; intro p10 hp10; refine t_ldi ‹_› ab_int B rfl ?_ rfl; refine t_a rfl ?_ rfl; refine t_e ?_; refine w_r ?_; refine x_ret1 rfl rfl ?_; exact ⟨ret_int (by unfold firstS; rw [he9]), ext_trans X0 B⟩
theorem spec_LastAS (s : Seg) (v : Value) (w : World) (h : VA segT w v s) (hz : s.hops.length ≤ 1048576) : Calls Tryz.prog 114 #[v] w fun e w' => e = .returned (I (lastS s)) ∧ Below w.heap.size w w' := by
 have X0 := Below.refl w.heap.size w; refine enter Tryz.func114 rfl Tryz.ntmps114 rfl ?_; refine w_h ?_; refine t_boxr ‹_› rfl ?_ rfl rfl; intro p1 w7 x8 hp1; replace h := h.below x8; have X0 := ext_trans X0 x8; have S := Sep.nil w7; have B := Below.refl w7.heap.size w7; have Hb := Nat.le_refl w7.heap.size; refine t_a rfl ?_ rfl; refine t_e ?_; (iterate 2 refine w_s ?_); refine w_g ?_; refine t_fld ln_seg_2 ‹_› fb_seg_2 rfl ?_ rfl; intro p3 hp3; refine t_lds ‹_› ab_s_hop B rfl ?_ rfl; intro v4 hv4; refine t_len e_hop ‹_› rfl rfl ?_ rfl; refine t_eql rfl rfl ?_ rfl; refine t_e ?_; refine w_if rfl ?_ ?_
 ·intro h0; refine w_h ?_; refine t_a rfl ?_ rfl; refine t_e ?_; refine w_r ?_; refine x_t ?_; refine x_ret1 rfl rfl ?_; have e : s.hops = [] := List.length_eq_zero_iff.1 (by omega); exact ⟨ret_int (by unfold lastS; rw [e]; rfl), ext_trans X0 B⟩
 ·intro h0; refine w_k ?_; refine x_s ?_; refine w_h ?_; refine t_fld ln_seg_2 ‹_› fb_seg_2 rfl ?_ rfl; intro p7 hp7; refine t_lds ‹_› ab_s_hop B rfl ?_ rfl; intro v8 hv8; refine t_fld ln_seg_2 ‹_› fb_seg_2 rfl ?_ rfl; intro p9 hp9; refine t_lds ‹_› ab_s_hop B rfl ?_ rfl; intro v10 hv10; refine t_len e_hop ‹_› rfl rfl ?_ rfl; refine t_sub rfl rfl (by omega) ?_ rfl; obtain ⟨e13, he13⟩ : ∃ e, (s.hops)[s.hops.length - 1]? = some e := getx (by omega); refine t_idx e_hop (k := s.hops.length - 1) ‹_› he13 B rfl rfl (by first | rfl | omega) ?_ rfl; intro p13 hp13; refine t_fld ln_hop_0 ‹_› fb_hop_0 rfl ?_ rfl; intro p14 hp14; refine t_ldi ‹_› ab_int B rfl ?_ rfl; refine t_a rfl ?_ rfl; refine t_e ?_; refine w_r ?_; refine x_ret1 rfl rfl ?_; exact ⟨ret_int (by unfold lastS; rw [he13]), ext_trans X0 B⟩
/-- A part as_ it is drawn; a path. -/
def PartK (t : Topo) (x : Part) : Prop := ∃ s kind i, SegK t s ∧ 1 ≤ kind ∧ kind ≤ 4 ∧ x = makePart s kind i
def PathK (t : Topo) (p : Path) : Prop := List.length p ≤ 3 ∧ ∀ x ∈ p, PartK t x
theorem PathK.nil {t : Topo} : PathK t [] := ⟨Nat.zero_le _, fun x hx => by simp at hx⟩
theorem PathK.one {t : Topo} {s : Seg} {kind i : Int} (h : SegK t s) (h1 : 1 ≤ kind) (h2 : kind ≤ 4) : ∀ x ∈ [makePart s kind i], PartK t x := fun x hx => by
  rw [List.mem_singleton] at hx; exact ⟨s, kind, i, h, h1, h2, hx⟩
theorem PathK.two {t : Topo} {q r : Path} (h1 : ∀ x ∈ q, PartK t x) (h2 : ∀ x ∈ r, PartK t x) : ∀ x ∈ q ++ r, PartK t x := fun x hx => by
  rcases List.mem_append.1 hx with hx | hx
  · exact h1 x hx
  · exact h2 x hx
theorem meet_K {t : Topo} {s d : Seg} (hs : SegK t s) (hd : SegK t d) : ∀ n, PathK t (meet s d n)
  | 0 => PathK.nil
  | n + 1 => by
    have ih := meet_K hs hd n
    unfold meet
    split
    · exact PathK.nil
    · split
      · exact ⟨by show 2 ≤ 3; omega, PathK.two (q := [_]) (PathK.one hs (by omega) (by omega)) (PathK.one hd (by omega) (by omega))⟩
      · exact ih
theorem joinUD_K {t : Topo} {s d : Seg} (hs : SegK t s) (hd : SegK t d) : PathK t (joinUD s d) := meet_K hs hd _
theorem SegK.len {t : Topo} {s : Seg} (h : SegK t s) : s.hops.length ≤ 5 := h.1.2.2.2.2
set_option maxHeartbeats 8000000 in
theorem spec_l22Draw {b n c : Nat} {w : World} {v : Value} {os : List Ow} (S : Sep b w (curO v n c 123 :: os)) (K : CodeK b w v n) : Calls Tryz.prog 71 #[.pointer (some ⟨c, 0, none⟩)] w fun e w' =>
  ∃ (va vl vp : Value) (A : List ASd) (L : List Lnk) (p : Path), e = .returned (.tuple #[.agg #[va, vl], .agg #[vp]]) ∧ (TopK A L ∧ PathK ⟨A, L⟩ p) ∧ Sep b w' (slO partT 85 vp p :: slO asnT 117 va A :: slO linkT 90 vl L :: curO v n c 123 :: os) ∧ Below b w w' := by
 have X0 := Below.refl w.heap.size w; refine enter Tryz.func71 rfl Tryz.ntmps71 rfl ?_; have B := Below.refl b w; have Hb := S.base; refine w_h ?_; refine t_w S z_topo rfl ?_ rfl rfl; intro g2 w9 x10 S; have B := bx Hb B x10; refine t_w S z_path rfl ?_ rfl rfl; intro g3 w11 x12 S; have B := bx Hb B x12; refine t_k ?_; refine t_m rfl ?_ rfl; have S := S.f2; refine t_f Tryz.call97 rfl (spec_l5Draw S (K.below B)) ?_ rfl; rintro e w13 ⟨va11, vl11, A11, L11, rfl, hf11, S, x14⟩; refine ⟨_, rfl, ?_⟩; have B := B.trans x14; refine t_w S z_topo rfl ?_ rfl rfl; intro g4 w15 x16 S; have B := bx Hb B x16; refine t_stn S sb_topo rfl rfl rfl rfl (by repeat first | exact oc0 | refine oc rfl ?_ | refine oc (SlR.cells (S.tail.sl)).2 ?_ | refine oc (SlR.cells (S.tail.tail.sl)).2 ?_) ?_; intro w17 b18 S; have B := B.trans b18; refine t_e ?_; refine w_s ?_; have T : TopK A11 L11 := hf11; clear hf11; refine w_g ?_; refine t_m rfl ?_ rfl; refine t_b S.box ab_topo sb_topo rfl rfl ?_ rfl; have S := S.f2.f2.f3; refine t_f Tryz.call98 rfl (spec_l9Grow 2 T S (K.below B)) ?_ rfl; rintro e w19 ⟨vh14, s14, rfl, hf14, S, x20⟩; refine ⟨_, rfl, ?_⟩; have B := B.trans x20; refine t_w S z_seg rfl ?_ rfl rfl
 intro g5 w21 x22 S; have B := bx Hb B x22; refine t_stn S sb_seg rfl rfl rfl rfl (by repeat first | exact oc0 | refine oc rfl ?_ | refine oc (SlR.cells (S.tail.sl)).2 ?_) ?_; intro w23 b24 S; have B := B.trans b24; refine t_k ?_; refine t_m rfl ?_ rfl; refine t_b S.t4.tail.box ab_topo sb_topo rfl rfl ?_ rfl; have S := S.f4.f4.f4; refine t_f Tryz.call98 rfl (spec_l9Grow 2 T S (K.below B)) ?_ rfl; rintro e w25 ⟨vh17, s17, rfl, hf17, S, x26⟩; refine ⟨_, rfl, ?_⟩; have B := B.trans x26; refine t_w S z_seg rfl ?_ rfl rfl; intro g6 w27 x28 S; have B := bx Hb B x28; refine t_stn S sb_seg rfl rfl rfl rfl (by repeat first | exact oc0 | refine oc rfl ?_ | refine oc (SlR.cells (S.tail.sl)).2 ?_) ?_; intro w29 b30 S; have B := B.trans b30; refine t_k ?_; refine t_m rfl ?_ rfl; refine t_b S.t4.tail.tail.tail.box ab_topo sb_topo rfl rfl ?_ rfl; have S := S.f4.f4.f4; refine t_f Tryz.call98 rfl (spec_l9Grow 1 T S (K.below B)) ?_ rfl; rintro e w31 ⟨vh20, s20, rfl, hf20, S, x32⟩; refine ⟨_, rfl, ?_⟩; have B := B.trans x32; refine t_w S z_seg rfl ?_ rfl rfl; intro g7 w33 x34 S; have B := bx Hb B x34
 refine t_stn S sb_seg rfl rfl rfl rfl (by repeat first | exact oc0 | refine oc rfl ?_ | refine oc (SlR.cells (S.tail.sl)).2 ?_) ?_; intro w35 b36 S; have B := B.trans b36; refine t_k ?_; refine t_g (fun w => b_path0 w) rfl ?_ rfl; refine t_w S z_path rfl ?_ rfl rfl; intro g8 w37 x38 S; have B := bx Hb B x38; refine t_stn S sb_path rfl rfl rfl rfl (by simp [Value.oneCell']) ?_; intro w39 b40 S; have B := B.trans b40; refine t_e ?_; refine w_s ?_; have hl14 := hf14.len; have hl17 := hf17.len; have hl20 := hf20.len; have S := Sep.addNil (T := partT) (e := 85) S; have S := S.f13.f13.f13.f9.f9.f9.f8.f9.f10.f11.f12.f13.f13.f13; refine w_h ?_; refine t_m rfl ?_ rfl; have S := S.f8; refine t_f Tryz.call68 rfl (spec_l1Below 5 S (K.below B)) ?_ rfl; rintro e w41 ⟨y23, rfl, hf23, S, x42⟩; refine ⟨_, rfl, ?_⟩; have B := B.trans x42; refine t_e ?_; refine w_block ?_; refine w_h ?_; refine t_eql rfl rfl ?_ rfl; refine t_a rfl ?_ rfl; refine t_e ?_; refine w_if rfl ?_ ?_
 ·intro h0; refine w_s ?_; refine w_draw (.st .take 0 (.st .take 1 (.st .take 2 (.st .run 3 (.st .fin 4 (.st .fin 5 .done)))))) mixed (by kernel_rfl) ?_; intro w43 x44; have B := bx Hb B x44; have S := S.below x44; refine t_b S.t4.t4.tail.tail.tail.box ab_topo sb_topo rfl rfl ?_ rfl; refine t_b S.t4.box ab_seg sb_seg rfl rfl ?_ rfl; refine t_b S.t4.tail.tail.box ab_seg sb_seg rfl rfl ?_ rfl; refine t_c Tryz.call105 rfl (spec_l22Meet s14 s17 _ _ _ (seg_mkv (S.tail.tail.tail.sl)) (seg_mkv (S.t4.tail.sl)) (by omega) (by omega)) ?_ rfl rfl; rintro e w45 ⟨cs29, fp29, rfl, hO29, x46⟩; refine ⟨_, rfl, x46, ?_⟩; have S := S.add (o := tyO pathT _ _) x46 hO29; have B := bx Hb B x46; obtain ⟨u29_0, rfl, S2⟩ := S.pathOpen; have S := S2; have S := S.f14; refine t_stn S sb_topo rfl rfl rfl rfl (by repeat first | exact oc0 | refine oc rfl ?_ | refine oc (SlR.cells (S.t4.t4.tail.tail.tail.sl)).2 ?_ | refine oc (SlR.cells (S.t4.t4.t4.sl)).2 ?_) ?_; intro w47 b48 S; have B := B.trans b48; have S := S.f14; refine t_stn S sb_path rfl rfl rfl rfl (by repeat first | exact oc0 | refine oc rfl ?_ | refine oc (SlR.cells (S.tail.tail.sl)).2 ?_) ?_; intro w49 b50 S; have B := B.trans b50; refine t_e' ?_
  refine w_r ?_; refine x_block_ret ?_; refine x_t ?_; refine x_retcc rfl rfl S.tail.box ab_topo sb_topo rfl rfl S.box ab_path sb_path rfl ?_; have S := S.tail.tail.f2.tail.f2.tail.f2.tail.f2.tail.f2.tail.f2.tail.f2.tail.f2.tail.f4.tail.f1.f3.f3.f3; exact ⟨_, _, _, _, _, joinUD s14 s17, rfl, ⟨T, joinUD_K hf14 hf17⟩, S, B⟩
 ·intro h0; refine w_h ?_; refine t_eql rfl rfl ?_ rfl; refine t_a rfl ?_ rfl; refine t_e ?_; refine w_if rfl ?_ ?_
  ·intro h1; refine w_s ?_; refine w_cut (X := Path × Value) (fun x wq => (fun q vq => (List.length q ≤ 1 ∧ ∀ x ∈ q, PartK ⟨A11, L11⟩ x) ∧ Below b w wq ∧ Sep b wq (slO partT 85 vq q :: bxO g8 38 #[vq] :: slO hopT 87 vh14 s14.hops :: bxO g5 67 #[I s14.ts, I s14.beta, vh14] :: slO hopT 87 vh17 s17.hops :: bxO g6 67 #[I s17.ts, I s17.beta, vh17] :: slO hopT 87 vh20 s20.hops :: bxO g7 67 #[I s20.ts, I s20.beta, vh20] :: curO v n c 123 :: slO asnT 117 va11 A11 :: slO linkT 90 vl11 L11 :: bxO g4 27 #[va11, vl11] :: bxO g3 38 #[.slice none 0 0] :: bxO g2 27 #[.slice none 0 0, .slice none 0 0] :: os)) x.1 x.2) (fun x => (fun q vq => [(0, .pointer (some ⟨c, 0, none⟩)), (2, .pointer (some ⟨g2, 0, none⟩)), (3, .pointer (some ⟨g3, 0, none⟩)), (4, .pointer (some ⟨g4, 0, none⟩)), (5, .pointer (some ⟨g5, 0, none⟩)), (6, .pointer (some ⟨g6, 0, none⟩)), (7, .pointer (some ⟨g7, 0, none⟩)), (8, .pointer (some ⟨g8, 0, none⟩))]) x.1 x.2) ?_ ?_
   ·refine w_s ?_; refine w_g ?_; refine t_y fb_seg_2 rfl rfl ?_ rfl; refine t_bx1 S.t4.box ab_s_hop rfl rfl ?_ rfl; refine t_len e_hop (S.tail.tail.tail.sl) rfl rfl ?_ rfl; refine t_gtr rfl rfl ?_ rfl; refine t_e ?_; refine w_if rfl ?_ ?_
    ·intro hp
     refine w_drawP [0, 3] (.alt (.st .fin 1 (.alt (.st .fin 2 (.st .fin 4 (.st .fin 5 (.st .fin 6 (.st .fin 7 (.st .fin 8 (.st .fin 9 (.st .fin 10 .done)))))))) (.st .fin 4 (.alt (.st .fin 2 (.st .fin 5 (.st .fin 6 (.st .fin 7 (.st .fin 8 (.st .fin 9 (.st .fin 10 .done))))))) (.st .fin 5 (.st .fin 2 (.st .fin 6 (.st .fin 7 (.st .fin 8 (.st .fin 9 (.st .fin 10 .done))))))))))) (.alt (.st .fin 2 (.alt (.st .fin 1 (.st .fin 4 (.st .fin 5 (.st .fin 6 (.st .fin 7 (.st .fin 8 (.st .fin 9 (.st .fin 10 .done)))))))) (.st .fin 4 (.alt (.st .fin 1 (.st .fin 5 (.st .fin 6 (.st .fin 7 (.st .fin 8 (.st .fin 9 (.st .fin 10 .done))))))) (.st .fin 5 (.alt (.st .fin 1 (.st .fin 6 (.st .fin 7 (.st .fin 8 (.st .fin 9 (.st .fin 10 .done)))))) (.st .fin 6 (.alt (.st .fin 1 (.st .fin 7 (.st .fin 8 (.st .fin 9 (.st .fin 10 .done))))) (.st .fin 7 (.st .fin 1 (.st .fin 8 (.st .fin 9 (.st .fin 10 .done))))))))))))) (.st .fin 4 (.alt (.st .fin 1 (.alt (.st .fin 2 (.st .fin 5 (.st .fin 6 (.st .fin 7 (.st .fin 8 (.st .fin 9 (.st .fin 10 .done))))))) (.st .fin 5 (.st .fin 2 (.st .fin 6 (.st .fin 7 (.st .fin 8 (.st .fin 9 (.st .fin 10 .done))))))))) (.alt (.st .fin 2 (.alt (.st .fin 1 (.st .fin 5 (.st .fin 6 (.st .fin 7 (.st .fin 8 (.st .fin 9 (.st .fin 10 .done))))))) (.st .fin 5 (.alt (.st .fin 1 (.st .fin 6 (.st .fin 7 (.st .fin 8 (.st .fin 9 (.st .fin 10 .done)))))) (.st .fin 6 (.alt (.st .fin 1 (.st .fin 7 (.st .fin 8 (.st .fin 9 (.st .fin 10 .done))))) (.st .fin 7 (.st .fin 1 (.st .fin 8 (.st .fin 9 (.st .fin 10 .done))))))))))) (.st .fin 5 (.alt (.st .fin 1 (.st .fin 2 (.st .fin 6 (.st .fin 7 (.st .fin 8 (.st .fin 9 (.st .fin 10 .done))))))) (.st .fin 2 (.alt (.st .fin 1 (.st .fin 6 (.st .fin 7 (.st .fin 8 (.st .fin 9 (.st .fin 10 .done)))))) (.st .fin 6 (.alt (.st .fin 1 (.st .fin 7 (.st .fin 8 (.st .fin 9 (.st .fin 10 .done))))) (.st .fin 7 (.st .fin 1 (.st .fin 8 (.st .fin 9 (.st .fin 10 .done)))))))))))))))) mixed (by kernel_rfl) ?_
     intro w51 x52; have B := bx Hb B x52; have S := S.below x52; refine p_fldx fb_path_0 rfl rfl ?_ rfl; refine p_move rfl ?_ rfl; refine p_done ?_; refine t_alt ?_ (t_alt ?_ ?_)
     ·refine t_bx1 S.tail.tail.box ab_s_part rfl rfl ?_ rfl; refine t_alt ?_ ?_
      ·refine t_b S.t4.box ab_seg sb_seg rfl rfl ?_ rfl; refine t_lit (T := intT) (l := [1, 4]) (css := ([1, 4]).map fun a => [I a]) int_flat S (fun w => bs_int2 _ _ w) rfl rfl rfl rfl (by simp [maxLen]) (litR_int _) ?_ rfl rfl; intro u40 w53 x54 S; have B := bx Hb B x54; have S := S.f1; refine t_f Tryz.call77 rfl (spec_l1Int S (K.below B) (by simp)) ?_ rfl; rintro e w55 ⟨y41, rfl, hf41, S, x56⟩; refine ⟨_, rfl, ?_⟩; have B := B.trans x56; refine t_c Tryz.call107 rfl (spec_MakePart s14 _ _ _ _ (seg_mkv (S.t4.sl)) (by omega)) ?_ rfl rfl; rintro e w57 ⟨cs42, fp42, rfl, hO42, x58⟩; refine ⟨_, rfl, x58, ?_⟩; have S := S.add (o := tyO partT _ _) x58 hO42; have B := bx Hb B x58; obtain ⟨u42_3, rfl, S2⟩ := S.partOpen; have S := S2; refine t_lit1 (fun w => bs_part1 _ _ _ _ w) rfl ?_ rfl rfl; intro A43 w59 x60 hA43; have B := bx Hb B x60; have S := S.below x60; have S := S.partShut (x := makePart s14 y41 0); have S := S.f3; refine t_snoc e_part S hA43 rfl rfl rfl (by first | omega | (simp; done) | (simp; omega)) (by (simp only [maxLen]); first | omega | (simp; done) | (simp; omega)) ?_ rfl; intro v44 w61 x62 S; have B := B.trans x62; refine t_y fb_path_0 rfl rfl ?_ rfl
       obtain ⟨Av44, cv44, rfl, _⟩ := S.sl.form; have S := S.f3; refine t_st1 S sb_s_part rfl rfl rfl rfl rfl ?_; intro w63 b64 S; have B := B.trans b64; refine t_d' ?_; have S := S.f3.tail.f13.f13.f13.f13.f13.f7.f13.f13.f13.f13.f13.f13.f12.f13; refine x_cut (X := Path × Value) ([] ++ [makePart s14 y41 0], .slice Av44 (([]) ++ [makePart s14 y41 0]).length cv44) ?_ ?_; rotate_left
       ·exact ⟨rfl, rfl, rfl, rfl, rfl, rfl, rfl, rfl, trivial⟩
       (try dsimp only)
       have hy : 1 ≤ y41 ∧ y41 ≤ 4 := by simp at hf41; omega
       exact ⟨⟨by simp, PathK.two (by simp) (PathK.one hf14 hy.1 hy.2)⟩, B, S⟩
      ·refine t_lit (T := intT) (l := [1, 4]) (css := ([1, 4]).map fun a => [I a]) int_flat S (fun w => bs_int2 _ _ w) rfl rfl rfl rfl (by simp [maxLen]) (litR_int _) ?_ rfl rfl; intro u40 w65 x66 S; have B := bx Hb B x66; refine t_alt ?_ ?_
       ·refine t_b S.t4.tail.box ab_seg sb_seg rfl rfl ?_ rfl; have S := S.f1; refine t_f Tryz.call77 rfl (spec_l1Int S (K.below B) (by simp)) ?_ rfl; rintro e w67 ⟨y41, rfl, hf41, S, x68⟩; refine ⟨_, rfl, ?_⟩; have B := B.trans x68; refine t_c Tryz.call107 rfl (spec_MakePart s14 _ _ _ _ (seg_mkv (S.t4.sl)) (by omega)) ?_ rfl rfl; rintro e w69 ⟨cs42, fp42, rfl, hO42, x70⟩; refine ⟨_, rfl, x70, ?_⟩; have S := S.add (o := tyO partT _ _) x70 hO42; have B := bx Hb B x70; obtain ⟨u42_3, rfl, S2⟩ := S.partOpen; have S := S2; refine t_lit1 (fun w => bs_part1 _ _ _ _ w) rfl ?_ rfl rfl; intro A43 w71 x72 hA43; have B := bx Hb B x72; have S := S.below x72; have S := S.partShut (x := makePart s14 y41 0); have S := S.f3; refine t_snoc e_part S hA43 rfl rfl rfl (by first | omega | (simp; done) | (simp; omega)) (by (simp only [maxLen]); first | omega | (simp; done) | (simp; omega)) ?_ rfl; intro v44 w73 x74 S; have B := B.trans x74; refine t_y fb_path_0 rfl rfl ?_ rfl; obtain ⟨Av44, cv44, rfl, _⟩ := S.sl.form; have S := S.f3; refine t_st1 S sb_s_part rfl rfl rfl rfl rfl ?_; intro w75 b76 S; have B := B.trans b76; refine t_d' ?_
        have S := S.f3.tail.f13.f13.f13.f13.f13.f7.f13.f13.f13.f13.f13.f13.f12.f13; refine x_cut (X := Path × Value) ([] ++ [makePart s14 y41 0], .slice Av44 (([]) ++ [makePart s14 y41 0]).length cv44) ?_ ?_; rotate_left
        ·exact ⟨rfl, rfl, rfl, rfl, rfl, rfl, rfl, rfl, trivial⟩
        (try dsimp only)
        have hy : 1 ≤ y41 ∧ y41 ≤ 4 := by simp at hf41; omega
        exact ⟨⟨by simp, PathK.two (by simp) (PathK.one hf14 hy.1 hy.2)⟩, B, S⟩
       ·have S := S.f1; refine t_f Tryz.call77 rfl (spec_l1Int S (K.below B) (by simp)) ?_ rfl; rintro e w77 ⟨y41, rfl, hf41, S, x78⟩; refine ⟨_, rfl, ?_⟩; have B := B.trans x78; refine t_b S.t4.tail.box ab_seg sb_seg rfl rfl ?_ rfl; refine t_c Tryz.call107 rfl (spec_MakePart s14 _ _ _ _ (seg_mkv (S.t4.sl)) (by omega)) ?_ rfl rfl; rintro e w79 ⟨cs42, fp42, rfl, hO42, x80⟩; refine ⟨_, rfl, x80, ?_⟩; have S := S.add (o := tyO partT _ _) x80 hO42; have B := bx Hb B x80; obtain ⟨u42_3, rfl, S2⟩ := S.partOpen; have S := S2; refine t_lit1 (fun w => bs_part1 _ _ _ _ w) rfl ?_ rfl rfl; intro A43 w81 x82 hA43; have B := bx Hb B x82; have S := S.below x82; have S := S.partShut (x := makePart s14 y41 0); have S := S.f3; refine t_snoc e_part S hA43 rfl rfl rfl (by first | omega | (simp; done) | (simp; omega)) (by (simp only [maxLen]); first | omega | (simp; done) | (simp; omega)) ?_ rfl; intro v44 w83 x84 S; have B := B.trans x84; refine t_y fb_path_0 rfl rfl ?_ rfl; obtain ⟨Av44, cv44, rfl, _⟩ := S.sl.form; have S := S.f3; refine t_st1 S sb_s_part rfl rfl rfl rfl rfl ?_; intro w85 b86 S; have B := B.trans b86; refine t_d' ?_
        have S := S.f3.tail.f13.f13.f13.f13.f13.f7.f13.f13.f13.f13.f13.f13.f12.f13; refine x_cut (X := Path × Value) ([] ++ [makePart s14 y41 0], .slice Av44 (([]) ++ [makePart s14 y41 0]).length cv44) ?_ ?_; rotate_left
        ·exact ⟨rfl, rfl, rfl, rfl, rfl, rfl, rfl, rfl, trivial⟩
        (try dsimp only)
        have hy : 1 ≤ y41 ∧ y41 ≤ 4 := by simp at hf41; omega
        exact ⟨⟨by simp, PathK.two (by simp) (PathK.one hf14 hy.1 hy.2)⟩, B, S⟩
     ·refine t_b S.t4.box ab_seg sb_seg rfl rfl ?_ rfl; refine t_alt ?_ ?_
      ·refine t_bx1 S.tail.tail.box ab_s_part rfl rfl ?_ rfl; refine t_lit (T := intT) (l := [1, 4]) (css := ([1, 4]).map fun a => [I a]) int_flat S (fun w => bs_int2 _ _ w) rfl rfl rfl rfl (by simp [maxLen]) (litR_int _) ?_ rfl rfl; intro u40 w87 x88 S; have B := bx Hb B x88; have S := S.f1; refine t_f Tryz.call77 rfl (spec_l1Int S (K.below B) (by simp)) ?_ rfl; rintro e w89 ⟨y41, rfl, hf41, S, x90⟩; refine ⟨_, rfl, ?_⟩; have B := B.trans x90; refine t_c Tryz.call107 rfl (spec_MakePart s14 _ _ _ _ (seg_mkv (S.t4.sl)) (by omega)) ?_ rfl rfl; rintro e w91 ⟨cs42, fp42, rfl, hO42, x92⟩; refine ⟨_, rfl, x92, ?_⟩; have S := S.add (o := tyO partT _ _) x92 hO42; have B := bx Hb B x92; obtain ⟨u42_3, rfl, S2⟩ := S.partOpen; have S := S2; refine t_lit1 (fun w => bs_part1 _ _ _ _ w) rfl ?_ rfl rfl; intro A43 w93 x94 hA43; have B := bx Hb B x94; have S := S.below x94; have S := S.partShut (x := makePart s14 y41 0); have S := S.f3; refine t_snoc e_part S hA43 rfl rfl rfl (by first | omega | (simp; done) | (simp; omega)) (by (simp only [maxLen]); first | omega | (simp; done) | (simp; omega)) ?_ rfl; intro v44 w95 x96 S; have B := B.trans x96; refine t_y fb_path_0 rfl rfl ?_ rfl
       obtain ⟨Av44, cv44, rfl, _⟩ := S.sl.form; have S := S.f3; refine t_st1 S sb_s_part rfl rfl rfl rfl rfl ?_; intro w97 b98 S; have B := B.trans b98; refine t_d' ?_; have S := S.f3.tail.f13.f13.f13.f13.f13.f7.f13.f13.f13.f13.f13.f13.f12.f13; refine x_cut (X := Path × Value) ([] ++ [makePart s14 y41 0], .slice Av44 (([]) ++ [makePart s14 y41 0]).length cv44) ?_ ?_; rotate_left
       ·exact ⟨rfl, rfl, rfl, rfl, rfl, rfl, rfl, rfl, trivial⟩
       (try dsimp only)
       have hy : 1 ≤ y41 ∧ y41 ≤ 4 := by simp at hf41; omega
       exact ⟨⟨by simp, PathK.two (by simp) (PathK.one hf14 hy.1 hy.2)⟩, B, S⟩
      ·refine t_lit (T := intT) (l := [1, 4]) (css := ([1, 4]).map fun a => [I a]) int_flat S (fun w => bs_int2 _ _ w) rfl rfl rfl rfl (by simp [maxLen]) (litR_int _) ?_ rfl rfl; intro u40 w99 x100 S; have B := bx Hb B x100; refine t_alt ?_ ?_
       ·refine t_bx1 S.tail.tail.tail.box ab_s_part rfl rfl ?_ rfl; have S := S.f1; refine t_f Tryz.call77 rfl (spec_l1Int S (K.below B) (by simp)) ?_ rfl; rintro e w101 ⟨y41, rfl, hf41, S, x102⟩; refine ⟨_, rfl, ?_⟩; have B := B.trans x102; refine t_c Tryz.call107 rfl (spec_MakePart s14 _ _ _ _ (seg_mkv (S.t4.sl)) (by omega)) ?_ rfl rfl; rintro e w103 ⟨cs42, fp42, rfl, hO42, x104⟩; refine ⟨_, rfl, x104, ?_⟩; have S := S.add (o := tyO partT _ _) x104 hO42; have B := bx Hb B x104; obtain ⟨u42_3, rfl, S2⟩ := S.partOpen; have S := S2; refine t_lit1 (fun w => bs_part1 _ _ _ _ w) rfl ?_ rfl rfl; intro A43 w105 x106 hA43; have B := bx Hb B x106; have S := S.below x106; have S := S.partShut (x := makePart s14 y41 0); have S := S.f3; refine t_snoc e_part S hA43 rfl rfl rfl (by first | omega | (simp; done) | (simp; omega)) (by (simp only [maxLen]); first | omega | (simp; done) | (simp; omega)) ?_ rfl; intro v44 w107 x108 S; have B := B.trans x108; refine t_y fb_path_0 rfl rfl ?_ rfl; obtain ⟨Av44, cv44, rfl, _⟩ := S.sl.form; have S := S.f3; refine t_st1 S sb_s_part rfl rfl rfl rfl rfl ?_; intro w109 b110 S; have B := B.trans b110; refine t_d' ?_
        have S := S.f3.tail.f13.f13.f13.f13.f13.f7.f13.f13.f13.f13.f13.f13.f12.f13; refine x_cut (X := Path × Value) ([] ++ [makePart s14 y41 0], .slice Av44 (([]) ++ [makePart s14 y41 0]).length cv44) ?_ ?_; rotate_left
        ·exact ⟨rfl, rfl, rfl, rfl, rfl, rfl, rfl, rfl, trivial⟩
        (try dsimp only)
        have hy : 1 ≤ y41 ∧ y41 ≤ 4 := by simp at hf41; omega
        exact ⟨⟨by simp, PathK.two (by simp) (PathK.one hf14 hy.1 hy.2)⟩, B, S⟩
       ·have S := S.f1; refine t_f Tryz.call77 rfl (spec_l1Int S (K.below B) (by simp)) ?_ rfl; rintro e w111 ⟨y41, rfl, hf41, S, x112⟩; refine ⟨_, rfl, ?_⟩; have B := B.trans x112; refine t_alt ?_ ?_
        ·refine t_bx1 S.tail.tail.tail.box ab_s_part rfl rfl ?_ rfl; refine t_c Tryz.call107 rfl (spec_MakePart s14 _ _ _ _ (seg_mkv (S.t4.sl)) (by omega)) ?_ rfl rfl; rintro e w113 ⟨cs42, fp42, rfl, hO42, x114⟩; refine ⟨_, rfl, x114, ?_⟩; have S := S.add (o := tyO partT _ _) x114 hO42; have B := bx Hb B x114; obtain ⟨u42_3, rfl, S2⟩ := S.partOpen; have S := S2; refine t_lit1 (fun w => bs_part1 _ _ _ _ w) rfl ?_ rfl rfl; intro A43 w115 x116 hA43; have B := bx Hb B x116; have S := S.below x116; have S := S.partShut (x := makePart s14 y41 0); have S := S.f3; refine t_snoc e_part S hA43 rfl rfl rfl (by first | omega | (simp; done) | (simp; omega)) (by (simp only [maxLen]); first | omega | (simp; done) | (simp; omega)) ?_ rfl; intro v44 w117 x118 S; have B := B.trans x118; refine t_y fb_path_0 rfl rfl ?_ rfl; obtain ⟨Av44, cv44, rfl, _⟩ := S.sl.form; have S := S.f3; refine t_st1 S sb_s_part rfl rfl rfl rfl rfl ?_; intro w119 b120 S; have B := B.trans b120; refine t_d' ?_; have S := S.f3.tail.f13.f13.f13.f13.f13.f7.f13.f13.f13.f13.f13.f13.f12.f13; refine x_cut (X := Path × Value) ([] ++ [makePart s14 y41 0], .slice Av44 (([]) ++ [makePart s14 y41 0]).length cv44) ?_ ?_; rotate_left
         ·exact ⟨rfl, rfl, rfl, rfl, rfl, rfl, rfl, rfl, trivial⟩
         (try dsimp only)
         have hy : 1 ≤ y41 ∧ y41 ≤ 4 := by simp at hf41; omega
         exact ⟨⟨by simp, PathK.two (by simp) (PathK.one hf14 hy.1 hy.2)⟩, B, S⟩
        ·refine t_c Tryz.call107 rfl (spec_MakePart s14 _ _ _ _ (seg_mkv (S.t4.sl)) (by omega)) ?_ rfl rfl; rintro e w121 ⟨cs42, fp42, rfl, hO42, x122⟩; refine ⟨_, rfl, x122, ?_⟩; have S := S.add (o := tyO partT _ _) x122 hO42; have B := bx Hb B x122; obtain ⟨u42_3, rfl, S2⟩ := S.partOpen; have S := S2; refine t_alt ?_ ?_
         ·refine t_bx1 S.t4.box ab_s_part rfl rfl ?_ rfl; refine t_lit1 (fun w => bs_part1 _ _ _ _ w) rfl ?_ rfl rfl; intro A43 w123 x124 hA43; have B := bx Hb B x124; have S := S.below x124; have S := S.partShut (x := makePart s14 y41 0); have S := S.f3; refine t_snoc e_part S hA43 rfl rfl rfl (by first | omega | (simp; done) | (simp; omega)) (by (simp only [maxLen]); first | omega | (simp; done) | (simp; omega)) ?_ rfl; intro v44 w125 x126 S; have B := B.trans x126; refine t_y fb_path_0 rfl rfl ?_ rfl; obtain ⟨Av44, cv44, rfl, _⟩ := S.sl.form; have S := S.f3; refine t_st1 S sb_s_part rfl rfl rfl rfl rfl ?_; intro w127 b128 S; have B := B.trans b128; refine t_d' ?_; have S := S.f3.tail.f13.f13.f13.f13.f13.f7.f13.f13.f13.f13.f13.f13.f12.f13; refine x_cut (X := Path × Value) ([] ++ [makePart s14 y41 0], .slice Av44 (([]) ++ [makePart s14 y41 0]).length cv44) ?_ ?_; rotate_left
          ·exact ⟨rfl, rfl, rfl, rfl, rfl, rfl, rfl, rfl, trivial⟩
          (try dsimp only)
          have hy : 1 ≤ y41 ∧ y41 ≤ 4 := by simp at hf41; omega
          exact ⟨⟨by simp, PathK.two (by simp) (PathK.one hf14 hy.1 hy.2)⟩, B, S⟩
         ·refine t_lit1 (fun w => bs_part1 _ _ _ _ w) rfl ?_ rfl rfl; intro A43 w129 x130 hA43; have B := bx Hb B x130; have S := S.below x130; refine t_bx1 S.t4.box ab_s_part rfl rfl ?_ rfl; have S := S.partShut (x := makePart s14 y41 0); have S := S.f3; refine t_snoc e_part S hA43 rfl rfl rfl (by first | omega | (simp; done) | (simp; omega)) (by (simp only [maxLen]); first | omega | (simp; done) | (simp; omega)) ?_ rfl; intro v44 w131 x132 S; have B := B.trans x132; refine t_y fb_path_0 rfl rfl ?_ rfl; obtain ⟨Av44, cv44, rfl, _⟩ := S.sl.form; have S := S.f3; refine t_st1 S sb_s_part rfl rfl rfl rfl rfl ?_; intro w133 b134 S; have B := B.trans b134; refine t_d' ?_; have S := S.f3.tail.f13.f13.f13.f13.f13.f7.f13.f13.f13.f13.f13.f13.f12.f13; refine x_cut (X := Path × Value) ([] ++ [makePart s14 y41 0], .slice Av44 (([]) ++ [makePart s14 y41 0]).length cv44) ?_ ?_; rotate_left
          ·exact ⟨rfl, rfl, rfl, rfl, rfl, rfl, rfl, rfl, trivial⟩
          (try dsimp only)
          have hy : 1 ≤ y41 ∧ y41 ≤ 4 := by simp at hf41; omega
          exact ⟨⟨by simp, PathK.two (by simp) (PathK.one hf14 hy.1 hy.2)⟩, B, S⟩
     ·refine t_lit (T := intT) (l := [1, 4]) (css := ([1, 4]).map fun a => [I a]) int_flat S (fun w => bs_int2 _ _ w) rfl rfl rfl rfl (by simp [maxLen]) (litR_int _) ?_ rfl rfl; intro u40 w135 x136 S; have B := bx Hb B x136; refine t_alt ?_ (t_alt ?_ ?_)
      ·refine t_bx1 S.tail.tail.tail.box ab_s_part rfl rfl ?_ rfl; refine t_alt ?_ ?_
       ·refine t_b S.t4.tail.box ab_seg sb_seg rfl rfl ?_ rfl; have S := S.f1; refine t_f Tryz.call77 rfl (spec_l1Int S (K.below B) (by simp)) ?_ rfl; rintro e w137 ⟨y41, rfl, hf41, S, x138⟩; refine ⟨_, rfl, ?_⟩; have B := B.trans x138; refine t_c Tryz.call107 rfl (spec_MakePart s14 _ _ _ _ (seg_mkv (S.t4.sl)) (by omega)) ?_ rfl rfl; rintro e w139 ⟨cs42, fp42, rfl, hO42, x140⟩; refine ⟨_, rfl, x140, ?_⟩; have S := S.add (o := tyO partT _ _) x140 hO42; have B := bx Hb B x140; obtain ⟨u42_3, rfl, S2⟩ := S.partOpen; have S := S2; refine t_lit1 (fun w => bs_part1 _ _ _ _ w) rfl ?_ rfl rfl; intro A43 w141 x142 hA43; have B := bx Hb B x142; have S := S.below x142; have S := S.partShut (x := makePart s14 y41 0); have S := S.f3; refine t_snoc e_part S hA43 rfl rfl rfl (by first | omega | (simp; done) | (simp; omega)) (by (simp only [maxLen]); first | omega | (simp; done) | (simp; omega)) ?_ rfl; intro v44 w143 x144 S; have B := B.trans x144; refine t_y fb_path_0 rfl rfl ?_ rfl; obtain ⟨Av44, cv44, rfl, _⟩ := S.sl.form; have S := S.f3; refine t_st1 S sb_s_part rfl rfl rfl rfl rfl ?_; intro w145 b146 S; have B := B.trans b146; refine t_d' ?_
        have S := S.f3.tail.f13.f13.f13.f13.f13.f7.f13.f13.f13.f13.f13.f13.f12.f13; refine x_cut (X := Path × Value) ([] ++ [makePart s14 y41 0], .slice Av44 (([]) ++ [makePart s14 y41 0]).length cv44) ?_ ?_; rotate_left
        ·exact ⟨rfl, rfl, rfl, rfl, rfl, rfl, rfl, rfl, trivial⟩
        (try dsimp only)
        have hy : 1 ≤ y41 ∧ y41 ≤ 4 := by simp at hf41; omega
        exact ⟨⟨by simp, PathK.two (by simp) (PathK.one hf14 hy.1 hy.2)⟩, B, S⟩
       ·have S := S.f1; refine t_f Tryz.call77 rfl (spec_l1Int S (K.below B) (by simp)) ?_ rfl; rintro e w147 ⟨y41, rfl, hf41, S, x148⟩; refine ⟨_, rfl, ?_⟩; have B := B.trans x148; refine t_b S.t4.tail.box ab_seg sb_seg rfl rfl ?_ rfl; refine t_c Tryz.call107 rfl (spec_MakePart s14 _ _ _ _ (seg_mkv (S.t4.sl)) (by omega)) ?_ rfl rfl; rintro e w149 ⟨cs42, fp42, rfl, hO42, x150⟩; refine ⟨_, rfl, x150, ?_⟩; have S := S.add (o := tyO partT _ _) x150 hO42; have B := bx Hb B x150; obtain ⟨u42_3, rfl, S2⟩ := S.partOpen; have S := S2; refine t_lit1 (fun w => bs_part1 _ _ _ _ w) rfl ?_ rfl rfl; intro A43 w151 x152 hA43; have B := bx Hb B x152; have S := S.below x152; have S := S.partShut (x := makePart s14 y41 0); have S := S.f3; refine t_snoc e_part S hA43 rfl rfl rfl (by first | omega | (simp; done) | (simp; omega)) (by (simp only [maxLen]); first | omega | (simp; done) | (simp; omega)) ?_ rfl; intro v44 w153 x154 S; have B := B.trans x154; refine t_y fb_path_0 rfl rfl ?_ rfl; obtain ⟨Av44, cv44, rfl, _⟩ := S.sl.form; have S := S.f3; refine t_st1 S sb_s_part rfl rfl rfl rfl rfl ?_; intro w155 b156 S; have B := B.trans b156; refine t_d' ?_
        have S := S.f3.tail.f13.f13.f13.f13.f13.f7.f13.f13.f13.f13.f13.f13.f12.f13; refine x_cut (X := Path × Value) ([] ++ [makePart s14 y41 0], .slice Av44 (([]) ++ [makePart s14 y41 0]).length cv44) ?_ ?_; rotate_left
        ·exact ⟨rfl, rfl, rfl, rfl, rfl, rfl, rfl, rfl, trivial⟩
        (try dsimp only)
        have hy : 1 ≤ y41 ∧ y41 ≤ 4 := by simp at hf41; omega
        exact ⟨⟨by simp, PathK.two (by simp) (PathK.one hf14 hy.1 hy.2)⟩, B, S⟩
      ·refine t_b S.t4.tail.box ab_seg sb_seg rfl rfl ?_ rfl; refine t_alt ?_ ?_
       ·refine t_bx1 S.tail.tail.tail.box ab_s_part rfl rfl ?_ rfl; have S := S.f1; refine t_f Tryz.call77 rfl (spec_l1Int S (K.below B) (by simp)) ?_ rfl; rintro e w157 ⟨y41, rfl, hf41, S, x158⟩; refine ⟨_, rfl, ?_⟩; have B := B.trans x158; refine t_c Tryz.call107 rfl (spec_MakePart s14 _ _ _ _ (seg_mkv (S.t4.sl)) (by omega)) ?_ rfl rfl; rintro e w159 ⟨cs42, fp42, rfl, hO42, x160⟩; refine ⟨_, rfl, x160, ?_⟩; have S := S.add (o := tyO partT _ _) x160 hO42; have B := bx Hb B x160; obtain ⟨u42_3, rfl, S2⟩ := S.partOpen; have S := S2; refine t_lit1 (fun w => bs_part1 _ _ _ _ w) rfl ?_ rfl rfl; intro A43 w161 x162 hA43; have B := bx Hb B x162; have S := S.below x162; have S := S.partShut (x := makePart s14 y41 0); have S := S.f3; refine t_snoc e_part S hA43 rfl rfl rfl (by first | omega | (simp; done) | (simp; omega)) (by (simp only [maxLen]); first | omega | (simp; done) | (simp; omega)) ?_ rfl; intro v44 w163 x164 S; have B := B.trans x164; refine t_y fb_path_0 rfl rfl ?_ rfl; obtain ⟨Av44, cv44, rfl, _⟩ := S.sl.form; have S := S.f3; refine t_st1 S sb_s_part rfl rfl rfl rfl rfl ?_; intro w165 b166 S; have B := B.trans b166; refine t_d' ?_
        have S := S.f3.tail.f13.f13.f13.f13.f13.f7.f13.f13.f13.f13.f13.f13.f12.f13; refine x_cut (X := Path × Value) ([] ++ [makePart s14 y41 0], .slice Av44 (([]) ++ [makePart s14 y41 0]).length cv44) ?_ ?_; rotate_left
        ·exact ⟨rfl, rfl, rfl, rfl, rfl, rfl, rfl, rfl, trivial⟩
        (try dsimp only)
        have hy : 1 ≤ y41 ∧ y41 ≤ 4 := by simp at hf41; omega
        exact ⟨⟨by simp, PathK.two (by simp) (PathK.one hf14 hy.1 hy.2)⟩, B, S⟩
       ·have S := S.f1; refine t_f Tryz.call77 rfl (spec_l1Int S (K.below B) (by simp)) ?_ rfl; rintro e w167 ⟨y41, rfl, hf41, S, x168⟩; refine ⟨_, rfl, ?_⟩; have B := B.trans x168; refine t_alt ?_ ?_
        ·refine t_bx1 S.tail.tail.tail.box ab_s_part rfl rfl ?_ rfl; refine t_c Tryz.call107 rfl (spec_MakePart s14 _ _ _ _ (seg_mkv (S.t4.sl)) (by omega)) ?_ rfl rfl; rintro e w169 ⟨cs42, fp42, rfl, hO42, x170⟩; refine ⟨_, rfl, x170, ?_⟩; have S := S.add (o := tyO partT _ _) x170 hO42; have B := bx Hb B x170; obtain ⟨u42_3, rfl, S2⟩ := S.partOpen; have S := S2; refine t_lit1 (fun w => bs_part1 _ _ _ _ w) rfl ?_ rfl rfl; intro A43 w171 x172 hA43; have B := bx Hb B x172; have S := S.below x172; have S := S.partShut (x := makePart s14 y41 0); have S := S.f3; refine t_snoc e_part S hA43 rfl rfl rfl (by first | omega | (simp; done) | (simp; omega)) (by (simp only [maxLen]); first | omega | (simp; done) | (simp; omega)) ?_ rfl; intro v44 w173 x174 S; have B := B.trans x174; refine t_y fb_path_0 rfl rfl ?_ rfl; obtain ⟨Av44, cv44, rfl, _⟩ := S.sl.form; have S := S.f3; refine t_st1 S sb_s_part rfl rfl rfl rfl rfl ?_; intro w175 b176 S; have B := B.trans b176; refine t_d' ?_; have S := S.f3.tail.f13.f13.f13.f13.f13.f7.f13.f13.f13.f13.f13.f13.f12.f13; refine x_cut (X := Path × Value) ([] ++ [makePart s14 y41 0], .slice Av44 (([]) ++ [makePart s14 y41 0]).length cv44) ?_ ?_; rotate_left
         ·exact ⟨rfl, rfl, rfl, rfl, rfl, rfl, rfl, rfl, trivial⟩
         (try dsimp only)
         have hy : 1 ≤ y41 ∧ y41 ≤ 4 := by simp at hf41; omega
         exact ⟨⟨by simp, PathK.two (by simp) (PathK.one hf14 hy.1 hy.2)⟩, B, S⟩
        ·refine t_c Tryz.call107 rfl (spec_MakePart s14 _ _ _ _ (seg_mkv (S.t4.sl)) (by omega)) ?_ rfl rfl; rintro e w177 ⟨cs42, fp42, rfl, hO42, x178⟩; refine ⟨_, rfl, x178, ?_⟩; have S := S.add (o := tyO partT _ _) x178 hO42; have B := bx Hb B x178; obtain ⟨u42_3, rfl, S2⟩ := S.partOpen; have S := S2; refine t_alt ?_ ?_
         ·refine t_bx1 S.t4.box ab_s_part rfl rfl ?_ rfl; refine t_lit1 (fun w => bs_part1 _ _ _ _ w) rfl ?_ rfl rfl; intro A43 w179 x180 hA43; have B := bx Hb B x180; have S := S.below x180; have S := S.partShut (x := makePart s14 y41 0); have S := S.f3; refine t_snoc e_part S hA43 rfl rfl rfl (by first | omega | (simp; done) | (simp; omega)) (by (simp only [maxLen]); first | omega | (simp; done) | (simp; omega)) ?_ rfl; intro v44 w181 x182 S; have B := B.trans x182; refine t_y fb_path_0 rfl rfl ?_ rfl; obtain ⟨Av44, cv44, rfl, _⟩ := S.sl.form; have S := S.f3; refine t_st1 S sb_s_part rfl rfl rfl rfl rfl ?_; intro w183 b184 S; have B := B.trans b184; refine t_d' ?_; have S := S.f3.tail.f13.f13.f13.f13.f13.f7.f13.f13.f13.f13.f13.f13.f12.f13; refine x_cut (X := Path × Value) ([] ++ [makePart s14 y41 0], .slice Av44 (([]) ++ [makePart s14 y41 0]).length cv44) ?_ ?_; rotate_left
          ·exact ⟨rfl, rfl, rfl, rfl, rfl, rfl, rfl, rfl, trivial⟩
          (try dsimp only)
          have hy : 1 ≤ y41 ∧ y41 ≤ 4 := by simp at hf41; omega
          exact ⟨⟨by simp, PathK.two (by simp) (PathK.one hf14 hy.1 hy.2)⟩, B, S⟩
         ·refine t_lit1 (fun w => bs_part1 _ _ _ _ w) rfl ?_ rfl rfl; intro A43 w185 x186 hA43; have B := bx Hb B x186; have S := S.below x186; refine t_bx1 S.t4.box ab_s_part rfl rfl ?_ rfl; have S := S.partShut (x := makePart s14 y41 0); have S := S.f3; refine t_snoc e_part S hA43 rfl rfl rfl (by first | omega | (simp; done) | (simp; omega)) (by (simp only [maxLen]); first | omega | (simp; done) | (simp; omega)) ?_ rfl; intro v44 w187 x188 S; have B := B.trans x188; refine t_y fb_path_0 rfl rfl ?_ rfl; obtain ⟨Av44, cv44, rfl, _⟩ := S.sl.form; have S := S.f3; refine t_st1 S sb_s_part rfl rfl rfl rfl rfl ?_; intro w189 b190 S; have B := B.trans b190; refine t_d' ?_; have S := S.f3.tail.f13.f13.f13.f13.f13.f7.f13.f13.f13.f13.f13.f13.f12.f13; refine x_cut (X := Path × Value) ([] ++ [makePart s14 y41 0], .slice Av44 (([]) ++ [makePart s14 y41 0]).length cv44) ?_ ?_; rotate_left
          ·exact ⟨rfl, rfl, rfl, rfl, rfl, rfl, rfl, rfl, trivial⟩
          (try dsimp only)
          have hy : 1 ≤ y41 ∧ y41 ≤ 4 := by simp at hf41; omega
          exact ⟨⟨by simp, PathK.two (by simp) (PathK.one hf14 hy.1 hy.2)⟩, B, S⟩
      ·have S := S.f1; refine t_f Tryz.call77 rfl (spec_l1Int S (K.below B) (by simp)) ?_ rfl; rintro e w191 ⟨y41, rfl, hf41, S, x192⟩; refine ⟨_, rfl, ?_⟩; have B := B.trans x192; refine t_alt ?_ ?_
       ·refine t_bx1 S.tail.tail.tail.box ab_s_part rfl rfl ?_ rfl; refine t_b S.t4.tail.box ab_seg sb_seg rfl rfl ?_ rfl; refine t_c Tryz.call107 rfl (spec_MakePart s14 _ _ _ _ (seg_mkv (S.t4.sl)) (by omega)) ?_ rfl rfl; rintro e w193 ⟨cs42, fp42, rfl, hO42, x194⟩; refine ⟨_, rfl, x194, ?_⟩; have S := S.add (o := tyO partT _ _) x194 hO42; have B := bx Hb B x194; obtain ⟨u42_3, rfl, S2⟩ := S.partOpen; have S := S2; refine t_lit1 (fun w => bs_part1 _ _ _ _ w) rfl ?_ rfl rfl; intro A43 w195 x196 hA43; have B := bx Hb B x196; have S := S.below x196; have S := S.partShut (x := makePart s14 y41 0); have S := S.f3; refine t_snoc e_part S hA43 rfl rfl rfl (by first | omega | (simp; done) | (simp; omega)) (by (simp only [maxLen]); first | omega | (simp; done) | (simp; omega)) ?_ rfl; intro v44 w197 x198 S; have B := B.trans x198; refine t_y fb_path_0 rfl rfl ?_ rfl; obtain ⟨Av44, cv44, rfl, _⟩ := S.sl.form; have S := S.f3; refine t_st1 S sb_s_part rfl rfl rfl rfl rfl ?_; intro w199 b200 S; have B := B.trans b200; refine t_d' ?_; have S := S.f3.tail.f13.f13.f13.f13.f13.f7.f13.f13.f13.f13.f13.f13.f12.f13
        refine x_cut (X := Path × Value) ([] ++ [makePart s14 y41 0], .slice Av44 (([]) ++ [makePart s14 y41 0]).length cv44) ?_ ?_; rotate_left
        ·exact ⟨rfl, rfl, rfl, rfl, rfl, rfl, rfl, rfl, trivial⟩
        (try dsimp only)
        have hy : 1 ≤ y41 ∧ y41 ≤ 4 := by simp at hf41; omega
        exact ⟨⟨by simp, PathK.two (by simp) (PathK.one hf14 hy.1 hy.2)⟩, B, S⟩
       ·refine t_b S.t4.tail.box ab_seg sb_seg rfl rfl ?_ rfl; refine t_alt ?_ ?_
        ·refine t_bx1 S.tail.tail.tail.box ab_s_part rfl rfl ?_ rfl; refine t_c Tryz.call107 rfl (spec_MakePart s14 _ _ _ _ (seg_mkv (S.t4.sl)) (by omega)) ?_ rfl rfl; rintro e w201 ⟨cs42, fp42, rfl, hO42, x202⟩; refine ⟨_, rfl, x202, ?_⟩; have S := S.add (o := tyO partT _ _) x202 hO42; have B := bx Hb B x202; obtain ⟨u42_3, rfl, S2⟩ := S.partOpen; have S := S2; refine t_lit1 (fun w => bs_part1 _ _ _ _ w) rfl ?_ rfl rfl; intro A43 w203 x204 hA43; have B := bx Hb B x204; have S := S.below x204; have S := S.partShut (x := makePart s14 y41 0); have S := S.f3; refine t_snoc e_part S hA43 rfl rfl rfl (by first | omega | (simp; done) | (simp; omega)) (by (simp only [maxLen]); first | omega | (simp; done) | (simp; omega)) ?_ rfl; intro v44 w205 x206 S; have B := B.trans x206; refine t_y fb_path_0 rfl rfl ?_ rfl; obtain ⟨Av44, cv44, rfl, _⟩ := S.sl.form; have S := S.f3; refine t_st1 S sb_s_part rfl rfl rfl rfl rfl ?_; intro w207 b208 S; have B := B.trans b208; refine t_d' ?_; have S := S.f3.tail.f13.f13.f13.f13.f13.f7.f13.f13.f13.f13.f13.f13.f12.f13; refine x_cut (X := Path × Value) ([] ++ [makePart s14 y41 0], .slice Av44 (([]) ++ [makePart s14 y41 0]).length cv44) ?_ ?_; rotate_left
         ·exact ⟨rfl, rfl, rfl, rfl, rfl, rfl, rfl, rfl, trivial⟩
         (try dsimp only)
         have hy : 1 ≤ y41 ∧ y41 ≤ 4 := by simp at hf41; omega
         exact ⟨⟨by simp, PathK.two (by simp) (PathK.one hf14 hy.1 hy.2)⟩, B, S⟩
        ·refine t_c Tryz.call107 rfl (spec_MakePart s14 _ _ _ _ (seg_mkv (S.t4.sl)) (by omega)) ?_ rfl rfl; rintro e w209 ⟨cs42, fp42, rfl, hO42, x210⟩; refine ⟨_, rfl, x210, ?_⟩; have S := S.add (o := tyO partT _ _) x210 hO42; have B := bx Hb B x210; obtain ⟨u42_3, rfl, S2⟩ := S.partOpen; have S := S2; refine t_alt ?_ ?_
         ·refine t_bx1 S.t4.box ab_s_part rfl rfl ?_ rfl; refine t_lit1 (fun w => bs_part1 _ _ _ _ w) rfl ?_ rfl rfl; intro A43 w211 x212 hA43; have B := bx Hb B x212; have S := S.below x212; have S := S.partShut (x := makePart s14 y41 0); have S := S.f3; refine t_snoc e_part S hA43 rfl rfl rfl (by first | omega | (simp; done) | (simp; omega)) (by (simp only [maxLen]); first | omega | (simp; done) | (simp; omega)) ?_ rfl; intro v44 w213 x214 S; have B := B.trans x214; refine t_y fb_path_0 rfl rfl ?_ rfl; obtain ⟨Av44, cv44, rfl, _⟩ := S.sl.form; have S := S.f3; refine t_st1 S sb_s_part rfl rfl rfl rfl rfl ?_; intro w215 b216 S; have B := B.trans b216; refine t_d' ?_; have S := S.f3.tail.f13.f13.f13.f13.f13.f7.f13.f13.f13.f13.f13.f13.f12.f13; refine x_cut (X := Path × Value) ([] ++ [makePart s14 y41 0], .slice Av44 (([]) ++ [makePart s14 y41 0]).length cv44) ?_ ?_; rotate_left
          ·exact ⟨rfl, rfl, rfl, rfl, rfl, rfl, rfl, rfl, trivial⟩
          (try dsimp only)
          have hy : 1 ≤ y41 ∧ y41 ≤ 4 := by simp at hf41; omega
          exact ⟨⟨by simp, PathK.two (by simp) (PathK.one hf14 hy.1 hy.2)⟩, B, S⟩
         ·refine t_lit1 (fun w => bs_part1 _ _ _ _ w) rfl ?_ rfl rfl; intro A43 w217 x218 hA43; have B := bx Hb B x218; have S := S.below x218; refine t_bx1 S.t4.box ab_s_part rfl rfl ?_ rfl; have S := S.partShut (x := makePart s14 y41 0); have S := S.f3; refine t_snoc e_part S hA43 rfl rfl rfl (by first | omega | (simp; done) | (simp; omega)) (by (simp only [maxLen]); first | omega | (simp; done) | (simp; omega)) ?_ rfl; intro v44 w219 x220 S; have B := B.trans x220; refine t_y fb_path_0 rfl rfl ?_ rfl; obtain ⟨Av44, cv44, rfl, _⟩ := S.sl.form; have S := S.f3; refine t_st1 S sb_s_part rfl rfl rfl rfl rfl ?_; intro w221 b222 S; have B := B.trans b222; refine t_d' ?_; have S := S.f3.tail.f13.f13.f13.f13.f13.f7.f13.f13.f13.f13.f13.f13.f12.f13; refine x_cut (X := Path × Value) ([] ++ [makePart s14 y41 0], .slice Av44 (([]) ++ [makePart s14 y41 0]).length cv44) ?_ ?_; rotate_left
          ·exact ⟨rfl, rfl, rfl, rfl, rfl, rfl, rfl, rfl, trivial⟩
          (try dsimp only)
          have hy : 1 ≤ y41 ∧ y41 ≤ 4 := by simp at hf41; omega
          exact ⟨⟨by simp, PathK.two (by simp) (PathK.one hf14 hy.1 hy.2)⟩, B, S⟩
    ·intro hp; refine w_k ?_; have S := S.f13.f13.f13.f13.f13.f5.f13.f13.f13.f13.f13.f13.f13.f13; refine x_cut (X := Path × Value) ([], .slice none 0 0) ?_ ?_; rotate_left
     ·exact ⟨rfl, rfl, rfl, rfl, rfl, rfl, rfl, rfl, trivial⟩
     (try dsimp only); exact ⟨⟨by simp, by simp⟩, B, S⟩
   rintro ⟨q, vq⟩ w223 hI; (try dsimp only at hI ⊢); obtain ⟨⟨hq1, hq2⟩, B, S⟩ := hI; refine w_s ?_; refine w_drawP [] (.alt (.st .fin 0 (.alt (.st .fin 1 (.st .fin 2 (.st .fin 3 .done))) (.st .fin 2 (.st .fin 1 (.st .fin 3 .done))))) (.st .fin 1 (.st .fin 0 (.st .fin 2 (.st .fin 3 .done))))) mixed (by kernel_rfl) ?_; intro w224 x225; have B := bx Hb B x225; have S := S.below x225; refine t_alt ?_ ?_
   ·refine t_b S.t4.t4.tail.tail.tail.box ab_topo sb_topo rfl rfl ?_ rfl; refine t_alt ?_ ?_
    ·refine t_b S.tail.box ab_path sb_path rfl rfl ?_ rfl; have S := S.f13; refine t_stn S sb_topo rfl rfl rfl rfl (by repeat first | exact oc0 | refine oc rfl ?_ | refine oc (SlR.cells (S.t4.t4.tail.tail.sl)).2 ?_ | refine oc (SlR.cells (S.t4.t4.tail.tail.tail.sl)).2 ?_) ?_; intro w226 b227 S; have B := B.trans b227; have S := S.f13; refine t_stn S sb_path rfl rfl rfl rfl (by repeat first | exact oc0 | refine oc rfl ?_ | refine oc (SlR.cells (S.tail.tail.sl)).2 ?_) ?_; intro w228 b229 S; have B := B.trans b229; refine t_e' ?_; refine w_r ?_; refine x_block_ret ?_; refine x_t ?_; refine x_retcc rfl rfl S.tail.box ab_topo sb_topo rfl rfl S.box ab_path sb_path rfl ?_; have S := S.tail.tail.f1.tail.f1.tail.f1.tail.f1.tail.f1.tail.f1.tail.f1.tail.f4.tail.f1.f3.f3.f3; exact ⟨_, _, _, _, _, q, rfl, ⟨T, by omega, hq2⟩, S, B⟩
    ·have S := S.f13; refine t_stn S sb_topo rfl rfl rfl rfl (by repeat first | exact oc0 | refine oc rfl ?_ | refine oc (SlR.cells (S.t4.t4.tail.tail.sl)).2 ?_ | refine oc (SlR.cells (S.t4.t4.tail.tail.tail.sl)).2 ?_) ?_; intro w230 b231 S; have B := B.trans b231; refine t_b S.tail.tail.box ab_path sb_path rfl rfl ?_ rfl; have S := S.f13; refine t_stn S sb_path rfl rfl rfl rfl (by repeat first | exact oc0 | refine oc rfl ?_ | refine oc (SlR.cells (S.tail.tail.sl)).2 ?_) ?_; intro w232 b233 S; have B := B.trans b233; refine t_e' ?_; refine w_r ?_; refine x_block_ret ?_; refine x_t ?_; refine x_retcc rfl rfl S.tail.box ab_topo sb_topo rfl rfl S.box ab_path sb_path rfl ?_; have S := S.tail.tail.f1.tail.f1.tail.f1.tail.f1.tail.f1.tail.f1.tail.f1.tail.f4.tail.f1.f3.f3.f3; exact ⟨_, _, _, _, _, q, rfl, ⟨T, by omega, hq2⟩, S, B⟩
   ·refine t_b S.tail.box ab_path sb_path rfl rfl ?_ rfl; refine t_b S.t4.t4.tail.tail.tail.box ab_topo sb_topo rfl rfl ?_ rfl; have S := S.f13; refine t_stn S sb_topo rfl rfl rfl rfl (by repeat first | exact oc0 | refine oc rfl ?_ | refine oc (SlR.cells (S.t4.t4.tail.tail.sl)).2 ?_ | refine oc (SlR.cells (S.t4.t4.tail.tail.tail.sl)).2 ?_) ?_; intro w234 b235 S; have B := B.trans b235; have S := S.f13; refine t_stn S sb_path rfl rfl rfl rfl (by repeat first | exact oc0 | refine oc rfl ?_ | refine oc (SlR.cells (S.tail.tail.sl)).2 ?_) ?_; intro w236 b237 S; have B := B.trans b237; refine t_e' ?_; refine w_r ?_; refine x_block_ret ?_; refine x_t ?_; refine x_retcc rfl rfl S.tail.box ab_topo sb_topo rfl rfl S.box ab_path sb_path rfl ?_; have S := S.tail.tail.f1.tail.f1.tail.f1.tail.f1.tail.f1.tail.f1.tail.f1.tail.f4.tail.f1.f3.f3.f3; exact ⟨_, _, _, _, _, q, rfl, ⟨T, by omega, hq2⟩, S, B⟩
  ·intro h1; refine w_h ?_; refine t_eql rfl rfl ?_ rfl; refine t_a rfl ?_ rfl; refine t_e ?_; refine w_if rfl ?_ ?_
   ·intro h2; refine w_s ?_; refine w_cut (X := Path × Value) (fun x wq => (fun q vq => (List.length q ≤ 1 ∧ ∀ x ∈ q, PartK ⟨A11, L11⟩ x) ∧ Below b w wq ∧ Sep b wq (slO partT 85 vq q :: bxO g8 38 #[vq] :: slO hopT 87 vh14 s14.hops :: bxO g5 67 #[I s14.ts, I s14.beta, vh14] :: slO hopT 87 vh17 s17.hops :: bxO g6 67 #[I s17.ts, I s17.beta, vh17] :: slO hopT 87 vh20 s20.hops :: bxO g7 67 #[I s20.ts, I s20.beta, vh20] :: curO v n c 123 :: slO asnT 117 va11 A11 :: slO linkT 90 vl11 L11 :: bxO g4 27 #[va11, vl11] :: bxO g3 38 #[.slice none 0 0] :: bxO g2 27 #[.slice none 0 0, .slice none 0 0] :: os)) x.1 x.2) (fun x => (fun q vq => [(0, .pointer (some ⟨c, 0, none⟩)), (2, .pointer (some ⟨g2, 0, none⟩)), (3, .pointer (some ⟨g3, 0, none⟩)), (4, .pointer (some ⟨g4, 0, none⟩)), (5, .pointer (some ⟨g5, 0, none⟩)), (6, .pointer (some ⟨g6, 0, none⟩)), (7, .pointer (some ⟨g7, 0, none⟩)), (8, .pointer (some ⟨g8, 0, none⟩))]) x.1 x.2) ?_ ?_
    ·refine w_s ?_; refine w_g ?_; refine t_y fb_seg_2 rfl rfl ?_ rfl; refine t_bx1 S.t4.t4.box ab_s_hop rfl rfl ?_ rfl; refine t_len e_hop (S.t4.tail.tail.tail.sl) rfl rfl ?_ rfl; refine t_gtr rfl rfl ?_ rfl; refine t_e ?_; refine w_if rfl ?_ ?_
     ·intro hp
      refine w_drawP [0, 3] (.alt (.st .fin 1 (.alt (.st .fin 2 (.st .fin 4 (.st .fin 5 (.st .fin 6 (.st .fin 7 (.st .fin 8 (.st .fin 9 (.st .fin 10 .done)))))))) (.st .fin 4 (.alt (.st .fin 2 (.st .fin 5 (.st .fin 6 (.st .fin 7 (.st .fin 8 (.st .fin 9 (.st .fin 10 .done))))))) (.st .fin 5 (.st .fin 2 (.st .fin 6 (.st .fin 7 (.st .fin 8 (.st .fin 9 (.st .fin 10 .done))))))))))) (.alt (.st .fin 2 (.alt (.st .fin 1 (.st .fin 4 (.st .fin 5 (.st .fin 6 (.st .fin 7 (.st .fin 8 (.st .fin 9 (.st .fin 10 .done)))))))) (.st .fin 4 (.alt (.st .fin 1 (.st .fin 5 (.st .fin 6 (.st .fin 7 (.st .fin 8 (.st .fin 9 (.st .fin 10 .done))))))) (.st .fin 5 (.alt (.st .fin 1 (.st .fin 6 (.st .fin 7 (.st .fin 8 (.st .fin 9 (.st .fin 10 .done)))))) (.st .fin 6 (.alt (.st .fin 1 (.st .fin 7 (.st .fin 8 (.st .fin 9 (.st .fin 10 .done))))) (.st .fin 7 (.st .fin 1 (.st .fin 8 (.st .fin 9 (.st .fin 10 .done))))))))))))) (.st .fin 4 (.alt (.st .fin 1 (.alt (.st .fin 2 (.st .fin 5 (.st .fin 6 (.st .fin 7 (.st .fin 8 (.st .fin 9 (.st .fin 10 .done))))))) (.st .fin 5 (.st .fin 2 (.st .fin 6 (.st .fin 7 (.st .fin 8 (.st .fin 9 (.st .fin 10 .done))))))))) (.alt (.st .fin 2 (.alt (.st .fin 1 (.st .fin 5 (.st .fin 6 (.st .fin 7 (.st .fin 8 (.st .fin 9 (.st .fin 10 .done))))))) (.st .fin 5 (.alt (.st .fin 1 (.st .fin 6 (.st .fin 7 (.st .fin 8 (.st .fin 9 (.st .fin 10 .done)))))) (.st .fin 6 (.alt (.st .fin 1 (.st .fin 7 (.st .fin 8 (.st .fin 9 (.st .fin 10 .done))))) (.st .fin 7 (.st .fin 1 (.st .fin 8 (.st .fin 9 (.st .fin 10 .done))))))))))) (.st .fin 5 (.alt (.st .fin 1 (.st .fin 2 (.st .fin 6 (.st .fin 7 (.st .fin 8 (.st .fin 9 (.st .fin 10 .done))))))) (.st .fin 2 (.alt (.st .fin 1 (.st .fin 6 (.st .fin 7 (.st .fin 8 (.st .fin 9 (.st .fin 10 .done)))))) (.st .fin 6 (.alt (.st .fin 1 (.st .fin 7 (.st .fin 8 (.st .fin 9 (.st .fin 10 .done))))) (.st .fin 7 (.st .fin 1 (.st .fin 8 (.st .fin 9 (.st .fin 10 .done)))))))))))))))) mixed (by kernel_rfl) ?_
      intro w238 x239; have B := bx Hb B x239; have S := S.below x239; refine p_fldx fb_path_0 rfl rfl ?_ rfl; refine p_move rfl ?_ rfl; refine p_done ?_; refine t_alt ?_ (t_alt ?_ ?_)
      ·refine t_bx1 S.tail.tail.box ab_s_part rfl rfl ?_ rfl; refine t_alt ?_ ?_
       ·refine t_b S.t4.t4.box ab_seg sb_seg rfl rfl ?_ rfl; refine t_lit (T := intT) (l := [2, 3]) (css := ([2, 3]).map fun a => [I a]) int_flat S (fun w => bs_int2 _ _ w) rfl rfl rfl rfl (by simp [maxLen]) (litR_int _) ?_ rfl rfl; intro u58 w240 x241 S; have B := bx Hb B x241; have S := S.f1; refine t_f Tryz.call77 rfl (spec_l1Int S (K.below B) (by simp)) ?_ rfl; rintro e w242 ⟨y59, rfl, hf59, S, x243⟩; refine ⟨_, rfl, ?_⟩; have B := B.trans x243; refine t_c Tryz.call107 rfl (spec_MakePart s20 _ _ _ _ (seg_mkv (S.t4.t4.sl)) (by omega)) ?_ rfl rfl; rintro e w244 ⟨cs60, fp60, rfl, hO60, x245⟩; refine ⟨_, rfl, x245, ?_⟩; have S := S.add (o := tyO partT _ _) x245 hO60; have B := bx Hb B x245; obtain ⟨u60_3, rfl, S2⟩ := S.partOpen; have S := S2; refine t_lit1 (fun w => bs_part1 _ _ _ _ w) rfl ?_ rfl rfl; intro A61 w246 x247 hA61; have B := bx Hb B x247; have S := S.below x247; have S := S.partShut (x := makePart s20 y59 0); have S := S.f3; refine t_snoc e_part S hA61 rfl rfl rfl (by first | omega | (simp; done) | (simp; omega)) (by (simp only [maxLen]); first | omega | (simp; done) | (simp; omega)) ?_ rfl; intro v62 w248 x249 S; have B := B.trans x249
        refine t_y fb_path_0 rfl rfl ?_ rfl; obtain ⟨Av62, cv62, rfl, _⟩ := S.sl.form; have S := S.f3; refine t_st1 S sb_s_part rfl rfl rfl rfl rfl ?_; intro w250 b251 S; have B := B.trans b251; refine t_d' ?_; have S := S.f3.tail.f13.f13.f13.f13.f13.f7.f13.f13.f13.f13.f13.f13.f12.f13; refine x_cut (X := Path × Value) ([] ++ [makePart s20 y59 0], .slice Av62 (([]) ++ [makePart s20 y59 0]).length cv62) ?_ ?_; rotate_left
        ·exact ⟨rfl, rfl, rfl, rfl, rfl, rfl, rfl, rfl, trivial⟩
        (try dsimp only)
        have hy : 1 ≤ y59 ∧ y59 ≤ 4 := by simp at hf59; omega
        exact ⟨⟨by simp, PathK.two (by simp) (PathK.one hf20 hy.1 hy.2)⟩, B, S⟩
       ·refine t_lit (T := intT) (l := [2, 3]) (css := ([2, 3]).map fun a => [I a]) int_flat S (fun w => bs_int2 _ _ w) rfl rfl rfl rfl (by simp [maxLen]) (litR_int _) ?_ rfl rfl; intro u58 w252 x253 S; have B := bx Hb B x253; refine t_alt ?_ ?_
        ·refine t_b S.t4.t4.tail.box ab_seg sb_seg rfl rfl ?_ rfl; have S := S.f1; refine t_f Tryz.call77 rfl (spec_l1Int S (K.below B) (by simp)) ?_ rfl; rintro e w254 ⟨y59, rfl, hf59, S, x255⟩; refine ⟨_, rfl, ?_⟩; have B := B.trans x255; refine t_c Tryz.call107 rfl (spec_MakePart s20 _ _ _ _ (seg_mkv (S.t4.t4.sl)) (by omega)) ?_ rfl rfl; rintro e w256 ⟨cs60, fp60, rfl, hO60, x257⟩; refine ⟨_, rfl, x257, ?_⟩; have S := S.add (o := tyO partT _ _) x257 hO60; have B := bx Hb B x257; obtain ⟨u60_3, rfl, S2⟩ := S.partOpen; have S := S2; refine t_lit1 (fun w => bs_part1 _ _ _ _ w) rfl ?_ rfl rfl; intro A61 w258 x259 hA61; have B := bx Hb B x259; have S := S.below x259; have S := S.partShut (x := makePart s20 y59 0); have S := S.f3; refine t_snoc e_part S hA61 rfl rfl rfl (by first | omega | (simp; done) | (simp; omega)) (by (simp only [maxLen]); first | omega | (simp; done) | (simp; omega)) ?_ rfl; intro v62 w260 x261 S; have B := B.trans x261; refine t_y fb_path_0 rfl rfl ?_ rfl; obtain ⟨Av62, cv62, rfl, _⟩ := S.sl.form; have S := S.f3; refine t_st1 S sb_s_part rfl rfl rfl rfl rfl ?_; intro w262 b263 S; have B := B.trans b263; refine t_d' ?_
         have S := S.f3.tail.f13.f13.f13.f13.f13.f7.f13.f13.f13.f13.f13.f13.f12.f13; refine x_cut (X := Path × Value) ([] ++ [makePart s20 y59 0], .slice Av62 (([]) ++ [makePart s20 y59 0]).length cv62) ?_ ?_; rotate_left
         ·exact ⟨rfl, rfl, rfl, rfl, rfl, rfl, rfl, rfl, trivial⟩
         (try dsimp only)
         have hy : 1 ≤ y59 ∧ y59 ≤ 4 := by simp at hf59; omega
         exact ⟨⟨by simp, PathK.two (by simp) (PathK.one hf20 hy.1 hy.2)⟩, B, S⟩
        ·have S := S.f1; refine t_f Tryz.call77 rfl (spec_l1Int S (K.below B) (by simp)) ?_ rfl; rintro e w264 ⟨y59, rfl, hf59, S, x265⟩; refine ⟨_, rfl, ?_⟩; have B := B.trans x265; refine t_b S.t4.t4.tail.box ab_seg sb_seg rfl rfl ?_ rfl; refine t_c Tryz.call107 rfl (spec_MakePart s20 _ _ _ _ (seg_mkv (S.t4.t4.sl)) (by omega)) ?_ rfl rfl; rintro e w266 ⟨cs60, fp60, rfl, hO60, x267⟩; refine ⟨_, rfl, x267, ?_⟩; have S := S.add (o := tyO partT _ _) x267 hO60; have B := bx Hb B x267; obtain ⟨u60_3, rfl, S2⟩ := S.partOpen; have S := S2; refine t_lit1 (fun w => bs_part1 _ _ _ _ w) rfl ?_ rfl rfl; intro A61 w268 x269 hA61; have B := bx Hb B x269; have S := S.below x269; have S := S.partShut (x := makePart s20 y59 0); have S := S.f3; refine t_snoc e_part S hA61 rfl rfl rfl (by first | omega | (simp; done) | (simp; omega)) (by (simp only [maxLen]); first | omega | (simp; done) | (simp; omega)) ?_ rfl; intro v62 w270 x271 S; have B := B.trans x271; refine t_y fb_path_0 rfl rfl ?_ rfl; obtain ⟨Av62, cv62, rfl, _⟩ := S.sl.form; have S := S.f3; refine t_st1 S sb_s_part rfl rfl rfl rfl rfl ?_; intro w272 b273 S; have B := B.trans b273; refine t_d' ?_
         have S := S.f3.tail.f13.f13.f13.f13.f13.f7.f13.f13.f13.f13.f13.f13.f12.f13; refine x_cut (X := Path × Value) ([] ++ [makePart s20 y59 0], .slice Av62 (([]) ++ [makePart s20 y59 0]).length cv62) ?_ ?_; rotate_left
         ·exact ⟨rfl, rfl, rfl, rfl, rfl, rfl, rfl, rfl, trivial⟩
         (try dsimp only)
         have hy : 1 ≤ y59 ∧ y59 ≤ 4 := by simp at hf59; omega
         exact ⟨⟨by simp, PathK.two (by simp) (PathK.one hf20 hy.1 hy.2)⟩, B, S⟩
      ·refine t_b S.t4.t4.box ab_seg sb_seg rfl rfl ?_ rfl; refine t_alt ?_ ?_
       ·refine t_bx1 S.tail.tail.box ab_s_part rfl rfl ?_ rfl; refine t_lit (T := intT) (l := [2, 3]) (css := ([2, 3]).map fun a => [I a]) int_flat S (fun w => bs_int2 _ _ w) rfl rfl rfl rfl (by simp [maxLen]) (litR_int _) ?_ rfl rfl; intro u58 w274 x275 S; have B := bx Hb B x275; have S := S.f1; refine t_f Tryz.call77 rfl (spec_l1Int S (K.below B) (by simp)) ?_ rfl; rintro e w276 ⟨y59, rfl, hf59, S, x277⟩; refine ⟨_, rfl, ?_⟩; have B := B.trans x277; refine t_c Tryz.call107 rfl (spec_MakePart s20 _ _ _ _ (seg_mkv (S.t4.t4.sl)) (by omega)) ?_ rfl rfl; rintro e w278 ⟨cs60, fp60, rfl, hO60, x279⟩; refine ⟨_, rfl, x279, ?_⟩; have S := S.add (o := tyO partT _ _) x279 hO60; have B := bx Hb B x279; obtain ⟨u60_3, rfl, S2⟩ := S.partOpen; have S := S2; refine t_lit1 (fun w => bs_part1 _ _ _ _ w) rfl ?_ rfl rfl; intro A61 w280 x281 hA61; have B := bx Hb B x281; have S := S.below x281; have S := S.partShut (x := makePart s20 y59 0); have S := S.f3; refine t_snoc e_part S hA61 rfl rfl rfl (by first | omega | (simp; done) | (simp; omega)) (by (simp only [maxLen]); first | omega | (simp; done) | (simp; omega)) ?_ rfl; intro v62 w282 x283 S; have B := B.trans x283
        refine t_y fb_path_0 rfl rfl ?_ rfl; obtain ⟨Av62, cv62, rfl, _⟩ := S.sl.form; have S := S.f3; refine t_st1 S sb_s_part rfl rfl rfl rfl rfl ?_; intro w284 b285 S; have B := B.trans b285; refine t_d' ?_; have S := S.f3.tail.f13.f13.f13.f13.f13.f7.f13.f13.f13.f13.f13.f13.f12.f13; refine x_cut (X := Path × Value) ([] ++ [makePart s20 y59 0], .slice Av62 (([]) ++ [makePart s20 y59 0]).length cv62) ?_ ?_; rotate_left
        ·exact ⟨rfl, rfl, rfl, rfl, rfl, rfl, rfl, rfl, trivial⟩
        (try dsimp only)
        have hy : 1 ≤ y59 ∧ y59 ≤ 4 := by simp at hf59; omega
        exact ⟨⟨by simp, PathK.two (by simp) (PathK.one hf20 hy.1 hy.2)⟩, B, S⟩
       ·refine t_lit (T := intT) (l := [2, 3]) (css := ([2, 3]).map fun a => [I a]) int_flat S (fun w => bs_int2 _ _ w) rfl rfl rfl rfl (by simp [maxLen]) (litR_int _) ?_ rfl rfl; intro u58 w286 x287 S; have B := bx Hb B x287; refine t_alt ?_ ?_
        ·refine t_bx1 S.tail.tail.tail.box ab_s_part rfl rfl ?_ rfl; have S := S.f1; refine t_f Tryz.call77 rfl (spec_l1Int S (K.below B) (by simp)) ?_ rfl; rintro e w288 ⟨y59, rfl, hf59, S, x289⟩; refine ⟨_, rfl, ?_⟩; have B := B.trans x289; refine t_c Tryz.call107 rfl (spec_MakePart s20 _ _ _ _ (seg_mkv (S.t4.t4.sl)) (by omega)) ?_ rfl rfl; rintro e w290 ⟨cs60, fp60, rfl, hO60, x291⟩; refine ⟨_, rfl, x291, ?_⟩; have S := S.add (o := tyO partT _ _) x291 hO60; have B := bx Hb B x291; obtain ⟨u60_3, rfl, S2⟩ := S.partOpen; have S := S2; refine t_lit1 (fun w => bs_part1 _ _ _ _ w) rfl ?_ rfl rfl; intro A61 w292 x293 hA61; have B := bx Hb B x293; have S := S.below x293; have S := S.partShut (x := makePart s20 y59 0); have S := S.f3; refine t_snoc e_part S hA61 rfl rfl rfl (by first | omega | (simp; done) | (simp; omega)) (by (simp only [maxLen]); first | omega | (simp; done) | (simp; omega)) ?_ rfl; intro v62 w294 x295 S; have B := B.trans x295; refine t_y fb_path_0 rfl rfl ?_ rfl; obtain ⟨Av62, cv62, rfl, _⟩ := S.sl.form; have S := S.f3; refine t_st1 S sb_s_part rfl rfl rfl rfl rfl ?_; intro w296 b297 S; have B := B.trans b297; refine t_d' ?_
         have S := S.f3.tail.f13.f13.f13.f13.f13.f7.f13.f13.f13.f13.f13.f13.f12.f13; refine x_cut (X := Path × Value) ([] ++ [makePart s20 y59 0], .slice Av62 (([]) ++ [makePart s20 y59 0]).length cv62) ?_ ?_; rotate_left
         ·exact ⟨rfl, rfl, rfl, rfl, rfl, rfl, rfl, rfl, trivial⟩
         (try dsimp only)
         have hy : 1 ≤ y59 ∧ y59 ≤ 4 := by simp at hf59; omega
         exact ⟨⟨by simp, PathK.two (by simp) (PathK.one hf20 hy.1 hy.2)⟩, B, S⟩
        ·have S := S.f1; refine t_f Tryz.call77 rfl (spec_l1Int S (K.below B) (by simp)) ?_ rfl; rintro e w298 ⟨y59, rfl, hf59, S, x299⟩; refine ⟨_, rfl, ?_⟩; have B := B.trans x299; refine t_alt ?_ ?_
         ·refine t_bx1 S.tail.tail.tail.box ab_s_part rfl rfl ?_ rfl; refine t_c Tryz.call107 rfl (spec_MakePart s20 _ _ _ _ (seg_mkv (S.t4.t4.sl)) (by omega)) ?_ rfl rfl; rintro e w300 ⟨cs60, fp60, rfl, hO60, x301⟩; refine ⟨_, rfl, x301, ?_⟩; have S := S.add (o := tyO partT _ _) x301 hO60; have B := bx Hb B x301; obtain ⟨u60_3, rfl, S2⟩ := S.partOpen; have S := S2; refine t_lit1 (fun w => bs_part1 _ _ _ _ w) rfl ?_ rfl rfl; intro A61 w302 x303 hA61; have B := bx Hb B x303; have S := S.below x303; have S := S.partShut (x := makePart s20 y59 0); have S := S.f3; refine t_snoc e_part S hA61 rfl rfl rfl (by first | omega | (simp; done) | (simp; omega)) (by (simp only [maxLen]); first | omega | (simp; done) | (simp; omega)) ?_ rfl; intro v62 w304 x305 S; have B := B.trans x305; refine t_y fb_path_0 rfl rfl ?_ rfl; obtain ⟨Av62, cv62, rfl, _⟩ := S.sl.form; have S := S.f3; refine t_st1 S sb_s_part rfl rfl rfl rfl rfl ?_; intro w306 b307 S; have B := B.trans b307; refine t_d' ?_; have S := S.f3.tail.f13.f13.f13.f13.f13.f7.f13.f13.f13.f13.f13.f13.f12.f13; refine x_cut (X := Path × Value) ([] ++ [makePart s20 y59 0], .slice Av62 (([]) ++ [makePart s20 y59 0]).length cv62) ?_ ?_; rotate_left
          ·exact ⟨rfl, rfl, rfl, rfl, rfl, rfl, rfl, rfl, trivial⟩
          (try dsimp only)
          have hy : 1 ≤ y59 ∧ y59 ≤ 4 := by simp at hf59; omega
          exact ⟨⟨by simp, PathK.two (by simp) (PathK.one hf20 hy.1 hy.2)⟩, B, S⟩
         ·refine t_c Tryz.call107 rfl (spec_MakePart s20 _ _ _ _ (seg_mkv (S.t4.t4.sl)) (by omega)) ?_ rfl rfl; rintro e w308 ⟨cs60, fp60, rfl, hO60, x309⟩; refine ⟨_, rfl, x309, ?_⟩; have S := S.add (o := tyO partT _ _) x309 hO60; have B := bx Hb B x309; obtain ⟨u60_3, rfl, S2⟩ := S.partOpen; have S := S2; refine t_alt ?_ ?_
          ·refine t_bx1 S.t4.box ab_s_part rfl rfl ?_ rfl; refine t_lit1 (fun w => bs_part1 _ _ _ _ w) rfl ?_ rfl rfl; intro A61 w310 x311 hA61; have B := bx Hb B x311; have S := S.below x311; have S := S.partShut (x := makePart s20 y59 0); have S := S.f3; refine t_snoc e_part S hA61 rfl rfl rfl (by first | omega | (simp; done) | (simp; omega)) (by (simp only [maxLen]); first | omega | (simp; done) | (simp; omega)) ?_ rfl; intro v62 w312 x313 S; have B := B.trans x313; refine t_y fb_path_0 rfl rfl ?_ rfl; obtain ⟨Av62, cv62, rfl, _⟩ := S.sl.form; have S := S.f3; refine t_st1 S sb_s_part rfl rfl rfl rfl rfl ?_; intro w314 b315 S; have B := B.trans b315; refine t_d' ?_; have S := S.f3.tail.f13.f13.f13.f13.f13.f7.f13.f13.f13.f13.f13.f13.f12.f13; refine x_cut (X := Path × Value) ([] ++ [makePart s20 y59 0], .slice Av62 (([]) ++ [makePart s20 y59 0]).length cv62) ?_ ?_; rotate_left
           ·exact ⟨rfl, rfl, rfl, rfl, rfl, rfl, rfl, rfl, trivial⟩
           (try dsimp only)
           have hy : 1 ≤ y59 ∧ y59 ≤ 4 := by simp at hf59; omega
           exact ⟨⟨by simp, PathK.two (by simp) (PathK.one hf20 hy.1 hy.2)⟩, B, S⟩
          ·refine t_lit1 (fun w => bs_part1 _ _ _ _ w) rfl ?_ rfl rfl; intro A61 w316 x317 hA61; have B := bx Hb B x317; have S := S.below x317; refine t_bx1 S.t4.box ab_s_part rfl rfl ?_ rfl; have S := S.partShut (x := makePart s20 y59 0); have S := S.f3; refine t_snoc e_part S hA61 rfl rfl rfl (by first | omega | (simp; done) | (simp; omega)) (by (simp only [maxLen]); first | omega | (simp; done) | (simp; omega)) ?_ rfl; intro v62 w318 x319 S; have B := B.trans x319; refine t_y fb_path_0 rfl rfl ?_ rfl; obtain ⟨Av62, cv62, rfl, _⟩ := S.sl.form; have S := S.f3; refine t_st1 S sb_s_part rfl rfl rfl rfl rfl ?_; intro w320 b321 S; have B := B.trans b321; refine t_d' ?_; have S := S.f3.tail.f13.f13.f13.f13.f13.f7.f13.f13.f13.f13.f13.f13.f12.f13; refine x_cut (X := Path × Value) ([] ++ [makePart s20 y59 0], .slice Av62 (([]) ++ [makePart s20 y59 0]).length cv62) ?_ ?_; rotate_left
           ·exact ⟨rfl, rfl, rfl, rfl, rfl, rfl, rfl, rfl, trivial⟩
           (try dsimp only)
           have hy : 1 ≤ y59 ∧ y59 ≤ 4 := by simp at hf59; omega
           exact ⟨⟨by simp, PathK.two (by simp) (PathK.one hf20 hy.1 hy.2)⟩, B, S⟩
      ·refine t_lit (T := intT) (l := [2, 3]) (css := ([2, 3]).map fun a => [I a]) int_flat S (fun w => bs_int2 _ _ w) rfl rfl rfl rfl (by simp [maxLen]) (litR_int _) ?_ rfl rfl; intro u58 w322 x323 S; have B := bx Hb B x323; refine t_alt ?_ (t_alt ?_ ?_)
       ·refine t_bx1 S.tail.tail.tail.box ab_s_part rfl rfl ?_ rfl; refine t_alt ?_ ?_
        ·refine t_b S.t4.t4.tail.box ab_seg sb_seg rfl rfl ?_ rfl; have S := S.f1; refine t_f Tryz.call77 rfl (spec_l1Int S (K.below B) (by simp)) ?_ rfl; rintro e w324 ⟨y59, rfl, hf59, S, x325⟩; refine ⟨_, rfl, ?_⟩; have B := B.trans x325; refine t_c Tryz.call107 rfl (spec_MakePart s20 _ _ _ _ (seg_mkv (S.t4.t4.sl)) (by omega)) ?_ rfl rfl; rintro e w326 ⟨cs60, fp60, rfl, hO60, x327⟩; refine ⟨_, rfl, x327, ?_⟩; have S := S.add (o := tyO partT _ _) x327 hO60; have B := bx Hb B x327; obtain ⟨u60_3, rfl, S2⟩ := S.partOpen; have S := S2; refine t_lit1 (fun w => bs_part1 _ _ _ _ w) rfl ?_ rfl rfl; intro A61 w328 x329 hA61; have B := bx Hb B x329; have S := S.below x329; have S := S.partShut (x := makePart s20 y59 0); have S := S.f3; refine t_snoc e_part S hA61 rfl rfl rfl (by first | omega | (simp; done) | (simp; omega)) (by (simp only [maxLen]); first | omega | (simp; done) | (simp; omega)) ?_ rfl; intro v62 w330 x331 S; have B := B.trans x331; refine t_y fb_path_0 rfl rfl ?_ rfl; obtain ⟨Av62, cv62, rfl, _⟩ := S.sl.form; have S := S.f3; refine t_st1 S sb_s_part rfl rfl rfl rfl rfl ?_; intro w332 b333 S; have B := B.trans b333; refine t_d' ?_
         have S := S.f3.tail.f13.f13.f13.f13.f13.f7.f13.f13.f13.f13.f13.f13.f12.f13; refine x_cut (X := Path × Value) ([] ++ [makePart s20 y59 0], .slice Av62 (([]) ++ [makePart s20 y59 0]).length cv62) ?_ ?_; rotate_left
         ·exact ⟨rfl, rfl, rfl, rfl, rfl, rfl, rfl, rfl, trivial⟩
         (try dsimp only)
         have hy : 1 ≤ y59 ∧ y59 ≤ 4 := by simp at hf59; omega
         exact ⟨⟨by simp, PathK.two (by simp) (PathK.one hf20 hy.1 hy.2)⟩, B, S⟩
        ·have S := S.f1; refine t_f Tryz.call77 rfl (spec_l1Int S (K.below B) (by simp)) ?_ rfl; rintro e w334 ⟨y59, rfl, hf59, S, x335⟩; refine ⟨_, rfl, ?_⟩; have B := B.trans x335; refine t_b S.t4.t4.tail.box ab_seg sb_seg rfl rfl ?_ rfl; refine t_c Tryz.call107 rfl (spec_MakePart s20 _ _ _ _ (seg_mkv (S.t4.t4.sl)) (by omega)) ?_ rfl rfl; rintro e w336 ⟨cs60, fp60, rfl, hO60, x337⟩; refine ⟨_, rfl, x337, ?_⟩; have S := S.add (o := tyO partT _ _) x337 hO60; have B := bx Hb B x337; obtain ⟨u60_3, rfl, S2⟩ := S.partOpen; have S := S2; refine t_lit1 (fun w => bs_part1 _ _ _ _ w) rfl ?_ rfl rfl; intro A61 w338 x339 hA61; have B := bx Hb B x339; have S := S.below x339; have S := S.partShut (x := makePart s20 y59 0); have S := S.f3; refine t_snoc e_part S hA61 rfl rfl rfl (by first | omega | (simp; done) | (simp; omega)) (by (simp only [maxLen]); first | omega | (simp; done) | (simp; omega)) ?_ rfl; intro v62 w340 x341 S; have B := B.trans x341; refine t_y fb_path_0 rfl rfl ?_ rfl; obtain ⟨Av62, cv62, rfl, _⟩ := S.sl.form; have S := S.f3; refine t_st1 S sb_s_part rfl rfl rfl rfl rfl ?_; intro w342 b343 S; have B := B.trans b343; refine t_d' ?_
         have S := S.f3.tail.f13.f13.f13.f13.f13.f7.f13.f13.f13.f13.f13.f13.f12.f13; refine x_cut (X := Path × Value) ([] ++ [makePart s20 y59 0], .slice Av62 (([]) ++ [makePart s20 y59 0]).length cv62) ?_ ?_; rotate_left
         ·exact ⟨rfl, rfl, rfl, rfl, rfl, rfl, rfl, rfl, trivial⟩
         (try dsimp only)
         have hy : 1 ≤ y59 ∧ y59 ≤ 4 := by simp at hf59; omega
         exact ⟨⟨by simp, PathK.two (by simp) (PathK.one hf20 hy.1 hy.2)⟩, B, S⟩
       ·refine t_b S.t4.t4.tail.box ab_seg sb_seg rfl rfl ?_ rfl; refine t_alt ?_ ?_
        ·refine t_bx1 S.tail.tail.tail.box ab_s_part rfl rfl ?_ rfl; have S := S.f1; refine t_f Tryz.call77 rfl (spec_l1Int S (K.below B) (by simp)) ?_ rfl; rintro e w344 ⟨y59, rfl, hf59, S, x345⟩; refine ⟨_, rfl, ?_⟩; have B := B.trans x345; refine t_c Tryz.call107 rfl (spec_MakePart s20 _ _ _ _ (seg_mkv (S.t4.t4.sl)) (by omega)) ?_ rfl rfl; rintro e w346 ⟨cs60, fp60, rfl, hO60, x347⟩; refine ⟨_, rfl, x347, ?_⟩; have S := S.add (o := tyO partT _ _) x347 hO60; have B := bx Hb B x347; obtain ⟨u60_3, rfl, S2⟩ := S.partOpen; have S := S2; refine t_lit1 (fun w => bs_part1 _ _ _ _ w) rfl ?_ rfl rfl; intro A61 w348 x349 hA61; have B := bx Hb B x349; have S := S.below x349; have S := S.partShut (x := makePart s20 y59 0); have S := S.f3; refine t_snoc e_part S hA61 rfl rfl rfl (by first | omega | (simp; done) | (simp; omega)) (by (simp only [maxLen]); first | omega | (simp; done) | (simp; omega)) ?_ rfl; intro v62 w350 x351 S; have B := B.trans x351; refine t_y fb_path_0 rfl rfl ?_ rfl; obtain ⟨Av62, cv62, rfl, _⟩ := S.sl.form; have S := S.f3; refine t_st1 S sb_s_part rfl rfl rfl rfl rfl ?_; intro w352 b353 S; have B := B.trans b353; refine t_d' ?_
         have S := S.f3.tail.f13.f13.f13.f13.f13.f7.f13.f13.f13.f13.f13.f13.f12.f13; refine x_cut (X := Path × Value) ([] ++ [makePart s20 y59 0], .slice Av62 (([]) ++ [makePart s20 y59 0]).length cv62) ?_ ?_; rotate_left
         ·exact ⟨rfl, rfl, rfl, rfl, rfl, rfl, rfl, rfl, trivial⟩
         (try dsimp only)
         have hy : 1 ≤ y59 ∧ y59 ≤ 4 := by simp at hf59; omega
         exact ⟨⟨by simp, PathK.two (by simp) (PathK.one hf20 hy.1 hy.2)⟩, B, S⟩
        ·have S := S.f1; refine t_f Tryz.call77 rfl (spec_l1Int S (K.below B) (by simp)) ?_ rfl; rintro e w354 ⟨y59, rfl, hf59, S, x355⟩; refine ⟨_, rfl, ?_⟩; have B := B.trans x355; refine t_alt ?_ ?_
         ·refine t_bx1 S.tail.tail.tail.box ab_s_part rfl rfl ?_ rfl; refine t_c Tryz.call107 rfl (spec_MakePart s20 _ _ _ _ (seg_mkv (S.t4.t4.sl)) (by omega)) ?_ rfl rfl; rintro e w356 ⟨cs60, fp60, rfl, hO60, x357⟩; refine ⟨_, rfl, x357, ?_⟩; have S := S.add (o := tyO partT _ _) x357 hO60; have B := bx Hb B x357; obtain ⟨u60_3, rfl, S2⟩ := S.partOpen; have S := S2; refine t_lit1 (fun w => bs_part1 _ _ _ _ w) rfl ?_ rfl rfl; intro A61 w358 x359 hA61; have B := bx Hb B x359; have S := S.below x359; have S := S.partShut (x := makePart s20 y59 0); have S := S.f3; refine t_snoc e_part S hA61 rfl rfl rfl (by first | omega | (simp; done) | (simp; omega)) (by (simp only [maxLen]); first | omega | (simp; done) | (simp; omega)) ?_ rfl; intro v62 w360 x361 S; have B := B.trans x361; refine t_y fb_path_0 rfl rfl ?_ rfl; obtain ⟨Av62, cv62, rfl, _⟩ := S.sl.form; have S := S.f3; refine t_st1 S sb_s_part rfl rfl rfl rfl rfl ?_; intro w362 b363 S; have B := B.trans b363; refine t_d' ?_; have S := S.f3.tail.f13.f13.f13.f13.f13.f7.f13.f13.f13.f13.f13.f13.f12.f13; refine x_cut (X := Path × Value) ([] ++ [makePart s20 y59 0], .slice Av62 (([]) ++ [makePart s20 y59 0]).length cv62) ?_ ?_; rotate_left
          ·exact ⟨rfl, rfl, rfl, rfl, rfl, rfl, rfl, rfl, trivial⟩
          (try dsimp only)
          have hy : 1 ≤ y59 ∧ y59 ≤ 4 := by simp at hf59; omega
          exact ⟨⟨by simp, PathK.two (by simp) (PathK.one hf20 hy.1 hy.2)⟩, B, S⟩
         ·refine t_c Tryz.call107 rfl (spec_MakePart s20 _ _ _ _ (seg_mkv (S.t4.t4.sl)) (by omega)) ?_ rfl rfl; rintro e w364 ⟨cs60, fp60, rfl, hO60, x365⟩; refine ⟨_, rfl, x365, ?_⟩; have S := S.add (o := tyO partT _ _) x365 hO60; have B := bx Hb B x365; obtain ⟨u60_3, rfl, S2⟩ := S.partOpen; have S := S2; refine t_alt ?_ ?_
          ·refine t_bx1 S.t4.box ab_s_part rfl rfl ?_ rfl; refine t_lit1 (fun w => bs_part1 _ _ _ _ w) rfl ?_ rfl rfl; intro A61 w366 x367 hA61; have B := bx Hb B x367; have S := S.below x367; have S := S.partShut (x := makePart s20 y59 0); have S := S.f3; refine t_snoc e_part S hA61 rfl rfl rfl (by first | omega | (simp; done) | (simp; omega)) (by (simp only [maxLen]); first | omega | (simp; done) | (simp; omega)) ?_ rfl; intro v62 w368 x369 S; have B := B.trans x369; refine t_y fb_path_0 rfl rfl ?_ rfl; obtain ⟨Av62, cv62, rfl, _⟩ := S.sl.form; have S := S.f3; refine t_st1 S sb_s_part rfl rfl rfl rfl rfl ?_; intro w370 b371 S; have B := B.trans b371; refine t_d' ?_; have S := S.f3.tail.f13.f13.f13.f13.f13.f7.f13.f13.f13.f13.f13.f13.f12.f13; refine x_cut (X := Path × Value) ([] ++ [makePart s20 y59 0], .slice Av62 (([]) ++ [makePart s20 y59 0]).length cv62) ?_ ?_; rotate_left
           ·exact ⟨rfl, rfl, rfl, rfl, rfl, rfl, rfl, rfl, trivial⟩
           (try dsimp only)
           have hy : 1 ≤ y59 ∧ y59 ≤ 4 := by simp at hf59; omega
           exact ⟨⟨by simp, PathK.two (by simp) (PathK.one hf20 hy.1 hy.2)⟩, B, S⟩
          ·refine t_lit1 (fun w => bs_part1 _ _ _ _ w) rfl ?_ rfl rfl; intro A61 w372 x373 hA61; have B := bx Hb B x373; have S := S.below x373; refine t_bx1 S.t4.box ab_s_part rfl rfl ?_ rfl; have S := S.partShut (x := makePart s20 y59 0); have S := S.f3; refine t_snoc e_part S hA61 rfl rfl rfl (by first | omega | (simp; done) | (simp; omega)) (by (simp only [maxLen]); first | omega | (simp; done) | (simp; omega)) ?_ rfl; intro v62 w374 x375 S; have B := B.trans x375; refine t_y fb_path_0 rfl rfl ?_ rfl; obtain ⟨Av62, cv62, rfl, _⟩ := S.sl.form; have S := S.f3; refine t_st1 S sb_s_part rfl rfl rfl rfl rfl ?_; intro w376 b377 S; have B := B.trans b377; refine t_d' ?_; have S := S.f3.tail.f13.f13.f13.f13.f13.f7.f13.f13.f13.f13.f13.f13.f12.f13; refine x_cut (X := Path × Value) ([] ++ [makePart s20 y59 0], .slice Av62 (([]) ++ [makePart s20 y59 0]).length cv62) ?_ ?_; rotate_left
           ·exact ⟨rfl, rfl, rfl, rfl, rfl, rfl, rfl, rfl, trivial⟩
           (try dsimp only)
           have hy : 1 ≤ y59 ∧ y59 ≤ 4 := by simp at hf59; omega
           exact ⟨⟨by simp, PathK.two (by simp) (PathK.one hf20 hy.1 hy.2)⟩, B, S⟩
       ·have S := S.f1; refine t_f Tryz.call77 rfl (spec_l1Int S (K.below B) (by simp)) ?_ rfl; rintro e w378 ⟨y59, rfl, hf59, S, x379⟩; refine ⟨_, rfl, ?_⟩; have B := B.trans x379; refine t_alt ?_ ?_
        ·refine t_bx1 S.tail.tail.tail.box ab_s_part rfl rfl ?_ rfl; refine t_b S.t4.t4.tail.box ab_seg sb_seg rfl rfl ?_ rfl; refine t_c Tryz.call107 rfl (spec_MakePart s20 _ _ _ _ (seg_mkv (S.t4.t4.sl)) (by omega)) ?_ rfl rfl; rintro e w380 ⟨cs60, fp60, rfl, hO60, x381⟩; refine ⟨_, rfl, x381, ?_⟩; have S := S.add (o := tyO partT _ _) x381 hO60; have B := bx Hb B x381; obtain ⟨u60_3, rfl, S2⟩ := S.partOpen; have S := S2; refine t_lit1 (fun w => bs_part1 _ _ _ _ w) rfl ?_ rfl rfl; intro A61 w382 x383 hA61; have B := bx Hb B x383; have S := S.below x383; have S := S.partShut (x := makePart s20 y59 0); have S := S.f3; refine t_snoc e_part S hA61 rfl rfl rfl (by first | omega | (simp; done) | (simp; omega)) (by (simp only [maxLen]); first | omega | (simp; done) | (simp; omega)) ?_ rfl; intro v62 w384 x385 S; have B := B.trans x385; refine t_y fb_path_0 rfl rfl ?_ rfl; obtain ⟨Av62, cv62, rfl, _⟩ := S.sl.form; have S := S.f3; refine t_st1 S sb_s_part rfl rfl rfl rfl rfl ?_; intro w386 b387 S; have B := B.trans b387; refine t_d' ?_; have S := S.f3.tail.f13.f13.f13.f13.f13.f7.f13.f13.f13.f13.f13.f13.f12.f13
         refine x_cut (X := Path × Value) ([] ++ [makePart s20 y59 0], .slice Av62 (([]) ++ [makePart s20 y59 0]).length cv62) ?_ ?_; rotate_left
         ·exact ⟨rfl, rfl, rfl, rfl, rfl, rfl, rfl, rfl, trivial⟩
         (try dsimp only)
         have hy : 1 ≤ y59 ∧ y59 ≤ 4 := by simp at hf59; omega
         exact ⟨⟨by simp, PathK.two (by simp) (PathK.one hf20 hy.1 hy.2)⟩, B, S⟩
        ·refine t_b S.t4.t4.tail.box ab_seg sb_seg rfl rfl ?_ rfl; refine t_alt ?_ ?_
         ·refine t_bx1 S.tail.tail.tail.box ab_s_part rfl rfl ?_ rfl; refine t_c Tryz.call107 rfl (spec_MakePart s20 _ _ _ _ (seg_mkv (S.t4.t4.sl)) (by omega)) ?_ rfl rfl; rintro e w388 ⟨cs60, fp60, rfl, hO60, x389⟩; refine ⟨_, rfl, x389, ?_⟩; have S := S.add (o := tyO partT _ _) x389 hO60; have B := bx Hb B x389; obtain ⟨u60_3, rfl, S2⟩ := S.partOpen; have S := S2; refine t_lit1 (fun w => bs_part1 _ _ _ _ w) rfl ?_ rfl rfl; intro A61 w390 x391 hA61; have B := bx Hb B x391; have S := S.below x391; have S := S.partShut (x := makePart s20 y59 0); have S := S.f3; refine t_snoc e_part S hA61 rfl rfl rfl (by first | omega | (simp; done) | (simp; omega)) (by (simp only [maxLen]); first | omega | (simp; done) | (simp; omega)) ?_ rfl; intro v62 w392 x393 S; have B := B.trans x393; refine t_y fb_path_0 rfl rfl ?_ rfl; obtain ⟨Av62, cv62, rfl, _⟩ := S.sl.form; have S := S.f3; refine t_st1 S sb_s_part rfl rfl rfl rfl rfl ?_; intro w394 b395 S; have B := B.trans b395; refine t_d' ?_; have S := S.f3.tail.f13.f13.f13.f13.f13.f7.f13.f13.f13.f13.f13.f13.f12.f13; refine x_cut (X := Path × Value) ([] ++ [makePart s20 y59 0], .slice Av62 (([]) ++ [makePart s20 y59 0]).length cv62) ?_ ?_; rotate_left
          ·exact ⟨rfl, rfl, rfl, rfl, rfl, rfl, rfl, rfl, trivial⟩
          (try dsimp only)
          have hy : 1 ≤ y59 ∧ y59 ≤ 4 := by simp at hf59; omega
          exact ⟨⟨by simp, PathK.two (by simp) (PathK.one hf20 hy.1 hy.2)⟩, B, S⟩
         ·refine t_c Tryz.call107 rfl (spec_MakePart s20 _ _ _ _ (seg_mkv (S.t4.t4.sl)) (by omega)) ?_ rfl rfl; rintro e w396 ⟨cs60, fp60, rfl, hO60, x397⟩; refine ⟨_, rfl, x397, ?_⟩; have S := S.add (o := tyO partT _ _) x397 hO60; have B := bx Hb B x397; obtain ⟨u60_3, rfl, S2⟩ := S.partOpen; have S := S2; refine t_alt ?_ ?_
          ·refine t_bx1 S.t4.box ab_s_part rfl rfl ?_ rfl; refine t_lit1 (fun w => bs_part1 _ _ _ _ w) rfl ?_ rfl rfl; intro A61 w398 x399 hA61; have B := bx Hb B x399; have S := S.below x399; have S := S.partShut (x := makePart s20 y59 0); have S := S.f3; refine t_snoc e_part S hA61 rfl rfl rfl (by first | omega | (simp; done) | (simp; omega)) (by (simp only [maxLen]); first | omega | (simp; done) | (simp; omega)) ?_ rfl; intro v62 w400 x401 S; have B := B.trans x401; refine t_y fb_path_0 rfl rfl ?_ rfl; obtain ⟨Av62, cv62, rfl, _⟩ := S.sl.form; have S := S.f3; refine t_st1 S sb_s_part rfl rfl rfl rfl rfl ?_; intro w402 b403 S; have B := B.trans b403; refine t_d' ?_; have S := S.f3.tail.f13.f13.f13.f13.f13.f7.f13.f13.f13.f13.f13.f13.f12.f13; refine x_cut (X := Path × Value) ([] ++ [makePart s20 y59 0], .slice Av62 (([]) ++ [makePart s20 y59 0]).length cv62) ?_ ?_; rotate_left
           ·exact ⟨rfl, rfl, rfl, rfl, rfl, rfl, rfl, rfl, trivial⟩
           (try dsimp only)
           have hy : 1 ≤ y59 ∧ y59 ≤ 4 := by simp at hf59; omega
           exact ⟨⟨by simp, PathK.two (by simp) (PathK.one hf20 hy.1 hy.2)⟩, B, S⟩
          ·refine t_lit1 (fun w => bs_part1 _ _ _ _ w) rfl ?_ rfl rfl; intro A61 w404 x405 hA61; have B := bx Hb B x405; have S := S.below x405; refine t_bx1 S.t4.box ab_s_part rfl rfl ?_ rfl; have S := S.partShut (x := makePart s20 y59 0); have S := S.f3; refine t_snoc e_part S hA61 rfl rfl rfl (by first | omega | (simp; done) | (simp; omega)) (by (simp only [maxLen]); first | omega | (simp; done) | (simp; omega)) ?_ rfl; intro v62 w406 x407 S; have B := B.trans x407; refine t_y fb_path_0 rfl rfl ?_ rfl; obtain ⟨Av62, cv62, rfl, _⟩ := S.sl.form; have S := S.f3; refine t_st1 S sb_s_part rfl rfl rfl rfl rfl ?_; intro w408 b409 S; have B := B.trans b409; refine t_d' ?_; have S := S.f3.tail.f13.f13.f13.f13.f13.f7.f13.f13.f13.f13.f13.f13.f12.f13; refine x_cut (X := Path × Value) ([] ++ [makePart s20 y59 0], .slice Av62 (([]) ++ [makePart s20 y59 0]).length cv62) ?_ ?_; rotate_left
           ·exact ⟨rfl, rfl, rfl, rfl, rfl, rfl, rfl, rfl, trivial⟩
           (try dsimp only)
           have hy : 1 ≤ y59 ∧ y59 ≤ 4 := by simp at hf59; omega
           exact ⟨⟨by simp, PathK.two (by simp) (PathK.one hf20 hy.1 hy.2)⟩, B, S⟩
     ·intro hp; refine w_k ?_; have S := S.f13.f13.f13.f13.f13.f5.f13.f13.f13.f13.f13.f13.f13.f13; refine x_cut (X := Path × Value) ([], .slice none 0 0) ?_ ?_; rotate_left
      ·exact ⟨rfl, rfl, rfl, rfl, rfl, rfl, rfl, rfl, trivial⟩
      (try dsimp only); exact ⟨⟨by simp, by simp⟩, B, S⟩
    rintro ⟨q, vq⟩ w410 hI; (try dsimp only at hI ⊢); obtain ⟨⟨hq1, hq2⟩, B, S⟩ := hI; refine w_s ?_; refine w_drawP [] (.alt (.st .fin 0 (.alt (.st .fin 1 (.st .fin 2 (.st .fin 3 .done))) (.st .fin 2 (.st .fin 1 (.st .fin 3 .done))))) (.st .fin 1 (.st .fin 0 (.st .fin 2 (.st .fin 3 .done))))) mixed (by kernel_rfl) ?_; intro w411 x412; have B := bx Hb B x412; have S := S.below x412; refine t_alt ?_ ?_
    ·refine t_b S.t4.t4.tail.tail.tail.box ab_topo sb_topo rfl rfl ?_ rfl; refine t_alt ?_ ?_
     ·refine t_b S.tail.box ab_path sb_path rfl rfl ?_ rfl; have S := S.f13; refine t_stn S sb_topo rfl rfl rfl rfl (by repeat first | exact oc0 | refine oc rfl ?_ | refine oc (SlR.cells (S.t4.t4.tail.tail.sl)).2 ?_ | refine oc (SlR.cells (S.t4.t4.tail.tail.tail.sl)).2 ?_) ?_; intro w413 b414 S; have B := B.trans b414; have S := S.f13; refine t_stn S sb_path rfl rfl rfl rfl (by repeat first | exact oc0 | refine oc rfl ?_ | refine oc (SlR.cells (S.tail.tail.sl)).2 ?_) ?_; intro w415 b416 S; have B := B.trans b416; refine t_e' ?_; refine w_r ?_; refine x_block_ret ?_; refine x_t ?_; refine x_retcc rfl rfl S.tail.box ab_topo sb_topo rfl rfl S.box ab_path sb_path rfl ?_; have S := S.tail.tail.f1.tail.f1.tail.f1.tail.f1.tail.f1.tail.f1.tail.f1.tail.f4.tail.f1.f3.f3.f3; exact ⟨_, _, _, _, _, q, rfl, ⟨T, by omega, hq2⟩, S, B⟩
     ·have S := S.f13; refine t_stn S sb_topo rfl rfl rfl rfl (by repeat first | exact oc0 | refine oc rfl ?_ | refine oc (SlR.cells (S.t4.t4.tail.tail.sl)).2 ?_ | refine oc (SlR.cells (S.t4.t4.tail.tail.tail.sl)).2 ?_) ?_; intro w417 b418 S; have B := B.trans b418; refine t_b S.tail.tail.box ab_path sb_path rfl rfl ?_ rfl; have S := S.f13; refine t_stn S sb_path rfl rfl rfl rfl (by repeat first | exact oc0 | refine oc rfl ?_ | refine oc (SlR.cells (S.tail.tail.sl)).2 ?_) ?_; intro w419 b420 S; have B := B.trans b420; refine t_e' ?_; refine w_r ?_; refine x_block_ret ?_; refine x_t ?_; refine x_retcc rfl rfl S.tail.box ab_topo sb_topo rfl rfl S.box ab_path sb_path rfl ?_; have S := S.tail.tail.f1.tail.f1.tail.f1.tail.f1.tail.f1.tail.f1.tail.f1.tail.f4.tail.f1.f3.f3.f3; exact ⟨_, _, _, _, _, q, rfl, ⟨T, by omega, hq2⟩, S, B⟩
    ·refine t_b S.tail.box ab_path sb_path rfl rfl ?_ rfl; refine t_b S.t4.t4.tail.tail.tail.box ab_topo sb_topo rfl rfl ?_ rfl; have S := S.f13; refine t_stn S sb_topo rfl rfl rfl rfl (by repeat first | exact oc0 | refine oc rfl ?_ | refine oc (SlR.cells (S.t4.t4.tail.tail.sl)).2 ?_ | refine oc (SlR.cells (S.t4.t4.tail.tail.tail.sl)).2 ?_) ?_; intro w421 b422 S; have B := B.trans b422; have S := S.f13; refine t_stn S sb_path rfl rfl rfl rfl (by repeat first | exact oc0 | refine oc rfl ?_ | refine oc (SlR.cells (S.tail.tail.sl)).2 ?_) ?_; intro w423 b424 S; have B := B.trans b424; refine t_e' ?_; refine w_r ?_; refine x_block_ret ?_; refine x_t ?_; refine x_retcc rfl rfl S.tail.box ab_topo sb_topo rfl rfl S.box ab_path sb_path rfl ?_; have S := S.tail.tail.f1.tail.f1.tail.f1.tail.f1.tail.f1.tail.f1.tail.f1.tail.f4.tail.f1.f3.f3.f3; exact ⟨_, _, _, _, _, q, rfl, ⟨T, by omega, hq2⟩, S, B⟩
   ·intro h2; refine w_k ?_; refine x_b ?_; refine x_s ?_; refine w_s ?_; refine w_cut (X := Seg × Value × Seg × Value) (fun x wq => (fun su vu sd vd => SegK ⟨A11, L11⟩ su ∧ SegK ⟨A11, L11⟩ sd ∧ Below b w wq ∧ Sep b wq (slO partT 85 (.slice none 0 0) [] :: bxO g8 38 #[(.slice none 0 0)] :: slO hopT 87 vu su.hops :: bxO g5 67 #[I su.ts, I su.beta, vu] :: slO hopT 87 vd sd.hops :: bxO g6 67 #[I sd.ts, I sd.beta, vd] :: slO hopT 87 vh20 s20.hops :: bxO g7 67 #[I s20.ts, I s20.beta, vh20] :: curO v n c 123 :: slO asnT 117 va11 A11 :: slO linkT 90 vl11 L11 :: bxO g4 27 #[va11, vl11] :: bxO g3 38 #[.slice none 0 0] :: bxO g2 27 #[.slice none 0 0, .slice none 0 0] :: os)) x.1 x.2.1 x.2.2.1 x.2.2.2) (fun x => (fun su vu sd vd => [(2, .pointer (some ⟨g2, 0, none⟩)), (3, .pointer (some ⟨g3, 0, none⟩)), (4, .pointer (some ⟨g4, 0, none⟩)), (5, .pointer (some ⟨g5, 0, none⟩)), (6, .pointer (some ⟨g6, 0, none⟩)), (7, .pointer (some ⟨g7, 0, none⟩)), (8, .pointer (some ⟨g8, 0, none⟩))]) x.1 x.2.1 x.2.2.1 x.2.2.2) ?_ ?_
    ·refine w_s ?_; refine w_g ?_; refine t_a rfl ?_ rfl; refine t_e ?_; refine w_block ?_; have S := S.f13.f13.f13.f13.f13.f5.f13.f13.f13.f13.f13.f13.f13.f13
     refine w_loop (X := Nat × Seg × Value × Seg × Value) (fun x wq => (fun k su vu sd vd => k ≤ 6 ∧ SegK ⟨A11, L11⟩ su ∧ SegK ⟨A11, L11⟩ sd ∧ Below b w wq ∧ Sep b wq (slO partT 85 (.slice none 0 0) [] :: bxO g8 38 #[(.slice none 0 0)] :: slO hopT 87 vu su.hops :: bxO g5 67 #[I su.ts, I su.beta, vu] :: slO hopT 87 vd sd.hops :: bxO g6 67 #[I sd.ts, I sd.beta, vd] :: slO hopT 87 vh20 s20.hops :: bxO g7 67 #[I s20.ts, I s20.beta, vh20] :: curO v n c 123 :: slO asnT 117 va11 A11 :: slO linkT 90 vl11 L11 :: bxO g4 27 #[va11, vl11] :: bxO g3 38 #[.slice none 0 0] :: bxO g2 27 #[.slice none 0 0, .slice none 0 0] :: os)) x.1 x.2.1 x.2.2.1 x.2.2.2.1 x.2.2.2.2) (fun x => (fun k su vu sd vd => [(9, I ((k : Int))), (0, .pointer (some ⟨c, 0, none⟩)), (2, .pointer (some ⟨g2, 0, none⟩)), (3, .pointer (some ⟨g3, 0, none⟩)), (4, .pointer (some ⟨g4, 0, none⟩)), (5, .pointer (some ⟨g5, 0, none⟩)), (6, .pointer (some ⟨g6, 0, none⟩)), (7, .pointer (some ⟨g7, 0, none⟩)), (8, .pointer (some ⟨g8, 0, none⟩))]) x.1 x.2.1 x.2.2.1 x.2.2.2.1 x.2.2.2.2) (fun x => (fun k su vu sd vd => 6 - k) x.1 x.2.1 x.2.2.1 x.2.2.2.1 x.2.2.2.2) (0, s14, vh14, s17, vh17) ?_ ⟨rfl, rfl, rfl, rfl, rfl, rfl, rfl, rfl, rfl, trivial⟩ ?_
     ·exact ⟨by omega, hf14, hf17, B, S⟩
     rintro ⟨k, su, vu, sd, vd⟩ w425 hI; (try dsimp only at hI ⊢); obtain ⟨hk, hsu, hsd, B, S⟩ := hI; have hlu := hsu.len; have hld := hsd.len; (iterate 2 refine w_s ?_); refine w_g ?_; refine t_m rfl ?_ rfl; refine t_lss rfl rfl ?_ rfl; refine t_m rfl ?_ rfl; refine t_partp (t := 68) rfl ?_ ?_
     ·intro h3; refine t_on rfl rfl ?_; refine t_y fb_seg_2 rfl rfl ?_ rfl; refine t_on rfl rfl ?_; refine t_bx1 S.t4.tail.tail.tail.box ab_s_hop rfl rfl ?_ rfl; refine t_on rfl rfl ?_; refine t_len e_hop (S.t4.tail.tail.sl) rfl rfl ?_ rfl; refine t_on rfl rfl ?_; refine t_gtr rfl rfl ?_ rfl; refine t_q rfl rfl ?_ rfl; refine t_e ?_; refine w_if rfl ?_ ?_
      ·intro h4; refine w_k ?_; refine x_s ?_; refine w_s ?_; refine w_block ?_; refine w_s ?_; refine w_cut (X := Seg × Value) (fun x wq => (fun su2 vu2 => SegK ⟨A11, L11⟩ su2 ∧ Below b w wq ∧ Sep b wq (slO partT 85 (.slice none 0 0) [] :: bxO g8 38 #[(.slice none 0 0)] :: slO hopT 87 vu2 su2.hops :: bxO g5 67 #[I su2.ts, I su2.beta, vu2] :: slO hopT 87 vd sd.hops :: bxO g6 67 #[I sd.ts, I sd.beta, vd] :: slO hopT 87 vh20 s20.hops :: bxO g7 67 #[I s20.ts, I s20.beta, vh20] :: curO v n c 123 :: slO asnT 117 va11 A11 :: slO linkT 90 vl11 L11 :: bxO g4 27 #[va11, vl11] :: bxO g3 38 #[.slice none 0 0] :: bxO g2 27 #[.slice none 0 0, .slice none 0 0] :: os)) x.1 x.2) (fun x => (fun su2 vu2 => [(9, I ((k : Int))), (0, .pointer (some ⟨c, 0, none⟩)), (2, .pointer (some ⟨g2, 0, none⟩)), (3, .pointer (some ⟨g3, 0, none⟩)), (4, .pointer (some ⟨g4, 0, none⟩)), (5, .pointer (some ⟨g5, 0, none⟩)), (6, .pointer (some ⟨g6, 0, none⟩)), (7, .pointer (some ⟨g7, 0, none⟩)), (8, .pointer (some ⟨g8, 0, none⟩))]) x.1 x.2) ?_ ?_
       ·refine w_s ?_; refine w_draw (.st .take 0 (.st .take 1 (.st .take 2 (.st .take 3 (.st .take 4 (.st .take 5 (.st .take 7 (.st .run 6 (.st .run 8 (.st .take 9 (.st .take 10 .done))))))))))) mixed (by kernel_rfl) ?_; intro w426 x427; have B := bx Hb B x427; have S := S.below x427; refine t_y fb_seg_2 rfl rfl ?_ rfl; refine t_bx1 S.tail.tail.tail.box ab_s_hop rfl rfl ?_ rfl; refine t_len e_hop (S.tail.tail.sl) rfl rfl ?_ rfl; refine t_gtr rfl rfl ?_ rfl; refine t_m rfl ?_ rfl; refine t_partp (t := 80) rfl ?_ ?_
        ·intro hc1; refine t_on rfl rfl ?_; refine t_b S.tail.tail.tail.box ab_seg sb_seg rfl rfl ?_ rfl; refine t_on rfl rfl ?_; refine t_b S.t4.tail.tail.tail.box ab_seg sb_seg rfl rfl ?_ rfl; refine t_on rfl rfl ?_; refine t_x Tryz.call103 rfl (spec_FirstAS su _ _ (seg_mkv (S.tail.tail.sl)) (by omega)) ?_ rfl rfl; intro w428 x429; have B := bx Hb B x429; have S := S.below x429; refine t_on rfl rfl ?_; refine t_x Tryz.call103 rfl (spec_FirstAS s20 _ _ (seg_mkv (S.t4.tail.tail.sl)) (by omega)) ?_ rfl rfl; intro w430 x431; have B := bx Hb B x431; have S := S.below x431; refine t_on rfl rfl ?_; refine t_neq rfl rfl ?_ rfl; refine t_q rfl rfl ?_ rfl; refine t_e' ?_; refine w_if rfl ?_ ?_
         ·intro hc2; refine w_g ?_; refine t_m rfl ?_ rfl; refine t_b S.t4.t4.tail.tail.tail.box ab_topo sb_topo rfl rfl ?_ rfl; have S := S.f10.f10.f10; refine t_f Tryz.call98 rfl (spec_l9Grow 2 T S (K.below B)) ?_ rfl; rintro e w432 ⟨vh89, s89, rfl, hf89, S, x433⟩; refine ⟨_, rfl, ?_⟩; have B := B.trans x433; have S := S.f7; refine t_stn S sb_seg rfl rfl rfl rfl (by repeat first | exact oc0 | refine oc rfl ?_ | refine oc (SlR.cells (S.tail.sl)).2 ?_) ?_; intro w434 b435 S; have B := B.trans b435; refine t_d ?_; have S := S.f7.tail.f13.f13.f13.f7.f7.f7.f13.f13.f13.f13.f10.f11.f13.f13; refine x_cut (X := Seg × Value) (s89, vh89) ?_ ?_; rotate_left
          ·exact ⟨rfl, rfl, rfl, rfl, rfl, rfl, rfl, rfl, rfl, trivial⟩
          (try dsimp only); exact ⟨by assumption, B, S⟩
         ·intro hc3; refine w_k ?_; refine x_cut (X := Seg × Value) (su, vu) ?_ ?_; rotate_left
          ·exact ⟨rfl, rfl, rfl, rfl, rfl, rfl, rfl, rfl, rfl, trivial⟩
          (try dsimp only); exact ⟨by assumption, B, S⟩
        ·intro hc4; (iterate 5 refine t_off rfl rfl rfl ?_ rfl); refine t_p rfl rfl ?_ rfl; refine t_e' ?_; refine w_no rfl ?_; refine w_k ?_; refine x_cut (X := Seg × Value) (su, vu) ?_ ?_; rotate_left
         ·exact ⟨rfl, rfl, rfl, rfl, rfl, rfl, rfl, rfl, rfl, trivial⟩
         (try dsimp only); exact ⟨by assumption, B, S⟩
       rintro ⟨su2, vu2⟩ w436 hI; (try dsimp only at hI ⊢); obtain ⟨hsu2, B, S⟩ := hI; refine w_s ?_; refine w_draw (.st .take 0 (.st .take 1 (.st .take 2 (.st .take 3 (.st .take 4 (.st .take 5 (.st .take 7 (.st .run 6 (.st .run 8 (.st .take 9 (.st .take 10 .done))))))))))) mixed (by kernel_rfl) ?_; intro w437 x438; have B := bx Hb B x438; have S := S.below x438; refine t_y fb_seg_2 rfl rfl ?_ rfl; refine t_bx1 S.t4.tail.box ab_s_hop rfl rfl ?_ rfl; refine t_len e_hop (S.t4.sl) rfl rfl ?_ rfl; refine t_gtr rfl rfl ?_ rfl; refine t_m rfl ?_ rfl; refine t_partp (t := 94) rfl ?_ ?_
       ·intro hc5; refine t_on rfl rfl ?_; refine t_b S.t4.tail.box ab_seg sb_seg rfl rfl ?_ rfl; refine t_on rfl rfl ?_; refine t_b S.t4.tail.tail.tail.box ab_seg sb_seg rfl rfl ?_ rfl; refine t_on rfl rfl ?_; refine t_x Tryz.call103 rfl (spec_FirstAS sd _ _ (seg_mkv (S.t4.sl)) (by omega)) ?_ rfl rfl; intro w439 x440; have B := bx Hb B x440; have S := S.below x440; refine t_on rfl rfl ?_; refine t_x Tryz.call114 rfl (spec_LastAS s20 _ _ (seg_mkv (S.t4.tail.tail.sl)) (by omega)) ?_ rfl rfl; intro w441 x442; have B := bx Hb B x442; have S := S.below x442; refine t_on rfl rfl ?_; refine t_neq rfl rfl ?_ rfl; refine t_q rfl rfl ?_ rfl; refine t_e' ?_; refine w_if rfl ?_ ?_
        ·intro hc6; refine w_g ?_; refine t_m rfl ?_ rfl; refine t_b S.t4.t4.tail.tail.tail.box ab_topo sb_topo rfl rfl ?_ rfl; have S := S.f10.f10.f10; refine t_f Tryz.call98 rfl (spec_l9Grow 2 T S (K.below B)) ?_ rfl; rintro e w443 ⟨vh103, s103, rfl, hf103, S, x444⟩; refine ⟨_, rfl, ?_⟩; have B := B.trans x444; have S := S.f9; refine t_stn S sb_seg rfl rfl rfl rfl (by repeat first | exact oc0 | refine oc rfl ?_ | refine oc (SlR.cells (S.tail.sl)).2 ?_) ?_; intro w445 b446 S; have B := B.trans b446; refine t_d ?_; refine x_b ?_; refine x_s ?_; refine w_g ?_; refine t_m rfl ?_ rfl; refine t_add rfl rfl (by omega) ?_ rfl; refine t_a rfl ?_ rfl; refine t_d ?_; have S := S.f9.tail.f13.f13.f13.f7.f7.f7.f13.f13.f8.f9.f13.f13.f13.f13; refine x_r (X := Nat × Seg × Value × Seg × Value) (k + 1, su2, vu2, s103, vh103) ?_ (by exact ⟨rfl, rfl, rfl, rfl, rfl, rfl, rfl, rfl, rfl, trivial⟩) (by (try dsimp only); omega); (try dsimp only); exact ⟨by omega, by assumption, by assumption, B, S⟩
        ·intro hc7; refine w_k ?_; refine x_b ?_; refine x_s ?_; refine w_g ?_; refine t_m rfl ?_ rfl; refine t_add rfl rfl (by omega) ?_ rfl; refine t_a rfl ?_ rfl; refine t_d ?_; refine x_r (X := Nat × Seg × Value × Seg × Value) (k + 1, su2, vu2, sd, vd) ?_ (by exact ⟨rfl, rfl, rfl, rfl, rfl, rfl, rfl, rfl, rfl, trivial⟩) (by (try dsimp only); omega); (try dsimp only); exact ⟨by omega, by assumption, by assumption, B, S⟩
       ·intro hc8; (iterate 5 refine t_off rfl rfl rfl ?_ rfl); refine t_p rfl rfl ?_ rfl; refine t_e' ?_; refine w_no rfl ?_; refine w_k ?_; refine x_b ?_; refine x_s ?_; refine w_g ?_; refine t_m rfl ?_ rfl; refine t_add rfl rfl (by omega) ?_ rfl; refine t_a rfl ?_ rfl; refine t_d ?_; refine x_r (X := Nat × Seg × Value × Seg × Value) (k + 1, su2, vu2, sd, vd) ?_ (by exact ⟨rfl, rfl, rfl, rfl, rfl, rfl, rfl, rfl, rfl, trivial⟩) (by (try dsimp only); omega); (try dsimp only); exact ⟨by omega, by assumption, by assumption, B, S⟩
      ·intro h4; refine w_exit ?_; (iterate 2 refine x_then_exit ?_); refine x_block_exit ?_; refine x_cut (X := Seg × Value × Seg × Value) (su, vu, sd, vd) ?_ ?_; rotate_left
       ·exact ⟨rfl, rfl, rfl, rfl, rfl, rfl, rfl, trivial⟩
       (try dsimp only); exact ⟨hsu, hsd, B, S⟩
     ·intro h3; (iterate 4 refine t_off rfl rfl rfl ?_ rfl); refine t_p rfl rfl ?_ rfl; refine t_e ?_; refine w_no rfl ?_; refine w_exit ?_; (iterate 2 refine x_then_exit ?_); refine x_block_exit ?_; refine x_cut (X := Seg × Value × Seg × Value) (su, vu, sd, vd) ?_ ?_; rotate_left
      ·exact ⟨rfl, rfl, rfl, rfl, rfl, rfl, rfl, trivial⟩
      (try dsimp only); exact ⟨hsu, hsd, B, S⟩
    rintro ⟨su, vu, sd, vd⟩ w447 hI; (try dsimp only at hI ⊢); obtain ⟨hsu, hsd, B, S⟩ := hI; have hlu := hsu.len; have hld := hsd.len; refine w_s ?_; refine w_cut (X := Path × Value) (fun x wq => (fun q1 vq1 => (List.length q1 ≤ 1 ∧ ∀ x ∈ q1, PartK ⟨A11, L11⟩ x) ∧ Below b w wq ∧ Sep b wq (slO partT 85 vq1 q1 :: bxO g8 38 #[vq1] :: slO hopT 87 vu su.hops :: bxO g5 67 #[I su.ts, I su.beta, vu] :: slO hopT 87 vd sd.hops :: bxO g6 67 #[I sd.ts, I sd.beta, vd] :: slO hopT 87 vh20 s20.hops :: bxO g7 67 #[I s20.ts, I s20.beta, vh20] :: curO v n c 123 :: slO asnT 117 va11 A11 :: slO linkT 90 vl11 L11 :: bxO g4 27 #[va11, vl11] :: bxO g3 38 #[.slice none 0 0] :: bxO g2 27 #[.slice none 0 0, .slice none 0 0] :: os)) x.1 x.2) (fun x => (fun q1 vq1 => [(2, .pointer (some ⟨g2, 0, none⟩)), (3, .pointer (some ⟨g3, 0, none⟩)), (4, .pointer (some ⟨g4, 0, none⟩)), (6, .pointer (some ⟨g6, 0, none⟩)), (7, .pointer (some ⟨g7, 0, none⟩)), (8, .pointer (some ⟨g8, 0, none⟩))]) x.1 x.2) ?_ ?_
    ·refine w_s ?_; refine w_g ?_; refine t_y fb_seg_2 rfl rfl ?_ rfl; refine t_bx1 S.tail.tail.tail.box ab_s_hop rfl rfl ?_ rfl; refine t_len e_hop (S.tail.tail.sl) rfl rfl ?_ rfl; refine t_gtr rfl rfl ?_ rfl; refine t_e ?_; refine w_if rfl ?_ ?_
     ·intro hp; refine w_draw (.st .take 0 (.st .take 1 (.st .take 2 (.st .run 3 (.st .run 4 (.st .fin 5 (.st .fin 6 (.st .fin 7 .done)))))))) mixed (by kernel_rfl) ?_; intro w448 x449; have B := bx Hb B x449; have S := S.below x449; refine t_y fb_path_0 rfl rfl ?_ rfl; refine t_bx1 S.tail.box ab_s_part rfl rfl ?_ rfl; refine t_b S.tail.tail.tail.box ab_seg sb_seg rfl rfl ?_ rfl; refine t_c Tryz.call107 rfl (spec_MakePart su _ _ _ _ (seg_mkv (S.tail.tail.sl)) (by omega)) ?_ rfl rfl; rintro e w450 ⟨cs111, fp111, rfl, hO111, x451⟩; refine ⟨_, rfl, x451, ?_⟩; have S := S.add (o := tyO partT _ _) x451 hO111; have B := bx Hb B x451; obtain ⟨u111_3, rfl, S2⟩ := S.partOpen; have S := S2; refine t_lit1 (fun w => bs_part1 _ _ _ _ w) rfl ?_ rfl rfl; intro A112 w452 x453 hA112; have B := bx Hb B x453; have S := S.below x453; have S := S.partShut (x := makePart su 1 0); have S := S.f1; refine t_snoc e_part S hA112 rfl rfl rfl (by first | omega | (simp; done) | (simp; omega)) (by (simp only [maxLen]); first | omega | (simp; done) | (simp; omega)) ?_ rfl; intro v113 w454 x455 S; have B := B.trans x455; refine t_y fb_path_0 rfl rfl ?_ rfl; obtain ⟨Av113, cv113, rfl, _⟩ := S.sl.form; have S := S.f1
      refine t_st1 S sb_s_part rfl rfl rfl rfl rfl ?_; intro w456 b457 S; have B := B.trans b457; refine t_d' ?_; have S := S.f13.f13.f13.f13.f13.f13.f13.f13.f13.f13.f13.f13.f12.f13; refine x_cut (X := Path × Value) ([] ++ [makePart su 1 0], .slice Av113 (([]) ++ [makePart su 1 0]).length cv113) ?_ ?_; rotate_left
      ·exact ⟨rfl, rfl, rfl, rfl, rfl, rfl, trivial⟩
      (try dsimp only); exact ⟨⟨by first | (simp; done) | (rw [List.length_append, List.length_singleton]; omega), PathK.two (by simp) (PathK.one hsu (by omega) (by omega))⟩, B, S⟩
     ·intro hp; refine w_k ?_; refine x_cut (X := Path × Value) ([], .slice none 0 0) ?_ ?_; rotate_left
      ·exact ⟨rfl, rfl, rfl, rfl, rfl, rfl, trivial⟩
      (try dsimp only); exact ⟨⟨by simp, by simp⟩, B, S⟩
    rintro ⟨q1, vq1⟩ w458 hI; (try dsimp only at hI ⊢); obtain ⟨⟨hlq1, hq1⟩, B, S⟩ := hI; refine w_s ?_; refine w_cut (X := Path × Value) (fun x wq => (fun q2 vq2 => (List.length q2 ≤ 2 ∧ ∀ x ∈ q2, PartK ⟨A11, L11⟩ x) ∧ Below b w wq ∧ Sep b wq (slO partT 85 vq2 q2 :: bxO g8 38 #[vq2] :: slO hopT 87 vu su.hops :: bxO g5 67 #[I su.ts, I su.beta, vu] :: slO hopT 87 vd sd.hops :: bxO g6 67 #[I sd.ts, I sd.beta, vd] :: slO hopT 87 vh20 s20.hops :: bxO g7 67 #[I s20.ts, I s20.beta, vh20] :: curO v n c 123 :: slO asnT 117 va11 A11 :: slO linkT 90 vl11 L11 :: bxO g4 27 #[va11, vl11] :: bxO g3 38 #[.slice none 0 0] :: bxO g2 27 #[.slice none 0 0, .slice none 0 0] :: os)) x.1 x.2) (fun x => (fun q2 vq2 => [(2, .pointer (some ⟨g2, 0, none⟩)), (3, .pointer (some ⟨g3, 0, none⟩)), (4, .pointer (some ⟨g4, 0, none⟩)), (6, .pointer (some ⟨g6, 0, none⟩)), (8, .pointer (some ⟨g8, 0, none⟩))]) x.1 x.2) ?_ ?_
    ·refine w_s ?_; refine w_g ?_; refine t_y fb_seg_2 rfl rfl ?_ rfl; refine t_bx1 S.t4.tail.tail.tail.box ab_s_hop rfl rfl ?_ rfl; refine t_len e_hop (S.t4.tail.tail.sl) rfl rfl ?_ rfl; refine t_gtr rfl rfl ?_ rfl; refine t_e ?_; refine w_if rfl ?_ ?_
     ·intro hp; refine w_draw (.st .take 0 (.st .take 1 (.st .take 2 (.st .run 3 (.st .run 4 (.st .fin 5 (.st .fin 6 (.st .fin 7 .done)))))))) mixed (by kernel_rfl) ?_; intro w459 x460; have B := bx Hb B x460; have S := S.below x460; refine t_y fb_path_0 rfl rfl ?_ rfl; refine t_bx1 S.tail.box ab_s_part rfl rfl ?_ rfl; refine t_b S.t4.tail.tail.tail.box ab_seg sb_seg rfl rfl ?_ rfl; refine t_c Tryz.call107 rfl (spec_MakePart s20 _ _ _ _ (seg_mkv (S.t4.tail.tail.sl)) (by omega)) ?_ rfl rfl; rintro e w461 ⟨cs122, fp122, rfl, hO122, x462⟩; refine ⟨_, rfl, x462, ?_⟩; have S := S.add (o := tyO partT _ _) x462 hO122; have B := bx Hb B x462; obtain ⟨u122_3, rfl, S2⟩ := S.partOpen; have S := S2; refine t_lit1 (fun w => bs_part1 _ _ _ _ w) rfl ?_ rfl rfl; intro A123 w463 x464 hA123; have B := bx Hb B x464; have S := S.below x464; have S := S.partShut (x := makePart s20 2 0); have S := S.f1; refine t_snoc e_part S hA123 rfl rfl rfl (by first | omega | (simp; done) | (simp; omega)) (by (simp only [maxLen]); first | omega | (simp; done) | (simp; omega)) ?_ rfl; intro v124 w465 x466 S; have B := B.trans x466; refine t_y fb_path_0 rfl rfl ?_ rfl; obtain ⟨Av124, cv124, rfl, _⟩ := S.sl.form
      have S := S.f1; refine t_st1 S sb_s_part rfl rfl rfl rfl rfl ?_; intro w467 b468 S; have B := B.trans b468; refine t_d' ?_; have S := S.f13.f13.f13.f13.f13.f13.f13.f13.f13.f13.f13.f13.f12.f13; refine x_cut (X := Path × Value) (q1 ++ [makePart s20 2 0], .slice Av124 (q1 ++ [makePart s20 2 0]).length cv124) ?_ ?_; rotate_left
      ·exact ⟨rfl, rfl, rfl, rfl, rfl, trivial⟩
      (try dsimp only); exact ⟨⟨by first | (simp; done) | (rw [List.length_append, List.length_singleton]; omega), PathK.two hq1 (PathK.one hf20 (by omega) (by omega))⟩, B, S⟩
     ·intro hp; refine w_k ?_; refine x_cut (X := Path × Value) (q1, vq1) ?_ ?_; rotate_left
      ·exact ⟨rfl, rfl, rfl, rfl, rfl, trivial⟩
      (try dsimp only); exact ⟨⟨by omega, hq1⟩, B, S⟩
    rintro ⟨q2, vq2⟩ w469 hI; (try dsimp only at hI ⊢); obtain ⟨⟨hlq2, hq2⟩, B, S⟩ := hI; refine w_s ?_; refine w_cut (X := Path × Value) (fun x wq => (fun q3 vq3 => (List.length q3 ≤ 3 ∧ ∀ x ∈ q3, PartK ⟨A11, L11⟩ x) ∧ Below b w wq ∧ Sep b wq (slO partT 85 vq3 q3 :: bxO g8 38 #[vq3] :: slO hopT 87 vu su.hops :: bxO g5 67 #[I su.ts, I su.beta, vu] :: slO hopT 87 vd sd.hops :: bxO g6 67 #[I sd.ts, I sd.beta, vd] :: slO hopT 87 vh20 s20.hops :: bxO g7 67 #[I s20.ts, I s20.beta, vh20] :: curO v n c 123 :: slO asnT 117 va11 A11 :: slO linkT 90 vl11 L11 :: bxO g4 27 #[va11, vl11] :: bxO g3 38 #[.slice none 0 0] :: bxO g2 27 #[.slice none 0 0, .slice none 0 0] :: os)) x.1 x.2) (fun x => (fun q3 vq3 => [(2, .pointer (some ⟨g2, 0, none⟩)), (3, .pointer (some ⟨g3, 0, none⟩)), (4, .pointer (some ⟨g4, 0, none⟩)), (8, .pointer (some ⟨g8, 0, none⟩))]) x.1 x.2) ?_ ?_
    ·refine w_s ?_; refine w_g ?_; refine t_y fb_seg_2 rfl rfl ?_ rfl; refine t_bx1 S.t4.tail.box ab_s_hop rfl rfl ?_ rfl; refine t_len e_hop (S.t4.sl) rfl rfl ?_ rfl; refine t_gtr rfl rfl ?_ rfl; refine t_e ?_; refine w_if rfl ?_ ?_
     ·intro hp; refine w_draw (.st .take 0 (.st .take 1 (.st .take 2 (.st .run 3 (.st .run 4 (.st .fin 5 (.st .fin 6 (.st .fin 7 .done)))))))) mixed (by kernel_rfl) ?_; intro w470 x471; have B := bx Hb B x471; have S := S.below x471; refine t_y fb_path_0 rfl rfl ?_ rfl; refine t_bx1 S.tail.box ab_s_part rfl rfl ?_ rfl; refine t_b S.t4.tail.box ab_seg sb_seg rfl rfl ?_ rfl; refine t_c Tryz.call107 rfl (spec_MakePart sd _ _ _ _ (seg_mkv (S.t4.sl)) (by omega)) ?_ rfl rfl; rintro e w472 ⟨cs133, fp133, rfl, hO133, x473⟩; refine ⟨_, rfl, x473, ?_⟩; have S := S.add (o := tyO partT _ _) x473 hO133; have B := bx Hb B x473; obtain ⟨u133_3, rfl, S2⟩ := S.partOpen; have S := S2; refine t_lit1 (fun w => bs_part1 _ _ _ _ w) rfl ?_ rfl rfl; intro A134 w474 x475 hA134; have B := bx Hb B x475; have S := S.below x475; have S := S.partShut (x := makePart sd 4 0); have S := S.f1; refine t_snoc e_part S hA134 rfl rfl rfl (by first | omega | (simp; done) | (simp; omega)) (by (simp only [maxLen]); first | omega | (simp; done) | (simp; omega)) ?_ rfl; intro v135 w476 x477 S; have B := B.trans x477; refine t_y fb_path_0 rfl rfl ?_ rfl; obtain ⟨Av135, cv135, rfl, _⟩ := S.sl.form; have S := S.f1
      refine t_st1 S sb_s_part rfl rfl rfl rfl rfl ?_; intro w478 b479 S; have B := B.trans b479; refine t_d' ?_; have S := S.f13.f13.f13.f13.f13.f13.f13.f13.f13.f13.f13.f13.f12.f13; refine x_cut (X := Path × Value) (q2 ++ [makePart sd 4 0], .slice Av135 (q2 ++ [makePart sd 4 0]).length cv135) ?_ ?_; rotate_left
      ·exact ⟨rfl, rfl, rfl, rfl, trivial⟩
      (try dsimp only); exact ⟨⟨by first | (simp; done) | (rw [List.length_append, List.length_singleton]; omega), PathK.two hq2 (PathK.one hsd (by omega) (by omega))⟩, B, S⟩
     ·intro hp; refine w_k ?_; refine x_cut (X := Path × Value) (q2, vq2) ?_ ?_; rotate_left
      ·exact ⟨rfl, rfl, rfl, rfl, trivial⟩
      (try dsimp only); exact ⟨⟨by omega, hq2⟩, B, S⟩
    rintro ⟨q3, vq3⟩ w480 hI; (try dsimp only at hI ⊢); obtain ⟨⟨hlq3, hq3⟩, B, S⟩ := hI; refine w_s ?_; refine w_drawP [] (.alt (.st .fin 0 (.alt (.st .fin 1 (.st .fin 2 (.st .fin 3 .done))) (.st .fin 2 (.st .fin 1 (.st .fin 3 .done))))) (.st .fin 1 (.st .fin 0 (.st .fin 2 (.st .fin 3 .done))))) mixed (by kernel_rfl) ?_; intro w481 x482; have B := bx Hb B x482; have S := S.below x482; refine t_alt ?_ ?_
    ·refine t_b S.t4.t4.tail.tail.tail.box ab_topo sb_topo rfl rfl ?_ rfl; refine t_alt ?_ ?_
     ·refine t_b S.tail.box ab_path sb_path rfl rfl ?_ rfl; have S := S.f13; refine t_stn S sb_topo rfl rfl rfl rfl (by repeat first | exact oc0 | refine oc rfl ?_ | refine oc (SlR.cells (S.t4.t4.tail.tail.sl)).2 ?_ | refine oc (SlR.cells (S.t4.t4.tail.tail.tail.sl)).2 ?_) ?_; intro w483 b484 S; have B := B.trans b484; have S := S.f13; refine t_stn S sb_path rfl rfl rfl rfl (by repeat first | exact oc0 | refine oc rfl ?_ | refine oc (SlR.cells (S.tail.tail.sl)).2 ?_) ?_; intro w485 b486 S; have B := B.trans b486; refine t_e' ?_; refine w_r ?_; refine x_retcc rfl rfl S.tail.box ab_topo sb_topo rfl rfl S.box ab_path sb_path rfl ?_; have S := S.tail.tail.f1.tail.f1.tail.f1.tail.f1.tail.f1.tail.f1.tail.f1.tail.f4.tail.f1.f3.f3.f3; exact ⟨_, _, _, _, _, q3, rfl, ⟨T, by omega, hq3⟩, S, B⟩
     ·have S := S.f13; refine t_stn S sb_topo rfl rfl rfl rfl (by repeat first | exact oc0 | refine oc rfl ?_ | refine oc (SlR.cells (S.t4.t4.tail.tail.sl)).2 ?_ | refine oc (SlR.cells (S.t4.t4.tail.tail.tail.sl)).2 ?_) ?_; intro w487 b488 S; have B := B.trans b488; refine t_b S.tail.tail.box ab_path sb_path rfl rfl ?_ rfl; have S := S.f13; refine t_stn S sb_path rfl rfl rfl rfl (by repeat first | exact oc0 | refine oc rfl ?_ | refine oc (SlR.cells (S.tail.tail.sl)).2 ?_) ?_; intro w489 b490 S; have B := B.trans b490; refine t_e' ?_; refine w_r ?_; refine x_retcc rfl rfl S.tail.box ab_topo sb_topo rfl rfl S.box ab_path sb_path rfl ?_; have S := S.tail.tail.f1.tail.f1.tail.f1.tail.f1.tail.f1.tail.f1.tail.f1.tail.f4.tail.f1.f3.f3.f3; exact ⟨_, _, _, _, _, q3, rfl, ⟨T, by omega, hq3⟩, S, B⟩
    ·refine t_b S.tail.box ab_path sb_path rfl rfl ?_ rfl; refine t_b S.t4.t4.tail.tail.tail.box ab_topo sb_topo rfl rfl ?_ rfl; have S := S.f13; refine t_stn S sb_topo rfl rfl rfl rfl (by repeat first | exact oc0 | refine oc rfl ?_ | refine oc (SlR.cells (S.t4.t4.tail.tail.sl)).2 ?_ | refine oc (SlR.cells (S.t4.t4.tail.tail.tail.sl)).2 ?_) ?_; intro w491 b492 S; have B := B.trans b492; have S := S.f13; refine t_stn S sb_path rfl rfl rfl rfl (by repeat first | exact oc0 | refine oc rfl ?_ | refine oc (SlR.cells (S.tail.tail.sl)).2 ?_) ?_; intro w493 b494 S; have B := B.trans b494; refine t_e' ?_; refine w_r ?_; refine x_retcc rfl rfl S.tail.box ab_topo sb_topo rfl rfl S.box ab_path sb_path rfl ?_; have S := S.tail.tail.f1.tail.f1.tail.f1.tail.f1.tail.f1.tail.f1.tail.f1.tail.f4.tail.f1.f3.f3.f3; exact ⟨_, _, _, _, _, q3, rfl, ⟨T, by omega, hq3⟩, S, B⟩
/-- A door of a realm is an end of one link. -/
def Uniq (L : List Lnk) : Prop := ∀ x ∈ L, ∀ y ∈ L, ∀ r d, ends x r d = true → ends y r d = true → x = y
def Dense (L : List Lnk) : Prop := ∀ r d, d ∈ ifs L r → d ≤ (ifs L r).length
theorem putL_new {l : List Int} {n : Int} (h : n ∉ l) : (putL l n).length = l.length + 1 := by
  induction l with
  | nil => rfl
  | cons a t ih =>
    rw [List.mem_cons, not_or] at h
    unfold putL
    split
    · rw [List.length_cons, ih h.2, List.length_cons]
    · rw [if_neg (Ne.symm h.1)]; rfl
theorem ifs_snoc (L : List Lnk) (x : Lnk) (r : Int) : ifs (L ++ [x]) r = ifsStep r (ifs L r) x := by
  unfold ifs; rw [List.foldl_append]; rfl
theorem addL_grow {L : List Lnk} (hU : Uniq L) (hD : Dense L) {a c : Int} (hac : a < c) (k : Int) : Uniq (addL L a c k) ∧ Dense (addL L a c k) := by
 unfold addL
 split
 ·have na : ∀ {r : Int}, ((ifs L r).length : Int) + 1 ∉ ifs L r := fun {r} h => by have := hD r _ h; omega
  refine ⟨?_, ?_⟩
  ·have key : ∀ y ∈ L, ∀ r d, ends ⟨a, (ifs L a).length + 1, c, (ifs L c).length + 1, k⟩ r d = true → ends y r d = true → False := by
    intro y hy r d h1 h2; have hm : d ∈ ifs L r := mem_ifs.2 ⟨y, hy, h2⟩
    rcases ends_iff.1 h1 with ⟨e1, e2⟩ | ⟨e1, e2⟩
    ·simp only at e1 e2; subst e1; subst e2; exact na hm
    ·simp only at e1 e2; subst e1; subst e2; exact na hm
   intro x hx y hy r d h1 h2; rw [List.mem_append, List.mem_singleton] at hx hy
   rcases hx with hx | hx <;> rcases hy with hy | hy
   ·exact hU x hx y hy r d h1 h2
   ·subst hy; exact absurd (key x hx r d h2 h1) id
   ·subst hx; exact absurd (key y hy r d h1 h2) id
   ·rw [hx, hy]
  ·intro r d hd; rw [ifs_snoc] at hd ⊢
   have hl : (ifs L r).length ≤ (ifsStep r (ifs L r) ⟨a, (ifs L a).length + 1, c, (ifs L c).length + 1, k⟩).length ∧ ((r = a ∨ r = c) → (ifsStep r (ifs L r) ⟨a, (ifs L a).length + 1, c, (ifs L c).length + 1, k⟩).length = (ifs L r).length + 1) := by
    unfold ifsStep
    dsimp only
    by_cases h1 : a = r
    ·have h2 : ¬ c = r := by omega
     rw [if_pos h1, if_neg h2]; subst h1; rw [putL_new na]; exact ⟨by omega, fun _ => rfl⟩
    ·rw [if_neg h1]
     by_cases h2 : c = r
     ·rw [if_pos h2]; subst h2; rw [putL_new na]; exact ⟨by omega, fun _ => rfl⟩
     ·rw [if_neg h2]; exact ⟨Nat.le_refl _, fun z => by omega⟩
   rcases mem_ifsStep.1 hd with hd | hd
   ·have := hD r d hd; omega
   ·rcases ends_iff.1 hd with ⟨e1, e2⟩ | ⟨e1, e2⟩
    ·simp only at e1 e2
     rw [hl.2 (.inl e1.symm)]; subst e1; omega
    ·simp only at e1 e2
     rw [hl.2 (.inr e1.symm)]; subst e1; omega
 ·exact ⟨hU, hD⟩
theorem Grown.uniq {n m : Nat} {L : List Lnk} (h : Grown n m L) : Uniq L ∧ Dense L := by
  induction h with
  | nil => exact ⟨fun x hx => by simp at hx, fun r d h => by simp [ifs] at h⟩
  | add a c k _ _ hac _ _ _ ih => exact addL_grow ih.1 ih.2 hac k
theorem TopK.uniq {A : List ASd} {L : List Lnk} (h : TopK A L) : Uniq L := by
  obtain ⟨_, m, L0, _, hg, hs⟩ := h
  exact fun x hx y hy => hg.uniq.1 x (hs.subset hx) y (hs.subset hy)
theorem link_of {t : Topo} {r d q e : Int} (h : remote t r d = (q, e)) (hq : 0 ≤ q) : ∃ i x, findL t.links r d = some i ∧ t.links[i]? = some x ∧ x ∈ t.links ∧ ends x r d = true ∧ (if x.a = r ∧ x.ai = d then (x.b, x.bi) else (x.a, x.ai)) = (q, e) := by
  unfold remote at h
  cases hf : findL t.links r d with
  | none => rw [hf] at h; cases h; omega
  | some i =>
    rw [hf, Option.bind_some] at h; have hf' := hf
    unfold findL at hf'
    rw [List.findIdx?_eq_some_iff_getElem] at hf'; obtain ⟨hlt, hp, _⟩ := hf'; rw [List.getElem?_eq_getElem hlt] at h; exact ⟨i, _, rfl, List.getElem?_eq_getElem hlt, List.getElem_mem hlt, hp, h⟩
theorem find_at {t : Topo} (hU : Uniq t.links) {x : Lnk} (hx : x ∈ t.links) {q e : Int} (he : ends x q e = true) : ∃ i, findL t.links q e = some i ∧ t.links[i]? = some x := by
  obtain ⟨i, y, h1, h2, h3, h4⟩ := findL_of hx he; have := hU x hx y h3 q e he h4; subst this; exact ⟨i, h1, h2⟩
/-- A link can be walked both ways. -/
theorem remote_sym {t : Topo} (hU : Uniq t.links) (hK : ∀ x ∈ t.links, x.a < x.b) {r d q e : Int} (h : remote t r d = (q, e)) (hq : 0 ≤ q) : remote t q e = (r, d) := by
  obtain ⟨i, x, h1, h2, h3, h4, h5⟩ := link_of h hq; have hlt := hK x h3
  have hf : ends x q e = true := by
    rw [ends_iff]
    split at h5
    · cases h5; exact .inr ⟨rfl, rfl⟩
    · cases h5; exact .inl ⟨rfl, rfl⟩
  obtain ⟨j, k1, k2⟩ := find_at hU h3 hf; rw [remote_of k1 k2]
  rcases ends_iff.1 h4 with ⟨e1, e2⟩ | ⟨e1, e2⟩
  · rw [if_pos ⟨e1, e2⟩] at h5
    cases h5; rw [if_neg fun z => by omega, e1, e2]
  · rw [if_neg fun z => by omega] at h5
    cases h5; rw [if_pos ⟨rfl, rfl⟩, e1, e2]
/-- A well formed segment. -/
structure WfS (t : Topo) (s : Seg) : Prop where
  len : 1 ≤ s.hops.length ∧ s.hops.length ≤ 8
  ok : ∀ x ∈ s.hops, validHop x = true ∧ isAS t x.ia = true
  nd : (s.hops.map Hop.ia).Nodup
  ing : ∀ x, s.hops[0]? = some x → x.ing = 0
  link : ∀ (i : Nat) x y, s.hops[i]? = some x → s.hops[i + 1]? = some y → x.eg ≠ 0 ∧ remote t x.ia x.eg = (y.ia, y.ing)
theorem hopsOk_of {t : Topo} {l : List Hop} (h1 : 1 ≤ l.length) (h8 : l.length ≤ 8) (hv : ∀ x ∈ l, validHop x = true ∧ isAS t x.ia = true) (hn : (l.map Hop.ia).Nodup) : hopsOk t l = true := by
  unfold hopsOk
  rw [inR_yes (by omega) (by omega), Bool.true_and]
  refine all_ok fun j hj => ?_
  have e := List.getElem?_eq_getElem hj; rw [hopGood_eq e]; obtain ⟨a1, a2⟩ := hv _ (List.getElem_mem hj); rw [a1, a2, Bool.true_and, Bool.true_and]
  have : (List.map Hop.ia (List.take j l)).contains l[j].ia = false := by
    rw [Bool.eq_false_iff]; intro hc; rw [List.contains_iff_mem] at hc; rw [← List.take_append_drop j l, List.drop_eq_getElem_cons hj, List.map_append, List.map_cons, List.nodup_append] at hn; exact hn.2.2 _ hc _ (List.mem_cons_self ..) rfl
  rw [this]; rfl
theorem seg_res {t : Topo} {s : Seg} (h : SegK t s) (i : Int) : Res (segBeta s i) := by
  unfold segBeta
  split
  · exact chain_in ⟨h.1.2.2.1, by have := h.1.2.2.2.1; omega⟩ _
  · exact ⟨by omega, by omega⟩
/-- What makePart takes of a well formed segment is a valid part. -/
theorem part_valid {t : Topo} (hU : Uniq t.links) (hK : ∀ x ∈ t.links, x.a < x.b ∧ 1 ≤ x.ai ∧ 1 ≤ x.bi) {s : Seg} (K : SegK t s) (W : WfS t s) {kind : Int} (hk : 1 ≤ kind ∧ kind ≤ 4) {i : Int} (hi : 0 ≤ i ∧ i < s.hops.length) : validPart t (makePart s kind i) = true := by
 have g1 : inR i 0 ((s.hops.length : Int) - 1) = true := inR_yes (by omega) (by omega); have g2 : inR kind 1 4 = true := inR_yes hk.1 hk.2; obtain ⟨n, rfl⟩ : ∃ n : Nat, i = n := ⟨i.toNat, by omega⟩; have hd : (s.hops.drop n).length = s.hops.length - n := List.length_drop ..; have hW := W.len; have t1 : inR s.ts 0 1000000 = true := inR_yes K.1.1 (by have := K.1.2.1; omega)
 have nd : ((s.hops.drop n).map Hop.ia).Nodup := by
  rw [List.map_drop]; exact W.nd.sublist (List.drop_sublist ..)
 cases hr : isRev kind with
 | false =>
  rw [make_fwd g1 g2 hr]
  have b1 : inR (segBeta s n) 0 2147483646 = true := by have := seg_res K n; exact inR_yes this.1 this.2
  unfold validPart
  dsimp only; rw [Int.toNat_natCast, hopsOk_of (by omega) (by omega) (fun x hx => W.ok x (List.mem_of_mem_drop hx)) nd, g2, t1, b1]
  simp only [Bool.true_and, Bool.and_true]
  refine all_ok fun j hj => ?_
  obtain ⟨x, hx⟩ : ∃ x, s.hops[n + j]? = some x := getx (by omega); obtain ⟨y, hy⟩ : ∃ y, s.hops[n + j + 1]? = some y := getx (by omega)
  have hx' : (s.hops.drop n)[j]? = some x := by rw [List.getElem?_drop]; exact hx
  have hy' : (s.hops.drop n)[j + 1]? = some y := by rw [List.getElem?_drop]; exact hy
  obtain ⟨l1, l2⟩ := W.link _ x y hx hy; rw [stepGood_eq (p := ⟨kind, s.ts, segBeta s n, s.hops.drop n⟩) hx' hy']
  have p1 : partOut ⟨kind, s.ts, segBeta s n, s.hops.drop n⟩ j = x.eg := by unfold partOut; dsimp only; rw [hx', hr]; rfl
  have p2 : partIn ⟨kind, s.ts, segBeta s n, s.hops.drop n⟩ (j + 1) = y.ing := by unfold partIn; dsimp only; rw [hy', hr]; rfl
  rw [p1, p2, l2]
  simp [l1]
 | true =>
  rw [make_rev g1 g2 hr]
  have b1 : inR (segBeta s s.hops.length) 0 2147483646 = true := by have := seg_res K s.hops.length; exact inR_yes this.1 this.2
  unfold validPart
  dsimp only; rw [Int.toNat_natCast, hopsOk_of (by rw [List.length_reverse]; omega) (by rw [List.length_reverse]; omega) (fun x hx => W.ok x (List.mem_of_mem_drop (List.mem_reverse.1 hx))) (by rw [List.map_reverse]; exact List.pairwise_reverse.2 (nd.imp Ne.symm)), g2, t1, b1]
  simp only [Bool.true_and, Bool.and_true]
  refine all_ok fun j hj => ?_
  rw [List.length_reverse] at hj; obtain ⟨y, hy⟩ : ∃ y, s.hops[s.hops.length - 1 - j]? = some y := getx (by omega); obtain ⟨x, hx⟩ : ∃ x, s.hops[s.hops.length - 1 - j - 1]? = some x := getx (by omega)
  have hy' : (s.hops.drop n).reverse[j]? = some y := by
   rw [List.getElem?_reverse (by omega), List.getElem?_drop, hd, ← hy]; congr 1; omega
  have hx' : (s.hops.drop n).reverse[j + 1]? = some x := by
   rw [List.getElem?_reverse (by omega), List.getElem?_drop, hd, ← hx]; congr 1; omega
  obtain ⟨l1, l2⟩ := W.link _ x y hx (by rw [show s.hops.length - 1 - j - 1 + 1 = s.hops.length - 1 - j by omega]; exact hy); have hyA := (W.ok y (List.mem_of_getElem? hy)).2; have hy0 : 0 ≤ y.ia := (inR_iff.1 hyA).1; have l3 := remote_sym hU (fun x hx => (hK x hx).1) l2 hy0
  have l4 : 1 ≤ y.ing := by
   have := remote_door (t := t) (fun x hx => (hK x hx).2) (r := x.ia) (d := x.eg) (by rw [l2]; exact hy0); rw [l2] at this; exact this
  rw [stepGood_eq (p := ⟨kind, s.ts, segBeta s s.hops.length, (s.hops.drop n).reverse⟩) hy' hx']
  have p1 : partOut ⟨kind, s.ts, segBeta s s.hops.length, (s.hops.drop n).reverse⟩ j = y.ing := by unfold partOut; dsimp only; rw [hy', hr]; rfl
  have p2 : partIn ⟨kind, s.ts, segBeta s s.hops.length, (s.hops.drop n).reverse⟩ (j + 1) = x.eg := by unfold partIn; dsimp only; rw [hx', hr]; rfl
  rw [p1, p2, l3]
  have : y.ing ≠ 0 := by omega
  simp [this]
theorem addHop_first (i : Nat) (x : Part) {l : List Stp} (j : Nat) (h : 0 < l.length) : 0 < (addHop i x l j).length ∧ (firstOf (addHop i x l j)).ia = (firstOf l).ia := by
  have e0 := List.getElem?_eq_getElem h; cases hb : joinAt i x l j with
  | true =>
    rw [addHop_join hb]; refine ⟨by rw [List.length_set]; exact h, ?_⟩
    rcases Nat.lt_or_ge 1 l.length with q | q
    · rw [firstOf_at (s := l[0]) (by rw [List.getElem?_set_ne (by omega)]; exact e0), firstOf_at e0]
    · have hl : l.length - 1 = 0 := by omega
      rw [hl, firstOf_at (s := { lastOf l with eg := partOut x j }) (by rw [List.getElem?_set_self h]), firstOf_at e0]
      show (lastOf l).ia = _
      rw [lastOf_at (by rw [hl]; exact e0)]
  | false =>
    rw [addHop_new hb]; refine ⟨by simp, ?_⟩; rw [firstOf_at (s := l[0]) (by rw [List.getElem?_append_left h]; exact e0), firstOf_at e0]
theorem hopsTo_first (i : Nat) (x : Part) {l : List Stp} (h : 0 < l.length) : ∀ j, 0 < (hopsTo i x l j).length ∧ (firstOf (hopsTo i x l j)).ia = (firstOf l).ia
  | 0 => ⟨h, rfl⟩
  | j + 1 => by
    have ih := hopsTo_first i x h j; rw [hopsTo_succ]; have := addHop_first i x j ih.1; exact ⟨this.1, by rw [this.2, ih.2]⟩
theorem hopsTo_zero (x : Part) : ∀ j, 0 < j → 0 < (hopsTo 0 x [] j).length ∧ (firstOf (hopsTo 0 x [] j)).ia = hopIa x 0
  | 1, _ => by
    rw [hopsTo_succ]; have hb : joinAt 0 x (hopsTo 0 x [] 0) 0 = false := rfl; rw [addHop_new hb]; exact ⟨by simp, rfl⟩
  | j + 2, _ => by
    have ih := hopsTo_zero x (j + 1) (by omega); rw [hopsTo_succ]; have := addHop_first 0 x (j + 1) ih.1; exact ⟨this.1, by rw [this.2, ih.2]⟩
theorem raw_first {t : Topo} {p : Path} (h : wellFormed t p = true) {x : Part} (hx : p[0]? = some x) : ∀ k, 0 < k → k ≤ List.length p → 0 < (rawSteps p k).length ∧ (firstOf (rawSteps p k)).ia = firstIa x
  | 1, _, hk => by
    have hv := (wf_parts h).2.1 x (List.mem_of_getElem? hx); rw [rawSteps_succ hx]; have := hopsTo_zero x x.hops.length (valid_len hv); rw [fIa_hop]; exact this
  | k + 2, _, hk => by
    have ih := raw_first h hx (k + 1) (by omega) (by omega); have hy := List.getElem?_eq_getElem (l := p) (i := k + 1) (by omega); rw [rawSteps_succ hy]; have := hopsTo_first (k + 1) (p[k + 1]) ih.1 (p[k + 1]).hops.length; exact ⟨this.1, by rw [this.2, ih.2]⟩
/-- The ends of a well formed path are those of its first and its last part. -/
theorem ends_wf {t : Topo} (hK : ∀ x ∈ t.links, 1 ≤ x.ai ∧ 1 ≤ x.bi) {p : Path} (h : wellFormed t p = true) {x y : Part} (hx : p[0]? = some x) (hy : p[List.length p - 1]? = some y) : endA p = firstIa x ∧ endB p = lastIa y := by
  have hp := (wf_parts h).1; obtain ⟨_, _, h1⟩ := raw_chain hK h (List.length p) (Nat.le_refl _); obtain ⟨hpos, hlast⟩ := h1 (by omega); have hlast := hlast y hy; obtain ⟨_, hfirst⟩ := raw_first h hx (List.length p) (by omega) (Nat.le_refl _); obtain ⟨hlen, hat⟩ := cut_at_ _ hpos
  unfold endA endB pathSteps
  generalize rawSteps p p.length = l at *
  rw [if_neg (by omega), if_neg (by omega), ← hfirst, ← hlast]; refine ⟨?_, ?_⟩
  · have e := List.getElem?_eq_getElem (l := cutLast (cutFirst l)) (i := 0) (by omega)
    obtain ⟨r, hr, ha, _⟩ := hat 0 _ e; rw [firstOf_at e, firstOf_at hr, ha]
  · obtain ⟨s, e⟩ : ∃ s, (cutLast (cutFirst l))[l.length - 1]? = some s := getx (by omega)
    obtain ⟨r, hr, ha, _⟩ := hat _ _ e; rw [lastOf_at (l := cutLast (cutFirst l)) (s := s) (by rw [hlen]; exact e), lastOf_at hr, ha]
/-- A part that leads from a to b. -/
def PartG (t : Topo) (a b : Int) (x : Part) : Prop := validPart t x = true ∧ verifyPart t x = true ∧ firstIa x = a ∧ lastIa x = b
/-- A path that leads from a to b. -/
def PathG (t : Topo) (a b : Int) (p : Path) : Prop := wellFormed t p = true ∧ verifyPath t p = true ∧ endA p = a ∧ endB p = b
theorem path1 {t : Topo} (hK : ∀ x ∈ t.links, 1 ≤ x.ai ∧ 1 ≤ x.bi) {a b : Int} {x : Part} (h : PartG t a b x) : PathG t a b [x] := by
  have w : wellFormed t [x] = true := by
    unfold wellFormed
    rw [inR_yes (by simp) (by simp)]
    simp [h.1]
  have e := ends_wf hK w (x := x) (y := x) rfl rfl; exact ⟨w, by simp [verifyPath, h.2.1], by rw [e.1]; exact h.2.2.1, by rw [e.2]; exact h.2.2.2⟩
theorem path2 {t : Topo} (hK : ∀ x ∈ t.links, 1 ≤ x.ai ∧ 1 ≤ x.bi) {a m b : Int} {x y : Part} (h : PartG t a m x) (h' : PartG t m b y) (hp : place x.kind < place y.kind) : PathG t a b [x, y] := by
  have w : wellFormed t [x, y] = true := by
    unfold wellFormed
    rw [inR_yes (by simp) (by simp)]
    simp only [Bool.true_and, Bool.and_eq_true, List.all_eq_true]
    refine ⟨fun z hz => ?_, fun k hk => ?_⟩
    · rcases List.mem_cons.1 hz with rfl | hz
      · exact h.1
      · rw [List.mem_singleton] at hz; subst hz; exact h'.1
    · have : k = 0 := by simpa using hk
      subst this; rw [joinOk_eq (p := [x, y]) (y := x) (x := y) rfl rfl]
      simp [hp, h.2.2.2, h'.2.2.1]
  have e := ends_wf hK w (x := x) (y := y) rfl rfl; exact ⟨w, by simp [verifyPath, h.2.1, h'.2.1], by rw [e.1]; exact h.2.2.1, by rw [e.2]; exact h'.2.2.2⟩
theorem path3 {t : Topo} (hK : ∀ x ∈ t.links, 1 ≤ x.ai ∧ 1 ≤ x.bi) {a m n b : Int} {x y z : Part} (h : PartG t a m x) (h' : PartG t m n y) (h'' : PartG t n b z) (hp : place x.kind < place y.kind) (hp' : place y.kind < place z.kind) : PathG t a b [x, y, z] := by
  have w : wellFormed t [x, y, z] = true := by
    unfold wellFormed
    rw [inR_yes (by simp) (by simp)]
    simp only [Bool.true_and, Bool.and_eq_true, List.all_eq_true]
    refine ⟨fun u hu => ?_, fun k hk => ?_⟩
    · rcases List.mem_cons.1 hu with rfl | hu
      · exact h.1
      · rcases List.mem_cons.1 hu with rfl | hu
        · exact h'.1
        · rw [List.mem_singleton] at hu; subst hu; exact h''.1
    · have : k = 0 ∨ k = 1 := by have := List.mem_range.1 hk; simp at this; omega
      rcases this with rfl | rfl
      · rw [joinOk_eq (p := [x, y, z]) (y := x) (x := y) rfl rfl]
        simp [hp, h.2.2.2, h'.2.2.1]
      · rw [joinOk_eq (p := [x, y, z]) (y := y) (x := z) rfl rfl]
        simp [hp', h'.2.2.2, h''.2.2.1]
  have e := ends_wf hK w (x := x) (y := z) rfl rfl; exact ⟨w, by simp [verifyPath, h.2.1, h'.2.1, h''.2.1], by rw [e.1]; exact h.2.2.1, by rw [e.2]; exact h''.2.2.2⟩
/-- The first place of a realm among hops; -1: none. -/
def firstH (l : List Hop) (r : Int) : Int := idxI (l.findIdx? fun x => decide (x.ia = r))
def downs (k : Sdb) (r : Int) : List Seg := k.down.filter fun s => decide (lastS s = r)
def betw (k : Sdb) (a b : Int) : List Seg := k.core.filter fun s => decide (firstS s = a) && decide (lastS s = b)
def seg0 : Seg := ⟨0, 0, []⟩
def cores (k : Sdb) (up : Seg) (a b : Int) (dn : Seg) : List Path := (betw k a b).map (fun s => joinT up s false dn) ++ (betw k b a).map (fun s => joinT up s true dn)
def alone1 (l : List Seg) (kind r : Int) : List Path := l.flatMap fun s => if 0 ≤ firstH s.hops r then [[makePart s kind (firstH s.hops r)]] else []
def pairs1 (u : Seg) (ds : List Seg) : List Path := ds.flatMap fun d => if (joinUD u d).length = 0 then [] else [joinUD u d]
def coreAt (t : Topo) (r : Int) : Bool := match t.ases[r.toNat]? with
  | none => false
  | some x => x.core
def combL (t : Topo) (k : Sdb) (a b : Int) (us ds : List Seg) : List Path :=
  (((((alone1 us 1 b ++ alone1 ds 4 a) ++ cores k seg0 a b seg0) ++ us.flatMap fun u => pairs1 u ds) ++ (if coreAt t a then ds.flatMap fun d => cores k seg0 a (firstS d) d else [])) ++ (if coreAt t b then us.flatMap fun u => cores k u (firstS u) b seg0 else [])) ++ us.flatMap fun u => ds.flatMap fun d => cores k u (firstS u) (firstS d) d
/-- All paths from a to b. -/
def comb (t : Topo) (k : Sdb) (a b : Int) : List Path := if a = b ∨ isAS t a = false ∨ isAS t b = false then [] else combL t k a b (downs k a) (downs k b)
structure DbK (t : Topo) (k : Sdb) : Prop where
  down : ∀ s ∈ k.down, SegK t s ∧ WfS t s
  core : ∀ s ∈ k.core, SegK t s ∧ WfS t s
theorem firstH_at {l : List Hop} {r : Int} (h : 0 ≤ firstH l r) : ∃ x, l[(firstH l r).toNat]? = some x ∧ x.ia = r ∧ firstH l r < l.length := by
  unfold firstH at *
  cases hf : l.findIdx? (fun x => decide (x.ia = r)) with
  | none => rw [hf] at h; simp [idxI] at h
  | some i =>
    rw [hf] at h; rw [List.findIdx?_eq_some_iff_getElem] at hf; obtain ⟨hlt, hp, _⟩ := hf; exact ⟨l[i], List.getElem?_eq_getElem hlt, by simpa using hp, by show (i : Int) < _; omega⟩
theorem lastS_at {s : Seg} {x : Hop} (h : s.hops[s.hops.length - 1]? = some x) : lastS s = x.ia := by unfold lastS; rw [h]
theorem firstS_at {s : Seg} {x : Hop} (h : s.hops[0]? = some x) : firstS s = x.ia := by unfold firstS; rw [h]
theorem make_kind {s : Seg} {kind : Int} (hk : 1 ≤ kind ∧ kind ≤ 4) {i : Int} (hi : 0 ≤ i ∧ i < s.hops.length) : (makePart s kind i).kind = kind := by
  have g1 : inR i 0 ((s.hops.length : Int) - 1) = true := inR_yes (by omega) (by omega); have g2 : inR kind 1 4 = true := inR_yes hk.1 hk.2; cases hr : isRev kind with
  | true => rw [make_rev g1 g2 hr]
  | false => rw [make_fwd g1 g2 hr]
/-- A part of a segment, from its end to a hop of it, or the other way. -/
theorem make_G {t : Topo} (hU : Uniq t.links) (hK : ∀ x ∈ t.links, x.a < x.b ∧ 1 ≤ x.ai ∧ 1 ≤ x.bi) {s : Seg} (K : SegK t s) (W : WfS t s) {kind : Int} (hk : 1 ≤ kind ∧ kind ≤ 4) {i : Int} (hi : 0 ≤ i) {x : Hop} (hx : s.hops[i.toNat]? = some x) : PartG t (if isRev kind then lastS s else x.ia) (if isRev kind then x.ia else lastS s) (makePart s kind i) := by
  have hlt := (List.getElem?_eq_some_iff.1 hx).1
  have hi' : i < s.hops.length := by omega
  have g1 : inR i 0 ((s.hops.length : Int) - 1) = true := inR_yes (by omega) (by omega); have g2 : inR kind 1 4 = true := inR_yes hk.1 hk.2; refine ⟨part_valid hU hK K W hk ⟨hi, hi'⟩, verify_make K kind i, ?_⟩; obtain ⟨y, hy⟩ : ∃ y, s.hops[s.hops.length - 1]? = some y := getx (by omega); rw [lastS_at hy]; have hd : (s.hops.drop i.toNat).length = s.hops.length - i.toNat := List.length_drop ..
  have d0 : (s.hops.drop i.toNat)[0]? = some x := by rw [List.getElem?_drop]; exact hx
  have d1 : (s.hops.drop i.toNat)[s.hops.length - i.toNat - 1]? = some y := by
    rw [List.getElem?_drop, ← hy]; congr 1; omega
  cases hr : isRev kind with
  | true =>
    rw [make_rev g1 g2 hr]
    simp only [if_true]
    unfold firstIa lastIa
    dsimp only; rw [List.length_reverse, hd, List.getElem?_reverse (by omega), List.getElem?_reverse (by omega), hd, Nat.sub_zero, d1, show s.hops.length - i.toNat - 1 - (s.hops.length - i.toNat - 1) = 0 by omega, d0]; exact ⟨rfl, rfl⟩
  | false =>
    rw [make_fwd g1 g2 hr]
    simp only [Bool.false_eq_true, if_false]
    unfold firstIa lastIa
    dsimp only; rw [hd, d0, d1]; exact ⟨rfl, rfl⟩
section
variable {t : Topo} (hU : Uniq t.links) (hK : ∀ x ∈ t.links, x.a < x.b ∧ 1 ≤ x.ai ∧ 1 ≤ x.bi)
include hU hK
theorem up_G {s : Seg} (K : SegK t s) (W : WfS t s) {i : Int} (hi : 0 ≤ i) {x : Hop} (hx : s.hops[i.toNat]? = some x) : PartG t (lastS s) x.ia (makePart s 1 i) := make_G hU hK K W (kind := 1) (by omega) hi hx
theorem down_G {s : Seg} (K : SegK t s) (W : WfS t s) {i : Int} (hi : 0 ≤ i) {x : Hop} (hx : s.hops[i.toNat]? = some x) : PartG t x.ia (lastS s) (makePart s 4 i) := make_G hU hK K W (kind := 4) (by omega) hi hx
theorem whole_G {s : Seg} (K : SegK t s) (W : WfS t s) {kind : Int} (hk : 1 ≤ kind ∧ kind ≤ 4) : PartG t (if isRev kind then lastS s else firstS s) (if isRev kind then firstS s else lastS s) (makePart s kind 0) := by
  obtain ⟨x, hx⟩ : ∃ x, s.hops[0]? = some x := getx (by have := W.len; omega); rw [firstS_at hx]; exact make_G hU hK K W hk (Int.le_refl _) hx
theorem alone_up {l : List Seg} {a b : Int} (hl : ∀ s ∈ l, (SegK t s ∧ WfS t s) ∧ lastS s = a) : ∀ p ∈ alone1 l 1 b, PathG t a b p := by
  intro p hp
  unfold alone1 at hp
  rw [List.mem_flatMap] at hp; obtain ⟨s, hs, hp⟩ := hp; obtain ⟨⟨K, W⟩, e⟩ := hl s hs
  split at hp
  · rename_i h0
    rw [List.mem_singleton] at hp; obtain ⟨x, hx, e2, _⟩ := firstH_at h0; have := up_G hU hK K W h0 hx; rw [e, e2] at this; rw [hp]; exact path1 (fun x hx => (hK x hx).2) this
  · simp at hp
theorem alone_down {l : List Seg} {a b : Int} (hl : ∀ s ∈ l, (SegK t s ∧ WfS t s) ∧ lastS s = b) : ∀ p ∈ alone1 l 4 a, PathG t a b p := by
  intro p hp
  unfold alone1 at hp
  rw [List.mem_flatMap] at hp; obtain ⟨s, hs, hp⟩ := hp; obtain ⟨⟨K, W⟩, e⟩ := hl s hs
  split at hp
  · rename_i h0
    rw [List.mem_singleton] at hp; obtain ⟨x, hx, e2, _⟩ := firstH_at h0; have := down_G hU hK K W h0 hx; rw [e, e2] at this; rw [hp]; exact path1 (fun x hx => (hK x hx).2) this
  · simp at hp
theorem core_G {k : Sdb} (D : DbK t k) {a b : Int} {s : Seg} {rev : Bool} (h : s ∈ (if rev then betw k b a else betw k a b)) : PartG t a b (makePart s (if rev then 3 else 2) 0) := by
  cases rev with
  | true =>
    simp only [if_true] at h
    unfold betw at h
    rw [List.mem_filter] at h; obtain ⟨hs, e⟩ := h
    simp only [Bool.and_eq_true, decide_eq_true_eq] at e
    have := whole_G hU hK (D.core s hs).1 (D.core s hs).2 (kind := 3) (by omega); rw [show isRev 3 = true from rfl] at this
    simp only [if_true] at this
    rw [e.1, e.2] at this; exact this
  | false =>
    simp only [Bool.false_eq_true, if_false] at h
    unfold betw at h
    rw [List.mem_filter] at h; obtain ⟨hs, e⟩ := h
    simp only [Bool.and_eq_true, decide_eq_true_eq] at e
    have := whole_G hU hK (D.core s hs).1 (D.core s hs).2 (kind := 2) (by omega); rw [show isRev 2 = false from rfl] at this
    simp only [Bool.false_eq_true, if_false] at this
    rw [e.1, e.2] at this; exact this
end
theorem mem_cores {k : Sdb} {up dn : Seg} {a b : Int} {p : Path} (h : p ∈ cores k up a b dn) : ∃ s rev, s ∈ (if rev then betw k b a else betw k a b) ∧ p = joinT up s rev dn := by
  unfold cores at h
  rw [List.mem_append, List.mem_map, List.mem_map] at h
  rcases h with ⟨s, hs, e⟩ | ⟨s, hs, e⟩
  · exact ⟨s, false, hs, e.symm⟩
  · exact ⟨s, true, hs, e.symm⟩
theorem core_pos {t : Topo} {k : Sdb} (D : DbK t k) {a b : Int} {s : Seg} {rev : Bool} (h : s ∈ (if rev then betw k b a else betw k a b)) : 0 < (s.hops.length : Int) := by
  have hm : s ∈ k.core := by
    unfold betw at h
    cases rev <;> simp only [Bool.false_eq_true, if_false, if_true] at h <;> exact (List.mem_filter.1 h).1
  have := (D.core s hm).2.len
  omega
theorem addP_yes {s : Seg} (h : 0 < (s.hops.length : Int)) (k : Int) : addP s k = [makePart s k 0] := if_pos h
theorem addP_no (k : Int) : addP seg0 k = [] := rfl
theorem lastI_at (l : List Hop) (r : Int) : ∀ n : Nat, 0 ≤ lastI l r n → ∃ x, l[(lastI l r n).toNat]? = some x ∧ x.ia = r
  | 0, h => by simp [lastI] at h
  | n + 1, h => by
    unfold lastI at h ⊢
    split at h
    · rename_i x hx
      split at h
      · rename_i e
        simp only [e, if_true]
        exact ⟨x, by rw [Int.toNat_natCast]; exact hx, e⟩
      · rename_i e
        simp only [if_neg e]
        exact lastI_at l r n h
    · exact lastI_at l r n h
theorem meet_at (u d : Seg) : ∀ n : Nat, (meet u d n).length ≠ 0 → ∃ (i : Nat) (j : Int) (x y : Hop), meet u d n = [makePart u 1 i, makePart d 4 j] ∧ u.hops[i]? = some x ∧ 0 ≤ j ∧ d.hops[j.toNat]? = some y ∧ y.ia = x.ia
  | 0, h => by simp [meet] at h
  | n + 1, h => by
    unfold meet at h ⊢
    split at h
    · simp at h
    · rename_i x hx
      split at h
      · rename_i e
        obtain ⟨y, hy, e2⟩ := lastI_at d.hops x.ia _ e
        simp only [if_pos e]
        exact ⟨n, _, x, y, rfl, hx, e, hy, e2⟩
      · rename_i e
        simp only [if_neg e]
        exact meet_at u d n h
/-- Every path of a book leads from a to b, is well formed, and seals right. -/
theorem comb_good {t : Topo} (hU : Uniq t.links) (hK : ∀ x ∈ t.links, x.a < x.b ∧ 1 ≤ x.ai ∧ 1 ≤ x.bi) {k : Sdb} (D : DbK t k) {a b : Int} : ∀ p ∈ comb t k a b, PathG t a b p := by
 have hK' : ∀ x ∈ t.links, 1 ≤ x.ai ∧ 1 ≤ x.bi := fun x hx => (hK x hx).2
 have hu : ∀ r, ∀ s ∈ downs k r, (SegK t s ∧ WfS t s) ∧ lastS s = r := fun r s hs => by
  unfold downs at hs
  rw [List.mem_filter, decide_eq_true_eq] at hs; exact ⟨D.down s hs.1, hs.2⟩
 have pos : ∀ {s}, SegK t s ∧ WfS t s → 0 < (s.hops.length : Int) := fun h => by have := h.2.len; omega
 have upW : ∀ {r s}, s ∈ downs k r → PartG t r (firstS s) (makePart s 1 0) := fun {r s} h => by
  have h1 := hu r s h; have := whole_G hU hK h1.1.1 h1.1.2 (kind := 1) (by omega); rw [show isRev 1 = true from rfl] at this
  simp only [if_true] at this
  rw [h1.2] at this; exact this
 have dnW : ∀ {r s}, s ∈ downs k r → PartG t (firstS s) r (makePart s 4 0) := fun {r s} h => by
  have h1 := hu r s h; have := whole_G hU hK h1.1.1 h1.1.2 (kind := 4) (by omega); rw [show isRev 4 = false from rfl] at this
  simp only [Bool.false_eq_true, if_false] at this
  rw [h1.2] at this; exact this
 have kd : ∀ {s : Seg} {kind : Int}, SegK t s ∧ WfS t s → 1 ≤ kind ∧ kind ≤ 4 → (makePart s kind 0).kind = kind := fun {s kind} h hk => make_kind hk ⟨Int.le_refl _, pos h⟩
 have kc : ∀ {x y : Int} {s : Seg} {rev : Bool}, s ∈ (if rev then betw k y x else betw k x y) → (makePart s (if rev then 3 else 2) 0).kind = (if rev then 3 else 2) := fun {x y s rev} h => by
  have := core_pos D h; exact make_kind (by cases rev <;> simp) ⟨Int.le_refl _, this⟩
 have pc : ∀ rev : Bool, place (if rev then 3 else 2) = 2 := fun rev => by cases rev <;> rfl
 intro p hp
 unfold comb at hp
 split at hp
 ·simp at hp
 ·unfold combL at hp
  rw [List.mem_append, List.mem_append, List.mem_append, List.mem_append, List.mem_append, List.mem_append] at hp
  rcases hp with (((((hp | hp) | hp) | hp) | hp) | hp) | hp
  ·exact alone_up hU hK (hu a) p hp
  ·exact alone_down hU hK (hu b) p hp
  ·obtain ⟨s, rev, hs, rfl⟩ := mem_cores hp
   unfold joinT
   rw [addP_no, addP_no, addP_yes (core_pos D hs)]; exact path1 hK' (core_G hU hK D hs)
  ·rw [List.mem_flatMap] at hp; obtain ⟨u, huu, hp⟩ := hp
   unfold pairs1 at hp
   rw [List.mem_flatMap] at hp; obtain ⟨d, hdd, hp⟩ := hp
   split at hp
   ·simp at hp
   ·rename_i hne
    rw [List.mem_singleton] at hp; obtain ⟨i, j, x, y, e, hx, hj, hy, e2⟩ := meet_at u d u.hops.length hne
    unfold joinUD at hp
    rw [hp, e]; have h1 := hu a u huu; have h2 := hu b d hdd; have g1 := up_G hU hK h1.1.1 h1.1.2 (i := (i : Int)) (by omega) (x := x) (by rw [Int.toNat_natCast]; exact hx); have g2 := down_G hU hK h2.1.1 h2.1.2 hj hy; rw [h1.2] at g1; rw [h2.2, e2] at g2; have l1 := (List.getElem?_eq_some_iff.1 hx).1; have l2 := (List.getElem?_eq_some_iff.1 hy).1; refine path2 hK' g1 g2 ?_; rw [make_kind (by omega) (by omega), make_kind (by omega) (by omega)]
    decide
  ·split at hp
   ·rw [List.mem_flatMap] at hp; obtain ⟨d, hdd, hp⟩ := hp; obtain ⟨s, rev, hs, rfl⟩ := mem_cores hp
    unfold joinT
    rw [addP_no, addP_yes (core_pos D hs), addP_yes (pos (hu b d hdd).1)]; refine path2 hK' (core_G hU hK D hs) (dnW hdd) ?_; rw [kc hs, kd (hu b d hdd).1 (by omega), pc]
    decide
   ·simp at hp
  ·split at hp
   ·rw [List.mem_flatMap] at hp; obtain ⟨u, huu, hp⟩ := hp; obtain ⟨s, rev, hs, rfl⟩ := mem_cores hp
    unfold joinT
    rw [addP_no, addP_yes (core_pos D hs), addP_yes (pos (hu a u huu).1)]; refine path2 hK' (upW huu) (core_G hU hK D hs) ?_; rw [kc hs, kd (hu a u huu).1 (by omega), pc]
    decide
   ·simp at hp
  ·rw [List.mem_flatMap] at hp; obtain ⟨u, huu, hp⟩ := hp; rw [List.mem_flatMap] at hp; obtain ⟨d, hdd, hp⟩ := hp; obtain ⟨s, rev, hs, rfl⟩ := mem_cores hp
   unfold joinT
   rw [addP_yes (core_pos D hs), addP_yes (pos (hu a u huu).1), addP_yes (pos (hu b d hdd).1)]; refine path3 hK' (upW huu) (core_G hU hK D hs) (dnW hdd) ?_ ?_
   ·rw [kc hs, kd (hu a u huu).1 (by omega), pc]
    decide
   ·rw [kc hs, kd (hu b d hdd).1 (by omega), pc]
    decide
theorem sz_paths_mem {l : List Path} {x : Path} (h : x ∈ l) : l.length + sz_path x ≤ sz_paths l := by
  have := le_sum_of_mem (List.mem_map.2 ⟨x, h, rfl⟩ : sz_path x ∈ l.map sz_path)
  unfold sz_paths
  omega
theorem impl_copySegment (s : Seg) (u : Value) (w : World) (h : VA segT w u s) (hz : s.hops.length ≤ 1048576) : Calls Tryz.prog 133 #[u] w fun e w' => ∃ cs fp, e = .returned (.agg cs.toArray) ∧ segT.O w.heap.size w' cs s fp ∧ Below w.heap.size w w' := by
 obtain ⟨v2, rfl, h2⟩ := seg_va h; have X0 := Below.refl w.heap.size w; refine enter Tryz.func133 rfl Tryz.ntmps133 rfl ?_; refine w_h ?_; have S := Sep.nil w; have B := Below.refl w.heap.size w; have Hb := Nat.le_refl w.heap.size; refine t_boxo S rfl rfl ?_ rfl rfl; intro g1 w1 x2 S; have B := bx Hb B x2; refine t_w S z_seg rfl ?_ rfl rfl; intro g2 w3 x4 S; have B := bx Hb B x4; refine t_k ?_; refine t_y fb_seg_2 rfl rfl ?_ rfl; refine t_bx1 S.tail.box ab_s_hop rfl rfl ?_ rfl; refine t_c Tryz.call125 rfl (impl_copyHops _ _ _ (by first | assumption | exact SlR.below ‹_› B) (by omega)) ?_ rfl rfl; rintro e w5 ⟨v5, fpv5, rfl, hOv5, x6⟩; refine ⟨_, rfl, x6, ?_⟩; have S := S.add (o := slO _ _ _ _) x6 hOv5; have B := bx Hb B x6; refine t_y fb_seg_2 rfl rfl ?_ rfl; obtain ⟨Av5, cv5, rfl, _⟩ := S.sl.form; have S := S.f2; refine t_st1 S sb_s_hop rfl rfl rfl rfl rfl ?_; intro w7 b8 S; have B := B.trans b8; refine t_k ?_; refine t_b S.box ab_seg sb_seg rfl rfl ?_ rfl; have S := S.f2; refine t_stn S sb_seg rfl rfl rfl rfl (by repeat first | exact oc0 | refine oc rfl ?_ | refine oc (SlR.cells (S.tail.tail.sl)).2 ?_) ?_; intro w9 b10 S; have B := B.trans b10; refine t_e ?_; refine w_r ?_
 refine x_retc rfl rfl S.box ab_seg sb_seg rfl ?_; have S := S.f2; have S := S.segShut (x := s); obtain ⟨fp, hO⟩ := (S.mono X0.size).head; exact ⟨_, fp, rfl, hO, ext_trans X0 B⟩
theorem spec_l9Copy (s : Seg) (u : Value) (w : World) (h : VA segT w u s) (hz : s.hops.length ≤ 1048576) : Calls Tryz.prog 146 #[u] w fun e w' => ∃ cs fp, e = .returned (.agg cs.toArray) ∧ segT.O w.heap.size w' cs s fp ∧ Below w.heap.size w w' := by
 have X0 := Below.refl w.heap.size w; refine enter Tryz.func146 rfl Tryz.ntmps146 rfl ?_; refine w_h ?_; refine t_boxr ‹_› rfl ?_ rfl rfl; intro p1 w11 x12 hp1; replace h := h.below x12; have X0 := ext_trans X0 x12; have S := Sep.nil w11; have B := Below.refl w11.heap.size w11; have Hb := Nat.le_refl w11.heap.size; refine t_w S z_seg rfl ?_ rfl rfl; intro g2 w13 x14 S; have B := bx Hb B x14; refine t_e ?_; refine w_s ?_; refine w_drawP [] (.st .take 0 (.st .take 1 (.st .take 2 (.st .take 3 (.st .take 5 (.st .take 6 (.st .run 4 (.st .run 7 (.st .take 8 (.st .fin 9 .done)))))))))) mixed (by kernel_rfl) ?_; intro w15 x16; have B := bx Hb B x16; have S := S.below x16; refine t_fld ln_seg_0 ‹_› fb_seg_0 rfl ?_ rfl; intro p3 hp3; refine t_ldi ‹_› ab_int B rfl ?_ rfl; refine t_fld ln_seg_1 ‹_› fb_seg_1 rfl ?_ rfl; intro p5 hp5; refine t_ldi ‹_› ab_int B rfl ?_ rfl; refine t_fld ln_seg_2 ‹_› fb_seg_2 rfl ?_ rfl; intro p8 hp8; refine t_lds ‹_› ab_s_hop B rfl ?_ rfl; intro v9 hv9; refine t_lit0 (T := hopT) S bs_hop0 rfl ?_ rfl rfl; intro A7 w17 x18 S; have B := bx Hb B x18
 refine t_cat0 hop_flat e_hop S (by first | assumption | exact SlR.below ‹_› B) rfl rfl rfl (by first | omega | (simp [-List.length_flatMap]; omega)) (by (simp [maxLen, -List.length_flatMap]; try omega)) ?_ rfl; intro v10 w19 x20 S; have B := bx Hb B x20; obtain ⟨Av10, cv10, rfl, _⟩ := S.sl.form; refine t_g (fun w => b_seg _ _ _ _ _ w) rfl ?_ rfl; have S := S.f1; refine t_stn S sb_seg rfl rfl rfl rfl (by repeat first | exact oc0 | refine oc rfl ?_ | refine oc (SlR.cells (S.tail.sl)).2 ?_) ?_; intro w21 b22 S; have B := B.trans b22; refine t_e' ?_; refine w_r ?_; refine x_retc rfl rfl S.box ab_seg sb_seg rfl ?_; have S := S.f1; have S := S.segShut (x := s); obtain ⟨fp, hO⟩ := (S.mono X0.size).head; exact ⟨_, fp, rfl, hO, ext_trans X0 B⟩
theorem firstH_yes {l : List Hop} {r : Int} {k : Nat} {x : Hop} (h : l[k]? = some x) (hp : ∀ (j : Nat) y, j < k → l[j]? = some y → y.ia ≠ r) (e : x.ia = r) : firstH l r = k := by
  unfold firstH
  have hk := List.getElem?_eq_some_iff.1 h
  have : l.findIdx? (fun x => decide (x.ia = r)) = some k := by
    rw [List.findIdx?_eq_some_iff_getElem]; have hkl := hk.1; refine ⟨hk.1, by rw [hk.2]; simp [e], fun j hj => ?_⟩; have := hp j (l[j]'(by omega)) hj (List.getElem?_eq_getElem (by omega))
    simp [this]
  rw [this]; rfl
theorem firstH_no {l : List Hop} {r : Int} (hp : ∀ (j : Nat) y, j < l.length → l[j]? = some y → y.ia ≠ r) : firstH l r = -1 := by
  unfold firstH
  have : l.findIdx? (fun x => decide (x.ia = r)) = none := by
    rw [List.findIdx?_eq_none_iff]; intro x hx; obtain ⟨j, hj, e⟩ := List.mem_iff_getElem.1 hx; have := hp j x hj (by rw [List.getElem?_eq_getElem hj, e])
    simp [this]
  rw [this]; rfl
theorem flat_succ {α β : Type} {l : List α} {k : Nat} {x : α} (f : α → List β) (h : l[k]? = some x) : (l.take (k + 1)).flatMap f = (l.take k).flatMap f ++ f x := by
  rw [take_succ h, List.flatMap_append]; simp
theorem sz_segs_app (a b : List Seg) : sz_segs (a ++ b) = sz_segs a + sz_segs b := by
  unfold sz_segs
  rw [List.length_append, List.map_append, List.sum_append]
  omega
theorem sz_segs_mem {l : List Seg} {s : Seg} (h : s ∈ l) : 1 + s.hops.length ≤ sz_segs l := by
  have := le_sum_of_mem (List.mem_map.2 ⟨s, h, rfl⟩ : sz_seg s ∈ l.map sz_seg); have h0 : 0 < l.length := List.length_pos_of_mem h
  unfold sz_segs
  have e : sz_seg s = s.hops.length := rfl
  omega
theorem sz_filter (f : Seg → Bool) (l : List Seg) : sz_segs (l.filter f) ≤ sz_segs l := by
  induction l with
  | nil => exact Nat.le_refl _
  | cons a t ih =>
    have e : sz_segs (a :: t) = 1 + sz_seg a + sz_segs t := by unfold sz_segs; simp; omega
    rw [List.filter_cons]
    split
    · have e2 : sz_segs (a :: t.filter f) = 1 + sz_seg a + sz_segs (t.filter f) := by unfold sz_segs; simp; omega
      omega
    · omega
theorem hp_succ {l : List Hop} {r : Int} {k : Nat} {x : Hop} (h : l[k]? = some x) (hp : ∀ (j : Nat) y, j < k → l[j]? = some y → y.ia ≠ r) (e : x.ia ≠ r) : ∀ (j : Nat) y, j < k + 1 → l[j]? = some y → y.ia ≠ r := by
  intro j y hj hy
  rcases Nat.lt_or_ge j k with q | q
  · exact hp j y q hy
  · have : j = k := by omega
    subst this; rw [h] at hy; cases hy; exact e
theorem impl_firstHopOf (s : Seg) (v : Value) (r : Int) (w : World) (h : VA segT w v s) (hz : s.hops.length ≤ 1048576) : Calls Tryz.prog 92 #[v, I r] w fun e w' => e = .returned (I (firstH s.hops r)) ∧ Below w.heap.size w w' := by
 have X0 := Below.refl w.heap.size w; refine enter Tryz.func92 rfl Tryz.ntmps92 rfl ?_; refine w_h ?_; refine t_boxr ‹_› rfl ?_ rfl rfl; intro p2 w23 x24 hp2; replace h := h.below x24; have X0 := ext_trans X0 x24; have S := Sep.nil w23; have B := Below.refl w23.heap.size w23; have Hb := Nat.le_refl w23.heap.size; refine t_a rfl ?_ rfl; refine t_e ?_; (iterate 2 refine w_s ?_); refine w_g ?_; refine t_fld ln_seg_2 ‹_› fb_seg_2 rfl ?_ rfl; intro p7 hp7; refine t_lds ‹_› ab_s_hop B rfl ?_ rfl; intro v8 hv8; refine t_len e_hop ‹_› rfl rfl ?_ rfl; refine t_m rfl ?_ rfl; refine t_e ?_; refine w_block ?_; refine w_loop (X := Nat) (fun k wq => k ≤ s.hops.length ∧ (∀ (j : Nat) y, j < k → s.hops[j]? = some y → y.ia ≠ r) ∧ Below w23.heap.size w23 wq ∧ Sep w23.heap.size wq []) (fun k => [(10, I ((k : Int))), (1, I r), (8, v8), (9, I ((s.hops.length : Int)))]) (fun k => s.hops.length - k) (0) ?_ ⟨rfl, rfl, rfl, rfl, trivial⟩ ?_
 ·exact ⟨by omega, fun j y hj => by omega, B, S⟩
 ·rintro k w25 hI; (try dsimp only at hI ⊢); obtain ⟨hk, hp, B, S⟩ := hI; refine w_h ?_; refine t_lss rfl rfl ?_ rfl; refine t_e ?_; refine w_s ?_; refine w_if rfl ?_ ?_
  ·intro hlt; obtain ⟨x, hx⟩ : ∃ e, s.hops[k]? = some e := getx (by omega); refine w_k ?_; refine x_s ?_; refine w_s ?_; refine w_block ?_; refine w_h ?_; refine t_m rfl ?_ rfl; refine t_idx e_hop (k := k) ‹_› hx B rfl rfl (by first | rfl | omega) ?_ rfl; intro p13 hp13; refine t_lda ‹_› ab_hop sb_hop B rfl ?_ rfl; intro v14 hv14; obtain rfl := hop_va hv14; refine t_w S z_hop rfl ?_ rfl rfl; intro g6 w26 x27 S; have B := bx Hb B x27; refine t_a rfl ?_ rfl; refine t_stn S sb_hop rfl rfl rfl rfl (by repeat first | exact oc0 | refine oc rfl ?_) ?_; intro w28 b29 S; have B := B.trans b29; refine t_k ?_; refine t_y fb_hop_0 rfl rfl ?_ rfl; refine t_bx1 S.box ab_int rfl rfl ?_ rfl; refine t_m rfl ?_ rfl; refine t_eql rfl rfl ?_ rfl; refine t_e ?_; refine w_if rfl ?_ ?_
   ·intro he; refine w_h ?_; refine t_m rfl ?_ rfl; refine t_a rfl ?_ rfl; refine t_e ?_; refine w_r ?_; refine x_block_ret ?_; (iterate 2 refine x_t ?_); refine x_block_ret ?_; refine x_t ?_; refine x_ret1 rfl rfl ?_; exact ⟨ret_int (firstH_yes hx hp he).symm, ext_trans X0 B⟩
   ·intro he; refine w_k ?_; refine x_b ?_; refine x_s ?_; refine w_g ?_; refine t_add rfl rfl (by omega) ?_ rfl; refine t_m rfl ?_ rfl; refine t_d ?_; have S := S.tail; refine x_r (X := Nat) (k + 1) ?_ (by exact ⟨rfl, rfl, rfl, rfl, trivial⟩) (by (try dsimp only); omega); (try dsimp only); exact ⟨by omega, hp_succ hx hp he, B, S⟩
  ·intro hge; refine w_exit ?_; (iterate 2 refine x_then_exit ?_); refine x_block_exit ?_; refine x_s ?_; refine w_h ?_; refine t_a rfl ?_ rfl; refine t_e ?_; refine w_r ?_; refine x_ret1 rfl rfl ?_; exact ⟨ret_int (firstH_no fun j y hj => hp j y (by omega)).symm, ext_trans X0 B⟩
theorem spec_l23Index (s : Seg) (v : Value) (r : Int) (w : World) (h : VA segT w v s) (hz : s.hops.length ≤ 1048576) : Calls Tryz.prog 145 #[v, I r] w fun e w' => e = .returned (I (firstH s.hops r)) ∧ Below w.heap.size w w' := by
 have X0 := Below.refl w.heap.size w; refine enter Tryz.func145 rfl Tryz.ntmps145 rfl ?_; refine w_h ?_; refine t_boxr ‹_› rfl ?_ rfl rfl; intro p2 w30 x31 hp2; replace h := h.below x31; have X0 := ext_trans X0 x31; have S := Sep.nil w30; have B := Below.refl w30.heap.size w30; have Hb := Nat.le_refl w30.heap.size; refine t_a rfl ?_ rfl; refine t_e ?_; (iterate 2 refine w_s ?_); refine w_g ?_; refine t_a rfl ?_ rfl; refine t_e ?_; refine w_block ?_; refine w_loop (X := Nat) (fun k wq => k ≤ s.hops.length ∧ (∀ (j : Nat) y, j < k → s.hops[j]? = some y → y.ia ≠ r) ∧ Below w30.heap.size w30 wq ∧ Sep w30.heap.size wq []) (fun k => [(5, I ((k : Int))), (1, I r), (2, p2)]) (fun k => s.hops.length - k) (0) ?_ ⟨rfl, rfl, rfl, trivial⟩ ?_
 ·exact ⟨by omega, fun j y hj => by omega, B, S⟩
 ·rintro k w32 hI; (try dsimp only at hI ⊢); obtain ⟨hk, hp, B, S⟩ := hI; (iterate 2 refine w_s ?_); refine w_g ?_; refine t_m rfl ?_ rfl; refine t_fld ln_seg_2 ‹_› fb_seg_2 rfl ?_ rfl; intro p7 hp7; refine t_lds ‹_› ab_s_hop B rfl ?_ rfl; intro v8 hv8; refine t_len e_hop ‹_› rfl rfl ?_ rfl; refine t_lss rfl rfl ?_ rfl; refine t_e ?_; refine w_if rfl ?_ ?_
  ·intro hlt; obtain ⟨x, hx⟩ : ∃ e, s.hops[k]? = some e := getx (by omega); refine w_k ?_; refine x_s ?_; refine w_s ?_; refine w_block ?_; refine w_h ?_; refine t_fld ln_seg_2 ‹_› fb_seg_2 rfl ?_ rfl; intro p13 hp13; refine t_lds ‹_› ab_s_hop B rfl ?_ rfl; intro v14 hv14; refine t_m rfl ?_ rfl; refine t_idx e_hop (k := k) ‹_› hx B rfl rfl (by first | rfl | omega) ?_ rfl; intro p16 hp16; refine t_fld ln_hop_0 ‹_› fb_hop_0 rfl ?_ rfl; intro p17 hp17; refine t_ldi ‹_› ab_int B rfl ?_ rfl; refine t_m rfl ?_ rfl; refine t_eql rfl rfl ?_ rfl; refine t_e ?_; refine w_if rfl ?_ ?_
   ·intro he; refine w_h ?_; refine t_m rfl ?_ rfl; refine t_a rfl ?_ rfl; refine t_e ?_; refine w_r ?_; refine x_block_ret ?_; (iterate 2 refine x_t ?_); refine x_block_ret ?_; refine x_t ?_; refine x_ret1 rfl rfl ?_; exact ⟨ret_int (firstH_yes hx hp he).symm, ext_trans X0 B⟩
   ·intro he; refine w_k ?_; refine x_b ?_; refine x_s ?_; refine w_g ?_; refine t_m rfl ?_ rfl; refine t_add rfl rfl (by omega) ?_ rfl; refine t_a rfl ?_ rfl; refine t_d ?_; refine x_r (X := Nat) (k + 1) ?_ (by exact ⟨rfl, rfl, rfl, trivial⟩) (by (try dsimp only); omega); (try dsimp only); exact ⟨by omega, hp_succ hx hp he, B, S⟩
  ·intro hge; refine w_exit ?_; (iterate 2 refine x_then_exit ?_); refine x_block_exit ?_; refine x_s ?_; refine w_h ?_; refine t_a rfl ?_ rfl; refine t_e ?_; refine w_r ?_; refine x_ret1 rfl rfl ?_; exact ⟨ret_int (firstH_no fun j y hj => hp j y (by omega)).symm, ext_trans X0 B⟩
theorem sz_take (l : List Seg) (k : Nat) : sz_segs (l.take k) ≤ sz_segs l := by
  have := sz_segs_app (l.take k) (l.drop k); rw [List.take_append_drop] at this
  omega
theorem impl_DownSegments (q : Sdb) (v : Value) (r : Int) (w : World) (h : VA sdbT w v q) (hz : sz_sdb q ≤ 1048576) : Calls Tryz.prog 91 #[v, I r] w fun e w' => ∃ v fp, e = .returned v ∧ SlO segT 67 w.heap.size w' v (downs q r) fp ∧ Below w.heap.size w w' := by
 have hz1 : sz_segs q.down ≤ 1048576 := by unfold sz_sdb at hz; omega
 have hl1 : q.down.length ≤ 1048576 := by unfold sz_segs at hz1; omega
 have X0 := Below.refl w.heap.size w; refine enter Tryz.func91 rfl Tryz.ntmps91 rfl ?_; refine w_h ?_; refine t_boxr ‹_› rfl ?_ rfl rfl; intro p2 w33 x34 hp2; replace h := h.below x34; have X0 := ext_trans X0 x34; have S := Sep.nil w33; have B := Below.refl w33.heap.size w33; have Hb := Nat.le_refl w33.heap.size; refine t_a rfl ?_ rfl; refine t_k ?_; refine t_a rfl ?_ rfl; refine t_e ?_; (iterate 2 refine w_s ?_); refine w_g ?_; refine t_fld ln_sdb_0 ‹_› fb_sdb_0 rfl ?_ rfl; intro p8 hp8; refine t_lds ‹_› ab_s_seg B rfl ?_ rfl; intro v9 hv9; refine t_len e_seg ‹_› rfl rfl ?_ rfl; refine t_m rfl ?_ rfl; refine t_e ?_; refine w_block ?_; refine w_loop (X := Nat × List Seg × Value) (fun x wq => (fun k out u => k ≤ q.down.length ∧ out = downs ⟨q.down.take k, q.core⟩ r ∧ Below w33.heap.size w33 wq ∧ Sep w33.heap.size wq [slO segT 67 u out]) x.1 x.2.1 x.2.2) (fun x => (fun k out u => [(11, I ((k : Int))), (5, u), (1, I r), (4, .slice none 0 0), (9, v9), (10, I ((q.down.length : Int)))]) x.1 x.2.1 x.2.2) (fun x => (fun k out u => q.down.length - k) x.1 x.2.1 x.2.2) (0, [], _) ?_ ⟨rfl, rfl, rfl, rfl, rfl, rfl, trivial⟩ ?_
 ·exact ⟨by omega, rfl, B, S.addNil⟩
 ·rintro ⟨k, out, u⟩ w35 hI; (try dsimp only at hI ⊢); obtain ⟨hk, ho, B, S⟩ := hI
  have hso : sz_segs out ≤ 1048576 := by
   rw [ho]; unfold downs; exact Nat.le_trans (Nat.le_trans (sz_filter _ _) (sz_take _ _)) hz1
  have hol : out.length ≤ 1048576 := by unfold sz_segs at hso; omega
  refine w_h ?_; refine t_lss rfl rfl ?_ rfl; refine t_e ?_; refine w_s ?_; refine w_if rfl ?_ ?_
  ·intro hlt; obtain ⟨x, hx⟩ : ∃ e, q.down[k]? = some e := getx (by omega); have hxz := sz_segs_mem (List.mem_of_getElem? hx); refine w_k ?_; refine x_s ?_; refine w_s ?_; refine w_block ?_; refine w_h ?_; refine t_idx e_seg (k := k) ‹_› hx B rfl rfl (by first | rfl | omega) ?_ rfl; intro p13 hp13; refine t_lda ‹_› ab_seg sb_seg B rfl ?_ rfl; intro v14 hv14; obtain ⟨v14_2, rfl, hv14_2⟩ := seg_va hv14; refine t_w S z_seg rfl ?_ rfl rfl; intro g7 w36 x37 S; have B := bx Hb B x37; refine t_stn S sb_seg rfl rfl rfl rfl (by repeat first | exact oc0 | refine oc rfl ?_ | refine oc (SlR.cells ‹_›).2 ?_) ?_; intro w38 b39 S; have B := B.trans b39; refine t_k ?_; refine t_b S.box ab_seg sb_seg rfl rfl ?_ rfl; refine t_x Tryz.call132 rfl (impl_LastAS x _ _ (by first | assumption | exact VA.below ‹_› B | exact seg_mkv (by first | assumption | exact SlR.below ‹_› B)) (by omega)) ?_ rfl rfl; intro w40 x41; have B := bx Hb B x41; have S := S.below x41; refine t_m rfl ?_ rfl; refine t_eql rfl rfl ?_ rfl; refine t_e ?_; refine w_if rfl ?_ ?_
   ·intro he; refine w_g ?_; refine t_m rfl ?_ rfl; refine t_b S.box ab_seg sb_seg rfl rfl ?_ rfl; refine t_c Tryz.call133 rfl (impl_copySegment _ _ _ (by first | assumption | exact VA.below ‹_› B | exact seg_mkv (by first | assumption | exact SlR.below ‹_› B)) (by omega)) ?_ rfl rfl; rintro e w42 ⟨cs21, fp21, rfl, hO21, x43⟩; refine ⟨_, rfl, x43, ?_⟩; have S := S.add (o := tyO segT _ _) x43 hO21; have B := bx Hb B x43; obtain ⟨u21_2, rfl, S2⟩ := S.segOpen; have S := S2; refine t_lit1 (fun w => bs_seg1 _ _ _ w) rfl ?_ rfl rfl; intro A22 w44 x45 hA22; have B := bx Hb B x45; have S := S.below x45; have S := S.segShut (x := x); have S := S.f2; refine t_snoc e_seg S hA22 rfl rfl rfl (by first | omega | (simp; done) | (simp; omega)) (by (simp only [maxLen]); first | omega | (simp; done) | (simp; omega)) ?_ rfl; intro v23 w46 x47 S; have B := B.trans x47; refine t_a rfl ?_ rfl; refine t_d ?_; refine x_b ?_; refine x_s ?_; refine w_g ?_; refine t_add rfl rfl (by omega) ?_ rfl; refine t_m rfl ?_ rfl; refine t_d ?_; have S := S.f1.tail; refine x_r (X := Nat × List Seg × Value) (k + 1, out ++ [x], v23) ?_ (by exact ⟨rfl, rfl, rfl, rfl, rfl, rfl, trivial⟩) (by (try dsimp only); omega)
    (try dsimp only); exact ⟨by omega, by rw [ho]; unfold downs; rw [filt_succ _ hx, if_pos (by simpa using he)], B, S⟩
   ·intro he; refine w_k ?_; refine x_b ?_; refine x_s ?_; refine w_g ?_; refine t_add rfl rfl (by omega) ?_ rfl; refine t_m rfl ?_ rfl; refine t_d ?_; have S := S.tail; refine x_r (X := Nat × List Seg × Value) (k + 1, out, u) ?_ (by exact ⟨rfl, rfl, rfl, rfl, rfl, rfl, trivial⟩) (by (try dsimp only); omega); (try dsimp only); exact ⟨by omega, by rw [ho]; unfold downs; rw [filt_succ _ hx, if_neg (by simpa using he), List.append_nil], B, S⟩
  ·intro hge; refine w_exit ?_; (iterate 2 refine x_then_exit ?_); refine x_block_exit ?_; refine x_s ?_; refine w_h ?_; refine t_m rfl ?_ rfl; refine t_a rfl ?_ rfl; refine t_e ?_; refine w_r ?_; refine x_ret1 rfl rfl ?_; obtain ⟨fp, hO⟩ := (S.mono X0.size).head; rw [ho, List.take_of_length_le (by omega)] at hO; exact ⟨_, fp, rfl, hO, ext_trans X0 B⟩
theorem spec_DownSegments (q : Sdb) (v : Value) (r : Int) (w : World) (h : VA sdbT w v q) (hz : sz_sdb q ≤ 1048576) : Calls Tryz.prog 101 #[v, I r] w fun e w' => ∃ v fp, e = .returned v ∧ SlO segT 67 w.heap.size w' v (downs q r) fp ∧ Below w.heap.size w w' := by
 have hz1 : sz_segs q.down ≤ 1048576 := by unfold sz_sdb at hz; omega
 have hl1 : q.down.length ≤ 1048576 := by unfold sz_segs at hz1; omega
 have X0 := Below.refl w.heap.size w; refine enter Tryz.func101 rfl Tryz.ntmps101 rfl ?_; refine w_h ?_; refine t_boxr ‹_› rfl ?_ rfl rfl; intro p2 w48 x49 hp2; replace h := h.below x49; have X0 := ext_trans X0 x49; have S := Sep.nil w48; have B := Below.refl w48.heap.size w48; have Hb := Nat.le_refl w48.heap.size; refine t_a rfl ?_ rfl; refine t_k ?_; refine t_lit0 (T := segT) S bs_seg0 rfl ?_ rfl rfl; intro A7 w50 x51 S; have B := bx Hb B x51; refine t_a rfl ?_ rfl; refine t_e ?_; (iterate 2 refine w_s ?_); refine w_g ?_; refine t_a rfl ?_ rfl; refine t_e ?_; refine w_block ?_; refine w_loop (X := Nat × List Seg × Value) (fun x wq => (fun k out u => k ≤ q.down.length ∧ out = downs ⟨q.down.take k, q.core⟩ r ∧ Below w48.heap.size w48 wq ∧ Sep w48.heap.size wq [slO segT 67 u out]) x.1 x.2.1 x.2.2) (fun x => (fun k out u => [(6, I ((k : Int))), (5, u), (1, I r), (2, p2), (4, .slice none 0 0)]) x.1 x.2.1 x.2.2) (fun x => (fun k out u => q.down.length - k) x.1 x.2.1 x.2.2) (0, [], _) ?_ ⟨rfl, rfl, rfl, rfl, rfl, trivial⟩ ?_
 ·exact ⟨by omega, rfl, B, S⟩
 ·rintro ⟨k, out, u⟩ w52 hI; (try dsimp only at hI ⊢); obtain ⟨hk, ho, B, S⟩ := hI
  have hso : sz_segs out ≤ 1048576 := by
   rw [ho]; unfold downs; exact Nat.le_trans (Nat.le_trans (sz_filter _ _) (sz_take _ _)) hz1
  have hol : out.length ≤ 1048576 := by unfold sz_segs at hso; omega
  (iterate 2 refine w_s ?_); refine w_g ?_; refine t_m rfl ?_ rfl; refine t_fld ln_sdb_0 ‹_› fb_sdb_0 rfl ?_ rfl; intro p9 hp9; refine t_lds ‹_› ab_s_seg B rfl ?_ rfl; intro v10 hv10; refine t_len e_seg ‹_› rfl rfl ?_ rfl; refine t_lss rfl rfl ?_ rfl; refine t_e ?_; refine w_if rfl ?_ ?_
  ·intro hlt; obtain ⟨x, hx⟩ : ∃ e, q.down[k]? = some e := getx (by omega); have hxz := sz_segs_mem (List.mem_of_getElem? hx); refine w_k ?_; refine x_s ?_; refine w_s ?_; refine w_block ?_; refine w_h ?_; refine t_fld ln_sdb_0 ‹_› fb_sdb_0 rfl ?_ rfl; intro p15 hp15; refine t_lds ‹_› ab_s_seg B rfl ?_ rfl; intro v16 hv16; refine t_m rfl ?_ rfl; refine t_idx e_seg (k := k) ‹_› hx B rfl rfl (by first | rfl | omega) ?_ rfl; intro p18 hp18; refine t_lda ‹_› ab_seg sb_seg B rfl ?_ rfl; intro v19 hv19; obtain ⟨v19_2, rfl, hv19_2⟩ := seg_va hv19; refine t_x Tryz.call114 rfl (spec_LastAS x _ _ (by first | assumption | exact VA.below ‹_› B | exact seg_mkv (by first | assumption | exact SlR.below ‹_› B)) (by omega)) ?_ rfl rfl; intro w53 x54; have B := bx Hb B x54; have S := S.below x54; refine t_m rfl ?_ rfl; refine t_eql rfl rfl ?_ rfl; refine t_e ?_; refine w_if rfl ?_ ?_
   ·intro he; refine w_g ?_; refine t_m rfl ?_ rfl; refine t_fld ln_sdb_0 ‹_› fb_sdb_0 rfl ?_ rfl; intro p24 hp24; refine t_lds ‹_› ab_s_seg B rfl ?_ rfl; intro v25 hv25; refine t_m rfl ?_ rfl; refine t_idx e_seg (k := k) ‹_› hx B rfl rfl (by first | rfl | omega) ?_ rfl; intro p27 hp27; refine t_lda ‹_› ab_seg sb_seg B rfl ?_ rfl; intro v28 hv28; obtain ⟨v28_2, rfl, hv28_2⟩ := seg_va hv28; refine t_c Tryz.call146 rfl (spec_l9Copy _ _ _ (by first | assumption | exact VA.below ‹_› B | exact seg_mkv (by first | assumption | exact SlR.below ‹_› B)) (by omega)) ?_ rfl rfl; rintro e w55 ⟨cs29, fp29, rfl, hO29, x56⟩; refine ⟨_, rfl, x56, ?_⟩; have S := S.add (o := tyO segT _ _) x56 hO29; have B := bx Hb B x56; obtain ⟨u29_2, rfl, S2⟩ := S.segOpen; have S := S2; refine t_lit1 (fun w => bs_seg1 _ _ _ w) rfl ?_ rfl rfl; intro A30 w57 x58 hA30; have B := bx Hb B x58; have S := S.below x58; have S := S.segShut (x := x); have S := S.f1; refine t_snoc e_seg S hA30 rfl rfl rfl (by first | omega | (simp; done) | (simp; omega)) (by (simp only [maxLen]); first | omega | (simp; done) | (simp; omega)) ?_ rfl; intro v31 w59 x60 S; have B := B.trans x60; refine t_a rfl ?_ rfl; refine t_d ?_
    refine x_b ?_; refine x_s ?_; refine w_g ?_; refine t_m rfl ?_ rfl; refine t_add rfl rfl (by omega) ?_ rfl; refine t_a rfl ?_ rfl; refine t_d ?_; refine x_r (X := Nat × List Seg × Value) (k + 1, out ++ [x], v31) ?_ (by exact ⟨rfl, rfl, rfl, rfl, rfl, trivial⟩) (by (try dsimp only); omega); (try dsimp only); exact ⟨by omega, by rw [ho]; unfold downs; rw [filt_succ _ hx, if_pos (by simpa using he)], B, S⟩
   ·intro he; refine w_k ?_; refine x_b ?_; refine x_s ?_; refine w_g ?_; refine t_m rfl ?_ rfl; refine t_add rfl rfl (by omega) ?_ rfl; refine t_a rfl ?_ rfl; refine t_d ?_; refine x_r (X := Nat × List Seg × Value) (k + 1, out, u) ?_ (by exact ⟨rfl, rfl, rfl, rfl, rfl, trivial⟩) (by (try dsimp only); omega); (try dsimp only); exact ⟨by omega, by rw [ho]; unfold downs; rw [filt_succ _ hx, if_neg (by simpa using he), List.append_nil], B, S⟩
  ·intro hge; refine w_exit ?_; (iterate 2 refine x_then_exit ?_); refine x_block_exit ?_; refine x_s ?_; refine w_h ?_; refine t_m rfl ?_ rfl; refine t_a rfl ?_ rfl; refine t_e ?_; refine w_r ?_; refine x_ret1 rfl rfl ?_; obtain ⟨fp, hO⟩ := (S.mono X0.size).head; rw [ho, List.take_of_length_le (by omega)] at hO; exact ⟨_, fp, rfl, hO, ext_trans X0 B⟩
theorem impl_coreFrom (q : Sdb) (v : Value) (a b : Int) (w : World) (h : VA sdbT w v q) (hz : sz_sdb q ≤ 1048576) : Calls Tryz.prog 136 #[v, I a, I b] w fun e w' => ∃ v fp, e = .returned v ∧ SlO segT 67 w.heap.size w' v (betw q a b) fp ∧ Below w.heap.size w w' := by
 have hz1 : sz_segs q.core ≤ 1048576 := by unfold sz_sdb at hz; omega
 have hl1 : q.core.length ≤ 1048576 := by unfold sz_segs at hz1; omega
 have X0 := Below.refl w.heap.size w; refine enter Tryz.func136 rfl Tryz.ntmps136 rfl ?_; refine w_h ?_; refine t_boxr ‹_› rfl ?_ rfl rfl; intro p3 w61 x62 hp3; replace h := h.below x62; have X0 := ext_trans X0 x62; have S := Sep.nil w61; have B := Below.refl w61.heap.size w61; have Hb := Nat.le_refl w61.heap.size; refine t_a rfl ?_ rfl; refine t_k ?_; refine t_a rfl ?_ rfl; refine t_e ?_; (iterate 2 refine w_s ?_); refine w_g ?_; refine t_fld ln_sdb_1 ‹_› fb_sdb_1 rfl ?_ rfl; intro p10 hp10; refine t_lds ‹_› ab_s_seg B rfl ?_ rfl; intro v11 hv11; refine t_len e_seg ‹_› rfl rfl ?_ rfl; refine t_m rfl ?_ rfl; refine t_e ?_; refine w_block ?_; refine w_loop (X := Nat × List Seg × Value) (fun x wq => (fun k out u => k ≤ q.core.length ∧ out = betw ⟨q.down, q.core.take k⟩ a b ∧ Below w61.heap.size w61 wq ∧ Sep w61.heap.size wq [slO segT 67 u out]) x.1 x.2.1 x.2.2) (fun x => (fun k out u => [(13, I ((k : Int))), (7, u), (1, I a), (2, I b), (6, .slice none 0 0), (11, v11), (12, I ((q.core.length : Int)))]) x.1 x.2.1 x.2.2) (fun x => (fun k out u => q.core.length - k) x.1 x.2.1 x.2.2) (0, [], _) ?_ ⟨rfl, rfl, rfl, rfl, rfl, rfl, rfl, trivial⟩ ?_
 ·exact ⟨by omega, rfl, B, S.addNil⟩
 ·rintro ⟨k, out, u⟩ w63 hI; (try dsimp only at hI ⊢); obtain ⟨hk, ho, B, S⟩ := hI
  have hso : sz_segs out ≤ 1048576 := by
   rw [ho]; unfold betw; exact Nat.le_trans (Nat.le_trans (sz_filter _ _) (sz_take _ _)) hz1
  have hol : out.length ≤ 1048576 := by unfold sz_segs at hso; omega
  refine w_h ?_; refine t_lss rfl rfl ?_ rfl; refine t_e ?_; refine w_s ?_; refine w_if rfl ?_ ?_
  ·intro hlt; obtain ⟨x, hx⟩ : ∃ e, q.core[k]? = some e := getx (by omega); have hxz := sz_segs_mem (List.mem_of_getElem? hx); refine w_k ?_; refine x_s ?_; refine w_s ?_; refine w_block ?_; refine w_h ?_; refine t_idx e_seg (k := k) ‹_› hx B rfl rfl (by first | rfl | omega) ?_ rfl; intro p15 hp15; refine t_lda ‹_› ab_seg sb_seg B rfl ?_ rfl; intro v16 hv16; obtain ⟨v16_2, rfl, hv16_2⟩ := seg_va hv16; refine t_w S z_seg rfl ?_ rfl rfl; intro g9 w64 x65 S; have B := bx Hb B x65; refine t_stn S sb_seg rfl rfl rfl rfl (by repeat first | exact oc0 | refine oc rfl ?_ | refine oc (SlR.cells ‹_›).2 ?_) ?_; intro w66 b67 S; have B := B.trans b67; refine t_k ?_; refine t_b S.box ab_seg sb_seg rfl rfl ?_ rfl; refine t_x Tryz.call96 rfl (impl_FirstAS x _ _ (by first | assumption | exact VA.below ‹_› B | exact seg_mkv (by first | assumption | exact SlR.below ‹_› B)) (by omega)) ?_ rfl rfl; intro w68 x69; have B := bx Hb B x69; have S := S.below x69; refine t_m rfl ?_ rfl; refine t_eql rfl rfl ?_ rfl; refine t_m rfl ?_ rfl; refine t_partp (t := 21) rfl ?_ ?_
   ·intro h1; refine t_on rfl rfl ?_; refine t_b S.box ab_seg sb_seg rfl rfl ?_ rfl; refine t_on rfl rfl ?_; refine t_x Tryz.call132 rfl (impl_LastAS x _ _ (by first | assumption | exact VA.below ‹_› B | exact seg_mkv (by first | assumption | exact SlR.below ‹_› B)) (by omega)) ?_ rfl rfl; intro w70 x71; have B := bx Hb B x71; have S := S.below x71; refine t_on rfl rfl ?_; refine t_m rfl ?_ rfl; refine t_on rfl rfl ?_; refine t_eql rfl rfl ?_ rfl; refine t_q rfl rfl ?_ rfl; refine t_e ?_; refine w_if rfl ?_ ?_
    ·intro h2; refine w_g ?_; refine t_m rfl ?_ rfl; refine t_b S.box ab_seg sb_seg rfl rfl ?_ rfl; refine t_c Tryz.call133 rfl (impl_copySegment _ _ _ (by first | assumption | exact VA.below ‹_› B | exact seg_mkv (by first | assumption | exact SlR.below ‹_› B)) (by omega)) ?_ rfl rfl; rintro e w72 ⟨cs29, fp29, rfl, hO29, x73⟩; refine ⟨_, rfl, x73, ?_⟩; have S := S.add (o := tyO segT _ _) x73 hO29; have B := bx Hb B x73; obtain ⟨u29_2, rfl, S2⟩ := S.segOpen; have S := S2; refine t_lit1 (fun w => bs_seg1 _ _ _ w) rfl ?_ rfl rfl; intro A30 w74 x75 hA30; have B := bx Hb B x75; have S := S.below x75; have S := S.segShut (x := x); have S := S.f2; refine t_snoc e_seg S hA30 rfl rfl rfl (by first | omega | (simp; done) | (simp; omega)) (by (simp only [maxLen]); first | omega | (simp; done) | (simp; omega)) ?_ rfl; intro v31 w76 x77 S; have B := B.trans x77; refine t_a rfl ?_ rfl; refine t_d ?_; refine x_b ?_; refine x_s ?_; refine w_g ?_; refine t_add rfl rfl (by omega) ?_ rfl; refine t_m rfl ?_ rfl; refine t_d ?_; have S := S.f1.tail; refine x_r (X := Nat × List Seg × Value) (k + 1, out ++ [x], v31) ?_ (by exact ⟨rfl, rfl, rfl, rfl, rfl, rfl, rfl, trivial⟩) (by (try dsimp only); omega)
     (try dsimp only); exact ⟨by omega, by rw [ho]; unfold betw; rw [filt_succ _ hx, if_pos (by simp [h1, h2])], B, S⟩
    ·intro h2; refine w_k ?_; refine x_b ?_; refine x_s ?_; refine w_g ?_; refine t_add rfl rfl (by omega) ?_ rfl; refine t_m rfl ?_ rfl; refine t_d ?_; have S := S.tail; refine x_r (X := Nat × List Seg × Value) (k + 1, out, u) ?_ (by exact ⟨rfl, rfl, rfl, rfl, rfl, rfl, rfl, trivial⟩) (by (try dsimp only); omega); (try dsimp only); exact ⟨by omega, by rw [ho]; unfold betw; rw [filt_succ _ hx, if_neg (by simp [h1, h2]), List.append_nil], B, S⟩
   ·intro h1; (iterate 4 refine t_off rfl rfl rfl ?_ rfl); refine t_p rfl rfl ?_ rfl; refine t_e ?_; refine w_no rfl ?_; refine w_k ?_; refine x_b ?_; refine x_s ?_; refine w_g ?_; refine t_add rfl rfl (by omega) ?_ rfl; refine t_m rfl ?_ rfl; refine t_d ?_; have S := S.tail; refine x_r (X := Nat × List Seg × Value) (k + 1, out, u) ?_ (by exact ⟨rfl, rfl, rfl, rfl, rfl, rfl, rfl, trivial⟩) (by (try dsimp only); omega); (try dsimp only); exact ⟨by omega, by rw [ho]; unfold betw; rw [filt_succ _ hx, if_neg (by simp [h1]), List.append_nil], B, S⟩
  ·intro hge; refine w_exit ?_; (iterate 2 refine x_then_exit ?_); refine x_block_exit ?_; refine x_s ?_; refine w_h ?_; refine t_m rfl ?_ rfl; refine t_a rfl ?_ rfl; refine t_e ?_; refine w_r ?_; refine x_ret1 rfl rfl ?_; obtain ⟨fp, hO⟩ := (S.mono X0.size).head; rw [ho, List.take_of_length_le (by omega)] at hO; exact ⟨_, fp, rfl, hO, ext_trans X0 B⟩
theorem spec_l16Between (q : Sdb) (v : Value) (a b : Int) (w : World) (h : VA sdbT w v q) (hz : sz_sdb q ≤ 1048576) : Calls Tryz.prog 147 #[v, I a, I b] w fun e w' => ∃ v fp, e = .returned v ∧ SlO segT 67 w.heap.size w' v (betw q a b) fp ∧ Below w.heap.size w w' := by
 have hz1 : sz_segs q.core ≤ 1048576 := by unfold sz_sdb at hz; omega
 have hl1 : q.core.length ≤ 1048576 := by unfold sz_segs at hz1; omega
 have X0 := Below.refl w.heap.size w; refine enter Tryz.func147 rfl Tryz.ntmps147 rfl ?_; refine w_h ?_; refine t_boxr ‹_› rfl ?_ rfl rfl; intro p3 w78 x79 hp3; replace h := h.below x79; have X0 := ext_trans X0 x79; have S := Sep.nil w78; have B := Below.refl w78.heap.size w78; have Hb := Nat.le_refl w78.heap.size; refine t_a rfl ?_ rfl; refine t_k ?_; refine t_lit0 (T := segT) S bs_seg0 rfl ?_ rfl rfl; intro A9 w80 x81 S; have B := bx Hb B x81; refine t_a rfl ?_ rfl; refine t_e ?_; (iterate 2 refine w_s ?_); refine w_g ?_; refine t_a rfl ?_ rfl; refine t_e ?_; refine w_block ?_; refine w_loop (X := Nat × List Seg × Value) (fun x wq => (fun k out u => k ≤ q.core.length ∧ out = betw ⟨q.down, q.core.take k⟩ a b ∧ Below w78.heap.size w78 wq ∧ Sep w78.heap.size wq [slO segT 67 u out]) x.1 x.2.1 x.2.2) (fun x => (fun k out u => [(8, I ((k : Int))), (7, u), (1, I a), (2, I b), (3, p3), (6, .slice none 0 0)]) x.1 x.2.1 x.2.2) (fun x => (fun k out u => q.core.length - k) x.1 x.2.1 x.2.2) (0, [], _) ?_ ⟨rfl, rfl, rfl, rfl, rfl, rfl, trivial⟩ ?_
 ·exact ⟨by omega, rfl, B, S⟩
 ·rintro ⟨k, out, u⟩ w82 hI; (try dsimp only at hI ⊢); obtain ⟨hk, ho, B, S⟩ := hI
  have hso : sz_segs out ≤ 1048576 := by
   rw [ho]; unfold betw; exact Nat.le_trans (Nat.le_trans (sz_filter _ _) (sz_take _ _)) hz1
  have hol : out.length ≤ 1048576 := by unfold sz_segs at hso; omega
  (iterate 2 refine w_s ?_); refine w_g ?_; refine t_m rfl ?_ rfl; refine t_fld ln_sdb_1 ‹_› fb_sdb_1 rfl ?_ rfl; intro p11 hp11; refine t_lds ‹_› ab_s_seg B rfl ?_ rfl; intro v12 hv12; refine t_len e_seg ‹_› rfl rfl ?_ rfl; refine t_lss rfl rfl ?_ rfl; refine t_e ?_; refine w_if rfl ?_ ?_
  ·intro hlt; obtain ⟨x, hx⟩ : ∃ e, q.core[k]? = some e := getx (by omega); have hxz := sz_segs_mem (List.mem_of_getElem? hx); refine w_k ?_; refine x_s ?_; refine w_s ?_; refine w_block ?_; refine w_h ?_; refine t_fld ln_sdb_1 ‹_› fb_sdb_1 rfl ?_ rfl; intro p17 hp17; refine t_lds ‹_› ab_s_seg B rfl ?_ rfl; intro v18 hv18; refine t_m rfl ?_ rfl; refine t_idx e_seg (k := k) ‹_› hx B rfl rfl (by first | rfl | omega) ?_ rfl; intro p20 hp20; refine t_lda ‹_› ab_seg sb_seg B rfl ?_ rfl; intro v21 hv21; obtain ⟨v21_2, rfl, hv21_2⟩ := seg_va hv21; refine t_x Tryz.call103 rfl (spec_FirstAS x _ _ (by first | assumption | exact VA.below ‹_› B | exact seg_mkv (by first | assumption | exact SlR.below ‹_› B)) (by omega)) ?_ rfl rfl; intro w83 x84; have B := bx Hb B x84; have S := S.below x84; refine t_m rfl ?_ rfl; refine t_eql rfl rfl ?_ rfl; refine t_m rfl ?_ rfl; refine t_partp (t := 25) rfl ?_ ?_
   ·intro h1; refine t_on rfl rfl ?_; refine t_fld ln_sdb_1 ‹_› fb_sdb_1 rfl ?_ rfl; intro p26 hp26; refine t_on rfl rfl ?_; refine t_lds ‹_› ab_s_seg B rfl ?_ rfl; intro v27 hv27; refine t_on rfl rfl ?_; refine t_m rfl ?_ rfl; refine t_on rfl rfl ?_; refine t_idx e_seg (k := k) ‹_› hx B rfl rfl (by first | rfl | omega) ?_ rfl; intro p29 hp29; refine t_on rfl rfl ?_; refine t_lda ‹_› ab_seg sb_seg B rfl ?_ rfl; intro v30 hv30; obtain ⟨v30_2, rfl, hv30_2⟩ := seg_va hv30; refine t_on rfl rfl ?_; refine t_x Tryz.call114 rfl (spec_LastAS x _ _ (by first | assumption | exact VA.below ‹_› B | exact seg_mkv (by first | assumption | exact SlR.below ‹_› B)) (by omega)) ?_ rfl rfl; intro w85 x86; have B := bx Hb B x86; have S := S.below x86; refine t_on rfl rfl ?_; refine t_m rfl ?_ rfl; refine t_on rfl rfl ?_; refine t_eql rfl rfl ?_ rfl; refine t_q rfl rfl ?_ rfl; refine t_e ?_; refine w_if rfl ?_ ?_
    ·intro h2; refine w_g ?_; refine t_m rfl ?_ rfl; refine t_fld ln_sdb_1 ‹_› fb_sdb_1 rfl ?_ rfl; intro p36 hp36; refine t_lds ‹_› ab_s_seg B rfl ?_ rfl; intro v37 hv37; refine t_m rfl ?_ rfl; refine t_idx e_seg (k := k) ‹_› hx B rfl rfl (by first | rfl | omega) ?_ rfl; intro p39 hp39; refine t_lda ‹_› ab_seg sb_seg B rfl ?_ rfl; intro v40 hv40; obtain ⟨v40_2, rfl, hv40_2⟩ := seg_va hv40; refine t_c Tryz.call146 rfl (spec_l9Copy _ _ _ (by first | assumption | exact VA.below ‹_› B | exact seg_mkv (by first | assumption | exact SlR.below ‹_› B)) (by omega)) ?_ rfl rfl; rintro e w87 ⟨cs41, fp41, rfl, hO41, x88⟩; refine ⟨_, rfl, x88, ?_⟩; have S := S.add (o := tyO segT _ _) x88 hO41; have B := bx Hb B x88; obtain ⟨u41_2, rfl, S2⟩ := S.segOpen; have S := S2; refine t_lit1 (fun w => bs_seg1 _ _ _ w) rfl ?_ rfl rfl; intro A42 w89 x90 hA42; have B := bx Hb B x90; have S := S.below x90; have S := S.segShut (x := x); have S := S.f1; refine t_snoc e_seg S hA42 rfl rfl rfl (by first | omega | (simp; done) | (simp; omega)) (by (simp only [maxLen]); first | omega | (simp; done) | (simp; omega)) ?_ rfl; intro v43 w91 x92 S; have B := B.trans x92; refine t_a rfl ?_ rfl; refine t_d ?_
     refine x_b ?_; refine x_s ?_; refine w_g ?_; refine t_m rfl ?_ rfl; refine t_add rfl rfl (by omega) ?_ rfl; refine t_a rfl ?_ rfl; refine t_d ?_; refine x_r (X := Nat × List Seg × Value) (k + 1, out ++ [x], v43) ?_ (by exact ⟨rfl, rfl, rfl, rfl, rfl, rfl, trivial⟩) (by (try dsimp only); omega); (try dsimp only); exact ⟨by omega, by rw [ho]; unfold betw; rw [filt_succ _ hx, if_pos (by simp [h1, h2])], B, S⟩
    ·intro h2; refine w_k ?_; refine x_b ?_; refine x_s ?_; refine w_g ?_; refine t_m rfl ?_ rfl; refine t_add rfl rfl (by omega) ?_ rfl; refine t_a rfl ?_ rfl; refine t_d ?_; refine x_r (X := Nat × List Seg × Value) (k + 1, out, u) ?_ (by exact ⟨rfl, rfl, rfl, rfl, rfl, rfl, trivial⟩) (by (try dsimp only); omega); (try dsimp only); exact ⟨by omega, by rw [ho]; unfold betw; rw [filt_succ _ hx, if_neg (by simp [h1, h2]), List.append_nil], B, S⟩
   ·intro h1; (iterate 8 refine t_off rfl rfl rfl ?_ rfl); refine t_p rfl rfl ?_ rfl; refine t_e ?_; refine w_no rfl ?_; refine w_k ?_; refine x_b ?_; refine x_s ?_; refine w_g ?_; refine t_m rfl ?_ rfl; refine t_add rfl rfl (by omega) ?_ rfl; refine t_a rfl ?_ rfl; refine t_d ?_; refine x_r (X := Nat × List Seg × Value) (k + 1, out, u) ?_ (by exact ⟨rfl, rfl, rfl, rfl, rfl, rfl, trivial⟩) (by (try dsimp only); omega); (try dsimp only); exact ⟨by omega, by rw [ho]; unfold betw; rw [filt_succ _ hx, if_neg (by simp [h1]), List.append_nil], B, S⟩
  ·intro hge; refine w_exit ?_; (iterate 2 refine x_then_exit ?_); refine x_block_exit ?_; refine x_s ?_; refine w_h ?_; refine t_m rfl ?_ rfl; refine t_a rfl ?_ rfl; refine t_e ?_; refine w_r ?_; refine x_ret1 rfl rfl ?_; obtain ⟨fp, hO⟩ := (S.mono X0.size).head; rw [ho, List.take_of_length_le (by omega)] at hO; exact ⟨_, fp, rfl, hO, ext_trans X0 B⟩
def btw (k : Sdb) (rev : Bool) (a b : Int) : List Seg := if rev then betw k b a else betw k a b
def coreP (s : Seg) (rev : Bool) : Part := makePart s (if rev then 3 else 2) 0
/-- A path of a book. -/
inductive Comb (t : Topo) (k : Sdb) (a b : Int) : Path → Prop
  | up (s : Seg) : s ∈ downs k a → 0 ≤ firstH s.hops b → Comb t k a b [makePart s 1 (firstH s.hops b)]
  | down (s : Seg) : s ∈ downs k b → 0 ≤ firstH s.hops a → Comb t k a b [makePart s 4 (firstH s.hops a)]
  | core (s : Seg) (rev : Bool) : s ∈ btw k rev a b → Comb t k a b [coreP s rev]
  | meet (u d : Seg) : u ∈ downs k a → d ∈ downs k b → (joinUD u d).length ≠ 0 → Comb t k a b (joinUD u d)
  | coreDown (s d : Seg) (rev : Bool) : coreAt t a = true → d ∈ downs k b → s ∈ btw k rev a (firstS d) → Comb t k a b [coreP s rev, makePart d 4 0]
  | upCore (u s : Seg) (rev : Bool) : coreAt t b = true → u ∈ downs k a → s ∈ btw k rev (firstS u) b → Comb t k a b [makePart u 1 0, coreP s rev]
  | three (u s d : Seg) (rev : Bool) : u ∈ downs k a → d ∈ downs k b → s ∈ btw k rev (firstS u) (firstS d) → Comb t k a b [makePart u 1 0, coreP s rev, makePart d 4 0]
theorem mem_cores' {k : Sdb} {up dn : Seg} {a b : Int} {p : Path} : p ∈ cores k up a b dn ↔ ∃ s rev, s ∈ btw k rev a b ∧ p = joinT up s rev dn := by
  unfold cores btw
  rw [List.mem_append, List.mem_map, List.mem_map]
  constructor
  · rintro (⟨s, hs, e⟩ | ⟨s, hs, e⟩)
    · exact ⟨s, false, hs, e.symm⟩
    · exact ⟨s, true, hs, e.symm⟩
  · rintro ⟨s, rev, hs, e⟩
    cases rev with
    | false => exact .inl ⟨s, hs, e.symm⟩
    | true => exact .inr ⟨s, hs, e.symm⟩
theorem downs_mem {t : Topo} {k : Sdb} (D : DbK t k) {r : Int} {s : Seg} (h : s ∈ downs k r) : s ∈ k.down ∧ (SegK t s ∧ WfS t s) ∧ lastS s = r := by
  unfold downs at h
  rw [List.mem_filter, decide_eq_true_eq] at h; exact ⟨h.1, D.down s h.1, h.2⟩
theorem btw_mem {t : Topo} {k : Sdb} (D : DbK t k) {rev : Bool} {a b : Int} {s : Seg} (h : s ∈ btw k rev a b) : s ∈ k.core ∧ (SegK t s ∧ WfS t s) := by
  have hm : s ∈ k.core := by
    unfold btw betw at h
    cases rev <;> simp only [Bool.false_eq_true, if_false, if_true] at h <;> exact (List.mem_filter.1 h).1
  exact ⟨hm, D.core s hm⟩
theorem seg_pos {t : Topo} {s : Seg} (h : SegK t s ∧ WfS t s) : 0 < (s.hops.length : Int) := by have := h.2.len; omega
theorem comb_iff {t : Topo} {k : Sdb} (D : DbK t k) {a b : Int} {p : Path} : p ∈ comb t k a b ↔ (¬ (a = b ∨ isAS t a = false ∨ isAS t b = false)) ∧ Comb t k a b p := by
 have pb : ∀ {x y : Int} {s : Seg} {rev : Bool}, s ∈ btw k rev x y → 0 < (s.hops.length : Int) := fun h => seg_pos (btw_mem D h).2
 have pd : ∀ {r : Int} {s : Seg}, s ∈ downs k r → 0 < (s.hops.length : Int) := fun h => seg_pos (downs_mem D h).2.1
 unfold comb
 split
 ·rename_i h; exact ⟨fun z => by simp at z, fun z => absurd h z.1⟩
 ·rename_i h
  unfold combL
  rw [List.mem_append, List.mem_append, List.mem_append, List.mem_append, List.mem_append, List.mem_append]
  constructor
  ·intro hp; refine ⟨h, ?_⟩
   rcases hp with (((((hp | hp) | hp) | hp) | hp) | hp) | hp
   ·unfold alone1 at hp
    rw [List.mem_flatMap] at hp; obtain ⟨s, hs, hp⟩ := hp
    split at hp
    ·rw [List.mem_singleton] at hp; rw [hp]; exact .up s hs ‹_›
    ·simp at hp
   ·unfold alone1 at hp
    rw [List.mem_flatMap] at hp; obtain ⟨s, hs, hp⟩ := hp
    split at hp
    ·rw [List.mem_singleton] at hp; rw [hp]; exact .down s hs ‹_›
    ·simp at hp
   ·obtain ⟨s, rev, hs, rfl⟩ := mem_cores'.1 hp
    unfold joinT
    rw [addP_no, addP_no, addP_yes (pb hs)]; exact .core s rev hs
   ·rw [List.mem_flatMap] at hp; obtain ⟨u, hu, hp⟩ := hp
    unfold pairs1 at hp
    rw [List.mem_flatMap] at hp; obtain ⟨d, hd, hp⟩ := hp
    split at hp
    ·simp at hp
    ·rw [List.mem_singleton] at hp; rw [hp]; exact .meet u d hu hd ‹_›
   ·split at hp
    ·rw [List.mem_flatMap] at hp; obtain ⟨d, hd, hp⟩ := hp; obtain ⟨s, rev, hs, rfl⟩ := mem_cores'.1 hp
     unfold joinT
     rw [addP_no, addP_yes (pb hs), addP_yes (pd hd)]; exact .coreDown s d rev ‹_› hd hs
    ·simp at hp
   ·split at hp
    ·rw [List.mem_flatMap] at hp; obtain ⟨u, hu, hp⟩ := hp; obtain ⟨s, rev, hs, rfl⟩ := mem_cores'.1 hp
     unfold joinT
     rw [addP_no, addP_yes (pb hs), addP_yes (pd hu)]; exact .upCore u s rev ‹_› hu hs
    ·simp at hp
   ·rw [List.mem_flatMap] at hp; obtain ⟨u, hu, hp⟩ := hp; rw [List.mem_flatMap] at hp; obtain ⟨d, hd, hp⟩ := hp; obtain ⟨s, rev, hs, rfl⟩ := mem_cores'.1 hp
    unfold joinT
    rw [addP_yes (pb hs), addP_yes (pd hu), addP_yes (pd hd)]; exact .three u s d rev hu hd hs
  ·rintro ⟨_, hp⟩; cases hp with
   | up s hs h0 => exact .inl (.inl (.inl (.inl (.inl (.inl (by unfold alone1; rw [List.mem_flatMap]; exact ⟨s, hs, by rw [if_pos h0]; exact List.mem_singleton.2 rfl⟩))))))
   | down s hs h0 => exact .inl (.inl (.inl (.inl (.inl (.inr (by unfold alone1; rw [List.mem_flatMap]; exact ⟨s, hs, by rw [if_pos h0]; exact List.mem_singleton.2 rfl⟩))))))
   | core s rev hs => exact .inl (.inl (.inl (.inl (.inr (mem_cores'.2 ⟨s, rev, hs, by unfold joinT; rw [addP_no, addP_no, addP_yes (pb hs)]; rfl⟩)))))
   | meet u d hu hd hne => exact .inl (.inl (.inl (.inr (by rw [List.mem_flatMap]; exact ⟨u, hu, by unfold pairs1; rw [List.mem_flatMap]; exact ⟨d, hd, by rw [if_neg hne]; exact List.mem_singleton.2 rfl⟩⟩))))
   | coreDown s d rev hc hd hs => exact .inl (.inl (.inr (by rw [if_pos hc, List.mem_flatMap]; exact ⟨d, hd, mem_cores'.2 ⟨s, rev, hs, by unfold joinT; rw [addP_no, addP_yes (pb hs), addP_yes (pd hd)]; rfl⟩⟩)))
   | upCore u s rev hc hu hs => exact .inl (.inr (by rw [if_pos hc, List.mem_flatMap]; exact ⟨u, hu, mem_cores'.2 ⟨s, rev, hs, by unfold joinT; rw [addP_no, addP_yes (pb hs), addP_yes (pd hu)]; rfl⟩⟩))
   | three u s d rev hu hd hs => exact .inr (by rw [List.mem_flatMap]; exact ⟨u, hu, by rw [List.mem_flatMap]; exact ⟨d, hd, mem_cores'.2 ⟨s, rev, hs, by unfold joinT; rw [addP_yes (pb hs), addP_yes (pd hu), addP_yes (pd hd)]; rfl⟩⟩⟩)
/-- A part of a book's path: of a segment down, either way, or of a core's, either way. -/
def PartOf (k : Sdb) (x : Part) : Prop := ∃ s kind i, 0 ≤ i ∧ i < (s.hops.length : Int) ∧ x = makePart s kind i ∧ ((s ∈ k.down ∧ (kind = 1 ∨ kind = 4)) ∨ (s ∈ k.core ∧ (kind = 2 ∨ kind = 3)))
theorem comb_parts {t : Topo} {k : Sdb} (D : DbK t k) {a b : Int} {p : Path} (h : Comb t k a b p) : ∀ x ∈ p, PartOf k x := by
  have fd : ∀ {r : Int} {s : Seg} (kind i : Int), s ∈ downs k r → (kind = 1 ∨ kind = 4) → 0 ≤ i → i < (s.hops.length : Int) → PartOf k (makePart s kind i) := fun {r s} kind i h hk h0 h1 => ⟨s, kind, i, h0, h1, rfl, .inl ⟨(downs_mem D h).1, hk⟩⟩
  have fw : ∀ {r : Int} {s : Seg} (kind : Int), s ∈ downs k r → (kind = 1 ∨ kind = 4) → PartOf k (makePart s kind 0) := fun {r s} kind h hk => fd kind 0 h hk (Int.le_refl _) (seg_pos (downs_mem D h).2.1)
  have fc : ∀ {x y : Int} {s : Seg} {rev : Bool}, s ∈ btw k rev x y → PartOf k (coreP s rev) := fun {x y s rev} h => ⟨s, _, 0, Int.le_refl _, seg_pos (btw_mem D h).2, rfl, .inr ⟨(btw_mem D h).1, by cases rev <;> simp⟩⟩
  cases h with
  | up s hs h0 =>
    obtain ⟨_, _, _, hl⟩ := firstH_at h0
    simp only [List.mem_singleton, forall_eq]; exact fd 1 _ hs (.inl rfl) h0 hl
  | down s hs h0 =>
    obtain ⟨_, _, _, hl⟩ := firstH_at h0
    simp only [List.mem_singleton, forall_eq]; exact fd 4 _ hs (.inr rfl) h0 hl
  | core s rev hs => simp only [List.mem_singleton, forall_eq]; exact fc hs
  | meet u d hu hd hne =>
    obtain ⟨i, j, x, y, e, hx, hj, hy, e2⟩ := meet_at u d u.hops.length hne
    unfold joinUD
    rw [e]; have l1 := (List.getElem?_eq_some_iff.1 hx).1; have l2 := (List.getElem?_eq_some_iff.1 hy).1; intro z hz
    rcases List.mem_cons.1 hz with rfl | hz
    · exact fd 1 _ hu (.inl rfl) (by omega) (by omega)
    · rw [List.mem_singleton] at hz; rw [hz]; exact fd 4 _ hd (.inr rfl) hj (by omega)
  | coreDown s d rev hc hd hs =>
    intro z hz
    rcases List.mem_cons.1 hz with rfl | hz
    · exact fc hs
    · rw [List.mem_singleton] at hz; rw [hz]; exact fw 4 hd (.inr rfl)
  | upCore u s rev hc hu hs =>
    intro z hz
    rcases List.mem_cons.1 hz with rfl | hz
    · exact fw 1 hu (.inl rfl)
    · rw [List.mem_singleton] at hz; rw [hz]; exact fc hs
  | three u s d rev hu hd hs =>
    intro z hz
    rcases List.mem_cons.1 hz with rfl | hz
    · exact fw 1 hu (.inl rfl)
    · rcases List.mem_cons.1 hz with rfl | hz
      · exact fc hs
      · rw [List.mem_singleton] at hz; rw [hz]; exact fw 4 hd (.inr rfl)
/-- A book whose segments down are links down and whose core segments are links of a core. -/
structure DbL (t : Topo) (k : Sdb) : Prop where
  db : DbK t k
  down : ∀ s ∈ k.down, ∀ (i : Nat) x y, s.hops[i]? = some x → s.hops[i + 1]? = some y → ifKind t x.ia x.eg = 2
  core : ∀ s ∈ k.core, ∀ (i : Nat) x y, s.hops[i]? = some x → s.hops[i + 1]? = some y → ifKind t x.ia x.eg = 1
section
variable {t : Topo} (hU : Uniq t.links) (hK : ∀ x ∈ t.links, x.a < x.b ∧ 1 ≤ x.ai ∧ 1 ≤ x.bi)
include hU hK
end
def wfHop (t : Topo) (l : List Hop) (k : Nat) : Bool := match l[k]? with
  | none => true
  | some x => (validHop x && isAS t x.ia && !((l.take k).map Hop.ia).contains x.ia && !(decide (x.eg = 0) && decide ((k : Int) < (l.length : Int) - 1))) && (if k = 0 then true else match l[k - 1]? with
    | none => true
    | some y => decide ((remote t y.ia y.eg).1 = x.ia) && decide ((remote t y.ia y.eg).2 = x.ing))
def firstIng (l : List Hop) : Bool := match l[0]? with
  | none => true
  | some x => decide (x.ing = 0)
/-- What WellFormed answers. -/
def wfSeg (t : Topo) (s : Seg) : Bool := inR s.hops.length 1 8 && firstIng s.hops && (List.range s.hops.length).all (wfHop t s.hops)
theorem wfSeg_S {t : Topo} {s : Seg} (h : wfSeg t s = true) : WfS t s := by
  unfold wfSeg at h
  simp only [Bool.and_eq_true, List.all_eq_true, List.mem_range] at h
  obtain ⟨⟨h1, h2⟩, h3⟩ := h; have hl := inR_iff.1 h1
  have at_ : ∀ (k : Nat) x, s.hops[k]? = some x → (((validHop x = true ∧ isAS t x.ia = true) ∧ x.ia ∉ (s.hops.take k).map Hop.ia) ∧ (x.eg = 0 → ¬ ((k : Int) < (s.hops.length : Int) - 1))) ∧ (∀ y, 0 < k → s.hops[k - 1]? = some y → (remote t y.ia y.eg).1 = x.ia ∧ (remote t y.ia y.eg).2 = x.ing) := by
    intro k x hx; have hk := (List.getElem?_eq_some_iff.1 hx).1; have := h3 k hk
    unfold wfHop at this
    rw [hx] at this
    simp only [Bool.and_eq_true, Bool.not_eq_true', ← Bool.not_eq_true, List.contains_iff_mem] at this
    obtain ⟨⟨⟨a1, a2⟩, a3⟩, a4⟩ := this; refine ⟨⟨⟨a1, a2⟩, fun e hc => by simp [e] at a3; omega⟩, fun y hk0 hy => ?_⟩; rw [if_neg (by omega), hy] at a4
    simpa using a4
  refine ⟨by omega, fun x hx => ?_, ?_, fun x hx => ?_, fun i x y hx hy => ?_⟩
  · obtain ⟨k, hk, e⟩ := List.mem_iff_getElem.1 hx
    exact (at_ k x (by rw [List.getElem?_eq_getElem hk, e])).1.1.1
  · rw [List.Nodup, List.pairwise_iff_getElem]
    intro i j hi hj hij e; rw [List.length_map] at hi hj; have := (at_ j _ (List.getElem?_eq_getElem hj)).1.1.2; refine this ?_; rw [List.getElem_map, List.getElem_map] at e; rw [← e]; exact List.mem_map.2 ⟨_, List.mem_take_iff_getElem.2 ⟨i, by omega, rfl⟩, rfl⟩
  · unfold firstIng at h2
    rw [hx] at h2
    simpa using h2
  · have hlt := (List.getElem?_eq_some_iff.1 hy).1
    obtain ⟨e1, e2⟩ := (at_ (i + 1) y hy).2 x (by omega) (by rw [Nat.add_sub_cancel]; exact hx); exact ⟨fun z => (at_ i x hx).1.2 z (by omega), Prod.ext e1 e2⟩
/-- The one kind of the links of hops, from kind c on; -1: there are two. -/
def kindF (t : Topo) : List Hop → Int → Int
  | [], c => c
  | x :: l, c => if x.eg = 0 then kindF t l c else if c ≠ 0 ∧ ifKind t x.ia x.eg ≠ c then -1 else kindF t l (ifKind t x.ia x.eg)
theorem kindF_all {t : Topo} {r : Int} (hr : r = 1 ∨ r = 2) : ∀ (l : List Hop) (c : Int), (∀ x ∈ l, x.eg ≠ 0 → ifKind t x.ia x.eg = 0 → False) → kindF t l c = r → (c = 0 ∨ c = r) ∧ ∀ x ∈ l, x.eg ≠ 0 → ifKind t x.ia x.eg = r
  | [], c, _, h => ⟨.inr h, fun x hx => by simp at hx⟩
  | x :: l, c, h0, h => by
    unfold kindF at h
    have h0' : ∀ x ∈ l, x.eg ≠ 0 → ifKind t x.ia x.eg = 0 → False := fun y hy => h0 y (List.mem_cons_of_mem _ hy)
    split at h
    · rename_i he
      obtain ⟨a1, a2⟩ := kindF_all hr l c h0' h; refine ⟨a1, fun y hy hy0 => ?_⟩
      rcases List.mem_cons.1 hy with rfl | hy
      · exact absurd he hy0
      · exact a2 y hy hy0
    · rename_i he
      split at h
      · omega
      · rename_i hc
        obtain ⟨a1, a2⟩ := kindF_all hr l _ h0' h
        have hk : ifKind t x.ia x.eg = r := by
          rcases a1 with a1 | a1
          · exact absurd a1 (fun z => h0 x (List.mem_cons_self ..) he z)
          · exact a1
        refine ⟨by omega, fun y hy hy0 => ?_⟩
        rcases List.mem_cons.1 hy with rfl | hy
        · exact hk
        · exact a2 y hy hy0
/-- What SegmentKind answers. -/
def segKind (t : Topo) (s : Seg) : Int := if wfSeg t s = true ∧ coreAt t (firstS s) = true then (if kindF t s.hops 0 = 1 then 1 else if kindF t s.hops 0 = 2 then 2 else 0) else 0
/-- What FirstInvalidHop answers. -/
def badHop (t : Topo) (s : Seg) : Int := idxI ((List.range s.hops.length).findIdx? fun i : Nat => match s.hops[i]? with
  | none => false
  | some x => !verifyHop t s.ts (segBeta s i) x)
def validSeg (t : Topo) (s : Seg) : Bool := wfSeg t s && decide (badHop t s < 0) && decide (segKind t s ≠ 0) && inR s.ts 0 1000000 && inR s.beta 0 2147483646
def termS (s : Seg) : Bool := match s.hops[s.hops.length - 1]? with
  | none => false
  | some x => decide (x.eg = 0)
def addSeg (t : Topo) (k : Sdb) (s : Seg) : Sdb := if validSeg t s = true ∧ termS s = true ∧ ¬ s ∈ k.down ∧ ¬ s ∈ k.core then (if segKind t s = 2 then ⟨k.down ++ [s], k.core⟩ else ⟨k.down, k.core ++ [s]⟩) else k
theorem kind_ne {t : Topo} (hk : ∀ x ∈ t.links, 1 ≤ x.kind ∧ x.kind ≤ 3) {r d q e : Int} (h : remote t r d = (q, e)) (hq : 0 ≤ q) (hd : d ≠ 0) : ifKind t r d ≠ 0 := by
  obtain ⟨i, x, h1, h2, h3, h4, h5⟩ := link_of h hq; have := hk x h3
  unfold ifKind
  rw [if_neg hd, h1, Option.bind_some, h2]; dsimp only
  by_cases c1 : x.kind = 1
  · rw [if_pos c1]; omega
  · rw [if_neg c1]
    by_cases c3 : x.kind = 3
    · rw [if_pos c3]; omega
    · rw [if_neg c3, if_pos (by omega)]
      split <;> omega
/-- AddSegment keeps a book good. -/
theorem addSeg_L {t : Topo} (hk : ∀ x ∈ t.links, 1 ≤ x.kind ∧ x.kind ≤ 3) {k : Sdb} (D : DbL t k) {s : Seg} (K : SegK t s) : DbL t (addSeg t k s) := by
 unfold addSeg
 split
 ·rename_i hc
  obtain ⟨hv, ht, _, _⟩ := hc
  unfold validSeg at hv
  simp only [Bool.and_eq_true, decide_eq_true_eq] at hv
  obtain ⟨⟨⟨⟨v1, _⟩, v3⟩, _⟩, _⟩ := hv; have W := wfSeg_S v1
  have eg0 : ∀ (i : Nat) x y, s.hops[i]? = some x → s.hops[i + 1]? = some y → x.eg ≠ 0 ∧ ifKind t x.ia x.eg ≠ 0 := fun i x y hx hy => by
   obtain ⟨l1, l2⟩ := W.link i x y hx hy; have hy0 : 0 ≤ y.ia := (inR_iff.1 (W.ok y (List.mem_of_getElem? hy)).2).1; exact ⟨l1, kind_ne hk l2 hy0 l1⟩
  have nz : ∀ x ∈ s.hops, x.eg ≠ 0 → ifKind t x.ia x.eg = 0 → False := fun x hx he hz => by
   obtain ⟨i, hi, e⟩ := List.mem_iff_getElem.1 hx
   have hx' : s.hops[i]? = some x := by rw [List.getElem?_eq_getElem hi, e]
   rcases Nat.lt_or_ge (i + 1) s.hops.length with q | q
   ·obtain ⟨y, hy⟩ : ∃ y, s.hops[i + 1]? = some y := getx q; exact (eg0 i x y hx' hy).2 hz
   ·unfold termS at ht
    rw [show s.hops.length - 1 = i by omega, hx'] at ht; exact he (by simpa using ht)
  have kinds : ∀ r, (r = 1 ∨ r = 2) → kindF t s.hops 0 = r → ∀ (i : Nat) x y, s.hops[i]? = some x → s.hops[i + 1]? = some y → ifKind t x.ia x.eg = r := fun r hr h i x y hx hy => (kindF_all hr s.hops 0 nz h).2 x (List.mem_of_getElem? hx) (eg0 i x y hx hy).1
  unfold segKind at v3 ⊢
  split at v3
  ·rename_i hw
   rw [if_pos hw]
   by_cases k1 : kindF t s.hops 0 = 1
   ·rw [if_pos k1, if_neg (by omega)]; refine ⟨⟨D.db.down, fun x hx => ?_⟩, D.down, fun x hx => ?_⟩
    ·rcases List.mem_append.1 hx with hx | hx
     ·exact D.db.core x hx
     ·rw [List.mem_singleton] at hx; rw [hx]; exact ⟨K, W⟩
    ·rcases List.mem_append.1 hx with hx | hx
     ·exact D.core x hx
     ·rw [List.mem_singleton] at hx; rw [hx]; exact kinds 1 (.inl rfl) k1
   ·rw [if_neg k1] at v3 ⊢
    by_cases k2 : kindF t s.hops 0 = 2
    ·rw [if_pos k2, if_pos rfl]; refine ⟨⟨fun x hx => ?_, D.db.core⟩, fun x hx => ?_, D.core⟩
     ·rcases List.mem_append.1 hx with hx | hx
      ·exact D.db.down x hx
      ·rw [List.mem_singleton] at hx; rw [hx]; exact ⟨K, W⟩
     ·rcases List.mem_append.1 hx with hx | hx
      ·exact D.down x hx
      ·rw [List.mem_singleton] at hx; rw [hx]; exact kinds 2 (.inr rfl) k2
    ·rw [if_neg k2] at v3; exact absurd rfl v3
  ·exact absurd rfl v3
 ·exact D
theorem DbL.nil (t : Topo) : DbL t ⟨[], []⟩ := ⟨⟨fun s h => by simp at h, fun s h => by simp at h⟩, fun s h => by simp at h, fun s h => by simp at h⟩
theorem eqF_step {P : Program} {d : Nat} {f : Field} {fs : List Field} {xs ys : Array Value} {a b : Int} (hn : f.name ≠ "_") (ht : P.underlying f.type = some (.int .i64)) (ha : ∀ w, (part f.type xs f.offset).run P w = .ok (I a) w) (hb : ∀ w, (part f.type ys f.offset).run P w = .ok (I b) w) (w : World) : (Op.eqFields (d + 1) xs ys (f :: fs)).run P w = if a = b then (Op.eqFields (d + 1) xs ys fs).run P w else .ok false w := by
  simp only [Op.eqFields, if_pos hn, Sem.run_bind, ha, hb, Result.andThen_ok, run_equalIn_int (w := w) _ _ _ _ _ _ ht, Sem.run_ite]
  by_cases h : a = b <;> simp [h]
theorem flds_hop : (Tryz.prog.fieldsOf 87).toList = [(Tryz.prog.fieldsOf 87).getD 0 default, (Tryz.prog.fieldsOf 87).getD 1 default, (Tryz.prog.fieldsOf 87).getD 2 default, (Tryz.prog.fieldsOf 87).getD 3 default, (Tryz.prog.fieldsOf 87).getD 4 default] := by kernel_rfl
theorem run_eq_hop (x y : Hop) (w : World) : (Op.equal 87 (.agg #[I x.ia, I x.ing, I x.eg, I x.exp, I x.mac]) (.agg #[I y.ia, I y.ing, I y.eg, I y.exp, I y.mac])).run Tryz.prog w = .ok (decide (x = y)) w := by
  unfold Op.equal
  obtain ⟨d, hd⟩ : ∃ d, Op.maxDepth = (d + 1) + 1 := ⟨9998, rfl⟩; rw [hd, run_equalIn_struct w (d + 1) 87 _ _ (by kernel_rfl) (by kernel_rfl), flds_hop]; rw [eqF_step (a := x.ia) (b := y.ia) (of_decide_eq_true (by kernel_rfl)) (by kernel_rfl) (fun w => by kernel_rfl) (fun w => by kernel_rfl)]; rw [eqF_step (a := x.ing) (b := y.ing) (of_decide_eq_true (by kernel_rfl)) (by kernel_rfl) (fun w => by kernel_rfl) (fun w => by kernel_rfl)]; rw [eqF_step (a := x.eg) (b := y.eg) (of_decide_eq_true (by kernel_rfl)) (by kernel_rfl) (fun w => by kernel_rfl) (fun w => by kernel_rfl)]; rw [eqF_step (a := x.exp) (b := y.exp) (of_decide_eq_true (by kernel_rfl)) (by kernel_rfl) (fun w => by kernel_rfl) (fun w => by kernel_rfl)]; rw [eqF_step (a := x.mac) (b := y.mac) (of_decide_eq_true (by kernel_rfl)) (by kernel_rfl) (fun w => by kernel_rfl) (fun w => by kernel_rfl)]; obtain ⟨x0, x1, x2, x3, x4⟩ := x; obtain ⟨y0, y1, y2, y3, y4⟩ := y
  by_cases h0 : x0 = y0 <;> by_cases h1 : x1 = y1 <;> by_cases h2 : x2 = y2 <;> by_cases h3 : x3 = y3 <;> by_cases h4 : x4 = y4 <;> simp [h0, h1, h2, h3, h4, Op.eqFields]
section
variable {P : Program} {n : Nat} {ops : Array Oper} {Q : Exit → Act → World → Prop} {L : Frm} {w w0 : World} {m : Md} {r : IT} {d : Nat} {ty : TypeId} {pos : String} {af : Array Edge}
theorem t_neqv {x y : Operand} {t t' : TypeId} {a b : Array Value} {p : Prop} {dp : Decidable p} (hg : P.eqGuardType P.depth t = false) (he : ∀ w, (Op.equal t (.agg a) (.agg b)).run P w = .ok (decide p) w) (hx : ev L x = some (.agg a)) (hy : ev L y = some (.agg b)) (k : WT P n ops Q r ((d, .bool (decide (¬ p))) :: L) w) (hn : Nat.blt d n = true) : WT P n ops Q (.st m ⟨some d, .binOp .neq t x y t', ty, pos, af, none⟩ r) L w :=
  t_read (fun e ha _ _ _ w' _ => by
    have h := he w'
    simp [execOp, ha.ev hx, ha.ev hy, eqGuard, binOp, h, hg]) k hn
end
theorem eq_step {α : Type} {a b : List α} {k : Nat} {x y : α} (h : a.take k = b.take k) (ha : a[k]? = some x) (hb : b[k]? = some y) (e : x = y) : a.take (k + 1) = b.take (k + 1) := by
  subst e; rw [take_succ ha, take_succ hb, h]
theorem eq_not {α : Type} {a b : List α} {k : Nat} {x y : α} (ha : a[k]? = some x) (hb : b[k]? = some y) (e : ¬ x = y) : ¬ a = b := by
  rintro rfl; rw [ha] at hb; exact e (Option.some.inj hb)
theorem eq_end {α : Type} {a b : List α} {k : Nat} (h : a.take k = b.take k) (hk : a.length ≤ k) (hl : a.length = b.length) : a = b := by
  rw [List.take_of_length_le hk, List.take_of_length_le (by omega)] at h; exact h
theorem laws_sameHops (a b : List Hop) (v u : Value) (w : World) (h : SlR hopT w v a) (h2 : SlR hopT w u b) (hz : a.length ≤ 4611686018427387904) (hz2 : b.length ≤ 4611686018427387904) : Calls Tryz.prog 131 #[v, u] w fun e w' => e = .returned (.bool (decide (a = b))) ∧ Below w.heap.size w w' := by
 have X0 := Below.refl w.heap.size w; refine enter Tryz.func131 rfl Tryz.ntmps131 rfl ?_; refine w_h ?_; have S := Sep.nil w; have B := Below.refl w.heap.size w; have Hb := Nat.le_refl w.heap.size; refine t_a rfl ?_ rfl; refine t_e ?_; (iterate 2 refine w_s ?_); refine w_g ?_; refine t_m rfl ?_ rfl; refine t_len e_hop ‹_› rfl rfl ?_ rfl; refine t_m rfl ?_ rfl; refine t_len e_hop ‹_› rfl rfl ?_ rfl; refine t_neq rfl rfl ?_ rfl; refine t_e ?_; refine w_if rfl ?_ ?_
 ·intro hl; refine w_h ?_; refine t_a rfl ?_ rfl; refine t_e ?_; refine w_r ?_; refine x_t ?_; refine x_ret1 rfl rfl ?_; exact ⟨ret_bool (decide_eq_false (fun e => hl (by rw [e]))).symm, ext_trans X0 B⟩
 ·intro hl; refine w_k ?_; refine x_s ?_; (iterate 2 refine w_s ?_); refine w_g ?_; refine t_a rfl ?_ rfl; refine t_e ?_; refine w_block ?_; refine w_loop (X := Nat) (fun k wq => k ≤ a.length ∧ a.take k = b.take k ∧ Below w.heap.size w wq ∧ Sep w.heap.size wq []) (fun k => [(5, I ((k : Int))), (0, v), (1, u)]) (fun k => a.length - k) (0) ?_ ⟨rfl, rfl, rfl, trivial⟩ ?_
  ·exact ⟨by omega, rfl, B, S⟩
  rintro k w1 hI; (try dsimp only at hI ⊢); obtain ⟨hk, hab, B, S⟩ := hI; (iterate 2 refine w_s ?_); refine w_g ?_; (iterate 2 refine t_m rfl ?_ rfl); refine t_len e_hop ‹_› rfl rfl ?_ rfl; refine t_lss rfl rfl ?_ rfl; refine t_e ?_; refine w_if rfl ?_ ?_
  ·intro hlt; refine w_k ?_; refine x_s ?_; refine w_s ?_; refine w_block ?_; refine w_s ?_; refine w_draw (.st .take 0 (.st .take 1 (.st .take 2 (.st .take 3 (.st .take 4 (.st .take 5 (.st .take 6 (.st .take 7 (.st .take 8 .done))))))))) mixed (by kernel_rfl) ?_; intro w2 x3; have B := bx Hb B x3; have S := S.below x3; (iterate 2 refine t_m rfl ?_ rfl); obtain ⟨e19, he19⟩ : ∃ e, (a)[k]? = some e := getx (by omega); refine t_idx e_hop (k := k) ‹_› he19 B rfl rfl (by first | rfl | omega) ?_ rfl; intro p19 hp19; refine t_lda ‹_› ab_hop sb_hop B rfl ?_ rfl; intro v20 hv20; obtain rfl := hop_va hv20; (iterate 2 refine t_m rfl ?_ rfl); obtain ⟨e23, he23⟩ : ∃ e, (b)[k]? = some e := getx (by omega); refine t_idx e_hop (k := k) ‹_› he23 B rfl rfl (by first | rfl | omega) ?_ rfl; intro p23 hp23; refine t_lda ‹_› ab_hop sb_hop B rfl ?_ rfl; intro v24 hv24; obtain rfl := hop_va hv24; refine t_neqv (by kernel_rfl) (fun w => run_eq_hop e19 e23 w) rfl rfl ?_ rfl; refine t_e' ?_; refine w_if rfl ?_ ?_
   ·intro hne; refine w_h ?_; refine t_a rfl ?_ rfl; refine t_e ?_; refine w_r ?_; refine x_block_ret ?_; (iterate 2 refine x_t ?_); refine x_block_ret ?_; refine x_t ?_; refine x_ret1 rfl rfl ?_
    have hne2 : ¬ e19 = e23 := fun e => hne (by rw [e])
    exact ⟨ret_bool (decide_eq_false (eq_not he19 he23 hne2)).symm, ext_trans X0 B⟩
   ·intro hne; refine w_k ?_; refine x_b ?_; refine x_s ?_; refine w_g ?_; refine t_m rfl ?_ rfl; refine t_add rfl rfl (by omega) ?_ rfl; refine t_a rfl ?_ rfl; refine t_d ?_; refine x_r (X := Nat) (k + 1) ?_ (by exact ⟨rfl, rfl, rfl, trivial⟩) (by (try dsimp only); omega); (try dsimp only)
    have heq : e19 = e23 := by first | exact Classical.not_not.1 hne | exact UInt8.toNat_inj.1 (by omega)
    exact ⟨by omega, eq_step hab he19 he23 heq, B, S⟩
  ·intro hge; refine w_exit ?_; (iterate 2 refine x_then_exit ?_); refine x_block_exit ?_; refine x_s ?_; refine w_h ?_; refine t_a rfl ?_ rfl; refine t_e ?_; refine w_r ?_; refine x_ret1 rfl rfl ?_; exact ⟨ret_bool (decide_eq_true (eq_end hab (by omega) (by omega))).symm, ext_trans X0 B⟩
theorem part_eqh {x y : Part} (h1 : x.kind = y.kind) (h2 : x.ts = y.ts) (h3 : x.beta = y.beta) : x.hops = y.hops ↔ x = y := by
  obtain ⟨a, b, c, d⟩ := x; obtain ⟨a', b', c', d'⟩ := y; dsimp only at h1 h2 h3 ⊢; subst h1 h2 h3
  simp
theorem laws_samePart (x y : Part) (v u : Value) (w : World) (h : VA partT w v x) (h2 : VA partT w u y) (hz : x.hops.length ≤ 4611686018427387904) (hz2 : y.hops.length ≤ 4611686018427387904) : Calls Tryz.prog 88 #[v, u] w fun e w' => e = .returned (.bool (decide (x = y))) ∧ Below w.heap.size w w' := by
 have X0 := Below.refl w.heap.size w; refine enter Tryz.func88 rfl Tryz.ntmps88 rfl ?_; refine w_h ?_; refine t_boxr ‹_› rfl ?_ rfl rfl; intro p2 w4 x5 hp2; replace h := h.below x5; replace h2 := h2.below x5; have X0 := ext_trans X0 x5; refine t_boxr ‹_› rfl ?_ rfl rfl; intro p3 w6 x7 hp3; replace h := h.below x7; replace h2 := h2.below x7; replace hp2 := hp2.below x7; have X0 := ext_trans X0 x7; have S := Sep.nil w6; have B := Below.refl w6.heap.size w6; have Hb := Nat.le_refl w6.heap.size; refine t_a rfl ?_ rfl; refine t_k ?_; refine t_fld ln_part_0 ‹_› fb_part_0 rfl ?_ rfl; intro p5 hp5; refine t_ldi ‹_› ab_int B rfl ?_ rfl; refine t_fld ln_part_0 ‹_› fb_part_0 rfl ?_ rfl; intro p7 hp7; refine t_ldi ‹_› ab_int B rfl ?_ rfl; refine t_eql rfl rfl ?_ rfl; refine t_m rfl ?_ rfl; refine t_partp (t := 10) rfl ?_ ?_
 ·intro hc1; refine t_on rfl rfl ?_; refine t_fld ln_part_1 ‹_› fb_part_1 rfl ?_ rfl; intro p11 hp11; refine t_on rfl rfl ?_; refine t_ldi ‹_› ab_int B rfl ?_ rfl; refine t_on rfl rfl ?_; refine t_fld ln_part_1 ‹_› fb_part_1 rfl ?_ rfl; intro p13 hp13; refine t_on rfl rfl ?_; refine t_ldi ‹_› ab_int B rfl ?_ rfl; refine t_on rfl rfl ?_; refine t_eql rfl rfl ?_ rfl; refine t_q rfl rfl ?_ rfl; refine t_m rfl ?_ rfl; refine t_partp (t := 17) rfl ?_ ?_
  ·intro hc2; refine t_on rfl rfl ?_; refine t_fld ln_part_2 ‹_› fb_part_2 rfl ?_ rfl; intro p18 hp18; refine t_on rfl rfl ?_; refine t_ldi ‹_› ab_int B rfl ?_ rfl; refine t_on rfl rfl ?_; refine t_fld ln_part_2 ‹_› fb_part_2 rfl ?_ rfl; intro p20 hp20; refine t_on rfl rfl ?_; refine t_ldi ‹_› ab_int B rfl ?_ rfl; refine t_on rfl rfl ?_; refine t_eql rfl rfl ?_ rfl; refine t_q rfl rfl ?_ rfl; refine t_m rfl ?_ rfl; refine t_partp (t := 24) rfl ?_ ?_
   ·intro hc3; refine t_on rfl rfl ?_; refine t_fld ln_part_3 ‹_› fb_part_3 rfl ?_ rfl; intro p25 hp25; refine t_on rfl rfl ?_; refine t_lds ‹_› ab_s_hop B rfl ?_ rfl; intro v26 hv26; refine t_on rfl rfl ?_; refine t_fld ln_part_3 ‹_› fb_part_3 rfl ?_ rfl; intro p27 hp27; refine t_on rfl rfl ?_; refine t_lds ‹_› ab_s_hop B rfl ?_ rfl; intro v28 hv28; refine t_on rfl rfl ?_; refine t_x Tryz.call131 rfl (laws_sameHops x.hops y.hops _ _ _ (by first | assumption | exact SlR.below ‹_› B) (by first | assumption | exact SlR.below ‹_› B) (by omega) (by omega)) ?_ rfl rfl; intro w8 x9; have B := bx Hb B x9; have S := S.below x9; refine t_q rfl rfl ?_ rfl; refine t_a rfl ?_ rfl; refine t_e ?_; refine w_r ?_; refine x_ret1 rfl rfl ?_
    first | exact ⟨ret_bool (decide_eq_false fun e => absurd (congrArg Part.kind e) ‹_›).symm, ext_trans X0 B⟩ | exact ⟨ret_bool (decide_eq_false fun e => absurd (congrArg Part.ts e) ‹_›).symm, ext_trans X0 B⟩ | exact ⟨ret_bool (decide_eq_false fun e => absurd (congrArg Part.beta e) ‹_›).symm, ext_trans X0 B⟩ | exact ⟨ret_bool (decide_eq_decide.2 (part_eqh ‹_› ‹_› ‹_›)), ext_trans X0 B⟩
   ·intro hc4; (iterate 5 refine t_off rfl rfl rfl ?_ rfl); refine t_p rfl rfl ?_ rfl; refine t_a rfl ?_ rfl; refine t_e ?_; refine w_r ?_; refine x_ret1 rfl rfl ?_
    first | exact ⟨ret_bool (decide_eq_false fun e => absurd (congrArg Part.kind e) ‹_›).symm, ext_trans X0 B⟩ | exact ⟨ret_bool (decide_eq_false fun e => absurd (congrArg Part.ts e) ‹_›).symm, ext_trans X0 B⟩ | exact ⟨ret_bool (decide_eq_false fun e => absurd (congrArg Part.beta e) ‹_›).symm, ext_trans X0 B⟩ | exact ⟨ret_bool (decide_eq_decide.2 (part_eqh ‹_› ‹_› ‹_›)), ext_trans X0 B⟩
  ·intro hc5; (iterate 5 refine t_off rfl rfl rfl ?_ rfl); refine t_p rfl rfl ?_ rfl; refine t_m rfl ?_ rfl; (iterate 5 refine t_off rfl rfl rfl ?_ rfl); refine t_p rfl rfl ?_ rfl; refine t_a rfl ?_ rfl; refine t_e ?_; refine w_r ?_; refine x_ret1 rfl rfl ?_
   first | exact ⟨ret_bool (decide_eq_false fun e => absurd (congrArg Part.kind e) ‹_›).symm, ext_trans X0 B⟩ | exact ⟨ret_bool (decide_eq_false fun e => absurd (congrArg Part.ts e) ‹_›).symm, ext_trans X0 B⟩ | exact ⟨ret_bool (decide_eq_false fun e => absurd (congrArg Part.beta e) ‹_›).symm, ext_trans X0 B⟩ | exact ⟨ret_bool (decide_eq_decide.2 (part_eqh ‹_› ‹_› ‹_›)), ext_trans X0 B⟩
 ·intro hc6; (iterate 5 refine t_off rfl rfl rfl ?_ rfl); refine t_p rfl rfl ?_ rfl; refine t_m rfl ?_ rfl; (iterate 5 refine t_off rfl rfl rfl ?_ rfl); refine t_p rfl rfl ?_ rfl; refine t_m rfl ?_ rfl; (iterate 5 refine t_off rfl rfl rfl ?_ rfl); refine t_p rfl rfl ?_ rfl; refine t_a rfl ?_ rfl; refine t_e ?_; refine w_r ?_; refine x_ret1 rfl rfl ?_
  first | exact ⟨ret_bool (decide_eq_false fun e => absurd (congrArg Part.kind e) ‹_›).symm, ext_trans X0 B⟩ | exact ⟨ret_bool (decide_eq_false fun e => absurd (congrArg Part.ts e) ‹_›).symm, ext_trans X0 B⟩ | exact ⟨ret_bool (decide_eq_false fun e => absurd (congrArg Part.beta e) ‹_›).symm, ext_trans X0 B⟩ | exact ⟨ret_bool (decide_eq_decide.2 (part_eqh ‹_› ‹_› ‹_›)), ext_trans X0 B⟩
theorem laws_samePath (a b : Path) (v u : Value) (w : World) (h : VA pathT w v a) (h2 : VA pathT w u b) (hz : sz_path a ≤ 1048576) (hz2 : sz_path b ≤ 1048576) : Calls Tryz.prog 43 #[v, u] w fun e w' => e = .returned (.bool (decide (a = b))) ∧ Below w.heap.size w w' := by
 have hl1 : List.length a ≤ sz_path a := Nat.le_add_right _ _; have hl2 : List.length b ≤ sz_path b := Nat.le_add_right _ _; have X0 := Below.refl w.heap.size w; refine enter Tryz.func43 rfl Tryz.ntmps43 rfl ?_; refine w_h ?_; refine t_boxr ‹_› rfl ?_ rfl rfl; intro p2 w10 x11 hp2; replace h := h.below x11; replace h2 := h2.below x11; have X0 := ext_trans X0 x11; refine t_boxr ‹_› rfl ?_ rfl rfl; intro p3 w12 x13 hp3; replace h := h.below x13; replace h2 := h2.below x13; replace hp2 := hp2.below x13; have X0 := ext_trans X0 x13; have S := Sep.nil w12; have B := Below.refl w12.heap.size w12; have Hb := Nat.le_refl w12.heap.size; refine t_a rfl ?_ rfl; refine t_e ?_; (iterate 2 refine w_s ?_); refine w_g ?_; refine t_fld ln_path_0 ‹_› fb_path_0 rfl ?_ rfl; intro p6 hp6; refine t_lds ‹_› ab_s_part B rfl ?_ rfl; intro v7 hv7; refine t_len e_part ‹_› rfl rfl ?_ rfl; refine t_fld ln_path_0 ‹_› fb_path_0 rfl ?_ rfl; intro p9 hp9; refine t_lds ‹_› ab_s_part B rfl ?_ rfl; intro v10 hv10; refine t_len e_part ‹_› rfl rfl ?_ rfl; refine t_neq rfl rfl ?_ rfl; refine t_e ?_; refine w_if rfl ?_ ?_
 ·intro hl; refine w_h ?_; refine t_a rfl ?_ rfl; refine t_e ?_; refine w_r ?_; refine x_t ?_; refine x_ret1 rfl rfl ?_; exact ⟨ret_bool (decide_eq_false (fun e => hl (by rw [e]))).symm, ext_trans X0 B⟩
 ·intro hl; refine w_k ?_; refine x_s ?_; (iterate 2 refine w_s ?_); refine w_g ?_; refine t_a rfl ?_ rfl; refine t_e ?_; refine w_block ?_; refine w_loop (X := Nat) (fun k wq => k ≤ List.length a ∧ List.take k a = List.take k b ∧ Below w12.heap.size w12 wq ∧ Sep w12.heap.size wq []) (fun k => [(5, I ((k : Int))), (2, p2), (3, p3)]) (fun k => List.length a - k) (0) ?_ ⟨rfl, rfl, rfl, trivial⟩ ?_
  ·exact ⟨by omega, rfl, B, S⟩
  rintro k w14 hI; (try dsimp only at hI ⊢); obtain ⟨hk, hab, B, S⟩ := hI; (iterate 2 refine w_s ?_); refine w_g ?_; refine t_m rfl ?_ rfl; refine t_fld ln_path_0 ‹_› fb_path_0 rfl ?_ rfl; intro p14 hp14; refine t_lds ‹_› ab_s_part B rfl ?_ rfl; intro v15 hv15; refine t_len e_part ‹_› rfl rfl ?_ rfl; refine t_lss rfl rfl ?_ rfl; refine t_e ?_; refine w_if rfl ?_ ?_
  ·intro hlt; obtain ⟨e23, he23⟩ := getx (l := a) (k := k) (by omega); obtain ⟨e28, he28⟩ := getx (l := b) (k := k) (by omega); have hh1 := hops_le_path (List.mem_of_getElem? he23); have hh2 := hops_le_path (List.mem_of_getElem? he28); refine w_k ?_; refine x_s ?_; refine w_s ?_; refine w_block ?_; refine w_s ?_; refine w_draw (.st .take 0 (.st .take 1 (.st .take 2 (.st .take 3 (.st .take 4 (.st .take 5 (.st .take 6 (.st .take 7 (.st .take 8 (.st .take 9 (.st .run 10 (.st .take 11 .done)))))))))))) mixed (by kernel_rfl) ?_; intro w15 x16; have B := bx Hb B x16; have S := S.below x16; refine t_fld ln_path_0 ‹_› fb_path_0 rfl ?_ rfl; intro p20 hp20; refine t_lds ‹_› ab_s_part B rfl ?_ rfl; intro v21 hv21; refine t_m rfl ?_ rfl; refine t_idx e_part (k := k) ‹_› he23 B rfl rfl (by first | rfl | omega) ?_ rfl; intro p23 hp23; refine t_lda ‹_› ab_part sb_part B rfl ?_ rfl; intro v24 hv24; obtain ⟨v24_3, rfl, hv24_3⟩ := part_va hv24; refine t_fld ln_path_0 ‹_› fb_path_0 rfl ?_ rfl; intro p25 hp25; refine t_lds ‹_› ab_s_part B rfl ?_ rfl; intro v26 hv26; refine t_m rfl ?_ rfl; refine t_idx e_part (k := k) ‹_› he28 B rfl rfl (by first | rfl | omega) ?_ rfl; intro p28 hp28
   refine t_lda ‹_› ab_part sb_part B rfl ?_ rfl; intro v29 hv29; obtain ⟨v29_3, rfl, hv29_3⟩ := part_va hv29; refine t_x Tryz.call88 rfl (laws_samePart e23 e28 _ _ _ (by first | assumption | exact VA.below ‹_› B | exact part_mkv (by first | assumption | exact SlR.below ‹_› B)) (by first | assumption | exact VA.below ‹_› B | exact part_mkv (by first | assumption | exact SlR.below ‹_› B)) (by omega) (by omega)) ?_ rfl rfl; intro w17 x18; have B := bx Hb B x18; have S := S.below x18; refine t_not rfl ?_ rfl; refine t_e' ?_; refine w_if rfl ?_ ?_
   ·intro hne; refine w_h ?_; refine t_a rfl ?_ rfl; refine t_e ?_; refine w_r ?_; refine x_block_ret ?_; (iterate 2 refine x_t ?_); refine x_block_ret ?_; refine x_t ?_; refine x_ret1 rfl rfl ?_; exact ⟨ret_bool (decide_eq_false (eq_not he23 he28 (by simpa using hne))).symm, ext_trans X0 B⟩
   ·intro hne; refine w_k ?_; refine x_b ?_; refine x_s ?_; refine w_g ?_; refine t_m rfl ?_ rfl; refine t_add rfl rfl (by omega) ?_ rfl; refine t_a rfl ?_ rfl; refine t_d ?_; refine x_r (X := Nat) (k + 1) ?_ (by exact ⟨rfl, rfl, rfl, trivial⟩) (by (try dsimp only); omega); (try dsimp only); exact ⟨by omega, eq_step hab he23 he28 (by simpa using hne), B, S⟩
  ·intro hge; refine w_exit ?_; (iterate 2 refine x_then_exit ?_); refine x_block_exit ?_; refine x_s ?_; refine w_h ?_; refine t_a rfl ?_ rfl; refine t_e ?_; refine w_r ?_; refine x_ret1 rfl rfl ?_; exact ⟨ret_bool (decide_eq_true (eq_end hab (by omega) (by omega))).symm, ext_trans X0 B⟩
section
variable {P : Program} {n : Nat} {ops : Array Oper} {Q : Exit → Act → World → Prop} {L : Frm} {w : World} {m : Md} {r : IT} {d : Nat} {ty : TypeId} {pos : String} {af : Array Edge}
end
theorem impl_eqHops (a b : List Hop) (v u : Value) (w : World) (h : SlR hopT w v a) (h2 : SlR hopT w u b) (hz : a.length ≤ 4611686018427387904) (hz2 : b.length ≤ 4611686018427387904) : Calls Tryz.prog 162 #[v, u] w fun e w' => e = .returned (.bool (decide (a = b))) ∧ Below w.heap.size w w' := by
 have X0 := Below.refl w.heap.size w; refine enter Tryz.func162 rfl Tryz.ntmps162 rfl ?_; refine w_h ?_; have S := Sep.nil w; have B := Below.refl w.heap.size w; have Hb := Nat.le_refl w.heap.size; refine t_a rfl ?_ rfl; refine t_e ?_; (iterate 2 refine w_s ?_); refine w_g ?_; refine t_m rfl ?_ rfl; refine t_len e_hop ‹_› rfl rfl ?_ rfl; refine t_m rfl ?_ rfl; refine t_len e_hop ‹_› rfl rfl ?_ rfl; refine t_neq rfl rfl ?_ rfl; refine t_e ?_; refine w_if rfl ?_ ?_
 ·intro hl; refine w_h ?_; refine t_a rfl ?_ rfl; refine t_e ?_; refine w_r ?_; refine x_t ?_; refine x_ret1 rfl rfl ?_; exact ⟨ret_bool (decide_eq_false (fun e => hl (by rw [e]))).symm, ext_trans X0 B⟩
 ·intro hl; refine w_k ?_; refine x_s ?_; (iterate 2 refine w_s ?_); refine w_g ?_; refine t_m rfl ?_ rfl; refine t_len e_hop ‹_› rfl rfl ?_ rfl; refine t_m rfl ?_ rfl; refine t_e ?_; refine w_block ?_; refine w_loop (X := Nat) (fun k wq => k ≤ a.length ∧ a.take k = b.take k ∧ Below w.heap.size w wq ∧ Sep w.heap.size wq []) (fun k => [(13, I ((k : Int))), (0, v), (1, u), (12, I ((a.length : Int)))]) (fun k => a.length - k) (0) ?_ ⟨rfl, rfl, rfl, rfl, trivial⟩ ?_
  ·exact ⟨by omega, rfl, B, S⟩
  rintro k w1 hI; (try dsimp only at hI ⊢); obtain ⟨hk, hab, B, S⟩ := hI; refine w_h ?_; refine t_lss rfl rfl ?_ rfl; refine t_e ?_; refine w_s ?_; refine w_if rfl ?_ ?_
  ·intro hlt; refine w_k ?_; refine x_s ?_; refine w_s ?_; refine w_block ?_; refine w_h ?_; refine t_m rfl ?_ rfl; refine t_a rfl ?_ rfl; refine t_e ?_; refine w_s ?_; refine w_draw (.st .take 0 (.st .take 1 (.st .take 2 (.st .take 3 (.st .take 4 (.st .take 5 (.st .take 6 (.st .take 7 (.st .take 8 .done))))))))) mixed (by kernel_rfl) ?_; intro w2 x3; have B := bx Hb B x3; have S := S.below x3; (iterate 2 refine t_m rfl ?_ rfl); obtain ⟨e18, he18⟩ : ∃ e, (a)[k]? = some e := getx (by omega); refine t_idx e_hop (k := k) ‹_› he18 B rfl rfl (by first | rfl | omega) ?_ rfl; intro p18 hp18; refine t_lda ‹_› ab_hop sb_hop B rfl ?_ rfl; intro v19 hv19; obtain rfl := hop_va hv19; (iterate 2 refine t_m rfl ?_ rfl); obtain ⟨e22, he22⟩ : ∃ e, (b)[k]? = some e := getx (by omega); refine t_idx e_hop (k := k) ‹_› he22 B rfl rfl (by first | rfl | omega) ?_ rfl; intro p22 hp22; refine t_lda ‹_› ab_hop sb_hop B rfl ?_ rfl; intro v23 hv23; obtain rfl := hop_va hv23; refine t_neqv (by kernel_rfl) (fun w => run_eq_hop e18 e22 w) rfl rfl ?_ rfl; refine t_e' ?_; refine w_if rfl ?_ ?_
   ·intro hne; refine w_h ?_; refine t_a rfl ?_ rfl; refine t_e ?_; refine w_r ?_; refine x_block_ret ?_; (iterate 2 refine x_t ?_); refine x_block_ret ?_; refine x_t ?_; refine x_ret1 rfl rfl ?_; exact ⟨ret_bool (decide_eq_false (eq_not he18 he22 hne)).symm, ext_trans X0 B⟩
   ·intro hne; refine w_k ?_; refine x_b ?_; refine x_s ?_; refine w_g ?_; refine t_add rfl rfl (by omega) ?_ rfl; refine t_m rfl ?_ rfl; refine t_d ?_; refine x_r (X := Nat) (k + 1) ?_ (by exact ⟨rfl, rfl, rfl, rfl, trivial⟩) (by (try dsimp only); omega); (try dsimp only); exact ⟨by omega, eq_step hab he18 he22 (Classical.not_not.1 hne), B, S⟩
  ·intro hge; refine w_exit ?_; (iterate 2 refine x_then_exit ?_); refine x_block_exit ?_; refine x_s ?_; refine w_h ?_; refine t_a rfl ?_ rfl; refine t_e ?_; refine w_r ?_; refine x_ret1 rfl rfl ?_; exact ⟨ret_bool (decide_eq_true (eq_end hab (by omega) (by omega))).symm, ext_trans X0 B⟩
theorem spec_eqHops (a b : List Hop) (v u : Value) (w : World) (h : SlR hopT w v a) (h2 : SlR hopT w u b) (hz : a.length ≤ 4611686018427387904) (hz2 : b.length ≤ 4611686018427387904) : Calls Tryz.prog 163 #[v, u] w fun e w' => e = .returned (.bool (decide (a = b))) ∧ Below w.heap.size w w' := by
 have X0 := Below.refl w.heap.size w; refine enter Tryz.func163 rfl Tryz.ntmps163 rfl ?_; refine w_h ?_; have S := Sep.nil w; have B := Below.refl w.heap.size w; have Hb := Nat.le_refl w.heap.size; refine t_a rfl ?_ rfl; refine t_e ?_; (iterate 2 refine w_s ?_); refine w_g ?_; refine t_m rfl ?_ rfl; refine t_len e_hop ‹_› rfl rfl ?_ rfl; refine t_m rfl ?_ rfl; refine t_len e_hop ‹_› rfl rfl ?_ rfl; refine t_neq rfl rfl ?_ rfl; refine t_e ?_; refine w_if rfl ?_ ?_
 ·intro hl; refine w_h ?_; refine t_a rfl ?_ rfl; refine t_e ?_; refine w_r ?_; refine x_t ?_; refine x_ret1 rfl rfl ?_; exact ⟨ret_bool (decide_eq_false (fun e => hl (by rw [e]))).symm, ext_trans X0 B⟩
 ·intro hl; refine w_k ?_; refine x_s ?_; (iterate 2 refine w_s ?_); refine w_g ?_; refine t_a rfl ?_ rfl; refine t_e ?_; refine w_block ?_; refine w_loop (X := Nat) (fun k wq => k ≤ a.length ∧ a.take k = b.take k ∧ Below w.heap.size w wq ∧ Sep w.heap.size wq []) (fun k => [(5, I ((k : Int))), (0, v), (1, u)]) (fun k => a.length - k) (0) ?_ ⟨rfl, rfl, rfl, trivial⟩ ?_
  ·exact ⟨by omega, rfl, B, S⟩
  rintro k w4 hI; (try dsimp only at hI ⊢); obtain ⟨hk, hab, B, S⟩ := hI; (iterate 2 refine w_s ?_); refine w_g ?_; (iterate 2 refine t_m rfl ?_ rfl); refine t_len e_hop ‹_› rfl rfl ?_ rfl; refine t_lss rfl rfl ?_ rfl; refine t_e ?_; refine w_if rfl ?_ ?_
  ·intro hlt; refine w_k ?_; refine x_s ?_; refine w_s ?_; refine w_block ?_; refine w_s ?_; refine w_draw (.st .take 0 (.st .take 1 (.st .take 2 (.st .take 3 (.st .take 4 (.st .take 5 (.st .take 6 (.st .take 7 (.st .take 8 .done))))))))) mixed (by kernel_rfl) ?_; intro w5 x6; have B := bx Hb B x6; have S := S.below x6; (iterate 2 refine t_m rfl ?_ rfl); obtain ⟨e19, he19⟩ : ∃ e, (a)[k]? = some e := getx (by omega); refine t_idx e_hop (k := k) ‹_› he19 B rfl rfl (by first | rfl | omega) ?_ rfl; intro p19 hp19; refine t_lda ‹_› ab_hop sb_hop B rfl ?_ rfl; intro v20 hv20; obtain rfl := hop_va hv20; (iterate 2 refine t_m rfl ?_ rfl); obtain ⟨e23, he23⟩ : ∃ e, (b)[k]? = some e := getx (by omega); refine t_idx e_hop (k := k) ‹_› he23 B rfl rfl (by first | rfl | omega) ?_ rfl; intro p23 hp23; refine t_lda ‹_› ab_hop sb_hop B rfl ?_ rfl; intro v24 hv24; obtain rfl := hop_va hv24; refine t_neqv (by kernel_rfl) (fun w => run_eq_hop e19 e23 w) rfl rfl ?_ rfl; refine t_e' ?_; refine w_if rfl ?_ ?_
   ·intro hne; refine w_h ?_; refine t_a rfl ?_ rfl; refine t_e ?_; refine w_r ?_; refine x_block_ret ?_; (iterate 2 refine x_t ?_); refine x_block_ret ?_; refine x_t ?_; refine x_ret1 rfl rfl ?_; exact ⟨ret_bool (decide_eq_false (eq_not he19 he23 hne)).symm, ext_trans X0 B⟩
   ·intro hne; refine w_k ?_; refine x_b ?_; refine x_s ?_; refine w_g ?_; refine t_m rfl ?_ rfl; refine t_add rfl rfl (by omega) ?_ rfl; refine t_a rfl ?_ rfl; refine t_d ?_; refine x_r (X := Nat) (k + 1) ?_ (by exact ⟨rfl, rfl, rfl, trivial⟩) (by (try dsimp only); omega); (try dsimp only); exact ⟨by omega, eq_step hab he19 he23 (Classical.not_not.1 hne), B, S⟩
  ·intro hge; refine w_exit ?_; (iterate 2 refine x_then_exit ?_); refine x_block_exit ?_; refine x_s ?_; refine w_h ?_; refine t_a rfl ?_ rfl; refine t_e ?_; refine w_r ?_; refine x_ret1 rfl rfl ?_; exact ⟨ret_bool (decide_eq_true (eq_end hab (by omega) (by omega))).symm, ext_trans X0 B⟩
theorem spec_IsTerminated (s : Seg) (v : Value) (w : World) (h : VA segT w v s) (hz : s.hops.length ≤ 1048576) : Calls Tryz.prog 156 #[v] w fun e w' => e = .returned (.bool (termS s)) ∧ Below w.heap.size w w' := by
 have X0 := Below.refl w.heap.size w; refine enter Tryz.func156 rfl Tryz.ntmps156 rfl ?_; refine w_h ?_; refine t_boxr ‹_› rfl ?_ rfl rfl; intro p1 w5 x6 hp1; replace h := h.below x6; have X0 := ext_trans X0 x6; have S := Sep.nil w5; have B := Below.refl w5.heap.size w5; have Hb := Nat.le_refl w5.heap.size; refine t_a rfl ?_ rfl; refine t_k ?_; refine t_fld ln_seg_2 ‹_› fb_seg_2 rfl ?_ rfl; intro p3 hp3; refine t_lds ‹_› ab_s_hop B rfl ?_ rfl; intro v4 hv4; refine t_len e_hop ‹_› rfl rfl ?_ rfl; refine t_gtr rfl rfl ?_ rfl; refine t_m rfl ?_ rfl; refine t_partp (t := 7) rfl ?_ ?_
 ·intro h1; refine t_on rfl rfl ?_; refine t_fld ln_seg_2 ‹_› fb_seg_2 rfl ?_ rfl; intro p8 hp8; refine t_on rfl rfl ?_; refine t_lds ‹_› ab_s_hop B rfl ?_ rfl; intro v9 hv9; refine t_on rfl rfl ?_; refine t_fld ln_seg_2 ‹_› fb_seg_2 rfl ?_ rfl; intro p10 hp10; refine t_on rfl rfl ?_; refine t_lds ‹_› ab_s_hop B rfl ?_ rfl; intro v11 hv11; refine t_on rfl rfl ?_; refine t_len e_hop ‹_› rfl rfl ?_ rfl; refine t_on rfl rfl ?_; refine t_sub rfl rfl (by omega) ?_ rfl; refine t_on rfl rfl ?_; obtain ⟨e14, he14⟩ : ∃ e, (s.hops)[(s.hops.length - 1)]? = some e := getx (by omega); refine t_idx e_hop (k := (s.hops.length - 1)) ‹_› he14 B rfl rfl (by first | rfl | omega) ?_ rfl; intro p14 hp14; refine t_on rfl rfl ?_; refine t_fld ln_hop_2 ‹_› fb_hop_2 rfl ?_ rfl; intro p15 hp15; refine t_on rfl rfl ?_; refine t_ldi ‹_› ab_int B rfl ?_ rfl; refine t_on rfl rfl ?_; refine t_eql rfl rfl ?_ rfl; refine t_q rfl rfl ?_ rfl; refine t_a rfl ?_ rfl; refine t_e ?_; refine w_r ?_; refine x_ret1 rfl rfl ?_; exact ⟨ret_bool (by unfold termS; rw [he14]), ext_trans X0 B⟩
 ·intro h1; (iterate 10 refine t_off rfl rfl rfl ?_ rfl); refine t_p rfl rfl ?_ rfl; refine t_a rfl ?_ rfl; refine t_e ?_; refine w_r ?_; refine x_ret1 rfl rfl ?_
  exact ⟨ret_bool (by
   have e : s.hops = [] := List.length_eq_zero_iff.1 (by omega)
   unfold termS; rw [e]; rfl), ext_trans X0 B⟩
theorem seg_ext {x y : Seg} (h1 : x.ts = y.ts) (h2 : x.beta = y.beta) (h3 : x.hops = y.hops) : x = y := by
  cases x; cases y; cases h1; cases h2; cases h3; rfl
theorem spec_EqualSegments (x y : Seg) (v u : Value) (w : World) (h : VA segT w v x) (h' : VA segT w u y) (hz : x.hops.length ≤ 1048576) (hz' : y.hops.length ≤ 1048576) : Calls Tryz.prog 190 #[v, u] w fun e w' => e = .returned (.bool (decide (x = y))) ∧ Below w.heap.size w w' := by
 have X0 := Below.refl w.heap.size w; refine enter Tryz.func190 rfl Tryz.ntmps190 rfl ?_; refine w_h ?_; refine t_boxr ‹_› rfl ?_ rfl rfl; intro p2 w7 x8 hp2; replace h := h.below x8; replace h' := h'.below x8; have X0 := ext_trans X0 x8; refine t_boxr ‹_› rfl ?_ rfl rfl; intro p3 w9 x10 hp3; replace h := h.below x10; replace h' := h'.below x10; replace hp2 := hp2.below x10; have X0 := ext_trans X0 x10; have S := Sep.nil w9; have B := Below.refl w9.heap.size w9; have Hb := Nat.le_refl w9.heap.size; refine t_a rfl ?_ rfl; refine t_k ?_; refine t_fld ln_seg_0 ‹_› fb_seg_0 rfl ?_ rfl; intro p5 hp5; refine t_ldi ‹_› ab_int B rfl ?_ rfl; refine t_fld ln_seg_0 ‹_› fb_seg_0 rfl ?_ rfl; intro p7 hp7; refine t_ldi ‹_› ab_int B rfl ?_ rfl; refine t_eql rfl rfl ?_ rfl; refine t_m rfl ?_ rfl; refine t_partp (t := 10) rfl ?_ ?_
 ·intro h1; refine t_on rfl rfl ?_; refine t_fld ln_seg_1 ‹_› fb_seg_1 rfl ?_ rfl; intro p11 hp11; refine t_on rfl rfl ?_; refine t_ldi ‹_› ab_int B rfl ?_ rfl; refine t_on rfl rfl ?_; refine t_fld ln_seg_1 ‹_› fb_seg_1 rfl ?_ rfl; intro p13 hp13; refine t_on rfl rfl ?_; refine t_ldi ‹_› ab_int B rfl ?_ rfl; refine t_on rfl rfl ?_; refine t_eql rfl rfl ?_ rfl; refine t_q rfl rfl ?_ rfl; refine t_m rfl ?_ rfl; refine t_partp (t := 17) rfl ?_ ?_
  ·intro h2; refine t_on rfl rfl ?_; refine t_fld ln_seg_2 ‹_› fb_seg_2 rfl ?_ rfl; intro p18 hp18; refine t_on rfl rfl ?_; refine t_lds ‹_› ab_s_hop B rfl ?_ rfl; intro v19 hv19; refine t_on rfl rfl ?_; refine t_fld ln_seg_2 ‹_› fb_seg_2 rfl ?_ rfl; intro p20 hp20; refine t_on rfl rfl ?_; refine t_lds ‹_› ab_s_hop B rfl ?_ rfl; intro v21 hv21; refine t_on rfl rfl ?_; refine t_x Tryz.call163 rfl (spec_eqHops x.hops y.hops _ _ _ (by first | assumption | exact SlR.below ‹_› B) (by first | assumption | exact SlR.below ‹_› B) (by omega) (by omega)) ?_ rfl rfl; intro w11 x12; have B := bx Hb B x12; have S := S.below x12; refine t_q rfl rfl ?_ rfl; refine t_a rfl ?_ rfl; refine t_e ?_; refine w_r ?_; refine x_ret1 rfl rfl ?_; exact ⟨ret_bool (decide_eq_decide.2 ⟨fun e => congrArg Seg.hops e, fun e => seg_ext h1 h2 e⟩).symm, ext_trans X0 B⟩
  ·intro h2; (iterate 5 refine t_off rfl rfl rfl ?_ rfl); refine t_p rfl rfl ?_ rfl; refine t_a rfl ?_ rfl; refine t_e ?_; refine w_r ?_; refine x_ret1 rfl rfl ?_; exact ⟨ret_bool (decide_eq_false fun e => h2 (congrArg Seg.beta e)).symm, ext_trans X0 B⟩
 ·intro h1; (iterate 5 refine t_off rfl rfl rfl ?_ rfl); refine t_p rfl rfl ?_ rfl; refine t_m rfl ?_ rfl; (iterate 5 refine t_off rfl rfl rfl ?_ rfl); refine t_p rfl rfl ?_ rfl; refine t_a rfl ?_ rfl; refine t_e ?_; refine w_r ?_; refine x_ret1 rfl rfl ?_; exact ⟨ret_bool (decide_eq_false fun e => h1 (congrArg Seg.ts e)).symm, ext_trans X0 B⟩
theorem spec_l16Has (l : List Seg) (s : Seg) (v u : Value) (w : World) (h : SlR segT w v l) (h' : VA segT w u s) (hz : sz_segs l ≤ 1048576) (hz' : s.hops.length ≤ 1048576) : Calls Tryz.prog 179 #[v, u] w fun e w' => e = .returned (.bool (decide (s ∈ l))) ∧ Below w.heap.size w w' := by
 have hl1 : l.length ≤ 1048576 := by unfold sz_segs at hz; omega
 have X0 := Below.refl w.heap.size w; refine enter Tryz.func179 rfl Tryz.ntmps179 rfl ?_; refine w_h ?_; refine t_boxr ‹_› rfl ?_ rfl rfl; intro p3 w13 x14 hp3; replace h := h.below x14; replace h' := h'.below x14; have X0 := ext_trans X0 x14; have S := Sep.nil w13; have B := Below.refl w13.heap.size w13; have Hb := Nat.le_refl w13.heap.size; refine t_a rfl ?_ rfl; refine t_e ?_; (iterate 2 refine w_s ?_); refine w_g ?_; refine t_a rfl ?_ rfl; refine t_e ?_; refine w_block ?_; refine w_loop (X := Nat) (fun k wq => k ≤ l.length ∧ (∀ (j : Nat) y, j < k → l[j]? = some y → y ≠ s) ∧ Below w13.heap.size w13 wq ∧ Sep w13.heap.size wq []) (fun k => [(5, I ((k : Int))), (0, v), (3, p3)]) (fun k => l.length - k) (0) ?_ ⟨rfl, rfl, rfl, trivial⟩ ?_
 ·exact ⟨by omega, fun j y hj => by omega, B, S⟩
 ·rintro k w15 hI; (try dsimp only at hI ⊢); obtain ⟨hk, hp, B, S⟩ := hI; (iterate 2 refine w_s ?_); refine w_g ?_; (iterate 2 refine t_m rfl ?_ rfl); refine t_len e_seg ‹_› rfl rfl ?_ rfl; refine t_lss rfl rfl ?_ rfl; refine t_e ?_; refine w_if rfl ?_ ?_
  ·intro hlt; obtain ⟨x, hx⟩ : ∃ e, l[k]? = some e := getx (by omega); have hxz := sz_segs_mem (List.mem_of_getElem? hx); refine w_k ?_; refine x_s ?_; refine w_s ?_; refine w_block ?_; refine w_s ?_; refine w_draw (.st .take 0 (.st .take 1 (.st .take 2 (.st .take 3 (.st .take 4 (.st .run 5 .done)))))) mixed (by kernel_rfl) ?_; intro w16 x17; have B := bx Hb B x17; have S := S.below x17; (iterate 2 refine t_m rfl ?_ rfl); refine t_idx e_seg (k := k) ‹_› hx B rfl rfl (by first | rfl | omega) ?_ rfl; intro p14 hp14; refine t_lda ‹_› ab_seg sb_seg B rfl ?_ rfl; intro v15 hv15; obtain ⟨v15_2, rfl, hv15_2⟩ := seg_va hv15; refine t_lda ‹_› ab_seg sb_seg B rfl ?_ rfl; intro v16 hv16; obtain ⟨v16_2, rfl, hv16_2⟩ := seg_va hv16; refine t_x Tryz.call190 rfl (spec_EqualSegments _ _ _ _ _ (by first | assumption | exact VA.below ‹_› B | exact seg_mkv (by first | assumption | exact SlR.below ‹_› B)) (by first | assumption | exact VA.below ‹_› B | exact seg_mkv (by first | assumption | exact SlR.below ‹_› B)) (by omega) (by omega)) ?_ rfl rfl; intro w18 x19; have B := bx Hb B x19; have S := S.below x19; refine t_e' ?_; refine w_if rfl ?_ ?_
   ·intro he; refine w_h ?_; refine t_a rfl ?_ rfl; refine t_e ?_; refine w_r ?_; refine x_block_ret ?_; (iterate 2 refine x_t ?_); refine x_block_ret ?_; refine x_t ?_; refine x_ret1 rfl rfl ?_; exact ⟨ret_bool (decide_eq_true (by rw [← he]; exact List.mem_of_getElem? hx)).symm, ext_trans X0 B⟩
   ·intro he; refine w_k ?_; refine x_b ?_; refine x_s ?_; refine w_g ?_; refine t_m rfl ?_ rfl; refine t_add rfl rfl (by omega) ?_ rfl; refine t_a rfl ?_ rfl; refine t_d ?_; refine x_r (X := Nat) (k + 1) ?_ (by exact ⟨rfl, rfl, rfl, trivial⟩) (by (try dsimp only); omega); (try dsimp only); refine ⟨by omega, fun j y hj hy => ?_, B, S⟩
    rcases Nat.lt_or_ge j k with q | q
    ·exact hp j y q hy
    ·have : j = k := by omega
     subst this; rw [hx] at hy; cases hy; exact he
  ·intro hge; refine w_exit ?_; (iterate 2 refine x_then_exit ?_); refine x_block_exit ?_; refine x_s ?_; refine w_h ?_; refine t_a rfl ?_ rfl; refine t_e ?_; refine w_r ?_; refine x_ret1 rfl rfl ?_; refine ⟨ret_bool (decide_eq_false fun hm => ?_).symm, ext_trans X0 B⟩; obtain ⟨j, hj, e⟩ := List.mem_iff_getElem.1 hm; exact hp j s (by omega) (by rw [List.getElem?_eq_getElem hj, e]) rfl
theorem spec_HasSegment (q : Sdb) (s : Seg) (v u : Value) (w : World) (h : VA sdbT w v q) (h' : VA segT w u s) (hz : sz_sdb q ≤ 1048576) (hz' : s.hops.length ≤ 1048576) : Calls Tryz.prog 157 #[v, u] w fun e w' => e = .returned (.bool (decide (s ∈ q.down ∨ s ∈ q.core))) ∧ Below w.heap.size w w' := by
 have hz1 : sz_segs q.down ≤ 1048576 := by unfold sz_sdb at hz; omega
 have hz2 : sz_segs q.core ≤ 1048576 := by unfold sz_sdb at hz; omega
 have X0 := Below.refl w.heap.size w; refine enter Tryz.func157 rfl Tryz.ntmps157 rfl ?_; refine w_h ?_; refine t_boxr ‹_› rfl ?_ rfl rfl; intro p2 w20 x21 hp2; replace h := h.below x21; replace h' := h'.below x21; have X0 := ext_trans X0 x21; refine t_boxr ‹_› rfl ?_ rfl rfl; intro p3 w22 x23 hp3; replace h := h.below x23; replace h' := h'.below x23; replace hp2 := hp2.below x23; have X0 := ext_trans X0 x23; have S := Sep.nil w22; have B := Below.refl w22.heap.size w22; have Hb := Nat.le_refl w22.heap.size; refine t_a rfl ?_ rfl; refine t_k ?_; refine t_fld ln_sdb_0 ‹_› fb_sdb_0 rfl ?_ rfl; intro p5 hp5; refine t_lds ‹_› ab_s_seg B rfl ?_ rfl; intro v6 hv6; refine t_lda ‹_› ab_seg sb_seg B rfl ?_ rfl; intro v7 hv7; obtain ⟨v7_2, rfl, hv7_2⟩ := seg_va hv7; refine t_x Tryz.call179 rfl (spec_l16Has _ _ _ _ _ (by first | assumption | exact SlR.below ‹_› B) (by first | assumption | exact VA.below ‹_› B | exact seg_mkv (by first | assumption | exact SlR.below ‹_› B)) (by omega) (by omega)) ?_ rfl rfl; intro w24 x25; have B := bx Hb B x25; have S := S.below x25; refine t_m rfl ?_ rfl; refine t_partp (t := 9) rfl ?_ ?_
 ·intro h1; (iterate 4 refine t_off rfl rfl rfl ?_ rfl); refine t_q rfl rfl ?_ rfl; refine t_a rfl ?_ rfl; refine t_e ?_; refine w_r ?_; refine x_ret1 rfl rfl ?_; exact ⟨ret_bool (decide_eq_true (.inl h1)).symm, ext_trans X0 B⟩
 ·intro h1; refine t_on rfl rfl ?_; refine t_fld ln_sdb_1 ‹_› fb_sdb_1 rfl ?_ rfl; intro p10 hp10; refine t_on rfl rfl ?_; refine t_lds ‹_› ab_s_seg B rfl ?_ rfl; intro v11 hv11; refine t_on rfl rfl ?_; refine t_lda ‹_› ab_seg sb_seg B rfl ?_ rfl; intro v12 hv12; obtain ⟨v12_2, rfl, hv12_2⟩ := seg_va hv12; refine t_on rfl rfl ?_; refine t_x Tryz.call179 rfl (spec_l16Has _ _ _ _ _ (by first | assumption | exact SlR.below ‹_› B) (by first | assumption | exact VA.below ‹_› B | exact seg_mkv (by first | assumption | exact SlR.below ‹_› B)) (by omega) (by omega)) ?_ rfl rfl; intro w26 x27; have B := bx Hb B x27; have S := S.below x27; refine t_p rfl rfl ?_ rfl; refine t_a rfl ?_ rfl; refine t_e ?_; refine w_r ?_; refine x_ret1 rfl rfl ?_; exact ⟨ret_bool (decide_eq_decide.2 ⟨.inr, fun z => z.resolve_left h1⟩), ext_trans X0 B⟩
theorem spec_l16All (l : List Seg) (v : Value) (w : World) (h : SlR segT w v l) (hz : sz_segs l ≤ 1048576) : Calls Tryz.prog 154 #[v] w fun e w' => ∃ v fp, e = .returned v ∧ SlO segT 67 w.heap.size w' v l fp ∧ Below w.heap.size w w' := by
 have hl1 : l.length ≤ 1048576 := by unfold sz_segs at hz; omega
 have X0 := Below.refl w.heap.size w; refine enter Tryz.func154 rfl Tryz.ntmps154 rfl ?_; refine w_h ?_; have S := Sep.nil w; have B := Below.refl w.heap.size w; have Hb := Nat.le_refl w.heap.size; refine t_a rfl ?_ rfl; refine t_k ?_; refine t_lit0 (T := segT) S bs_seg0 rfl ?_ rfl rfl; intro A6 w28 x29 S; have B := bx Hb B x29; refine t_a rfl ?_ rfl; refine t_e ?_; (iterate 2 refine w_s ?_); refine w_g ?_; refine t_a rfl ?_ rfl; refine t_e ?_; refine w_block ?_; refine w_loop (X := Nat × Value) (fun x wq => (fun k u => k ≤ l.length ∧ Below w.heap.size w wq ∧ Sep w.heap.size wq [slO segT 67 u (l.take k)]) x.1 x.2) (fun x => (fun k u => [(4, I ((k : Int))), (3, u), (0, v), (2, .slice none 0 0)]) x.1 x.2) (fun x => (fun k u => l.length - k) x.1 x.2) (0, _) ?_ ⟨rfl, rfl, rfl, rfl, trivial⟩ ?_
 ·exact ⟨by omega, B, S⟩
 ·rintro ⟨k, u⟩ w30 hI; (try dsimp only at hI ⊢); obtain ⟨hk, B, S⟩ := hI
  have htl : (l.take k).length = k := by rw [List.length_take]; omega
  (iterate 2 refine w_s ?_); refine w_g ?_; (iterate 2 refine t_m rfl ?_ rfl); refine t_len e_seg ‹_› rfl rfl ?_ rfl; refine t_lss rfl rfl ?_ rfl; refine t_e ?_; refine w_if rfl ?_ ?_
  ·intro hlt; obtain ⟨x, hx⟩ : ∃ e, l[k]? = some e := getx (by omega); have hxz := sz_segs_mem (List.mem_of_getElem? hx); refine w_k ?_; refine x_s ?_; refine w_s ?_; refine w_block ?_; refine w_h ?_; (iterate 2 refine t_m rfl ?_ rfl); refine t_idx e_seg (k := k) ‹_› hx B rfl rfl (by first | rfl | omega) ?_ rfl; intro p15 hp15; refine t_lda ‹_› ab_seg sb_seg B rfl ?_ rfl; intro v16 hv16; obtain ⟨v16_2, rfl, hv16_2⟩ := seg_va hv16; refine t_c Tryz.call146 rfl (spec_l9Copy _ _ _ (by first | assumption | exact VA.below ‹_› B | exact seg_mkv (by first | assumption | exact SlR.below ‹_› B)) (by omega)) ?_ rfl rfl; rintro e w31 ⟨cs17, fp17, rfl, hO17, x32⟩; refine ⟨_, rfl, x32, ?_⟩; have S := S.add (o := tyO segT _ _) x32 hO17; have B := bx Hb B x32; obtain ⟨u17_2, rfl, S2⟩ := S.segOpen; have S := S2; refine t_w S z_seg rfl ?_ rfl rfl; intro g5 w33 x34 S; have B := bx Hb B x34; refine t_stn S sb_seg rfl rfl rfl rfl (by repeat first | exact oc0 | refine oc rfl ?_ | refine oc (SlR.cells (S.tail.sl)).2 ?_) ?_; intro w35 b36 S; have B := B.trans b36; refine t_e ?_; refine w_g ?_; refine t_m rfl ?_ rfl; refine t_b S.box ab_seg sb_seg rfl rfl ?_ rfl
   refine t_lit1 (fun w => bs_seg1 _ _ _ w) rfl ?_ rfl rfl; intro A20 w37 x38 hA20; have B := bx Hb B x38; have S := S.below x38; have S := S.f1; have S := S.segShut (x := x); have S := S.f2; refine t_snoc e_seg S hA20 rfl rfl rfl (by first | omega | (simp; done) | (simp; omega)) (by (simp only [maxLen]); first | omega | (simp; done) | (simp; omega)) ?_ rfl; intro v21 w39 x40 S; have B := B.trans x40; refine t_a rfl ?_ rfl; refine t_d ?_; refine x_b ?_; refine x_s ?_; refine w_g ?_; refine t_m rfl ?_ rfl; refine t_add rfl rfl (by omega) ?_ rfl; refine t_a rfl ?_ rfl; refine t_d ?_; have S := S.f1.tail; refine x_r (X := Nat × Value) (k + 1, v21) ?_ (by exact ⟨rfl, rfl, rfl, rfl, trivial⟩) (by (try dsimp only); omega); (try dsimp only); refine ⟨by omega, B, ?_⟩; rw [take_succ hx]; exact S
  ·intro hge; refine w_exit ?_; (iterate 2 refine x_then_exit ?_); refine x_block_exit ?_; refine x_s ?_; refine w_h ?_; refine t_m rfl ?_ rfl; refine t_a rfl ?_ rfl; refine t_e ?_; refine w_r ?_; refine x_ret1 rfl rfl ?_; obtain ⟨fp, hO⟩ := (S.mono X0.size).head; rw [List.take_of_length_le (by omega)] at hO; exact ⟨_, fp, rfl, hO, ext_trans X0 B⟩
def badAt (t : Topo) (s : Seg) (i : Nat) : Bool := match s.hops[i]? with
  | none => false
  | some x => !verifyHop t s.ts (segBeta s i) x
theorem badHop_yes {t : Topo} {s : Seg} {k : Nat} (hk : k < s.hops.length) (hp : ∀ j, j < k → badAt t s j = false) (e : badAt t s k = true) : badHop t s = k := by
  have : (List.range s.hops.length).findIdx? (badAt t s) = some k := by
    rw [List.findIdx?_eq_some_iff_getElem]; refine ⟨by rw [List.length_range]; exact hk, by rw [List.getElem_range]; exact e, fun j hj => ?_⟩; rw [List.getElem_range, hp j hj]; simp
  show idxI ((List.range s.hops.length).findIdx? (badAt t s)) = _
  rw [this]; rfl
theorem badHop_no {t : Topo} {s : Seg} (hp : ∀ j, j < s.hops.length → badAt t s j = false) : badHop t s = -1 := by
  have : (List.range s.hops.length).findIdx? (badAt t s) = none := by
    rw [List.findIdx?_eq_none_iff]
    exact fun x hx => hp x (List.mem_range.1 hx)
  show idxI ((List.range s.hops.length).findIdx? (badAt t s)) = _
  rw [this]; rfl
theorem bad_succ {t : Topo} {s : Seg} {k : Nat} (hp : ∀ j, j < k → badAt t s j = false) (e : badAt t s k = false) : ∀ j, j < k + 1 → badAt t s j = false := by
  intro j hj
  rcases Nat.lt_or_ge j k with q | q
  · exact hp j q
  · rw [show j = k by omega]; exact e
theorem badAt_eq {t : Topo} {s : Seg} {k : Nat} {x : Hop} (h : s.hops[k]? = some x) : badAt t s k = !verifyHop t s.ts (segBeta s k) x := by unfold badAt; rw [h]
theorem spec_FirstInvalidHop (t : Topo) (s : Seg) (v u : Value) (w : World) (h : VA topoT w v t) (h' : VA segT w u s) (hz : sz_topo t ≤ 1048576) (hz' : s.hops.length ≤ 1048576) : Calls Tryz.prog 177 #[v, u] w fun e w' => e = .returned (I (badHop t s)) ∧ Below w.heap.size w w' := by
 have X0 := Below.refl w.heap.size w; refine enter Tryz.func177 rfl Tryz.ntmps177 rfl ?_; refine w_h ?_; refine t_boxr ‹_› rfl ?_ rfl rfl; intro p2 w1 x2 hp2; replace h := h.below x2; replace h' := h'.below x2; have X0 := ext_trans X0 x2; refine t_boxr ‹_› rfl ?_ rfl rfl; intro p3 w3 x4 hp3; replace h := h.below x4; replace h' := h'.below x4; replace hp2 := hp2.below x4; have X0 := ext_trans X0 x4; have S := Sep.nil w3; have B := Below.refl w3.heap.size w3; have Hb := Nat.le_refl w3.heap.size; refine t_a rfl ?_ rfl; refine t_e ?_; (iterate 2 refine w_s ?_); refine w_g ?_; refine t_a rfl ?_ rfl; refine t_e ?_; refine w_block ?_; refine w_loop (X := Nat) (fun k wq => k ≤ s.hops.length ∧ (∀ j, j < k → badAt t s j = false) ∧ Below w3.heap.size w3 wq ∧ Sep w3.heap.size wq []) (fun k => [(5, I ((k : Int))), (2, p2), (3, p3)]) (fun k => s.hops.length - k) (0) ?_ ⟨rfl, rfl, rfl, trivial⟩ ?_
 ·exact ⟨by omega, fun j hj => by omega, B, S⟩
 ·rintro k w5 hI; (try dsimp only at hI ⊢); obtain ⟨hk, hp, B, S⟩ := hI; (iterate 2 refine w_s ?_); refine w_g ?_; refine t_m rfl ?_ rfl; refine t_fld ln_seg_2 ‹_› fb_seg_2 rfl ?_ rfl; intro p7 hp7; refine t_lds ‹_› ab_s_hop B rfl ?_ rfl; intro v8 hv8; refine t_len e_hop ‹_› rfl rfl ?_ rfl; refine t_lss rfl rfl ?_ rfl; refine t_e ?_; refine w_if rfl ?_ ?_
  ·intro hlt; obtain ⟨x, hx⟩ : ∃ e, s.hops[k]? = some e := getx (by omega); refine w_k ?_; refine x_s ?_; refine w_s ?_; refine w_block ?_; refine w_s ?_; refine w_draw (.st .take 0 (.st .take 1 (.st .take 2 (.st .take 3 (.st .take 4 (.st .take 6 (.st .take 7 (.st .take 8 (.st .take 9 (.st .take 10 (.st .run 5 (.st .run 11 (.st .take 12 .done))))))))))))) mixed (by kernel_rfl) ?_; intro w6 x7; have B := bx Hb B x7; have S := S.below x7; refine t_lda ‹_› ab_topo sb_topo B rfl ?_ rfl; intro v13 hv13; obtain ⟨v13_0, v13_1, rfl, hv13_0, hv13_1⟩ := topo_va hv13; refine t_fld ln_seg_0 ‹_› fb_seg_0 rfl ?_ rfl; intro p14 hp14; refine t_ldi ‹_› ab_int B rfl ?_ rfl; refine t_lda ‹_› ab_seg sb_seg B rfl ?_ rfl; intro v16 hv16; obtain ⟨v16_2, rfl, hv16_2⟩ := seg_va hv16; refine t_m rfl ?_ rfl; refine t_fld ln_seg_2 ‹_› fb_seg_2 rfl ?_ rfl; intro p19 hp19; refine t_lds ‹_› ab_s_hop B rfl ?_ rfl; intro v20 hv20; refine t_m rfl ?_ rfl; refine t_idx e_hop (k := k) ‹_› hx B rfl rfl (by first | rfl | omega) ?_ rfl; intro p22 hp22; refine t_lda ‹_› ab_hop sb_hop B rfl ?_ rfl; intro v23 hv23; obtain rfl := hop_va hv23
   refine t_x Tryz.call143 rfl (spec_BetaAt _ _ _ _ (by first | assumption | exact VA.below ‹_› B | exact seg_mkv (by first | assumption | exact SlR.below ‹_› B)) (by omega)) ?_ rfl rfl; intro w8 x9; have B := bx Hb B x9; have S := S.below x9; refine t_x Tryz.call182 rfl (spec_VerifyHop _ _ _ _ _ _ (by first | assumption | exact VA.below ‹_› B | exact topo_mkv (by first | assumption | exact SlR.below ‹_› B) (by first | assumption | exact SlR.below ‹_› B)) (by omega)) ?_ rfl rfl; intro w10 x11; have B := bx Hb B x11; have S := S.below x11; refine t_notb rfl ?_ rfl; refine t_e' ?_; refine w_ifb rfl ?_ ?_
   ·intro he; refine w_h ?_; refine t_m rfl ?_ rfl; refine t_a rfl ?_ rfl; refine t_e ?_; refine w_r ?_; refine x_block_ret ?_; (iterate 2 refine x_t ?_); refine x_block_ret ?_; refine x_t ?_; refine x_ret1 rfl rfl ?_; exact ⟨ret_int (badHop_yes (by omega) hp (by rw [badAt_eq hx]; simpa using he)).symm, ext_trans X0 B⟩
   ·intro he; refine w_k ?_; refine x_b ?_; refine x_s ?_; refine w_g ?_; refine t_m rfl ?_ rfl; refine t_add rfl rfl (by omega) ?_ rfl; refine t_a rfl ?_ rfl; refine t_d ?_; refine x_r (X := Nat) (k + 1) ?_ (by exact ⟨rfl, rfl, rfl, trivial⟩) (by (try dsimp only); omega); (try dsimp only); exact ⟨by omega, bad_succ hp (by rw [badAt_eq hx]; simpa using he), B, S⟩
  ·intro hge; refine w_exit ?_; (iterate 2 refine x_then_exit ?_); refine x_block_exit ?_; refine x_s ?_; refine w_h ?_; refine t_a rfl ?_ rfl; refine t_e ?_; refine w_r ?_; refine x_ret1 rfl rfl ?_; exact ⟨ret_int (badHop_no fun j hj => hp j (by omega)).symm, ext_trans X0 B⟩
section
variable {P : Program} {n : Nat} {ops : Array Oper} {Q : Exit → Act → World → Prop} {L : Frm} {w w0 : World} {m : Md} {r : IT} {d : Nat} {ty : TypeId} {pos : String} {af : Array Edge} {b : Nat} {os : List Ow}
theorem t_allocx {t : TypeId} {C : Array Value} {z : Value} (S : Sep b w os) (hz : (P.info? t).map (·.zero) = some (some z)) (hC : z.cells = C) (k : ∀ g w', w.heap.size ≤ g → Ext w w' → Sep b w' (bxO g t C :: os) → WT P n ops Q r ((d, .pointer (some ⟨g, 0, none⟩)) :: L) w') (hm : m.isTake = false) (hn : Nat.blt d n = true) : WT P n ops Q (.st m ⟨some d, .alloc t, ty, pos, af, none⟩ r) L w := by
  have he := ext_new w (.cells C t); refine t_make (v := .pointer (some ⟨w.heap.size, 0, none⟩)) he (fun a ha _ _ _ => ?_) (k _ _ (Nat.le_refl _) he (S.add (fp := [w.heap.size]) he ⟨rfl, Nat.le_refl _, heap_alloc_new w _⟩)) hm hn; cases hi : P.info? t with
  | none => rw [hi] at hz; cases hz
  | some inf =>
    rw [hi] at hz
    simp at hz
    simp [execOp, Instr.alloc, zeroValue, typeInfo, hi, hz, newVar, newRow, newObj, program, Sem.run, hC]
theorem t_stx {t tb : TypeId} {g sz : Nat} {C V : Array Value} {po xo : Operand} (S : Sep b w (bxO g tb C :: os)) (hs : sizeB P t = some sz) (hp : ev L po = some (.pointer (some ⟨g, 0, none⟩))) (hx : ev L xo = some (.agg V)) (hsz : V.size = sz) (hV : V.size = C.size) (hu : ∀ u ∈ V.toList, u.oneCell' = true) (x : Ext w0 w) (hge : w0.heap.size ≤ g)
    (k : ∀ w', Below b w w' → Sep b w' (bxO g tb V :: os) → Ext w0 w' → WT P n ops Q r L w') : WT P n ops Q (.st .fin ⟨none, .store t po xo, ty, pos, af, none⟩ r) L w := by
  subst hsz; have hb := S.box; obtain ⟨w', C', k1, k2, k3, k4, k5⟩ := run_storeCells (P := P) V.toList 0 w C hb (by simp [hV]) hu
  have hC : C' = V := by
    apply Array.ext_getElem?
    intro j; rw [k5 j]
    by_cases hj : j < V.size
    · rw [if_pos (by simpa using hj)]; simp
    · rw [if_neg (by simpa using hj), Array.getElem?_eq_none (by omega), Array.getElem?_eq_none (by omega)]
  subst hC; obtain ⟨fp, _, hg, _⟩ := S.head; refine t_store (w' := w') (fun a ha _ _ _ => ?_) (k _ (k4.below (by simpa using hg) S.base) (S.turn (fp' := fun _ _ => True) fun f hf => ?_) (x.trans (k4.below (by simpa using hge) x.size)))
  · simp [execOp, ha.ev hp, ha.ev hx, Instr.storeAt, Instr.sureAddr, storeVar, Value.cells, run_sizeOf hs, k1]
  · obtain ⟨h1, h2, h3⟩ := hf
    subst h1; exact ⟨[g], ⟨rfl, h2, k2⟩, fun x hx => .inl hx, k4⟩
end
theorem wfHop_no {t : Topo} {l : List Hop} {k : Nat} {x : Hop} (h : l[k]? = some x) (e : (validHop x && isAS t x.ia && !((l.map Hop.ia).take k).contains x.ia && !(decide (x.eg = 0) && decide ((k : Int) < (l.length : Int) - 1))) = false) : wfHop t l k = false := by
  unfold wfHop; rw [h, List.map_take]; dsimp only; rw [e]; rfl
theorem wfHop_0 {t : Topo} {l : List Hop} {k : Nat} {x : Hop} (h : l[k]? = some x) (e : (validHop x && isAS t x.ia && !((l.map Hop.ia).take k).contains x.ia && !(decide (x.eg = 0) && decide ((k : Int) < (l.length : Int) - 1))) = true) (hk : k = 0) : wfHop t l k = true := by
  unfold wfHop; rw [h, List.map_take]; dsimp only; rw [e, if_pos hk]; rfl
theorem wfHop_1 {t : Topo} {l : List Hop} {k : Nat} {x y : Hop} (h : l[k]? = some x) (e : (validHop x && isAS t x.ia && !((l.map Hop.ia).take k).contains x.ia && !(decide (x.eg = 0) && decide ((k : Int) < (l.length : Int) - 1))) = true) (hk : 0 < k) (hy : l[k - 1]? = some y) : wfHop t l k = (decide ((remote t y.ia y.eg).1 = x.ia) && decide ((remote t y.ia y.eg).2 = x.ing)) := by
  unfold wfHop; rw [h, List.map_take]; dsimp only; rw [e, if_neg (by omega), hy]; rfl
theorem spec_WellFormed (t : Topo) (s : Seg) (v u : Value) (w : World) (h : VA topoT w v t) (h' : VA segT w u s) (hz : sz_topo t ≤ 1048576) (hz' : s.hops.length ≤ 1048576) : Calls Tryz.prog 176 #[v, u] w fun e w' => e = .returned (.bool (wfSeg t s)) ∧ Below w.heap.size w w' := by
 have hml : (s.hops.map Hop.ia).length = s.hops.length := List.length_map ..; have X0 := Below.refl w.heap.size w; refine enter Tryz.func176 rfl Tryz.ntmps176 rfl ?_; refine w_h ?_; refine t_boxr ‹_› rfl ?_ rfl rfl; intro p2 w1 x2 hp2; replace h := h.below x2; replace h' := h'.below x2; have X0 := ext_trans X0 x2; refine t_boxr ‹_› rfl ?_ rfl rfl; intro p3 w3 x4 hp3; replace h := h.below x4; replace h' := h'.below x4; replace hp2 := hp2.below x4; have X0 := ext_trans X0 x4; have S := Sep.nil w3; have B := Below.refl w3.heap.size w3; have Hb := Nat.le_refl w3.heap.size; refine t_a rfl ?_ rfl; refine t_e ?_; (iterate 2 refine w_s ?_); refine w_g ?_; refine t_fld ln_seg_2 ‹_› fb_seg_2 rfl ?_ rfl; intro p10 hp10; refine t_lds ‹_› ab_s_hop B rfl ?_ rfl; intro v11 hv11; refine t_len e_hop ‹_› rfl rfl ?_ rfl; refine t_calls Tryz.call144 rfl (spec_l1In _ _ _ _) ?_ rfl rfl; refine t_notb rfl ?_ rfl; refine t_m rfl ?_ rfl; refine t_part (t := 15) rfl ?_ ?_
 ·intro h1; (iterate 6 refine t_off rfl rfl rfl ?_ rfl); refine t_q rfl rfl ?_ rfl; refine t_e ?_; refine w_yes rfl ?_; refine w_h ?_; refine t_a rfl ?_ rfl; refine t_e ?_; refine w_r ?_; refine x_t ?_; refine x_ret1 rfl rfl ?_; exact ⟨ret_bool (by simp at h1; simp [wfSeg, h1]), ext_trans X0 B⟩
 intro h1
 have h1' : inR s.hops.length 1 8 = true := by simpa using h1
 have hl1 := inR_iff.1 h1'; obtain ⟨x0, hx0⟩ : ∃ e, s.hops[0]? = some e := getx (by omega); refine t_on rfl rfl ?_; refine t_fld ln_seg_2 ‹_› fb_seg_2 rfl ?_ rfl; intro p16 hp16; refine t_on rfl rfl ?_; refine t_lds ‹_› ab_s_hop B rfl ?_ rfl; intro v17 hv17; refine t_on rfl rfl ?_; refine t_idx e_hop (k := 0) ‹_› hx0 B rfl rfl (by first | rfl | omega) ?_ rfl; intro p18 hp18; refine t_on rfl rfl ?_; refine t_fld ln_hop_1 ‹_› fb_hop_1 rfl ?_ rfl; intro p19 hp19; refine t_on rfl rfl ?_; refine t_ldi ‹_› ab_int B rfl ?_ rfl; refine t_on rfl rfl ?_; refine t_neq rfl rfl ?_ rfl; refine t_p rfl rfl ?_ rfl; refine t_e ?_; refine w_if rfl ?_ ?_
 ·intro h2; refine w_h ?_; refine t_a rfl ?_ rfl; refine t_e ?_; refine w_r ?_; refine x_t ?_; refine x_ret1 rfl rfl ?_; exact ⟨ret_bool (by unfold wfSeg firstIng; rw [hx0]; simp [h2]), ext_trans X0 B⟩
 intro h2; refine w_k ?_; refine x_s ?_; refine w_h ?_; refine t_lda ‹_› ab_seg sb_seg B rfl ?_ rfl; intro v23 hv23; obtain ⟨v23_2, rfl, hv23_2⟩ := seg_va hv23; refine t_c Tryz.call141 rfl (spec_SegmentASes _ _ _ (by first | assumption | exact VA.below ‹_› B | exact seg_mkv (by first | assumption | exact SlR.below ‹_› B)) (by omega)) ?_ rfl rfl; rintro e w5 ⟨v24, fpv24, rfl, hOv24, x6⟩; refine ⟨_, rfl, x6, ?_⟩; have S := S.add (o := slO _ _ _ _) x6 hOv24; have B := bx Hb B x6; refine t_a rfl ?_ rfl; refine t_e ?_; (iterate 2 refine w_s ?_); refine w_g ?_; refine t_a rfl ?_ rfl; refine t_e ?_; refine w_block ?_; refine w_loop (X := Nat) (fun k wq => k ≤ s.hops.length ∧ (∀ j, j < k → wfHop t s.hops j = true) ∧ Below w3.heap.size w3 wq ∧ Sep w3.heap.size wq [slO intT 3 v24 (s.hops.map Hop.ia)]) (fun k => [(6, I ((k : Int))), (2, p2), (3, p3), (5, v24)]) (fun k => s.hops.length - k) (0) ?_ ⟨rfl, rfl, rfl, rfl, trivial⟩ ?_
 ·exact ⟨by omega, by omega, B, S⟩
 ·rintro k w7 hI; (try dsimp only at hI ⊢); obtain ⟨hk, ha, B, S⟩ := hI; (iterate 2 refine w_s ?_); refine w_g ?_; refine t_m rfl ?_ rfl; refine t_fld ln_seg_2 ‹_› fb_seg_2 rfl ?_ rfl; intro p26 hp26; refine t_lds ‹_› ab_s_hop B rfl ?_ rfl; intro v27 hv27; refine t_len e_hop ‹_› rfl rfl ?_ rfl; refine t_lss rfl rfl ?_ rfl; refine t_e ?_; refine w_if rfl ?_ ?_
  ·intro hlt
   have hlt' : k < s.hops.length := by omega
   obtain ⟨x, hx⟩ : ∃ e, s.hops[k]? = some e := getx (by omega)
   have htl : ((s.hops.map Hop.ia).take k).length ≤ 16777216 := by rw [List.length_take, hml]; omega
   refine w_k ?_; refine x_s ?_; refine w_s ?_; refine w_block ?_; refine w_h ?_; refine t_fld ln_seg_2 ‹_› fb_seg_2 rfl ?_ rfl; intro p32 hp32; refine t_lds ‹_› ab_s_hop B rfl ?_ rfl; intro v33 hv33; refine t_m rfl ?_ rfl; refine t_idx e_hop (k := k) ‹_› hx B rfl rfl (by first | rfl | omega) ?_ rfl; intro p35 hp35; refine t_lda ‹_› ab_hop sb_hop B rfl ?_ rfl; intro v36 hv36; obtain rfl := hop_va hv36; refine t_allocx S z_hop rfl ?_ rfl rfl; intro g7 w8 ge7 x9 S; have B := bx Hb B x9; refine t_stx S sb_hop rfl rfl rfl rfl (by repeat first | exact oc0 | refine oc rfl ?_) x9 ge7 ?_; intro w10 b11 S cb11; have B := B.trans b11; refine t_e ?_; (iterate 2 refine w_s ?_); refine w_draw (.st .take 0 (.st .run 1 (.st .take 2 (.st .take 3 (.st .take 4 (.st .take 5 (.st .take 6 (.st .run 7 (.st .take 8 (.st .take 9 (.st .take 10 (.st .take 11 (.st .take 12 (.st .take 13 (.st .take 14 (.st .take 15 (.st .run 16 (.st .take 17 (.st .take 18 (.st .take 19 (.st .take 20 (.st .take 21 (.st .take 22 (.st .take 23 (.st .take 24 (.st .take 25 (.st .take 26 (.st .take 27 (.st .take 28 (.st .take 29 (.st .take 30 .done))))))))))))))))))))))))))))))) mixed (by kernel_rfl) ?_; intro w12 x13
   have B := bx Hb B x13; have S := S.below x13; refine t_b S.box ab_hop sb_hop rfl rfl ?_ rfl; refine t_x Tryz.call189 rfl (spec_ValidHop x _) ?_ rfl rfl; intro w14 x15; have B := bx Hb B x15; have S := S.below x15; refine t_notb rfl ?_ rfl; refine t_m rfl ?_ rfl; refine t_part (t := 40) rfl ?_ ?_
   ·intro h5; (iterate 5 refine t_off rfl rfl rfl ?_ rfl); refine t_q rfl rfl ?_ rfl; refine t_m rfl ?_ rfl; (iterate 6 refine t_off rfl rfl rfl ?_ rfl); refine t_q rfl rfl ?_ rfl; refine t_m rfl ?_ rfl; (iterate 4 refine t_off rfl rfl rfl ?_ rfl); (iterate 6 refine t_offu rfl rfl ?_ rfl); refine t_off rfl rfl rfl ?_ rfl; refine t_q rfl rfl ?_ rfl; refine t_e' ?_; refine w_yes rfl ?_; refine w_h ?_; refine t_a rfl ?_ rfl; refine t_e ?_; refine w_r ?_; refine x_t ?_; refine x_block_ret ?_; (iterate 2 refine x_t ?_); refine x_block_ret ?_; refine x_t ?_; refine x_ret1 rfl rfl ?_; exact ⟨ret_bool (by unfold wfSeg; rw [all_no hlt' (wfHop_no hx (by simp at h5; simp [h5]))]; simp), ext_trans X0 B⟩
   intro h5; refine t_on rfl rfl ?_; refine t_lda ‹_› ab_topo sb_topo B rfl ?_ rfl; intro v41 hv41; obtain ⟨v41_0, v41_1, rfl, hv41_0, hv41_1⟩ := topo_va hv41; refine t_on rfl rfl ?_; refine t_y fb_hop_0 rfl rfl ?_ rfl; refine t_on rfl rfl ?_; refine t_bx1 S.box ab_int rfl rfl ?_ rfl; refine t_on rfl rfl ?_; refine t_x Tryz.call99 rfl (spec_l5Realm _ _ _ _ (by first | assumption | exact VA.below ‹_› B | exact topo_mkv (by first | assumption | exact SlR.below ‹_› B) (by first | assumption | exact SlR.below ‹_› B)) (by omega)) ?_ rfl rfl; intro w16 x17; have B := bx Hb B x17; have S := S.below x17; refine t_on rfl rfl ?_; refine t_notb rfl ?_ rfl; refine t_p rfl rfl ?_ rfl; refine t_m rfl ?_ rfl; refine t_part (t := 47) rfl ?_ ?_
   ·intro h6; (iterate 6 refine t_off rfl rfl rfl ?_ rfl); refine t_q rfl rfl ?_ rfl; refine t_m rfl ?_ rfl; (iterate 4 refine t_off rfl rfl rfl ?_ rfl); (iterate 6 refine t_offu rfl rfl ?_ rfl); refine t_off rfl rfl rfl ?_ rfl; refine t_q rfl rfl ?_ rfl; refine t_e' ?_; refine w_yes rfl ?_; refine w_h ?_; refine t_a rfl ?_ rfl; refine t_e ?_; refine w_r ?_; refine x_t ?_; refine x_block_ret ?_; (iterate 2 refine x_t ?_); refine x_block_ret ?_; refine x_t ?_; refine x_ret1 rfl rfl ?_; exact ⟨ret_bool (by unfold wfSeg; rw [all_no hlt' (wfHop_no hx (by simp at h6; simp [h6]))]; simp), ext_trans X0 B⟩
   intro h6; refine t_on rfl rfl ?_; refine t_m rfl ?_ rfl; refine t_on rfl rfl ?_; refine t_m rfl ?_ rfl; refine t_on rfl rfl ?_; refine t_slt e_int (k := k) (S.tail.sl) rfl rfl (by first | rfl | omega) (by omega) ?_ rfl; intro v50 hv50; refine t_on rfl rfl ?_; refine t_y fb_hop_0 rfl rfl ?_ rfl; refine t_on rfl rfl ?_; refine t_bx1 S.box ab_int rfl rfl ?_ rfl; refine t_on rfl rfl ?_; refine t_calls Tryz.call82 rfl (spec_l9Has _ _ _ _ (by first | assumption | exact SlR.below ‹_› B) (by (try rw [List.length_take]); (try rw [List.length_map]); omega)) ?_ rfl rfl; refine t_p rfl rfl ?_ rfl; refine t_m rfl ?_ rfl; refine t_part (t := 55) rfl ?_ ?_
   ·intro h7; (iterate 4 refine t_off rfl rfl rfl ?_ rfl); (iterate 6 refine t_offu rfl rfl ?_ rfl); refine t_off rfl rfl rfl ?_ rfl; refine t_q rfl rfl ?_ rfl; refine t_e' ?_; refine w_yes rfl ?_; refine w_h ?_; refine t_a rfl ?_ rfl; refine t_e ?_; refine w_r ?_; refine x_t ?_; refine x_block_ret ?_; (iterate 2 refine x_t ?_); refine x_block_ret ?_; refine x_t ?_; refine x_ret1 rfl rfl ?_; exact ⟨ret_bool (by unfold wfSeg; rw [all_no hlt' (wfHop_no hx (by rw [h7]; simp))]; simp), ext_trans X0 B⟩
   intro h7
   have nxt : ∀ (hc : ¬ (x.eg = 0 ∧ (k : Int) < (s.hops.length : Int) - 1)), (validHop x && isAS t x.ia && !((s.hops.map Hop.ia).take k).contains x.ia && !(decide (x.eg = 0) && decide ((k : Int) < (s.hops.length : Int) - 1))) = true := fun hc => by
    rw [h7]
    simp at h5 h6
    simp only [h5, h6, Bool.not_false, Bool.and_true, Bool.true_and, Bool.not_eq_true', ← Bool.not_eq_true, Bool.and_eq_true, decide_eq_true_eq]
    exact hc
   refine t_on rfl rfl ?_; refine t_y fb_hop_2 rfl rfl ?_ rfl; refine t_on rfl rfl ?_; refine t_bx1 S.box ab_int rfl rfl ?_ rfl; refine t_on rfl rfl ?_; refine t_eql rfl rfl ?_ rfl; refine t_on rfl rfl ?_; refine t_m rfl ?_ rfl; refine t_partp (t := 59) rfl ?_ ?_
   ·intro h8; refine t_on rfl rfl ?_; refine t_m rfl ?_ rfl; refine t_on rfl rfl ?_; refine t_fld ln_seg_2 ‹_› fb_seg_2 rfl ?_ rfl; intro p61 hp61; refine t_on rfl rfl ?_; refine t_lds ‹_› ab_s_hop B rfl ?_ rfl; intro v62 hv62; refine t_on rfl rfl ?_; refine t_len e_hop ‹_› rfl rfl ?_ rfl; refine t_on rfl rfl ?_; refine t_sub rfl rfl (by omega) ?_ rfl; refine t_on rfl rfl ?_; refine t_lss rfl rfl ?_ rfl; refine t_on rfl rfl ?_; refine t_q rfl rfl ?_ rfl; refine t_p rfl rfl ?_ rfl; refine t_e' ?_; refine w_if rfl ?_ ?_
    ·intro h9; refine w_h ?_; refine t_a rfl ?_ rfl; refine t_e ?_; refine w_r ?_; refine x_t ?_; refine x_block_ret ?_; (iterate 2 refine x_t ?_); refine x_block_ret ?_; refine x_t ?_; refine x_ret1 rfl rfl ?_; exact ⟨ret_bool (by unfold wfSeg; rw [all_no hlt' (wfHop_no hx (by simp [h8]; omega))]; simp), ext_trans X0 B⟩
    intro h9; have hall := nxt (fun z => h9 z.2); refine w_k ?_; refine x_s ?_; refine w_h ?_; refine t_m rfl ?_ rfl; refine t_gtr rfl rfl ?_ rfl; refine t_e ?_; refine w_if rfl ?_ ?_
    ·intro h10; obtain ⟨y, hy⟩ : ∃ e, s.hops[k - 1]? = some e := getx (by omega); have hw := wfHop_1 (t := t) hx hall (by omega) hy; refine w_s ?_; refine w_draw (.st .take 0 (.st .take 1 (.st .take 2 (.st .take 3 (.st .take 4 (.st .take 5 (.st .take 6 (.st .take 7 (.st .take 8 (.st .take 9 (.st .take 10 (.st .take 11 (.st .take 12 (.st .take 13 (.st .take 14 (.st .run 15 (.st .take 16 (.st .take 17 (.st .take 18 (.st .take 19 (.st .take 20 .done))))))))))))))))))))) mixed (by kernel_rfl) ?_; intro w18 x19; have B := bx Hb B x19; have S := S.below x19; refine t_lda ‹_› ab_topo sb_topo B rfl ?_ rfl; intro v71 hv71; obtain ⟨v71_0, v71_1, rfl, hv71_0, hv71_1⟩ := topo_va hv71; refine t_fld ln_seg_2 ‹_› fb_seg_2 rfl ?_ rfl; intro p72 hp72; refine t_lds ‹_› ab_s_hop B rfl ?_ rfl; intro v73 hv73; refine t_m rfl ?_ rfl; refine t_sub rfl rfl (by omega) ?_ rfl; refine t_idx e_hop (k := (k - 1)) ‹_› hy B rfl rfl (by first | rfl | omega) ?_ rfl; intro p76 hp76; refine t_fld ln_hop_0 ‹_› fb_hop_0 rfl ?_ rfl; intro p77 hp77; refine t_ldi ‹_› ab_int B rfl ?_ rfl; refine t_fld ln_seg_2 ‹_› fb_seg_2 rfl ?_ rfl; intro p79 hp79; refine t_lds ‹_› ab_s_hop B rfl ?_ rfl; intro v80 hv80
     refine t_m rfl ?_ rfl; refine t_sub rfl rfl (by omega) ?_ rfl; refine t_idx e_hop (k := (k - 1)) ‹_› hy B rfl rfl (by first | rfl | omega) ?_ rfl; intro p83 hp83; refine t_fld ln_hop_2 ‹_› fb_hop_2 rfl ?_ rfl; intro p84 hp84; refine t_ldi ‹_› ab_int B rfl ?_ rfl; refine t_x Tryz.call140 rfl (spec_RemoteEnd _ _ _ _ _ (by first | assumption | exact VA.below ‹_› B | exact topo_mkv (by first | assumption | exact SlR.below ‹_› B) (by first | assumption | exact SlR.below ‹_› B)) (by omega)) ?_ rfl rfl; intro w20 x21; have B := bx Hb B x21; have S := S.below x21; refine t_m rfl ?_ rfl; (iterate 2 refine t_extract rfl rfl ?_ rfl); (iterate 2 refine t_a rfl ?_ rfl); refine t_k' ?_; refine t_m rfl ?_ rfl; refine t_y fb_hop_0 rfl rfl ?_ rfl; refine t_bx1 S.box ab_int rfl rfl ?_ rfl; refine t_neq rfl rfl ?_ rfl; refine t_m rfl ?_ rfl; refine t_partp (t := 93) rfl ?_ ?_
     ·intro h11; (iterate 4 refine t_off rfl rfl rfl ?_ rfl); refine t_q rfl rfl ?_ rfl; refine t_e ?_; refine w_yes rfl ?_; refine w_h ?_; refine t_a rfl ?_ rfl; refine t_e ?_; refine w_r ?_; refine x_block_ret ?_; (iterate 2 refine x_t ?_); refine x_block_ret ?_; refine x_t ?_; refine x_ret1 rfl rfl ?_; exact ⟨ret_bool (by unfold wfSeg; rw [all_no hlt' (by rw [hw]; simp at h11; simp [h11])]; simp), ext_trans X0 B⟩
     intro h11; refine t_on rfl rfl ?_; refine t_m rfl ?_ rfl; refine t_on rfl rfl ?_; refine t_y fb_hop_1 rfl rfl ?_ rfl; refine t_on rfl rfl ?_; refine t_bx1 S.box ab_int rfl rfl ?_ rfl; refine t_on rfl rfl ?_; refine t_neq rfl rfl ?_ rfl; refine t_p rfl rfl ?_ rfl; refine t_e ?_; refine w_if rfl ?_ ?_
     ·intro h12; refine w_h ?_; refine t_a rfl ?_ rfl; refine t_e ?_; refine w_r ?_; refine x_block_ret ?_; (iterate 2 refine x_t ?_); refine x_block_ret ?_; refine x_t ?_; refine x_ret1 rfl rfl ?_; exact ⟨ret_bool (by unfold wfSeg; rw [all_no hlt' (by rw [hw]; simp at h12; simp [h12])]; simp), ext_trans X0 B⟩
     intro h12; refine w_k ?_; refine x_b ?_; refine x_s ?_; refine w_g ?_; refine t_m rfl ?_ rfl; refine t_add rfl rfl (by omega) ?_ rfl; refine t_a rfl ?_ rfl; refine t_d ?_; have S := S.tail; refine x_r (X := Nat) (k + 1) ?_ (by exact ⟨rfl, rfl, rfl, rfl, trivial⟩) (by (try dsimp only); omega); (try dsimp only); exact ⟨by omega, upto_succ ha (by rw [hw]; simp at h11 h12; simp [h11, h12]), B, S⟩
    ·intro h10; refine w_k ?_; refine x_b ?_; refine x_s ?_; refine w_g ?_; refine t_m rfl ?_ rfl; refine t_add rfl rfl (by omega) ?_ rfl; refine t_a rfl ?_ rfl; refine t_d ?_; have S := S.tail; refine x_r (X := Nat) (k + 1) ?_ (by exact ⟨rfl, rfl, rfl, rfl, trivial⟩) (by (try dsimp only); omega); (try dsimp only); exact ⟨by omega, upto_succ ha (wfHop_0 hx hall (by omega)), B, S⟩
   ·intro h8; have hall := nxt (fun z => h8 z.1); (iterate 6 refine t_off rfl rfl rfl ?_ rfl); refine t_on rfl rfl ?_; (iterate 2 refine t_p rfl rfl ?_ rfl); refine t_e' ?_; refine w_no rfl ?_; refine w_k ?_; refine x_s ?_; refine w_h ?_; refine t_m rfl ?_ rfl; refine t_gtr rfl rfl ?_ rfl; refine t_e ?_; refine w_if rfl ?_ ?_
    ·intro h10; obtain ⟨y, hy⟩ : ∃ e, s.hops[k - 1]? = some e := getx (by omega); have hw := wfHop_1 (t := t) hx hall (by omega) hy; refine w_s ?_; refine w_draw (.st .take 0 (.st .take 1 (.st .take 2 (.st .take 3 (.st .take 4 (.st .take 5 (.st .take 6 (.st .take 7 (.st .take 8 (.st .take 9 (.st .take 10 (.st .take 11 (.st .take 12 (.st .take 13 (.st .take 14 (.st .run 15 (.st .take 16 (.st .take 17 (.st .take 18 (.st .take 19 (.st .take 20 .done))))))))))))))))))))) mixed (by kernel_rfl) ?_; intro w22 x23; have B := bx Hb B x23; have S := S.below x23; refine t_lda ‹_› ab_topo sb_topo B rfl ?_ rfl; intro v71 hv71; obtain ⟨v71_0, v71_1, rfl, hv71_0, hv71_1⟩ := topo_va hv71; refine t_fld ln_seg_2 ‹_› fb_seg_2 rfl ?_ rfl; intro p72 hp72; refine t_lds ‹_› ab_s_hop B rfl ?_ rfl; intro v73 hv73; refine t_m rfl ?_ rfl; refine t_sub rfl rfl (by omega) ?_ rfl; refine t_idx e_hop (k := (k - 1)) ‹_› hy B rfl rfl (by first | rfl | omega) ?_ rfl; intro p76 hp76; refine t_fld ln_hop_0 ‹_› fb_hop_0 rfl ?_ rfl; intro p77 hp77; refine t_ldi ‹_› ab_int B rfl ?_ rfl; refine t_fld ln_seg_2 ‹_› fb_seg_2 rfl ?_ rfl; intro p79 hp79; refine t_lds ‹_› ab_s_hop B rfl ?_ rfl; intro v80 hv80
     refine t_m rfl ?_ rfl; refine t_sub rfl rfl (by omega) ?_ rfl; refine t_idx e_hop (k := (k - 1)) ‹_› hy B rfl rfl (by first | rfl | omega) ?_ rfl; intro p83 hp83; refine t_fld ln_hop_2 ‹_› fb_hop_2 rfl ?_ rfl; intro p84 hp84; refine t_ldi ‹_› ab_int B rfl ?_ rfl; refine t_x Tryz.call140 rfl (spec_RemoteEnd _ _ _ _ _ (by first | assumption | exact VA.below ‹_› B | exact topo_mkv (by first | assumption | exact SlR.below ‹_› B) (by first | assumption | exact SlR.below ‹_› B)) (by omega)) ?_ rfl rfl; intro w24 x25; have B := bx Hb B x25; have S := S.below x25; refine t_m rfl ?_ rfl; (iterate 2 refine t_extract rfl rfl ?_ rfl); (iterate 2 refine t_a rfl ?_ rfl); refine t_k' ?_; refine t_m rfl ?_ rfl; refine t_y fb_hop_0 rfl rfl ?_ rfl; refine t_bx1 S.box ab_int rfl rfl ?_ rfl; refine t_neq rfl rfl ?_ rfl; refine t_m rfl ?_ rfl; refine t_partp (t := 93) rfl ?_ ?_
     ·intro h11; (iterate 4 refine t_off rfl rfl rfl ?_ rfl); refine t_q rfl rfl ?_ rfl; refine t_e ?_; refine w_yes rfl ?_; refine w_h ?_; refine t_a rfl ?_ rfl; refine t_e ?_; refine w_r ?_; refine x_block_ret ?_; (iterate 2 refine x_t ?_); refine x_block_ret ?_; refine x_t ?_; refine x_ret1 rfl rfl ?_; exact ⟨ret_bool (by unfold wfSeg; rw [all_no hlt' (by rw [hw]; simp at h11; simp [h11])]; simp), ext_trans X0 B⟩
     intro h11; refine t_on rfl rfl ?_; refine t_m rfl ?_ rfl; refine t_on rfl rfl ?_; refine t_y fb_hop_1 rfl rfl ?_ rfl; refine t_on rfl rfl ?_; refine t_bx1 S.box ab_int rfl rfl ?_ rfl; refine t_on rfl rfl ?_; refine t_neq rfl rfl ?_ rfl; refine t_p rfl rfl ?_ rfl; refine t_e ?_; refine w_if rfl ?_ ?_
     ·intro h12; refine w_h ?_; refine t_a rfl ?_ rfl; refine t_e ?_; refine w_r ?_; refine x_block_ret ?_; (iterate 2 refine x_t ?_); refine x_block_ret ?_; refine x_t ?_; refine x_ret1 rfl rfl ?_; exact ⟨ret_bool (by unfold wfSeg; rw [all_no hlt' (by rw [hw]; simp at h12; simp [h12])]; simp), ext_trans X0 B⟩
     intro h12; refine w_k ?_; refine x_b ?_; refine x_s ?_; refine w_g ?_; refine t_m rfl ?_ rfl; refine t_add rfl rfl (by omega) ?_ rfl; refine t_a rfl ?_ rfl; refine t_d ?_; have S := S.tail; refine x_r (X := Nat) (k + 1) ?_ (by exact ⟨rfl, rfl, rfl, rfl, trivial⟩) (by (try dsimp only); omega); (try dsimp only); exact ⟨by omega, upto_succ ha (by rw [hw]; simp at h11 h12; simp [h11, h12]), B, S⟩
    ·intro h10; refine w_k ?_; refine x_b ?_; refine x_s ?_; refine w_g ?_; refine t_m rfl ?_ rfl; refine t_add rfl rfl (by omega) ?_ rfl; refine t_a rfl ?_ rfl; refine t_d ?_; have S := S.tail; refine x_r (X := Nat) (k + 1) ?_ (by exact ⟨rfl, rfl, rfl, rfl, trivial⟩) (by (try dsimp only); omega); (try dsimp only); exact ⟨by omega, upto_succ ha (wfHop_0 hx hall (by omega)), B, S⟩
  ·intro hge; refine w_exit ?_; (iterate 2 refine x_then_exit ?_); refine x_block_exit ?_; refine x_s ?_; refine w_h ?_; refine t_a rfl ?_ rfl; refine t_e ?_; refine w_r ?_; refine x_ret1 rfl rfl ?_; exact ⟨ret_bool (by unfold wfSeg firstIng; rw [hx0, h1', all_ok fun j hj => ha j (by omega)]; simp at h2; simp [h2]), ext_trans X0 B⟩
theorem wf_first {t : Topo} {s : Seg} (h : wfSeg t s = true) : 1 ≤ s.hops.length ∧ 0 ≤ firstS s ∧ firstS s < t.ases.length := by
  have W := wfSeg_S h; have hl : 1 ≤ s.hops.length := W.len.1; obtain ⟨x, hx⟩ : ∃ x, s.hops[0]? = some x := getx (by omega); have := inR_iff.1 (W.ok x (List.mem_of_getElem? hx)).2; rw [firstS_at hx]
  omega
theorem segKind_no {t : Topo} {s : Seg} (h : wfSeg t s = false ∨ coreAt t (firstS s) = false) : segKind t s = 0 := by
  unfold segKind; rw [if_neg]; rintro ⟨h1, h2⟩; rcases h with h | h <;> simp_all
theorem segKind_is {t : Topo} {s : Seg} (h : wfSeg t s = true) (h2 : coreAt t (firstS s) = true) {c r : Int} (e : kindF t s.hops 0 = c) (hr : r = if c = 1 then 1 else if c = 2 then 2 else 0) : segKind t s = r := by
  unfold segKind; rw [if_pos ⟨h, h2⟩, e, hr]
theorem kindF_0 {t : Topo} {l : List Hop} {k : Nat} {x : Hop} {c : Int} (h : l[k]? = some x) (e : x.eg = 0) : kindF t (l.drop k) c = kindF t (l.drop (k + 1)) c := by
  have hk := List.getElem?_eq_some_iff.1 h; rw [List.drop_eq_getElem_cons hk.1, hk.2, kindF, if_pos e]
theorem kindF_no {t : Topo} {l : List Hop} {k : Nat} {x : Hop} {c : Int} (h : l[k]? = some x) (e : x.eg ≠ 0) (hc : c ≠ 0) (hn : ifKind t x.ia x.eg ≠ c) : kindF t (l.drop k) c = -1 := by
  have hk := List.getElem?_eq_some_iff.1 h; rw [List.drop_eq_getElem_cons hk.1, hk.2, kindF, if_neg e, if_pos ⟨hc, hn⟩]
theorem kindF_go {t : Topo} {l : List Hop} {k : Nat} {x : Hop} {c : Int} (h : l[k]? = some x) (e : x.eg ≠ 0) (hn : ¬ (c ≠ 0 ∧ ifKind t x.ia x.eg ≠ c)) : kindF t (l.drop k) c = kindF t (l.drop (k + 1)) (ifKind t x.ia x.eg) := by
  have hk := List.getElem?_eq_some_iff.1 h; rw [List.drop_eq_getElem_cons hk.1, hk.2, kindF, if_neg e, if_neg hn]
theorem spec_SegmentKind (t : Topo) (s : Seg) (v u : Value) (w : World) (h : VA topoT w v t) (h' : VA segT w u s) (hz : sz_topo t ≤ 1048576) (hz' : s.hops.length ≤ 1048576) : Calls Tryz.prog 158 #[v, u] w fun e w' => e = .returned (I (segKind t s)) ∧ Below w.heap.size w w' := by
 have X0 := Below.refl w.heap.size w; refine enter Tryz.func158 rfl Tryz.ntmps158 rfl ?_; refine w_h ?_; refine t_boxr ‹_› rfl ?_ rfl rfl; intro p2 w1 x2 hp2; replace h := h.below x2; replace h' := h'.below x2; have X0 := ext_trans X0 x2; refine t_boxr ‹_› rfl ?_ rfl rfl; intro p3 w3 x4 hp3; replace h := h.below x4; replace h' := h'.below x4; replace hp2 := hp2.below x4; have X0 := ext_trans X0 x4; have S := Sep.nil w3; have B := Below.refl w3.heap.size w3; have Hb := Nat.le_refl w3.heap.size; refine t_a rfl ?_ rfl; refine t_e ?_; (iterate 2 refine w_s ?_); refine w_draw (.st .take 0 (.st .take 1 (.st .run 2 (.st .take 3 (.st .take 4 (.st .take 5 (.st .take 6 (.st .take 7 (.st .run 8 (.st .take 9 (.st .take 10 (.st .take 11 (.st .take 12 (.st .take 13 .done)))))))))))))) mixed (by kernel_rfl) ?_; intro w5 x6; have B := bx Hb B x6; have S := S.below x6; refine t_lda ‹_› ab_topo sb_topo B rfl ?_ rfl; intro v8 hv8; obtain ⟨v8_0, v8_1, rfl, hv8_0, hv8_1⟩ := topo_va hv8; refine t_lda ‹_› ab_seg sb_seg B rfl ?_ rfl; intro v9 hv9; obtain ⟨v9_2, rfl, hv9_2⟩ := seg_va hv9
 refine t_x Tryz.call176 rfl (spec_WellFormed _ _ _ _ _ (by first | assumption | exact VA.below ‹_› B | exact topo_mkv (by first | assumption | exact SlR.below ‹_› B) (by first | assumption | exact SlR.below ‹_› B)) (by first | assumption | exact VA.below ‹_› B | exact seg_mkv (by first | assumption | exact SlR.below ‹_› B)) (by omega) (by omega)) ?_ rfl rfl; intro w7 x8; have B := bx Hb B x8; have S := S.below x8; refine t_notb rfl ?_ rfl; refine t_m rfl ?_ rfl; refine t_part (t := 12) rfl ?_ ?_
 ·intro h1; (iterate 8 refine t_off rfl rfl rfl ?_ rfl); refine t_q rfl rfl ?_ rfl; refine t_e' ?_; refine w_yes rfl ?_; refine w_h ?_; refine t_a rfl ?_ rfl; refine t_e ?_; refine w_r ?_; refine x_t ?_; refine x_ret1 rfl rfl ?_; exact ⟨ret_int (segKind_no (.inl (by simpa using h1))).symm, ext_trans X0 B⟩
 intro h1
 have hw : wfSeg t s = true := by simpa using h1
 have hf := wf_first hw; obtain ⟨e0, he0⟩ : ∃ e, t.ases[(firstS s).toNat]? = some e := getx (by omega); refine t_on rfl rfl ?_; refine t_fld ln_topo_0 ‹_› fb_topo_0 rfl ?_ rfl; intro p13 hp13; refine t_on rfl rfl ?_; refine t_lds ‹_› ab_s_asn B rfl ?_ rfl; intro v14 hv14; refine t_on rfl rfl ?_; refine t_lda ‹_› ab_seg sb_seg B rfl ?_ rfl; intro v15 hv15; obtain ⟨v15_2, rfl, hv15_2⟩ := seg_va hv15; refine t_on rfl rfl ?_; refine t_x Tryz.call103 rfl (spec_FirstAS s _ _ (by first | assumption | exact VA.below ‹_› B | exact seg_mkv (by first | assumption | exact SlR.below ‹_› B)) (by omega)) ?_ rfl rfl; intro w9 x10; have B := bx Hb B x10; have S := S.below x10; refine t_on rfl rfl ?_; refine t_idx e_asn (k := (firstS s).toNat) ‹_› he0 B rfl rfl (by first | rfl | omega) ?_ rfl; intro p17 hp17; refine t_on rfl rfl ?_; refine t_fld ln_asn_1 ‹_› fb_asn_1 rfl ?_ rfl; intro p18 hp18; refine t_on rfl rfl ?_; refine t_ldb ‹_› ab_bool B rfl ?_ rfl; refine t_on rfl rfl ?_; refine t_notb rfl ?_ rfl; refine t_p rfl rfl ?_ rfl; refine t_e' ?_; refine w_ifb rfl ?_ ?_
 ·intro h2; refine w_h ?_; refine t_a rfl ?_ rfl; refine t_e ?_; refine w_r ?_; refine x_t ?_; refine x_ret1 rfl rfl ?_; exact ⟨ret_int (segKind_no (.inr (by unfold coreAt; rw [he0]; simpa using h2))).symm, ext_trans X0 B⟩
 intro h2
 have hc : coreAt t (firstS s) = true := by unfold coreAt; rw [he0]; simpa using h2
 refine w_k ?_; refine x_s ?_; refine w_h ?_; refine t_a rfl ?_ rfl; refine t_e ?_; (iterate 2 refine w_s ?_); refine w_g ?_; refine t_a rfl ?_ rfl; refine t_e ?_; refine w_block ?_; refine w_loop (X := Nat × Int) (fun x wq => (fun k c => k ≤ s.hops.length ∧ kindF t s.hops 0 = kindF t (s.hops.drop k) c ∧ Below w3.heap.size w3 wq ∧ Sep w3.heap.size wq []) x.1 x.2) (fun x => (fun k c => [(6, I ((k : Int))), (5, I c), (2, p2), (3, p3)]) x.1 x.2) (fun x => (fun k c => s.hops.length - k) x.1 x.2) (0, 0) ?_ ⟨rfl, rfl, rfl, rfl, trivial⟩ ?_
 ·exact ⟨by omega, rfl, B, S⟩
 ·rintro ⟨k, c⟩ w11 hI; (try dsimp only at hI ⊢); obtain ⟨hk, hq, B, S⟩ := hI; (iterate 2 refine w_s ?_); refine w_g ?_; refine t_m rfl ?_ rfl; refine t_fld ln_seg_2 ‹_› fb_seg_2 rfl ?_ rfl; intro p23 hp23; refine t_lds ‹_› ab_s_hop B rfl ?_ rfl; intro v24 hv24; refine t_len e_hop ‹_› rfl rfl ?_ rfl; refine t_lss rfl rfl ?_ rfl; refine t_e ?_; refine w_if rfl ?_ ?_
  ·intro hlt; obtain ⟨x, hx⟩ : ∃ e, s.hops[k]? = some e := getx (by omega); refine w_k ?_; refine x_s ?_; refine w_s ?_; refine w_block ?_; (iterate 2 refine w_s ?_); refine w_g ?_; refine t_fld ln_seg_2 ‹_› fb_seg_2 rfl ?_ rfl; intro p29 hp29; refine t_lds ‹_› ab_s_hop B rfl ?_ rfl; intro v30 hv30; refine t_m rfl ?_ rfl; refine t_idx e_hop (k := k) ‹_› hx B rfl rfl (by first | rfl | omega) ?_ rfl; intro p32 hp32; refine t_fld ln_hop_2 ‹_› fb_hop_2 rfl ?_ rfl; intro p33 hp33; refine t_ldi ‹_› ab_int B rfl ?_ rfl; refine t_eql rfl rfl ?_ rfl; refine t_e ?_; refine w_if rfl ?_ ?_
   ·intro he; refine w_exit ?_; refine x_then_exit ?_; refine x_block_exit ?_; refine x_s ?_; refine w_g ?_; refine t_m rfl ?_ rfl; refine t_add rfl rfl (by omega) ?_ rfl; refine t_a rfl ?_ rfl; refine t_d ?_; refine x_r (X := Nat × Int) (k + 1, c) ?_ (by exact ⟨rfl, rfl, rfl, rfl, trivial⟩) (by (try dsimp only); omega); (try dsimp only); exact ⟨by omega, by rw [hq, kindF_0 hx he], B, S⟩
   ·intro he; refine w_k ?_; refine x_s ?_; refine w_s ?_; refine w_draw (.st .take 0 (.st .take 1 (.st .take 2 (.st .take 3 (.st .take 4 (.st .take 5 (.st .take 6 (.st .take 7 (.st .take 8 (.st .take 9 (.st .take 10 (.st .take 11 (.st .take 12 (.st .run 13 (.st .take 14 .done))))))))))))))) mixed (by kernel_rfl) ?_; intro w12 x13; have B := bx Hb B x13; have S := S.below x13; refine t_lda ‹_› ab_topo sb_topo B rfl ?_ rfl; intro v36 hv36; obtain ⟨v36_0, v36_1, rfl, hv36_0, hv36_1⟩ := topo_va hv36; refine t_fld ln_seg_2 ‹_› fb_seg_2 rfl ?_ rfl; intro p37 hp37; refine t_lds ‹_› ab_s_hop B rfl ?_ rfl; intro v38 hv38; refine t_m rfl ?_ rfl; refine t_idx e_hop (k := k) ‹_› hx B rfl rfl (by first | rfl | omega) ?_ rfl; intro p40 hp40; refine t_fld ln_hop_0 ‹_› fb_hop_0 rfl ?_ rfl; intro p41 hp41; refine t_ldi ‹_› ab_int B rfl ?_ rfl; refine t_fld ln_seg_2 ‹_› fb_seg_2 rfl ?_ rfl; intro p43 hp43; refine t_lds ‹_› ab_s_hop B rfl ?_ rfl; intro v44 hv44; refine t_m rfl ?_ rfl; refine t_idx e_hop (k := k) ‹_› hx B rfl rfl (by first | rfl | omega) ?_ rfl; intro p46 hp46; refine t_fld ln_hop_2 ‹_› fb_hop_2 rfl ?_ rfl; intro p47 hp47; refine t_ldi ‹_› ab_int B rfl ?_ rfl
    refine t_x Tryz.call167 rfl (va1 (by first | assumption | exact VA.below ‹_› B | exact topo_mkv (by first | assumption | exact SlR.below ‹_› B) (by first | assumption | exact SlR.below ‹_› B)) fun cs h => spec_ifKind _ cs _ _ _ h (by omega)) ?_ rfl rfl; intro w14 x15; have B := bx Hb B x15; have S := S.below x15; refine t_a rfl ?_ rfl; refine t_e' ?_; (iterate 2 refine w_s ?_); refine w_g ?_; refine t_m rfl ?_ rfl; refine t_neq rfl rfl ?_ rfl; refine t_m rfl ?_ rfl; refine t_partp (t := 52) rfl ?_ ?_
    ·intro h3; refine t_on rfl rfl ?_; refine t_m rfl ?_ rfl; refine t_on rfl rfl ?_; refine t_m rfl ?_ rfl; refine t_on rfl rfl ?_; refine t_neq rfl rfl ?_ rfl; refine t_q rfl rfl ?_ rfl; refine t_e ?_; refine w_if rfl ?_ ?_
     ·intro h4; refine w_h ?_; refine t_a rfl ?_ rfl; refine t_e ?_; refine w_r ?_; refine x_t ?_; refine x_block_ret ?_; (iterate 2 refine x_t ?_); refine x_block_ret ?_; refine x_t ?_; refine x_ret1 rfl rfl ?_; exact ⟨ret_int (segKind_is hw hc (by rw [hq, kindF_no hx he h3 h4]) (by decide)).symm, ext_trans X0 B⟩
     ·intro h4; refine w_k ?_; refine x_s ?_; refine w_g ?_; refine t_m rfl ?_ rfl; refine t_a rfl ?_ rfl; refine t_d ?_; refine x_b ?_; refine x_s ?_; refine w_g ?_; refine t_m rfl ?_ rfl; refine t_add rfl rfl (by omega) ?_ rfl; refine t_a rfl ?_ rfl; refine t_d ?_; refine x_r (X := Nat × Int) (k + 1, ifKind t x.ia x.eg) ?_ (by exact ⟨rfl, rfl, rfl, rfl, trivial⟩) (by (try dsimp only); omega); (try dsimp only); exact ⟨by omega, by rw [hq, kindF_go hx he (fun z => h4 z.2)], B, S⟩
    ·intro h3; (iterate 3 refine t_off rfl rfl rfl ?_ rfl); refine t_p rfl rfl ?_ rfl; refine t_e ?_; refine w_no rfl ?_; refine w_k ?_; refine x_s ?_; refine w_g ?_; refine t_m rfl ?_ rfl; refine t_a rfl ?_ rfl; refine t_d ?_; refine x_b ?_; refine x_s ?_; refine w_g ?_; refine t_m rfl ?_ rfl; refine t_add rfl rfl (by omega) ?_ rfl; refine t_a rfl ?_ rfl; refine t_d ?_; refine x_r (X := Nat × Int) (k + 1, ifKind t x.ia x.eg) ?_ (by exact ⟨rfl, rfl, rfl, rfl, trivial⟩) (by (try dsimp only); omega); (try dsimp only); exact ⟨by omega, by rw [hq, kindF_go hx he (fun z => h3 z.1)], B, S⟩
  ·intro hge; rw [List.drop_eq_nil_of_le (by omega)] at hq; have hq2 : kindF t s.hops 0 = c := hq; refine w_exit ?_; (iterate 2 refine x_then_exit ?_); refine x_block_exit ?_; refine x_s ?_; (iterate 2 refine w_s ?_); refine w_g ?_; refine t_m rfl ?_ rfl; refine t_e ?_; refine w_block ?_; refine w_h ?_; refine t_eql rfl rfl ?_ rfl; refine t_a rfl ?_ rfl; refine t_e ?_; refine w_if rfl ?_ ?_
   ·intro h5; refine w_h ?_; refine t_a rfl ?_ rfl; refine t_e ?_; refine w_r ?_; refine x_block_ret ?_; refine x_t ?_; refine x_ret1 rfl rfl ?_; exact ⟨ret_int (segKind_is hw hc hq2 (by rw [if_pos h5])).symm, ext_trans X0 B⟩
   ·intro h5; refine w_h ?_; refine t_eql rfl rfl ?_ rfl; refine t_a rfl ?_ rfl; refine t_e ?_; refine w_if rfl ?_ ?_
    ·intro h6; refine w_h ?_; refine t_a rfl ?_ rfl; refine t_e ?_; refine w_r ?_; refine x_block_ret ?_; refine x_t ?_; refine x_ret1 rfl rfl ?_; exact ⟨ret_int (segKind_is hw hc hq2 (by rw [if_neg h5, if_pos h6])).symm, ext_trans X0 B⟩
    ·intro h6; refine w_k ?_; refine x_b ?_; refine x_s ?_; refine w_h ?_; refine t_a rfl ?_ rfl; refine t_e ?_; refine w_r ?_; refine x_ret1 rfl rfl ?_; exact ⟨ret_int (segKind_is hw hc hq2 (by rw [if_neg h5, if_neg h6])).symm, ext_trans X0 B⟩
theorem spec_ValidSegment (t : Topo) (s : Seg) (v u : Value) (w : World) (h : VA topoT w v t) (h' : VA segT w u s) (hz : sz_topo t ≤ 1048576) (hz' : s.hops.length ≤ 1048576) : Calls Tryz.prog 155 #[v, u] w fun e w' => e = .returned (.bool (validSeg t s)) ∧ Below w.heap.size w w' := by
 have X0 := Below.refl w.heap.size w; refine enter Tryz.func155 rfl Tryz.ntmps155 rfl ?_; refine w_h ?_; refine t_boxr ‹_› rfl ?_ rfl rfl; intro p2 w16 x17 hp2; replace h := h.below x17; replace h' := h'.below x17; have X0 := ext_trans X0 x17; refine t_boxr ‹_› rfl ?_ rfl rfl; intro p3 w18 x19 hp3; replace h := h.below x19; replace h' := h'.below x19; replace hp2 := hp2.below x19; have X0 := ext_trans X0 x19; have S := Sep.nil w18; have B := Below.refl w18.heap.size w18; have Hb := Nat.le_refl w18.heap.size; refine t_a rfl ?_ rfl; refine t_k ?_; refine t_lda ‹_› ab_topo sb_topo B rfl ?_ rfl; intro v5 hv5; obtain ⟨v5_0, v5_1, rfl, hv5_0, hv5_1⟩ := topo_va hv5; refine t_lda ‹_› ab_seg sb_seg B rfl ?_ rfl; intro v6 hv6; obtain ⟨v6_2, rfl, hv6_2⟩ := seg_va hv6; refine t_x Tryz.call176 rfl (spec_WellFormed _ _ _ _ _ (by first | assumption | exact VA.below ‹_› B | exact topo_mkv (by first | assumption | exact SlR.below ‹_› B) (by first | assumption | exact SlR.below ‹_› B)) (by first | assumption | exact VA.below ‹_› B | exact seg_mkv (by first | assumption | exact SlR.below ‹_› B)) (by omega) (by omega)) ?_ rfl rfl; intro w20 x21; have B := bx Hb B x21; have S := S.below x21
 refine t_m rfl ?_ rfl; refine t_part (t := 8) rfl ?_ ?_
 ·intro hc1; refine t_on rfl rfl ?_; refine t_lda ‹_› ab_topo sb_topo B rfl ?_ rfl; intro v9 hv9; obtain ⟨v9_0, v9_1, rfl, hv9_0, hv9_1⟩ := topo_va hv9; refine t_on rfl rfl ?_; refine t_lda ‹_› ab_seg sb_seg B rfl ?_ rfl; intro v10 hv10; obtain ⟨v10_2, rfl, hv10_2⟩ := seg_va hv10; refine t_on rfl rfl ?_; refine t_x Tryz.call177 rfl (spec_FirstInvalidHop _ _ _ _ _ (by first | assumption | exact VA.below ‹_› B | exact topo_mkv (by first | assumption | exact SlR.below ‹_› B) (by first | assumption | exact SlR.below ‹_› B)) (by first | assumption | exact VA.below ‹_› B | exact seg_mkv (by first | assumption | exact SlR.below ‹_› B)) (by omega) (by omega)) ?_ rfl rfl; intro w22 x23; have B := bx Hb B x23; have S := S.below x23; refine t_on rfl rfl ?_; refine t_lss rfl rfl ?_ rfl; refine t_q rfl rfl ?_ rfl; refine t_m rfl ?_ rfl; refine t_partp (t := 14) rfl ?_ ?_
  ·intro hc2; refine t_on rfl rfl ?_; refine t_lda ‹_› ab_topo sb_topo B rfl ?_ rfl; intro v15 hv15; obtain ⟨v15_0, v15_1, rfl, hv15_0, hv15_1⟩ := topo_va hv15; refine t_on rfl rfl ?_; refine t_lda ‹_› ab_seg sb_seg B rfl ?_ rfl; intro v16 hv16; obtain ⟨v16_2, rfl, hv16_2⟩ := seg_va hv16; refine t_on rfl rfl ?_; refine t_x Tryz.call158 rfl (spec_SegmentKind _ _ _ _ _ (by first | assumption | exact VA.below ‹_› B | exact topo_mkv (by first | assumption | exact SlR.below ‹_› B) (by first | assumption | exact SlR.below ‹_› B)) (by first | assumption | exact VA.below ‹_› B | exact seg_mkv (by first | assumption | exact SlR.below ‹_› B)) (by omega) (by omega)) ?_ rfl rfl; intro w24 x25; have B := bx Hb B x25; have S := S.below x25; refine t_on rfl rfl ?_; refine t_neq rfl rfl ?_ rfl; refine t_q rfl rfl ?_ rfl; refine t_m rfl ?_ rfl; refine t_partp (t := 20) rfl ?_ ?_
   ·intro hc3; refine t_on rfl rfl ?_; refine t_fld ln_seg_0 ‹_› fb_seg_0 rfl ?_ rfl; intro p21 hp21; refine t_on rfl rfl ?_; refine t_ldi ‹_› ab_int B rfl ?_ rfl; refine t_on rfl rfl ?_; refine t_calls Tryz.call144 rfl (spec_l1In _ _ _ _) ?_ rfl rfl; refine t_q rfl rfl ?_ rfl; refine t_m rfl ?_ rfl; refine t_part (t := 25) rfl ?_ ?_
    ·intro hc4; refine t_on rfl rfl ?_; refine t_fld ln_seg_1 ‹_› fb_seg_1 rfl ?_ rfl; intro p26 hp26; refine t_on rfl rfl ?_; refine t_ldi ‹_› ab_int B rfl ?_ rfl; refine t_on rfl rfl ?_; refine t_calls Tryz.call178 rfl (spec_l3Ok _ _) ?_ rfl rfl; refine t_q rfl rfl ?_ rfl; refine t_a rfl ?_ rfl; refine t_e ?_; refine w_r ?_; refine x_ret1 rfl rfl ?_; exact ⟨ret_bool (by unfold validSeg; first | (simp_all; done) | (simp_all; intro z; omega)), ext_trans X0 B⟩
    ·intro hc5; (iterate 3 refine t_off rfl rfl rfl ?_ rfl); refine t_p rfl rfl ?_ rfl; refine t_a rfl ?_ rfl; refine t_e ?_; refine w_r ?_; refine x_ret1 rfl rfl ?_; exact ⟨ret_bool (by unfold validSeg; first | (simp_all; done) | (simp_all; intro z; omega)), ext_trans X0 B⟩
   ·intro hc6; (iterate 3 refine t_off rfl rfl rfl ?_ rfl); refine t_p rfl rfl ?_ rfl; refine t_m rfl ?_ rfl; (iterate 3 refine t_off rfl rfl rfl ?_ rfl); refine t_p rfl rfl ?_ rfl; refine t_a rfl ?_ rfl; refine t_e ?_; refine w_r ?_; refine x_ret1 rfl rfl ?_; exact ⟨ret_bool (by unfold validSeg; first | (simp_all; done) | (simp_all; intro z; omega)), ext_trans X0 B⟩
  ·intro hc7; (iterate 4 refine t_off rfl rfl rfl ?_ rfl); refine t_p rfl rfl ?_ rfl; refine t_m rfl ?_ rfl; (iterate 3 refine t_off rfl rfl rfl ?_ rfl); refine t_p rfl rfl ?_ rfl; refine t_m rfl ?_ rfl; (iterate 3 refine t_off rfl rfl rfl ?_ rfl); refine t_p rfl rfl ?_ rfl; refine t_a rfl ?_ rfl; refine t_e ?_; refine w_r ?_; refine x_ret1 rfl rfl ?_; exact ⟨ret_bool (by unfold validSeg; first | (simp_all; done) | (simp_all; intro z; omega)), ext_trans X0 B⟩
 ·intro hc8; (iterate 4 refine t_off rfl rfl rfl ?_ rfl); refine t_p rfl rfl ?_ rfl; refine t_m rfl ?_ rfl; (iterate 4 refine t_off rfl rfl rfl ?_ rfl); refine t_p rfl rfl ?_ rfl; refine t_m rfl ?_ rfl; (iterate 3 refine t_off rfl rfl rfl ?_ rfl); refine t_p rfl rfl ?_ rfl; refine t_m rfl ?_ rfl; (iterate 3 refine t_off rfl rfl rfl ?_ rfl); refine t_p rfl rfl ?_ rfl; refine t_a rfl ?_ rfl; refine t_e ?_; refine w_r ?_; refine x_ret1 rfl rfl ?_; exact ⟨ret_bool (by unfold validSeg; first | (simp_all; done) | (simp_all; intro z; omega)), ext_trans X0 B⟩
end Go.Proofs.YtljkgpembicloaaGreat
