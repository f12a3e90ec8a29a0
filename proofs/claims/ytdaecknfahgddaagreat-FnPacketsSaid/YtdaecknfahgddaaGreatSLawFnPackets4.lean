/- What LawFnPackets needs of the texts below it, part 4: contracts of functions, plain lemmas. (Put together by slim.py.) -/
import Derived.Test.YtdaecknfahgddaaGreatSLawFnPackets3
namespace Go.Proofs.YtdaecknfahgddaaGreat
open Go.RowKit
set_option linter.unusedVariables false
set_option maxRecDepth 20000
/-- The AS at either end of a segment. -/
def firstS (s : Seg) : Int := match s.hops[0]? with
  | some h => h.ia
  | none => -1
def lastS (s : Seg) : Int := match s.hops[s.hops.length - 1]? with
  | some h => h.ia
  | none => -1
theorem spec_FirstAS (s : Seg) (v : Value) (w : World) (h : VA segT w v s) (hz : s.hops.length ≤ 1048576) : Calls Tryz.prog 116 #[v] w fun e w' => e = .returned (I (firstS s)) ∧ Below w.heap.size w w' := by
 have X0 := Below.refl w.heap.size w
 refine enter Tryz.func116 rfl Tryz.ntmps116 rfl ?_
 refine w_s ?_
 refine w_g ?_
 refine t_boxr ‹_› rfl ?_ rfl rfl
 intro p1 w1 x2 hp1
 replace h := h.below x2
 have X0 := ext_trans X0 x2
 have S := Sep.nil w1
 have B := Below.refl w1.heap.size w1
 have Hb := Nat.le_refl w1.heap.size
 refine t_a rfl ?_ rfl
 refine t_d ?_
 refine x_s ?_
 iterate 2 refine w_s ?_
 refine w_g ?_
 refine t_fld ln_seg_2 ‹_› fb_seg_2 rfl ?_ rfl
 intro p3 hp3
 refine t_lds ‹_› ab_s_hop B rfl ?_ rfl
 intro v4 hv4
 refine t_len e_hop ‹_› rfl rfl ?_ rfl
 refine t_eql rfl rfl ?_ rfl
 refine t_d ?_
 refine x_s ?_
 refine w_if rfl ?_ ?_
 ·intro h0
  refine w_s ?_
  refine w_g ?_
  refine t_a rfl ?_ rfl
  refine t_d ?_
  refine x_s ?_
  refine w_r ?_
  refine x_t ?_
  refine x_ret1 rfl rfl ?_
  have e : s.hops = [] := List.length_eq_zero_iff.1 (by omega)
  exact ⟨ret_int (by unfold firstS; rw [e]; rfl), ext_trans X0 B⟩
 ·intro h0
  refine w_k ?_
  refine x_s ?_
  refine w_s ?_
  refine w_g ?_
  refine t_fld ln_seg_2 ‹_› fb_seg_2 rfl ?_ rfl
  intro p7 hp7
  refine t_lds ‹_› ab_s_hop B rfl ?_ rfl
  intro v8 hv8
  obtain ⟨e9, he9⟩ : ∃ e, (s.hops)[0]? = some e := getx (by omega)
  refine t_idx e_hop (k := 0) ‹_› he9 B rfl rfl (by first | rfl | omega) ?_ rfl
  intro p9 hp9
  refine t_fld ln_hop_0 ‹_› fb_hop_0 rfl ?_ rfl
  intro p10 hp10
  refine t_ldi ‹_› ab_int B rfl ?_ rfl
  refine t_a rfl ?_ rfl
  refine t_d ?_
  refine x_s ?_
  refine w_r ?_
  refine x_ret1 rfl rfl ?_
  exact ⟨ret_int (by unfold firstS; rw [he9]), ext_trans X0 B⟩
theorem spec_LastAS (s : Seg) (v : Value) (w : World) (h : VA segT w v s) (hz : s.hops.length ≤ 1048576) : Calls Tryz.prog 117 #[v] w fun e w' => e = .returned (I (lastS s)) ∧ Below w.heap.size w w' := by
 have X0 := Below.refl w.heap.size w
 refine enter Tryz.func117 rfl Tryz.ntmps117 rfl ?_
 refine w_s ?_
 refine w_g ?_
 refine t_boxr ‹_› rfl ?_ rfl rfl
 intro p1 w3 x4 hp1
 replace h := h.below x4
 have X0 := ext_trans X0 x4
 have S := Sep.nil w3
 have B := Below.refl w3.heap.size w3
 have Hb := Nat.le_refl w3.heap.size
 refine t_a rfl ?_ rfl
 refine t_d ?_
 refine x_s ?_
 iterate 2 refine w_s ?_
 refine w_g ?_
 refine t_fld ln_seg_2 ‹_› fb_seg_2 rfl ?_ rfl
 intro p3 hp3
 refine t_lds ‹_› ab_s_hop B rfl ?_ rfl
 intro v4 hv4
 refine t_len e_hop ‹_› rfl rfl ?_ rfl
 refine t_eql rfl rfl ?_ rfl
 refine t_d ?_
 refine x_s ?_
 refine w_if rfl ?_ ?_
 ·intro h0
  refine w_s ?_
  refine w_g ?_
  refine t_a rfl ?_ rfl
  refine t_d ?_
  refine x_s ?_
  refine w_r ?_
  refine x_t ?_
  refine x_ret1 rfl rfl ?_
  have e : s.hops = [] := List.length_eq_zero_iff.1 (by omega)
  exact ⟨ret_int (by unfold lastS; rw [e]; rfl), ext_trans X0 B⟩
 ·intro h0
  refine w_k ?_
  refine x_s ?_
  refine w_s ?_
  refine w_g ?_
  refine t_fld ln_seg_2 ‹_› fb_seg_2 rfl ?_ rfl
  intro p7 hp7
  refine t_lds ‹_› ab_s_hop B rfl ?_ rfl
  intro v8 hv8
  refine t_fld ln_seg_2 ‹_› fb_seg_2 rfl ?_ rfl
  intro p9 hp9
  refine t_lds ‹_› ab_s_hop B rfl ?_ rfl
  intro v10 hv10
  refine t_len e_hop ‹_› rfl rfl ?_ rfl
  refine t_sub rfl rfl (by omega) ?_ rfl
  obtain ⟨e13, he13⟩ : ∃ e, (s.hops)[s.hops.length - 1]? = some e := getx (by omega)
  refine t_idx e_hop (k := s.hops.length - 1) ‹_› he13 B rfl rfl (by first | rfl | omega) ?_ rfl
  intro p13 hp13
  refine t_fld ln_hop_0 ‹_› fb_hop_0 rfl ?_ rfl
  intro p14 hp14
  refine t_ldi ‹_› ab_int B rfl ?_ rfl
  refine t_a rfl ?_ rfl
  refine t_d ?_
  refine x_s ?_
  refine w_r ?_
  refine x_ret1 rfl rfl ?_
  exact ⟨ret_int (by unfold lastS; rw [he13]), ext_trans X0 B⟩
/-- A part as_ it is drawn; a path. -/
def PartK (t : Topo) (x : Part) : Prop := ∃ s kind i, SegK t s ∧ 1 ≤ kind ∧ kind ≤ 4 ∧ x = makePart s kind i
def PathK (t : Topo) (p : Path) : Prop := List.length p ≤ 3 ∧ ∀ x ∈ p, PartK t x
theorem PathK.nil {t : Topo} : PathK t [] := ⟨Nat.zero_le _, fun x hx => by simp at hx⟩
theorem PathK.one {t : Topo} {s : Seg} {kind i : Int} (h : SegK t s) (h1 : 1 ≤ kind) (h2 : kind ≤ 4) : ∀ x ∈ [makePart s kind i], PartK t x := fun x hx => by
  rw [List.mem_singleton] at hx
  exact ⟨s, kind, i, h, h1, h2, hx⟩
theorem PathK.two {t : Topo} {q r : Path} (h1 : ∀ x ∈ q, PartK t x) (h2 : ∀ x ∈ r, PartK t x) : ∀ x ∈ q ++ r, PartK t x := fun x hx => by
  rcases List.mem_append.1 hx with hx | hx
  · exact h1 x hx
  · exact h2 x hx
theorem meet_K {t : Topo} {s d : Seg} (hs : SegK t s) (hd : SegK t d) : ∀ n, PathK t (meet s d n)
  | 0 => PathK.nil
  | n + 1 => by
    have ih := meet_K hs hd n
    unfold meet
    split
    · exact PathK.nil
    · split
      · exact ⟨by show 2 ≤ 3; omega, PathK.two (q := [_]) (PathK.one hs (by omega) (by omega)) (PathK.one hd (by omega) (by omega))⟩
      · exact ih
theorem joinUD_K {t : Topo} {s d : Seg} (hs : SegK t s) (hd : SegK t d) : PathK t (joinUD s d) := meet_K hs hd _
theorem SegK.len {t : Topo} {s : Seg} (h : SegK t s) : s.hops.length ≤ 5 := h.1.2.2.2.2
set_option maxHeartbeats 8000000 in
theorem spec_l22Draw {b n c : Nat} {w : World} {v : Value} {os : List Ow} (S : Sep b w (curO v n c 115 :: os)) (K : CodeK b w v n) : Calls Tryz.prog 54 #[.pointer (some ⟨c, 0, none⟩)] w fun e w' =>
  ∃ (va vl vp : Value) (A : List ASd) (L : List Lnk) (p : Path), e = .returned (.tuple #[.agg #[va, vl], .agg #[vp]]) ∧ (TopK A L ∧ PathK ⟨A, L⟩ p) ∧ Sep b w' (slO partT 82 vp p :: slO asnT 135 va A :: slO linkT 152 vl L :: curO v n c 115 :: os) ∧ Below b w w' := by
 have X0 := Below.refl w.heap.size w
 refine enter Tryz.func54 rfl Tryz.ntmps54 rfl ?_
 have B := Below.refl b w
 have Hb := S.base
 refine w_s ?_
 refine w_g ?_
 refine t_w S z_topo rfl ?_ rfl rfl
 intro g2 w5 x6 S
 have B := bx Hb B x6
 refine t_w S z_path rfl ?_ rfl rfl
 intro g3 w7 x8 S
 have B := bx Hb B x8
 refine t_d ?_
 refine x_s ?_
 refine w_s ?_
 refine w_g ?_
 refine t_m rfl ?_ rfl
 have S := S.f2
 refine t_f Tryz.call111 rfl (spec_l5Draw S (K.below B)) ?_ rfl
 rintro e w9 ⟨va11, vl11, A11, L11, rfl, hf11, S, x10⟩
 refine ⟨_, rfl, ?_⟩
 have B := B.trans x10
 refine t_w S z_topo rfl ?_ rfl rfl
 intro g4 w11 x12 S
 have B := bx Hb B x12
 refine t_stn S sb_topo rfl rfl rfl rfl (by repeat first | exact oc0 | refine oc rfl ?_ | refine oc (SlR.cells S.tail.sl).2 ?_ | refine oc (SlR.cells S.tail.tail.sl).2 ?_) ?_
 intro w13 b14 S
 have B := B.trans b14
 refine t_d ?_
 refine x_s ?_
 refine w_s ?_
 have T : TopK A11 L11 := hf11
 clear hf11
 refine w_g ?_
 refine t_m rfl ?_ rfl
 refine t_b S.box ab_topo sb_topo rfl rfl ?_ rfl
 have S := S.f2.f2.f3
 refine t_f Tryz.call112 rfl (spec_l9Grow 2 T S (K.below B)) ?_ rfl
 rintro e w15 ⟨vh14, s14, rfl, hf14, S, x16⟩
 refine ⟨_, rfl, ?_⟩
 have B := B.trans x16
 refine t_w S z_seg rfl ?_ rfl rfl
 intro g5 w17 x18 S
 have B := bx Hb B x18
 refine t_stn S sb_seg rfl rfl rfl rfl (by repeat first | exact oc0 | refine oc rfl ?_ | refine oc (SlR.cells S.tail.sl).2 ?_) ?_
 intro w19 b20 S
 have B := B.trans b20
 refine t_d ?_
 refine x_s ?_
 refine w_s ?_
 refine w_g ?_
 refine t_m rfl ?_ rfl
 refine t_b S.t4.tail.box ab_topo sb_topo rfl rfl ?_ rfl
 have S := S.f4.f4.f4
 refine t_f Tryz.call112 rfl (spec_l9Grow 2 T S (K.below B)) ?_ rfl
 rintro e w21 ⟨vh17, s17, rfl, hf17, S, x22⟩
 refine ⟨_, rfl, ?_⟩
 have B := B.trans x22
 refine t_w S z_seg rfl ?_ rfl rfl
 intro g6 w23 x24 S
 have B := bx Hb B x24
 refine t_stn S sb_seg rfl rfl rfl rfl (by repeat first | exact oc0 | refine oc rfl ?_ | refine oc (SlR.cells S.tail.sl).2 ?_) ?_
 intro w25 b26 S
 have B := B.trans b26
 refine t_d ?_
 refine x_s ?_
 refine w_s ?_
 refine w_g ?_
 refine t_m rfl ?_ rfl
 refine t_b S.t4.tail.tail.tail.box ab_topo sb_topo rfl rfl ?_ rfl
 have S := S.f4.f4.f4
 refine t_f Tryz.call112 rfl (spec_l9Grow 1 T S (K.below B)) ?_ rfl
 rintro e w27 ⟨vh20, s20, rfl, hf20, S, x28⟩
 refine ⟨_, rfl, ?_⟩
 have B := B.trans x28
 refine t_w S z_seg rfl ?_ rfl rfl
 intro g7 w29 x30 S
 have B := bx Hb B x30
 refine t_stn S sb_seg rfl rfl rfl rfl (by repeat first | exact oc0 | refine oc rfl ?_ | refine oc (SlR.cells S.tail.sl).2 ?_) ?_
 intro w31 b32 S
 have B := B.trans b32
 refine t_d ?_
 refine x_s ?_
 refine w_s ?_
 refine w_g ?_
 refine t_g (fun w => b_path0 w) rfl ?_ rfl
 refine t_w S z_path rfl ?_ rfl rfl
 intro g8 w33 x34 S
 have B := bx Hb B x34
 refine t_stn S sb_path rfl rfl rfl rfl (by simp [Value.oneCell']) ?_
 intro w35 b36 S
 have B := B.trans b36
 refine t_d ?_
 refine x_s ?_
 refine w_s ?_
 have hl14 := hf14.len
 have hl17 := hf17.len
 have hl20 := hf20.len
 have S := Sep.addNil (T := partT) (e := 82) S
 have S := S.f13.f13.f13.f9.f9.f9.f8.f9.f10.f11.f12.f13.f13.f13
 refine w_s ?_
 refine w_g ?_
 refine t_m rfl ?_ rfl
 have S := S.f8
 refine t_f Tryz.call57 rfl (spec_l1Below 5 S (K.below B)) ?_ rfl
 rintro e w37 ⟨y23, rfl, hf23, S, x38⟩
 refine ⟨_, rfl, ?_⟩
 have B := B.trans x38
 refine t_d ?_
 refine x_s ?_
 refine w_block ?_
 refine w_s ?_
 refine w_g ?_
 refine t_eql rfl rfl ?_ rfl
 refine t_a rfl ?_ rfl
 refine t_d ?_
 refine x_s ?_
 refine w_if rfl ?_ ?_
 ·intro h0
  refine w_s ?_
  refine w_draw (.st .take 0 (.st .take 1 (.st .take 2 (.st .run 3 (.st .fin 4 (.st .fin 5 .done)))))) mixed (by kernel_rfl) ?_
  intro w39 x40
  have B := bx Hb B x40
  have S := S.below x40
  refine t_b S.t4.t4.tail.tail.tail.box ab_topo sb_topo rfl rfl ?_ rfl
  refine t_b S.t4.box ab_seg sb_seg rfl rfl ?_ rfl
  refine t_b S.t4.tail.tail.box ab_seg sb_seg rfl rfl ?_ rfl
  refine t_c Tryz.call113 rfl (spec_l22Meet s14 s17 _ _ _ (seg_mkv (S.tail.tail.tail.sl)) (seg_mkv (S.t4.tail.sl)) (by omega) (by omega)) ?_ rfl rfl
  rintro e w41 ⟨cs29, fp29, rfl, hO29, x42⟩
  refine ⟨_, rfl, x42, ?_⟩
  have S := S.add (o := tyO pathT _ _) x42 hO29
  have B := bx Hb B x42
  obtain ⟨u29_0, heq, S2⟩ := S.pathOpen
  subst heq
  have S := S2
  clear S2
  have S := S.f14
  refine t_stn S sb_topo rfl rfl rfl rfl (by repeat first | exact oc0 | refine oc rfl ?_ | refine oc (SlR.cells S.t4.t4.tail.tail.tail.sl).2 ?_ | refine oc (SlR.cells S.t4.t4.t4.sl).2 ?_) ?_
  intro w43 b44 S
  have B := B.trans b44
  have S := S.f14
  refine t_stn S sb_path rfl rfl rfl rfl (by repeat first | exact oc0 | refine oc rfl ?_ | refine oc (SlR.cells S.tail.tail.sl).2 ?_) ?_
  intro w45 b46 S
  have B := B.trans b46
  refine t_d' ?_
  refine x_s ?_
  refine w_r ?_
  refine x_block_ret ?_
  refine x_t ?_
  refine x_retcc rfl rfl S.tail.box ab_topo sb_topo rfl rfl S.box ab_path sb_path rfl ?_
  have S := S.tail.tail.f2.tail.f2.tail.f2.tail.f2.tail.f2.tail.f2.tail.f2.tail.f2.tail.f4.tail.f1.f3.f3.f3
  exact ⟨_, _, _, _, _, joinUD s14 s17, rfl, ⟨T, joinUD_K hf14 hf17⟩, S, B⟩
 ·intro h0
  refine w_s ?_
  refine w_g ?_
  refine t_eql rfl rfl ?_ rfl
  refine t_a rfl ?_ rfl
  refine t_d ?_
  refine x_s ?_
  refine w_if rfl ?_ ?_
  ·intro h1
   refine w_s ?_
   refine w_cut (X := Path × Value) (fun x wq => (fun q vq => (List.length q ≤ 1 ∧ ∀ x ∈ q, PartK ⟨A11, L11⟩ x) ∧ Below b w wq ∧ Sep b wq (slO partT 82 vq q :: bxO g8 30 #[vq] :: slO hopT 86 vh14 s14.hops :: bxO g5 118 #[I s14.ts, I s14.beta, vh14] :: slO hopT 86 vh17 s17.hops :: bxO g6 118 #[I s17.ts, I s17.beta, vh17] :: slO hopT 86 vh20 s20.hops :: bxO g7 118 #[I s20.ts, I s20.beta, vh20] :: curO v n c 115 :: slO asnT 135 va11 A11 :: slO linkT 152 vl11 L11 :: bxO g4 27 #[va11, vl11] :: bxO g3 30 #[.slice none 0 0] :: bxO g2 27 #[.slice none 0 0, .slice none 0 0] :: os)) x.1 x.2) (fun x => (fun q vq => [(0, .pointer (some ⟨c, 0, none⟩)), (2, .pointer (some ⟨g2, 0, none⟩)), (3, .pointer (some ⟨g3, 0, none⟩)), (4, .pointer (some ⟨g4, 0, none⟩)), (5, .pointer (some ⟨g5, 0, none⟩)), (6, .pointer (some ⟨g6, 0, none⟩)), (7, .pointer (some ⟨g7, 0, none⟩)), (8, .pointer (some ⟨g8, 0, none⟩))]) x.1 x.2) ?_ ?_
   ·refine w_s ?_
    refine w_g ?_
    refine t_y fb_seg_2 rfl rfl ?_ rfl
    refine t_bx1 S.t4.box ab_s_hop rfl rfl ?_ rfl
    refine t_len e_hop (S.tail.tail.tail.sl) rfl rfl ?_ rfl
    refine t_gtr rfl rfl ?_ rfl
    refine t_d ?_
    refine x_s ?_
    refine w_if rfl ?_ ?_
    ·intro hp
     refine w_drawP [0, 3] (.alt (.st .fin 1 (.alt (.st .fin 2 (.st .fin 4 (.st .fin 5 (.st .fin 6 (.st .fin 7 (.st .fin 8 (.st .fin 9 (.st .fin 10 .done)))))))) (.st .fin 4 (.alt (.st .fin 2 (.st .fin 5 (.st .fin 6 (.st .fin 7 (.st .fin 8 (.st .fin 9 (.st .fin 10 .done))))))) (.st .fin 5 (.st .fin 2 (.st .fin 6 (.st .fin 7 (.st .fin 8 (.st .fin 9 (.st .fin 10 .done))))))))))) (.alt (.st .fin 2 (.alt (.st .fin 1 (.st .fin 4 (.st .fin 5 (.st .fin 6 (.st .fin 7 (.st .fin 8 (.st .fin 9 (.st .fin 10 .done)))))))) (.st .fin 4 (.alt (.st .fin 1 (.st .fin 5 (.st .fin 6 (.st .fin 7 (.st .fin 8 (.st .fin 9 (.st .fin 10 .done))))))) (.st .fin 5 (.alt (.st .fin 1 (.st .fin 6 (.st .fin 7 (.st .fin 8 (.st .fin 9 (.st .fin 10 .done)))))) (.st .fin 6 (.alt (.st .fin 1 (.st .fin 7 (.st .fin 8 (.st .fin 9 (.st .fin 10 .done))))) (.st .fin 7 (.st .fin 1 (.st .fin 8 (.st .fin 9 (.st .fin 10 .done))))))))))))) (.st .fin 4 (.alt (.st .fin 1 (.alt (.st .fin 2 (.st .fin 5 (.st .fin 6 (.st .fin 7 (.st .fin 8 (.st .fin 9 (.st .fin 10 .done))))))) (.st .fin 5 (.st .fin 2 (.st .fin 6 (.st .fin 7 (.st .fin 8 (.st .fin 9 (.st .fin 10 .done))))))))) (.alt (.st .fin 2 (.alt (.st .fin 1 (.st .fin 5 (.st .fin 6 (.st .fin 7 (.st .fin 8 (.st .fin 9 (.st .fin 10 .done))))))) (.st .fin 5 (.alt (.st .fin 1 (.st .fin 6 (.st .fin 7 (.st .fin 8 (.st .fin 9 (.st .fin 10 .done)))))) (.st .fin 6 (.alt (.st .fin 1 (.st .fin 7 (.st .fin 8 (.st .fin 9 (.st .fin 10 .done))))) (.st .fin 7 (.st .fin 1 (.st .fin 8 (.st .fin 9 (.st .fin 10 .done))))))))))) (.st .fin 5 (.alt (.st .fin 1 (.st .fin 2 (.st .fin 6 (.st .fin 7 (.st .fin 8 (.st .fin 9 (.st .fin 10 .done))))))) (.st .fin 2 (.alt (.st .fin 1 (.st .fin 6 (.st .fin 7 (.st .fin 8 (.st .fin 9 (.st .fin 10 .done)))))) (.st .fin 6 (.alt (.st .fin 1 (.st .fin 7 (.st .fin 8 (.st .fin 9 (.st .fin 10 .done))))) (.st .fin 7 (.st .fin 1 (.st .fin 8 (.st .fin 9 (.st .fin 10 .done)))))))))))))))) mixed (by kernel_rfl) ?_
     intro w47 x48
     have B := bx Hb B x48
     have S := S.below x48
     refine p_fldx fb_path_0 rfl rfl ?_ rfl
     refine p_move rfl ?_ rfl
     refine p_done ?_
     refine t_alt ?_ (t_alt ?_ ?_)
     ·refine t_bx1 S.tail.tail.box ab_s_part rfl rfl ?_ rfl
      refine t_alt ?_ ?_
      ·refine t_b S.t4.box ab_seg sb_seg rfl rfl ?_ rfl
       refine t_lit (T := intT) (l := [1, 4]) (css := ([1, 4]).map fun a => [I a]) int_flat S (fun w => bs_int2 _ _ w) rfl rfl rfl rfl (by simp [maxLen]) (litR_int _) ?_ rfl rfl
       intro u40 w49 x50 S
       have B := bx Hb B x50
       have S := S.f1
       refine t_f Tryz.call115 rfl (spec_l1Int S (K.below B) (by simp)) ?_ rfl
       rintro e w51 ⟨y41, rfl, hf41, S, x52⟩
       refine ⟨_, rfl, ?_⟩
       have B := B.trans x52
       refine t_c Tryz.call114 rfl (spec_MakePart s14 _ _ _ _ (seg_mkv (S.t4.sl)) (by omega)) ?_ rfl rfl
       rintro e w53 ⟨cs42, fp42, rfl, hO42, x54⟩
       refine ⟨_, rfl, x54, ?_⟩
       have S := S.add (o := tyO partT _ _) x54 hO42
       have B := bx Hb B x54
       obtain ⟨u42_3, heq, S2⟩ := S.partOpen
       subst heq
       have S := S2
       clear S2
       refine t_lit1 (fun w => bs_part1 _ _ _ _ w) rfl ?_ rfl rfl
       intro A43 w55 x56 hA43
       have B := bx Hb B x56
       have S := S.below x56
       have S := S.partShut (x := makePart s14 y41 0)
       have S := S.f3
       refine t_snoc e_part S hA43 rfl rfl rfl (by first | omega | (simp; done) | (simp; omega)) (by (simp only [maxLen]); first | omega | (simp; done) | (simp; omega)) ?_ rfl
       intro v44 w57 x58 S
       have B := B.trans x58
       refine t_y fb_path_0 rfl rfl ?_ rfl
       obtain ⟨Av44, cv44, rfl, _⟩ := S.sl.form
       have S := S.f3
       refine t_st1 S sb_s_part rfl rfl rfl rfl rfl ?_
       intro w59 b60 S
       have B := B.trans b60
       refine t_d' ?_
       have S := S.f3.tail.f13.f13.f13.f13.f13.f7.f13.f13.f13.f13.f13.f13.f12.f13
       refine x_cut (X := Path × Value) ([] ++ [makePart s14 y41 0], .slice Av44 (([]) ++ [makePart s14 y41 0]).length cv44) ?_ ?_
       rotate_left
       ·exact ⟨rfl, rfl, rfl, rfl, rfl, rfl, rfl, rfl, trivial⟩
       try dsimp only
       have hy : 1 ≤ y41 ∧ y41 ≤ 4 := by simp at hf41; omega
       exact ⟨⟨by simp, PathK.two (by simp) (PathK.one hf14 hy.1 hy.2)⟩, B, S⟩
      ·refine t_lit (T := intT) (l := [1, 4]) (css := ([1, 4]).map fun a => [I a]) int_flat S (fun w => bs_int2 _ _ w) rfl rfl rfl rfl (by simp [maxLen]) (litR_int _) ?_ rfl rfl
       intro u40 w61 x62 S
       have B := bx Hb B x62
       refine t_alt ?_ ?_
       ·refine t_b S.t4.tail.box ab_seg sb_seg rfl rfl ?_ rfl
        have S := S.f1
        refine t_f Tryz.call115 rfl (spec_l1Int S (K.below B) (by simp)) ?_ rfl
        rintro e w63 ⟨y41, rfl, hf41, S, x64⟩
        refine ⟨_, rfl, ?_⟩
        have B := B.trans x64
        refine t_c Tryz.call114 rfl (spec_MakePart s14 _ _ _ _ (seg_mkv (S.t4.sl)) (by omega)) ?_ rfl rfl
        rintro e w65 ⟨cs42, fp42, rfl, hO42, x66⟩
        refine ⟨_, rfl, x66, ?_⟩
        have S := S.add (o := tyO partT _ _) x66 hO42
        have B := bx Hb B x66
        obtain ⟨u42_3, heq, S2⟩ := S.partOpen
        subst heq
        have S := S2
        clear S2
        refine t_lit1 (fun w => bs_part1 _ _ _ _ w) rfl ?_ rfl rfl
        intro A43 w67 x68 hA43
        have B := bx Hb B x68
        have S := S.below x68
        have S := S.partShut (x := makePart s14 y41 0)
        have S := S.f3
        refine t_snoc e_part S hA43 rfl rfl rfl (by first | omega | (simp; done) | (simp; omega)) (by (simp only [maxLen]); first | omega | (simp; done) | (simp; omega)) ?_ rfl
        intro v44 w69 x70 S
        have B := B.trans x70
        refine t_y fb_path_0 rfl rfl ?_ rfl
        obtain ⟨Av44, cv44, rfl, _⟩ := S.sl.form
        have S := S.f3
        refine t_st1 S sb_s_part rfl rfl rfl rfl rfl ?_
        intro w71 b72 S
        have B := B.trans b72
        refine t_d' ?_
        have S := S.f3.tail.f13.f13.f13.f13.f13.f7.f13.f13.f13.f13.f13.f13.f12.f13
        refine x_cut (X := Path × Value) ([] ++ [makePart s14 y41 0], .slice Av44 (([]) ++ [makePart s14 y41 0]).length cv44) ?_ ?_
        rotate_left
        ·exact ⟨rfl, rfl, rfl, rfl, rfl, rfl, rfl, rfl, trivial⟩
        try dsimp only
        have hy : 1 ≤ y41 ∧ y41 ≤ 4 := by simp at hf41; omega
        exact ⟨⟨by simp, PathK.two (by simp) (PathK.one hf14 hy.1 hy.2)⟩, B, S⟩
       ·have S := S.f1
        refine t_f Tryz.call115 rfl (spec_l1Int S (K.below B) (by simp)) ?_ rfl
        rintro e w73 ⟨y41, rfl, hf41, S, x74⟩
        refine ⟨_, rfl, ?_⟩
        have B := B.trans x74
        refine t_b S.t4.tail.box ab_seg sb_seg rfl rfl ?_ rfl
        refine t_c Tryz.call114 rfl (spec_MakePart s14 _ _ _ _ (seg_mkv (S.t4.sl)) (by omega)) ?_ rfl rfl
        rintro e w75 ⟨cs42, fp42, rfl, hO42, x76⟩
        refine ⟨_, rfl, x76, ?_⟩
        have S := S.add (o := tyO partT _ _) x76 hO42
        have B := bx Hb B x76
        obtain ⟨u42_3, heq, S2⟩ := S.partOpen
        subst heq
        have S := S2
        clear S2
        refine t_lit1 (fun w => bs_part1 _ _ _ _ w) rfl ?_ rfl rfl
        intro A43 w77 x78 hA43
        have B := bx Hb B x78
        have S := S.below x78
        have S := S.partShut (x := makePart s14 y41 0)
        have S := S.f3
        refine t_snoc e_part S hA43 rfl rfl rfl (by first | omega | (simp; done) | (simp; omega)) (by (simp only [maxLen]); first | omega | (simp; done) | (simp; omega)) ?_ rfl
        intro v44 w79 x80 S
        have B := B.trans x80
        refine t_y fb_path_0 rfl rfl ?_ rfl
        obtain ⟨Av44, cv44, rfl, _⟩ := S.sl.form
        have S := S.f3
        refine t_st1 S sb_s_part rfl rfl rfl rfl rfl ?_
        intro w81 b82 S
        have B := B.trans b82
        refine t_d' ?_
        have S := S.f3.tail.f13.f13.f13.f13.f13.f7.f13.f13.f13.f13.f13.f13.f12.f13
        refine x_cut (X := Path × Value) ([] ++ [makePart s14 y41 0], .slice Av44 (([]) ++ [makePart s14 y41 0]).length cv44) ?_ ?_
        rotate_left
        ·exact ⟨rfl, rfl, rfl, rfl, rfl, rfl, rfl, rfl, trivial⟩
        try dsimp only
        have hy : 1 ≤ y41 ∧ y41 ≤ 4 := by simp at hf41; omega
        exact ⟨⟨by simp, PathK.two (by simp) (PathK.one hf14 hy.1 hy.2)⟩, B, S⟩
     ·refine t_b S.t4.box ab_seg sb_seg rfl rfl ?_ rfl
      refine t_alt ?_ ?_
      ·refine t_bx1 S.tail.tail.box ab_s_part rfl rfl ?_ rfl
       refine t_lit (T := intT) (l := [1, 4]) (css := ([1, 4]).map fun a => [I a]) int_flat S (fun w => bs_int2 _ _ w) rfl rfl rfl rfl (by simp [maxLen]) (litR_int _) ?_ rfl rfl
       intro u40 w83 x84 S
       have B := bx Hb B x84
       have S := S.f1
       refine t_f Tryz.call115 rfl (spec_l1Int S (K.below B) (by simp)) ?_ rfl
       rintro e w85 ⟨y41, rfl, hf41, S, x86⟩
       refine ⟨_, rfl, ?_⟩
       have B := B.trans x86
       refine t_c Tryz.call114 rfl (spec_MakePart s14 _ _ _ _ (seg_mkv (S.t4.sl)) (by omega)) ?_ rfl rfl
       rintro e w87 ⟨cs42, fp42, rfl, hO42, x88⟩
       refine ⟨_, rfl, x88, ?_⟩
       have S := S.add (o := tyO partT _ _) x88 hO42
       have B := bx Hb B x88
       obtain ⟨u42_3, heq, S2⟩ := S.partOpen
       subst heq
       have S := S2
       clear S2
       refine t_lit1 (fun w => bs_part1 _ _ _ _ w) rfl ?_ rfl rfl
       intro A43 w89 x90 hA43
       have B := bx Hb B x90
       have S := S.below x90
       have S := S.partShut (x := makePart s14 y41 0)
       have S := S.f3
       refine t_snoc e_part S hA43 rfl rfl rfl (by first | omega | (simp; done) | (simp; omega)) (by (simp only [maxLen]); first | omega | (simp; done) | (simp; omega)) ?_ rfl
       intro v44 w91 x92 S
       have B := B.trans x92
       refine t_y fb_path_0 rfl rfl ?_ rfl
       obtain ⟨Av44, cv44, rfl, _⟩ := S.sl.form
       have S := S.f3
       refine t_st1 S sb_s_part rfl rfl rfl rfl rfl ?_
       intro w93 b94 S
       have B := B.trans b94
       refine t_d' ?_
       have S := S.f3.tail.f13.f13.f13.f13.f13.f7.f13.f13.f13.f13.f13.f13.f12.f13
       refine x_cut (X := Path × Value) ([] ++ [makePart s14 y41 0], .slice Av44 (([]) ++ [makePart s14 y41 0]).length cv44) ?_ ?_
       rotate_left
       ·exact ⟨rfl, rfl, rfl, rfl, rfl, rfl, rfl, rfl, trivial⟩
       try dsimp only
       have hy : 1 ≤ y41 ∧ y41 ≤ 4 := by simp at hf41; omega
       exact ⟨⟨by simp, PathK.two (by simp) (PathK.one hf14 hy.1 hy.2)⟩, B, S⟩
      ·refine t_lit (T := intT) (l := [1, 4]) (css := ([1, 4]).map fun a => [I a]) int_flat S (fun w => bs_int2 _ _ w) rfl rfl rfl rfl (by simp [maxLen]) (litR_int _) ?_ rfl rfl
       intro u40 w95 x96 S
       have B := bx Hb B x96
       refine t_alt ?_ ?_
       ·refine t_bx1 S.tail.tail.tail.box ab_s_part rfl rfl ?_ rfl
        have S := S.f1
        refine t_f Tryz.call115 rfl (spec_l1Int S (K.below B) (by simp)) ?_ rfl
        rintro e w97 ⟨y41, rfl, hf41, S, x98⟩
        refine ⟨_, rfl, ?_⟩
        have B := B.trans x98
        refine t_c Tryz.call114 rfl (spec_MakePart s14 _ _ _ _ (seg_mkv (S.t4.sl)) (by omega)) ?_ rfl rfl
        rintro e w99 ⟨cs42, fp42, rfl, hO42, x100⟩
        refine ⟨_, rfl, x100, ?_⟩
        have S := S.add (o := tyO partT _ _) x100 hO42
        have B := bx Hb B x100
        obtain ⟨u42_3, heq, S2⟩ := S.partOpen
        subst heq
        have S := S2
        clear S2
        refine t_lit1 (fun w => bs_part1 _ _ _ _ w) rfl ?_ rfl rfl
        intro A43 w101 x102 hA43
        have B := bx Hb B x102
        have S := S.below x102
        have S := S.partShut (x := makePart s14 y41 0)
        have S := S.f3
        refine t_snoc e_part S hA43 rfl rfl rfl (by first | omega | (simp; done) | (simp; omega)) (by (simp only [maxLen]); first | omega | (simp; done) | (simp; omega)) ?_ rfl
        intro v44 w103 x104 S
        have B := B.trans x104
        refine t_y fb_path_0 rfl rfl ?_ rfl
        obtain ⟨Av44, cv44, rfl, _⟩ := S.sl.form
        have S := S.f3
        refine t_st1 S sb_s_part rfl rfl rfl rfl rfl ?_
        intro w105 b106 S
        have B := B.trans b106
        refine t_d' ?_
        have S := S.f3.tail.f13.f13.f13.f13.f13.f7.f13.f13.f13.f13.f13.f13.f12.f13
        refine x_cut (X := Path × Value) ([] ++ [makePart s14 y41 0], .slice Av44 (([]) ++ [makePart s14 y41 0]).length cv44) ?_ ?_
        rotate_left
        ·exact ⟨rfl, rfl, rfl, rfl, rfl, rfl, rfl, rfl, trivial⟩
        try dsimp only
        have hy : 1 ≤ y41 ∧ y41 ≤ 4 := by simp at hf41; omega
        exact ⟨⟨by simp, PathK.two (by simp) (PathK.one hf14 hy.1 hy.2)⟩, B, S⟩
       ·have S := S.f1
        refine t_f Tryz.call115 rfl (spec_l1Int S (K.below B) (by simp)) ?_ rfl
        rintro e w107 ⟨y41, rfl, hf41, S, x108⟩
        refine ⟨_, rfl, ?_⟩
        have B := B.trans x108
        refine t_alt ?_ ?_
        ·refine t_bx1 S.tail.tail.tail.box ab_s_part rfl rfl ?_ rfl
         refine t_c Tryz.call114 rfl (spec_MakePart s14 _ _ _ _ (seg_mkv (S.t4.sl)) (by omega)) ?_ rfl rfl
         rintro e w109 ⟨cs42, fp42, rfl, hO42, x110⟩
         refine ⟨_, rfl, x110, ?_⟩
         have S := S.add (o := tyO partT _ _) x110 hO42
         have B := bx Hb B x110
         obtain ⟨u42_3, heq, S2⟩ := S.partOpen
         subst heq
         have S := S2
         clear S2
         refine t_lit1 (fun w => bs_part1 _ _ _ _ w) rfl ?_ rfl rfl
         intro A43 w111 x112 hA43
         have B := bx Hb B x112
         have S := S.below x112
         have S := S.partShut (x := makePart s14 y41 0)
         have S := S.f3
         refine t_snoc e_part S hA43 rfl rfl rfl (by first | omega | (simp; done) | (simp; omega)) (by (simp only [maxLen]); first | omega | (simp; done) | (simp; omega)) ?_ rfl
         intro v44 w113 x114 S
         have B := B.trans x114
         refine t_y fb_path_0 rfl rfl ?_ rfl
         obtain ⟨Av44, cv44, rfl, _⟩ := S.sl.form
         have S := S.f3
         refine t_st1 S sb_s_part rfl rfl rfl rfl rfl ?_
         intro w115 b116 S
         have B := B.trans b116
         refine t_d' ?_
         have S := S.f3.tail.f13.f13.f13.f13.f13.f7.f13.f13.f13.f13.f13.f13.f12.f13
         refine x_cut (X := Path × Value) ([] ++ [makePart s14 y41 0], .slice Av44 (([]) ++ [makePart s14 y41 0]).length cv44) ?_ ?_
         rotate_left
         ·exact ⟨rfl, rfl, rfl, rfl, rfl, rfl, rfl, rfl, trivial⟩
         try dsimp only
         have hy : 1 ≤ y41 ∧ y41 ≤ 4 := by simp at hf41; omega
         exact ⟨⟨by simp, PathK.two (by simp) (PathK.one hf14 hy.1 hy.2)⟩, B, S⟩
        ·refine t_c Tryz.call114 rfl (spec_MakePart s14 _ _ _ _ (seg_mkv (S.t4.sl)) (by omega)) ?_ rfl rfl
         rintro e w117 ⟨cs42, fp42, rfl, hO42, x118⟩
         refine ⟨_, rfl, x118, ?_⟩
         have S := S.add (o := tyO partT _ _) x118 hO42
         have B := bx Hb B x118
         obtain ⟨u42_3, heq, S2⟩ := S.partOpen
         subst heq
         have S := S2
         clear S2
         refine t_alt ?_ ?_
         ·refine t_bx1 S.t4.box ab_s_part rfl rfl ?_ rfl
          refine t_lit1 (fun w => bs_part1 _ _ _ _ w) rfl ?_ rfl rfl
          intro A43 w119 x120 hA43
          have B := bx Hb B x120
          have S := S.below x120
          have S := S.partShut (x := makePart s14 y41 0)
          have S := S.f3
          refine t_snoc e_part S hA43 rfl rfl rfl (by first | omega | (simp; done) | (simp; omega)) (by (simp only [maxLen]); first | omega | (simp; done) | (simp; omega)) ?_ rfl
          intro v44 w121 x122 S
          have B := B.trans x122
          refine t_y fb_path_0 rfl rfl ?_ rfl
          obtain ⟨Av44, cv44, rfl, _⟩ := S.sl.form
          have S := S.f3
          refine t_st1 S sb_s_part rfl rfl rfl rfl rfl ?_
          intro w123 b124 S
          have B := B.trans b124
          refine t_d' ?_
          have S := S.f3.tail.f13.f13.f13.f13.f13.f7.f13.f13.f13.f13.f13.f13.f12.f13
          refine x_cut (X := Path × Value) ([] ++ [makePart s14 y41 0], .slice Av44 (([]) ++ [makePart s14 y41 0]).length cv44) ?_ ?_
          rotate_left
          ·exact ⟨rfl, rfl, rfl, rfl, rfl, rfl, rfl, rfl, trivial⟩
          try dsimp only
          have hy : 1 ≤ y41 ∧ y41 ≤ 4 := by simp at hf41; omega
          exact ⟨⟨by simp, PathK.two (by simp) (PathK.one hf14 hy.1 hy.2)⟩, B, S⟩
         ·refine t_lit1 (fun w => bs_part1 _ _ _ _ w) rfl ?_ rfl rfl
          intro A43 w125 x126 hA43
          have B := bx Hb B x126
          have S := S.below x126
          refine t_bx1 S.t4.box ab_s_part rfl rfl ?_ rfl
          have S := S.partShut (x := makePart s14 y41 0)
          have S := S.f3
          refine t_snoc e_part S hA43 rfl rfl rfl (by first | omega | (simp; done) | (simp; omega)) (by (simp only [maxLen]); first | omega | (simp; done) | (simp; omega)) ?_ rfl
          intro v44 w127 x128 S
          have B := B.trans x128
          refine t_y fb_path_0 rfl rfl ?_ rfl
          obtain ⟨Av44, cv44, rfl, _⟩ := S.sl.form
          have S := S.f3
          refine t_st1 S sb_s_part rfl rfl rfl rfl rfl ?_
          intro w129 b130 S
          have B := B.trans b130
          refine t_d' ?_
          have S := S.f3.tail.f13.f13.f13.f13.f13.f7.f13.f13.f13.f13.f13.f13.f12.f13
          refine x_cut (X := Path × Value) ([] ++ [makePart s14 y41 0], .slice Av44 (([]) ++ [makePart s14 y41 0]).length cv44) ?_ ?_
          rotate_left
          ·exact ⟨rfl, rfl, rfl, rfl, rfl, rfl, rfl, rfl, trivial⟩
          try dsimp only
          have hy : 1 ≤ y41 ∧ y41 ≤ 4 := by simp at hf41; omega
          exact ⟨⟨by simp, PathK.two (by simp) (PathK.one hf14 hy.1 hy.2)⟩, B, S⟩
     ·refine t_lit (T := intT) (l := [1, 4]) (css := ([1, 4]).map fun a => [I a]) int_flat S (fun w => bs_int2 _ _ w) rfl rfl rfl rfl (by simp [maxLen]) (litR_int _) ?_ rfl rfl
      intro u40 w131 x132 S
      have B := bx Hb B x132
      refine t_alt ?_ (t_alt ?_ ?_)
      ·refine t_bx1 S.tail.tail.tail.box ab_s_part rfl rfl ?_ rfl
       refine t_alt ?_ ?_
       ·refine t_b S.t4.tail.box ab_seg sb_seg rfl rfl ?_ rfl
        have S := S.f1
        refine t_f Tryz.call115 rfl (spec_l1Int S (K.below B) (by simp)) ?_ rfl
        rintro e w133 ⟨y41, rfl, hf41, S, x134⟩
        refine ⟨_, rfl, ?_⟩
        have B := B.trans x134
        refine t_c Tryz.call114 rfl (spec_MakePart s14 _ _ _ _ (seg_mkv (S.t4.sl)) (by omega)) ?_ rfl rfl
        rintro e w135 ⟨cs42, fp42, rfl, hO42, x136⟩
        refine ⟨_, rfl, x136, ?_⟩
        have S := S.add (o := tyO partT _ _) x136 hO42
        have B := bx Hb B x136
        obtain ⟨u42_3, heq, S2⟩ := S.partOpen
        subst heq
        have S := S2
        clear S2
        refine t_lit1 (fun w => bs_part1 _ _ _ _ w) rfl ?_ rfl rfl
        intro A43 w137 x138 hA43
        have B := bx Hb B x138
        have S := S.below x138
        have S := S.partShut (x := makePart s14 y41 0)
        have S := S.f3
        refine t_snoc e_part S hA43 rfl rfl rfl (by first | omega | (simp; done) | (simp; omega)) (by (simp only [maxLen]); first | omega | (simp; done) | (simp; omega)) ?_ rfl
        intro v44 w139 x140 S
        have B := B.trans x140
        refine t_y fb_path_0 rfl rfl ?_ rfl
        obtain ⟨Av44, cv44, rfl, _⟩ := S.sl.form
        have S := S.f3
        refine t_st1 S sb_s_part rfl rfl rfl rfl rfl ?_
        intro w141 b142 S
        have B := B.trans b142
        refine t_d' ?_
        have S := S.f3.tail.f13.f13.f13.f13.f13.f7.f13.f13.f13.f13.f13.f13.f12.f13
        refine x_cut (X := Path × Value) ([] ++ [makePart s14 y41 0], .slice Av44 (([]) ++ [makePart s14 y41 0]).length cv44) ?_ ?_
        rotate_left
        ·exact ⟨rfl, rfl, rfl, rfl, rfl, rfl, rfl, rfl, trivial⟩
        try dsimp only
        have hy : 1 ≤ y41 ∧ y41 ≤ 4 := by simp at hf41; omega
        exact ⟨⟨by simp, PathK.two (by simp) (PathK.one hf14 hy.1 hy.2)⟩, B, S⟩
       ·have S := S.f1
        refine t_f Tryz.call115 rfl (spec_l1Int S (K.below B) (by simp)) ?_ rfl
        rintro e w143 ⟨y41, rfl, hf41, S, x144⟩
        refine ⟨_, rfl, ?_⟩
        have B := B.trans x144
        refine t_b S.t4.tail.box ab_seg sb_seg rfl rfl ?_ rfl
        refine t_c Tryz.call114 rfl (spec_MakePart s14 _ _ _ _ (seg_mkv (S.t4.sl)) (by omega)) ?_ rfl rfl
        rintro e w145 ⟨cs42, fp42, rfl, hO42, x146⟩
        refine ⟨_, rfl, x146, ?_⟩
        have S := S.add (o := tyO partT _ _) x146 hO42
        have B := bx Hb B x146
        obtain ⟨u42_3, heq, S2⟩ := S.partOpen
        subst heq
        have S := S2
        clear S2
        refine t_lit1 (fun w => bs_part1 _ _ _ _ w) rfl ?_ rfl rfl
        intro A43 w147 x148 hA43
        have B := bx Hb B x148
        have S := S.below x148
        have S := S.partShut (x := makePart s14 y41 0)
        have S := S.f3
        refine t_snoc e_part S hA43 rfl rfl rfl (by first | omega | (simp; done) | (simp; omega)) (by (simp only [maxLen]); first | omega | (simp; done) | (simp; omega)) ?_ rfl
        intro v44 w149 x150 S
        have B := B.trans x150
        refine t_y fb_path_0 rfl rfl ?_ rfl
        obtain ⟨Av44, cv44, rfl, _⟩ := S.sl.form
        have S := S.f3
        refine t_st1 S sb_s_part rfl rfl rfl rfl rfl ?_
        intro w151 b152 S
        have B := B.trans b152
        refine t_d' ?_
        have S := S.f3.tail.f13.f13.f13.f13.f13.f7.f13.f13.f13.f13.f13.f13.f12.f13
        refine x_cut (X := Path × Value) ([] ++ [makePart s14 y41 0], .slice Av44 (([]) ++ [makePart s14 y41 0]).length cv44) ?_ ?_
        rotate_left
        ·exact ⟨rfl, rfl, rfl, rfl, rfl, rfl, rfl, rfl, trivial⟩
        try dsimp only
        have hy : 1 ≤ y41 ∧ y41 ≤ 4 := by simp at hf41; omega
        exact ⟨⟨by simp, PathK.two (by simp) (PathK.one hf14 hy.1 hy.2)⟩, B, S⟩
      ·refine t_b S.t4.tail.box ab_seg sb_seg rfl rfl ?_ rfl
       refine t_alt ?_ ?_
       ·refine t_bx1 S.tail.tail.tail.box ab_s_part rfl rfl ?_ rfl
        have S := S.f1
        refine t_f Tryz.call115 rfl (spec_l1Int S (K.below B) (by simp)) ?_ rfl
        rintro e w153 ⟨y41, rfl, hf41, S, x154⟩
        refine ⟨_, rfl, ?_⟩
        have B := B.trans x154
        refine t_c Tryz.call114 rfl (spec_MakePart s14 _ _ _ _ (seg_mkv (S.t4.sl)) (by omega)) ?_ rfl rfl
        rintro e w155 ⟨cs42, fp42, rfl, hO42, x156⟩
        refine ⟨_, rfl, x156, ?_⟩
        have S := S.add (o := tyO partT _ _) x156 hO42
        have B := bx Hb B x156
        obtain ⟨u42_3, heq, S2⟩ := S.partOpen
        subst heq
        have S := S2
        clear S2
        refine t_lit1 (fun w => bs_part1 _ _ _ _ w) rfl ?_ rfl rfl
        intro A43 w157 x158 hA43
        have B := bx Hb B x158
        have S := S.below x158
        have S := S.partShut (x := makePart s14 y41 0)
        have S := S.f3
        refine t_snoc e_part S hA43 rfl rfl rfl (by first | omega | (simp; done) | (simp; omega)) (by (simp only [maxLen]); first | omega | (simp; done) | (simp; omega)) ?_ rfl
        intro v44 w159 x160 S
        have B := B.trans x160
        refine t_y fb_path_0 rfl rfl ?_ rfl
        obtain ⟨Av44, cv44, rfl, _⟩ := S.sl.form
        have S := S.f3
        refine t_st1 S sb_s_part rfl rfl rfl rfl rfl ?_
        intro w161 b162 S
        have B := B.trans b162
        refine t_d' ?_
        have S := S.f3.tail.f13.f13.f13.f13.f13.f7.f13.f13.f13.f13.f13.f13.f12.f13
        refine x_cut (X := Path × Value) ([] ++ [makePart s14 y41 0], .slice Av44 (([]) ++ [makePart s14 y41 0]).length cv44) ?_ ?_
        rotate_left
        ·exact ⟨rfl, rfl, rfl, rfl, rfl, rfl, rfl, rfl, trivial⟩
        try dsimp only
        have hy : 1 ≤ y41 ∧ y41 ≤ 4 := by simp at hf41; omega
        exact ⟨⟨by simp, PathK.two (by simp) (PathK.one hf14 hy.1 hy.2)⟩, B, S⟩
       ·have S := S.f1
        refine t_f Tryz.call115 rfl (spec_l1Int S (K.below B) (by simp)) ?_ rfl
        rintro e w163 ⟨y41, rfl, hf41, S, x164⟩
        refine ⟨_, rfl, ?_⟩
        have B := B.trans x164
        refine t_alt ?_ ?_
        ·refine t_bx1 S.tail.tail.tail.box ab_s_part rfl rfl ?_ rfl
         refine t_c Tryz.call114 rfl (spec_MakePart s14 _ _ _ _ (seg_mkv (S.t4.sl)) (by omega)) ?_ rfl rfl
         rintro e w165 ⟨cs42, fp42, rfl, hO42, x166⟩
         refine ⟨_, rfl, x166, ?_⟩
         have S := S.add (o := tyO partT _ _) x166 hO42
         have B := bx Hb B x166
         obtain ⟨u42_3, heq, S2⟩ := S.partOpen
         subst heq
         have S := S2
         clear S2
         refine t_lit1 (fun w => bs_part1 _ _ _ _ w) rfl ?_ rfl rfl
         intro A43 w167 x168 hA43
         have B := bx Hb B x168
         have S := S.below x168
         have S := S.partShut (x := makePart s14 y41 0)
         have S := S.f3
         refine t_snoc e_part S hA43 rfl rfl rfl (by first | omega | (simp; done) | (simp; omega)) (by (simp only [maxLen]); first | omega | (simp; done) | (simp; omega)) ?_ rfl
         intro v44 w169 x170 S
         have B := B.trans x170
         refine t_y fb_path_0 rfl rfl ?_ rfl
         obtain ⟨Av44, cv44, rfl, _⟩ := S.sl.form
         have S := S.f3
         refine t_st1 S sb_s_part rfl rfl rfl rfl rfl ?_
         intro w171 b172 S
         have B := B.trans b172
         refine t_d' ?_
         have S := S.f3.tail.f13.f13.f13.f13.f13.f7.f13.f13.f13.f13.f13.f13.f12.f13
         refine x_cut (X := Path × Value) ([] ++ [makePart s14 y41 0], .slice Av44 (([]) ++ [makePart s14 y41 0]).length cv44) ?_ ?_
         rotate_left
         ·exact ⟨rfl, rfl, rfl, rfl, rfl, rfl, rfl, rfl, trivial⟩
         try dsimp only
         have hy : 1 ≤ y41 ∧ y41 ≤ 4 := by simp at hf41; omega
         exact ⟨⟨by simp, PathK.two (by simp) (PathK.one hf14 hy.1 hy.2)⟩, B, S⟩
        ·refine t_c Tryz.call114 rfl (spec_MakePart s14 _ _ _ _ (seg_mkv (S.t4.sl)) (by omega)) ?_ rfl rfl
         rintro e w173 ⟨cs42, fp42, rfl, hO42, x174⟩
         refine ⟨_, rfl, x174, ?_⟩
         have S := S.add (o := tyO partT _ _) x174 hO42
         have B := bx Hb B x174
         obtain ⟨u42_3, heq, S2⟩ := S.partOpen
         subst heq
         have S := S2
         clear S2
         refine t_alt ?_ ?_
         ·refine t_bx1 S.t4.box ab_s_part rfl rfl ?_ rfl
          refine t_lit1 (fun w => bs_part1 _ _ _ _ w) rfl ?_ rfl rfl
          intro A43 w175 x176 hA43
          have B := bx Hb B x176
          have S := S.below x176
          have S := S.partShut (x := makePart s14 y41 0)
          have S := S.f3
          refine t_snoc e_part S hA43 rfl rfl rfl (by first | omega | (simp; done) | (simp; omega)) (by (simp only [maxLen]); first | omega | (simp; done) | (simp; omega)) ?_ rfl
          intro v44 w177 x178 S
          have B := B.trans x178
          refine t_y fb_path_0 rfl rfl ?_ rfl
          obtain ⟨Av44, cv44, rfl, _⟩ := S.sl.form
          have S := S.f3
          refine t_st1 S sb_s_part rfl rfl rfl rfl rfl ?_
          intro w179 b180 S
          have B := B.trans b180
          refine t_d' ?_
          have S := S.f3.tail.f13.f13.f13.f13.f13.f7.f13.f13.f13.f13.f13.f13.f12.f13
          refine x_cut (X := Path × Value) ([] ++ [makePart s14 y41 0], .slice Av44 (([]) ++ [makePart s14 y41 0]).length cv44) ?_ ?_
          rotate_left
          ·exact ⟨rfl, rfl, rfl, rfl, rfl, rfl, rfl, rfl, trivial⟩
          try dsimp only
          have hy : 1 ≤ y41 ∧ y41 ≤ 4 := by simp at hf41; omega
          exact ⟨⟨by simp, PathK.two (by simp) (PathK.one hf14 hy.1 hy.2)⟩, B, S⟩
         ·refine t_lit1 (fun w => bs_part1 _ _ _ _ w) rfl ?_ rfl rfl
          intro A43 w181 x182 hA43
          have B := bx Hb B x182
          have S := S.below x182
          refine t_bx1 S.t4.box ab_s_part rfl rfl ?_ rfl
          have S := S.partShut (x := makePart s14 y41 0)
          have S := S.f3
          refine t_snoc e_part S hA43 rfl rfl rfl (by first | omega | (simp; done) | (simp; omega)) (by (simp only [maxLen]); first | omega | (simp; done) | (simp; omega)) ?_ rfl
          intro v44 w183 x184 S
          have B := B.trans x184
          refine t_y fb_path_0 rfl rfl ?_ rfl
          obtain ⟨Av44, cv44, rfl, _⟩ := S.sl.form
          have S := S.f3
          refine t_st1 S sb_s_part rfl rfl rfl rfl rfl ?_
          intro w185 b186 S
          have B := B.trans b186
          refine t_d' ?_
          have S := S.f3.tail.f13.f13.f13.f13.f13.f7.f13.f13.f13.f13.f13.f13.f12.f13
          refine x_cut (X := Path × Value) ([] ++ [makePart s14 y41 0], .slice Av44 (([]) ++ [makePart s14 y41 0]).length cv44) ?_ ?_
          rotate_left
          ·exact ⟨rfl, rfl, rfl, rfl, rfl, rfl, rfl, rfl, trivial⟩
          try dsimp only
          have hy : 1 ≤ y41 ∧ y41 ≤ 4 := by simp at hf41; omega
          exact ⟨⟨by simp, PathK.two (by simp) (PathK.one hf14 hy.1 hy.2)⟩, B, S⟩
      ·have S := S.f1
       refine t_f Tryz.call115 rfl (spec_l1Int S (K.below B) (by simp)) ?_ rfl
       rintro e w187 ⟨y41, rfl, hf41, S, x188⟩
       refine ⟨_, rfl, ?_⟩
       have B := B.trans x188
       refine t_alt ?_ ?_
       ·refine t_bx1 S.tail.tail.tail.box ab_s_part rfl rfl ?_ rfl
        refine t_b S.t4.tail.box ab_seg sb_seg rfl rfl ?_ rfl
        refine t_c Tryz.call114 rfl (spec_MakePart s14 _ _ _ _ (seg_mkv (S.t4.sl)) (by omega)) ?_ rfl rfl
        rintro e w189 ⟨cs42, fp42, rfl, hO42, x190⟩
        refine ⟨_, rfl, x190, ?_⟩
        have S := S.add (o := tyO partT _ _) x190 hO42
        have B := bx Hb B x190
        obtain ⟨u42_3, heq, S2⟩ := S.partOpen
        subst heq
        have S := S2
        clear S2
        refine t_lit1 (fun w => bs_part1 _ _ _ _ w) rfl ?_ rfl rfl
        intro A43 w191 x192 hA43
        have B := bx Hb B x192
        have S := S.below x192
        have S := S.partShut (x := makePart s14 y41 0)
        have S := S.f3
        refine t_snoc e_part S hA43 rfl rfl rfl (by first | omega | (simp; done) | (simp; omega)) (by (simp only [maxLen]); first | omega | (simp; done) | (simp; omega)) ?_ rfl
        intro v44 w193 x194 S
        have B := B.trans x194
        refine t_y fb_path_0 rfl rfl ?_ rfl
        obtain ⟨Av44, cv44, rfl, _⟩ := S.sl.form
        have S := S.f3
        refine t_st1 S sb_s_part rfl rfl rfl rfl rfl ?_
        intro w195 b196 S
        have B := B.trans b196
        refine t_d' ?_
        have S := S.f3.tail.f13.f13.f13.f13.f13.f7.f13.f13.f13.f13.f13.f13.f12.f13
        refine x_cut (X := Path × Value) ([] ++ [makePart s14 y41 0], .slice Av44 (([]) ++ [makePart s14 y41 0]).length cv44) ?_ ?_
        rotate_left
        ·exact ⟨rfl, rfl, rfl, rfl, rfl, rfl, rfl, rfl, trivial⟩
        try dsimp only
        have hy : 1 ≤ y41 ∧ y41 ≤ 4 := by simp at hf41; omega
        exact ⟨⟨by simp, PathK.two (by simp) (PathK.one hf14 hy.1 hy.2)⟩, B, S⟩
       ·refine t_b S.t4.tail.box ab_seg sb_seg rfl rfl ?_ rfl
        refine t_alt ?_ ?_
        ·refine t_bx1 S.tail.tail.tail.box ab_s_part rfl rfl ?_ rfl
         refine t_c Tryz.call114 rfl (spec_MakePart s14 _ _ _ _ (seg_mkv (S.t4.sl)) (by omega)) ?_ rfl rfl
         rintro e w197 ⟨cs42, fp42, rfl, hO42, x198⟩
         refine ⟨_, rfl, x198, ?_⟩
         have S := S.add (o := tyO partT _ _) x198 hO42
         have B := bx Hb B x198
         obtain ⟨u42_3, heq, S2⟩ := S.partOpen
         subst heq
         have S := S2
         clear S2
         refine t_lit1 (fun w => bs_part1 _ _ _ _ w) rfl ?_ rfl rfl
         intro A43 w199 x200 hA43
         have B := bx Hb B x200
         have S := S.below x200
         have S := S.partShut (x := makePart s14 y41 0)
         have S := S.f3
         refine t_snoc e_part S hA43 rfl rfl rfl (by first | omega | (simp; done) | (simp; omega)) (by (simp only [maxLen]); first | omega | (simp; done) | (simp; omega)) ?_ rfl
         intro v44 w201 x202 S
         have B := B.trans x202
         refine t_y fb_path_0 rfl rfl ?_ rfl
         obtain ⟨Av44, cv44, rfl, _⟩ := S.sl.form
         have S := S.f3
         refine t_st1 S sb_s_part rfl rfl rfl rfl rfl ?_
         intro w203 b204 S
         have B := B.trans b204
         refine t_d' ?_
         have S := S.f3.tail.f13.f13.f13.f13.f13.f7.f13.f13.f13.f13.f13.f13.f12.f13
         refine x_cut (X := Path × Value) ([] ++ [makePart s14 y41 0], .slice Av44 (([]) ++ [makePart s14 y41 0]).length cv44) ?_ ?_
         rotate_left
         ·exact ⟨rfl, rfl, rfl, rfl, rfl, rfl, rfl, rfl, trivial⟩
         try dsimp only
         have hy : 1 ≤ y41 ∧ y41 ≤ 4 := by simp at hf41; omega
         exact ⟨⟨by simp, PathK.two (by simp) (PathK.one hf14 hy.1 hy.2)⟩, B, S⟩
        ·refine t_c Tryz.call114 rfl (spec_MakePart s14 _ _ _ _ (seg_mkv (S.t4.sl)) (by omega)) ?_ rfl rfl
         rintro e w205 ⟨cs42, fp42, rfl, hO42, x206⟩
         refine ⟨_, rfl, x206, ?_⟩
         have S := S.add (o := tyO partT _ _) x206 hO42
         have B := bx Hb B x206
         obtain ⟨u42_3, heq, S2⟩ := S.partOpen
         subst heq
         have S := S2
         clear S2
         refine t_alt ?_ ?_
         ·refine t_bx1 S.t4.box ab_s_part rfl rfl ?_ rfl
          refine t_lit1 (fun w => bs_part1 _ _ _ _ w) rfl ?_ rfl rfl
          intro A43 w207 x208 hA43
          have B := bx Hb B x208
          have S := S.below x208
          have S := S.partShut (x := makePart s14 y41 0)
          have S := S.f3
          refine t_snoc e_part S hA43 rfl rfl rfl (by first | omega | (simp; done) | (simp; omega)) (by (simp only [maxLen]); first | omega | (simp; done) | (simp; omega)) ?_ rfl
          intro v44 w209 x210 S
          have B := B.trans x210
          refine t_y fb_path_0 rfl rfl ?_ rfl
          obtain ⟨Av44, cv44, rfl, _⟩ := S.sl.form
          have S := S.f3
          refine t_st1 S sb_s_part rfl rfl rfl rfl rfl ?_
          intro w211 b212 S
          have B := B.trans b212
          refine t_d' ?_
          have S := S.f3.tail.f13.f13.f13.f13.f13.f7.f13.f13.f13.f13.f13.f13.f12.f13
          refine x_cut (X := Path × Value) ([] ++ [makePart s14 y41 0], .slice Av44 (([]) ++ [makePart s14 y41 0]).length cv44) ?_ ?_
          rotate_left
          ·exact ⟨rfl, rfl, rfl, rfl, rfl, rfl, rfl, rfl, trivial⟩
          try dsimp only
          have hy : 1 ≤ y41 ∧ y41 ≤ 4 := by simp at hf41; omega
          exact ⟨⟨by simp, PathK.two (by simp) (PathK.one hf14 hy.1 hy.2)⟩, B, S⟩
         ·refine t_lit1 (fun w => bs_part1 _ _ _ _ w) rfl ?_ rfl rfl
          intro A43 w213 x214 hA43
          have B := bx Hb B x214
          have S := S.below x214
          refine t_bx1 S.t4.box ab_s_part rfl rfl ?_ rfl
          have S := S.partShut (x := makePart s14 y41 0)
          have S := S.f3
          refine t_snoc e_part S hA43 rfl rfl rfl (by first | omega | (simp; done) | (simp; omega)) (by (simp only [maxLen]); first | omega | (simp; done) | (simp; omega)) ?_ rfl
          intro v44 w215 x216 S
          have B := B.trans x216
          refine t_y fb_path_0 rfl rfl ?_ rfl
          obtain ⟨Av44, cv44, rfl, _⟩ := S.sl.form
          have S := S.f3
          refine t_st1 S sb_s_part rfl rfl rfl rfl rfl ?_
          intro w217 b218 S
          have B := B.trans b218
          refine t_d' ?_
          have S := S.f3.tail.f13.f13.f13.f13.f13.f7.f13.f13.f13.f13.f13.f13.f12.f13
          refine x_cut (X := Path × Value) ([] ++ [makePart s14 y41 0], .slice Av44 (([]) ++ [makePart s14 y41 0]).length cv44) ?_ ?_
          rotate_left
          ·exact ⟨rfl, rfl, rfl, rfl, rfl, rfl, rfl, rfl, trivial⟩
          try dsimp only
          have hy : 1 ≤ y41 ∧ y41 ≤ 4 := by simp at hf41; omega
          exact ⟨⟨by simp, PathK.two (by simp) (PathK.one hf14 hy.1 hy.2)⟩, B, S⟩
    ·intro hp
     refine w_k ?_
     have S := S.f13.f13.f13.f13.f13.f5.f13.f13.f13.f13.f13.f13.f13.f13
     refine x_cut (X := Path × Value) ([], .slice none 0 0) ?_ ?_
     rotate_left
     ·exact ⟨rfl, rfl, rfl, rfl, rfl, rfl, rfl, rfl, trivial⟩
     try dsimp only
     exact ⟨⟨by simp, by simp⟩, B, S⟩
   rintro ⟨q, vq⟩ w219 hI
   try dsimp only at hI ⊢
   obtain ⟨⟨hq1, hq2⟩, B, S⟩ := hI
   refine w_s ?_
   refine w_drawP [] (.alt (.st .fin 0 (.alt (.st .fin 1 (.st .fin 2 (.st .fin 3 .done))) (.st .fin 2 (.st .fin 1 (.st .fin 3 .done))))) (.st .fin 1 (.st .fin 0 (.st .fin 2 (.st .fin 3 .done))))) mixed (by kernel_rfl) ?_
   intro w220 x221
   have B := bx Hb B x221
   have S := S.below x221
   refine t_alt ?_ ?_
   ·refine t_b S.t4.t4.tail.tail.tail.box ab_topo sb_topo rfl rfl ?_ rfl
    refine t_alt ?_ ?_
    ·refine t_b S.tail.box ab_path sb_path rfl rfl ?_ rfl
     have S := S.f13
     refine t_stn S sb_topo rfl rfl rfl rfl (by repeat first | exact oc0 | refine oc rfl ?_ | refine oc (SlR.cells S.t4.t4.tail.tail.sl).2 ?_ | refine oc (SlR.cells S.t4.t4.tail.tail.tail.sl).2 ?_) ?_
     intro w222 b223 S
     have B := B.trans b223
     have S := S.f13
     refine t_stn S sb_path rfl rfl rfl rfl (by repeat first | exact oc0 | refine oc rfl ?_ | refine oc (SlR.cells S.tail.tail.sl).2 ?_) ?_
     intro w224 b225 S
     have B := B.trans b225
     refine t_d' ?_
     refine x_s ?_
     refine w_r ?_
     refine x_block_ret ?_
     refine x_t ?_
     refine x_retcc rfl rfl S.tail.box ab_topo sb_topo rfl rfl S.box ab_path sb_path rfl ?_
     have S := S.tail.tail.f1.tail.f1.tail.f1.tail.f1.tail.f1.tail.f1.tail.f1.tail.f4.tail.f1.f3.f3.f3
     exact ⟨_, _, _, _, _, q, rfl, ⟨T, by omega, hq2⟩, S, B⟩
    ·have S := S.f13
     refine t_stn S sb_topo rfl rfl rfl rfl (by repeat first | exact oc0 | refine oc rfl ?_ | refine oc (SlR.cells S.t4.t4.tail.tail.sl).2 ?_ | refine oc (SlR.cells S.t4.t4.tail.tail.tail.sl).2 ?_) ?_
     intro w226 b227 S
     have B := B.trans b227
     refine t_b S.tail.tail.box ab_path sb_path rfl rfl ?_ rfl
     have S := S.f13
     refine t_stn S sb_path rfl rfl rfl rfl (by repeat first | exact oc0 | refine oc rfl ?_ | refine oc (SlR.cells S.tail.tail.sl).2 ?_) ?_
     intro w228 b229 S
     have B := B.trans b229
     refine t_d' ?_
     refine x_s ?_
     refine w_r ?_
     refine x_block_ret ?_
     refine x_t ?_
     refine x_retcc rfl rfl S.tail.box ab_topo sb_topo rfl rfl S.box ab_path sb_path rfl ?_
     have S := S.tail.tail.f1.tail.f1.tail.f1.tail.f1.tail.f1.tail.f1.tail.f1.tail.f4.tail.f1.f3.f3.f3
     exact ⟨_, _, _, _, _, q, rfl, ⟨T, by omega, hq2⟩, S, B⟩
   ·refine t_b S.tail.box ab_path sb_path rfl rfl ?_ rfl
    refine t_b S.t4.t4.tail.tail.tail.box ab_topo sb_topo rfl rfl ?_ rfl
    have S := S.f13
    refine t_stn S sb_topo rfl rfl rfl rfl (by repeat first | exact oc0 | refine oc rfl ?_ | refine oc (SlR.cells S.t4.t4.tail.tail.sl).2 ?_ | refine oc (SlR.cells S.t4.t4.tail.tail.tail.sl).2 ?_) ?_
    intro w230 b231 S
    have B := B.trans b231
    have S := S.f13
    refine t_stn S sb_path rfl rfl rfl rfl (by repeat first | exact oc0 | refine oc rfl ?_ | refine oc (SlR.cells S.tail.tail.sl).2 ?_) ?_
    intro w232 b233 S
    have B := B.trans b233
    refine t_d' ?_
    refine x_s ?_
    refine w_r ?_
    refine x_block_ret ?_
    refine x_t ?_
    refine x_retcc rfl rfl S.tail.box ab_topo sb_topo rfl rfl S.box ab_path sb_path rfl ?_
    have S := S.tail.tail.f1.tail.f1.tail.f1.tail.f1.tail.f1.tail.f1.tail.f1.tail.f4.tail.f1.f3.f3.f3
    exact ⟨_, _, _, _, _, q, rfl, ⟨T, by omega, hq2⟩, S, B⟩
  ·intro h1
   refine w_s ?_
   refine w_g ?_
   refine t_eql rfl rfl ?_ rfl
   refine t_a rfl ?_ rfl
   refine t_d ?_
   refine x_s ?_
   refine w_if rfl ?_ ?_
   ·intro h2
    refine w_s ?_
    refine w_cut (X := Path × Value) (fun x wq => (fun q vq => (List.length q ≤ 1 ∧ ∀ x ∈ q, PartK ⟨A11, L11⟩ x) ∧ Below b w wq ∧ Sep b wq (slO partT 82 vq q :: bxO g8 30 #[vq] :: slO hopT 86 vh14 s14.hops :: bxO g5 118 #[I s14.ts, I s14.beta, vh14] :: slO hopT 86 vh17 s17.hops :: bxO g6 118 #[I s17.ts, I s17.beta, vh17] :: slO hopT 86 vh20 s20.hops :: bxO g7 118 #[I s20.ts, I s20.beta, vh20] :: curO v n c 115 :: slO asnT 135 va11 A11 :: slO linkT 152 vl11 L11 :: bxO g4 27 #[va11, vl11] :: bxO g3 30 #[.slice none 0 0] :: bxO g2 27 #[.slice none 0 0, .slice none 0 0] :: os)) x.1 x.2) (fun x => (fun q vq => [(0, .pointer (some ⟨c, 0, none⟩)), (2, .pointer (some ⟨g2, 0, none⟩)), (3, .pointer (some ⟨g3, 0, none⟩)), (4, .pointer (some ⟨g4, 0, none⟩)), (5, .pointer (some ⟨g5, 0, none⟩)), (6, .pointer (some ⟨g6, 0, none⟩)), (7, .pointer (some ⟨g7, 0, none⟩)), (8, .pointer (some ⟨g8, 0, none⟩))]) x.1 x.2) ?_ ?_
    ·refine w_s ?_
     refine w_g ?_
     refine t_y fb_seg_2 rfl rfl ?_ rfl
     refine t_bx1 S.t4.t4.box ab_s_hop rfl rfl ?_ rfl
     refine t_len e_hop (S.t4.tail.tail.tail.sl) rfl rfl ?_ rfl
     refine t_gtr rfl rfl ?_ rfl
     refine t_d ?_
     refine x_s ?_
     refine w_if rfl ?_ ?_
     ·intro hp
      refine w_drawP [0, 3] (.alt (.st .fin 1 (.alt (.st .fin 2 (.st .fin 4 (.st .fin 5 (.st .fin 6 (.st .fin 7 (.st .fin 8 (.st .fin 9 (.st .fin 10 .done)))))))) (.st .fin 4 (.alt (.st .fin 2 (.st .fin 5 (.st .fin 6 (.st .fin 7 (.st .fin 8 (.st .fin 9 (.st .fin 10 .done))))))) (.st .fin 5 (.st .fin 2 (.st .fin 6 (.st .fin 7 (.st .fin 8 (.st .fin 9 (.st .fin 10 .done))))))))))) (.alt (.st .fin 2 (.alt (.st .fin 1 (.st .fin 4 (.st .fin 5 (.st .fin 6 (.st .fin 7 (.st .fin 8 (.st .fin 9 (.st .fin 10 .done)))))))) (.st .fin 4 (.alt (.st .fin 1 (.st .fin 5 (.st .fin 6 (.st .fin 7 (.st .fin 8 (.st .fin 9 (.st .fin 10 .done))))))) (.st .fin 5 (.alt (.st .fin 1 (.st .fin 6 (.st .fin 7 (.st .fin 8 (.st .fin 9 (.st .fin 10 .done)))))) (.st .fin 6 (.alt (.st .fin 1 (.st .fin 7 (.st .fin 8 (.st .fin 9 (.st .fin 10 .done))))) (.st .fin 7 (.st .fin 1 (.st .fin 8 (.st .fin 9 (.st .fin 10 .done))))))))))))) (.st .fin 4 (.alt (.st .fin 1 (.alt (.st .fin 2 (.st .fin 5 (.st .fin 6 (.st .fin 7 (.st .fin 8 (.st .fin 9 (.st .fin 10 .done))))))) (.st .fin 5 (.st .fin 2 (.st .fin 6 (.st .fin 7 (.st .fin 8 (.st .fin 9 (.st .fin 10 .done))))))))) (.alt (.st .fin 2 (.alt (.st .fin 1 (.st .fin 5 (.st .fin 6 (.st .fin 7 (.st .fin 8 (.st .fin 9 (.st .fin 10 .done))))))) (.st .fin 5 (.alt (.st .fin 1 (.st .fin 6 (.st .fin 7 (.st .fin 8 (.st .fin 9 (.st .fin 10 .done)))))) (.st .fin 6 (.alt (.st .fin 1 (.st .fin 7 (.st .fin 8 (.st .fin 9 (.st .fin 10 .done))))) (.st .fin 7 (.st .fin 1 (.st .fin 8 (.st .fin 9 (.st .fin 10 .done))))))))))) (.st .fin 5 (.alt (.st .fin 1 (.st .fin 2 (.st .fin 6 (.st .fin 7 (.st .fin 8 (.st .fin 9 (.st .fin 10 .done))))))) (.st .fin 2 (.alt (.st .fin 1 (.st .fin 6 (.st .fin 7 (.st .fin 8 (.st .fin 9 (.st .fin 10 .done)))))) (.st .fin 6 (.alt (.st .fin 1 (.st .fin 7 (.st .fin 8 (.st .fin 9 (.st .fin 10 .done))))) (.st .fin 7 (.st .fin 1 (.st .fin 8 (.st .fin 9 (.st .fin 10 .done)))))))))))))))) mixed (by kernel_rfl) ?_
      intro w234 x235
      have B := bx Hb B x235
      have S := S.below x235
      refine p_fldx fb_path_0 rfl rfl ?_ rfl
      refine p_move rfl ?_ rfl
      refine p_done ?_
      refine t_alt ?_ (t_alt ?_ ?_)
      ·refine t_bx1 S.tail.tail.box ab_s_part rfl rfl ?_ rfl
       refine t_alt ?_ ?_
       ·refine t_b S.t4.t4.box ab_seg sb_seg rfl rfl ?_ rfl
        refine t_lit (T := intT) (l := [2, 3]) (css := ([2, 3]).map fun a => [I a]) int_flat S (fun w => bs_int2 _ _ w) rfl rfl rfl rfl (by simp [maxLen]) (litR_int _) ?_ rfl rfl
        intro u58 w236 x237 S
        have B := bx Hb B x237
        have S := S.f1
        refine t_f Tryz.call115 rfl (spec_l1Int S (K.below B) (by simp)) ?_ rfl
        rintro e w238 ⟨y59, rfl, hf59, S, x239⟩
        refine ⟨_, rfl, ?_⟩
        have B := B.trans x239
        refine t_c Tryz.call114 rfl (spec_MakePart s20 _ _ _ _ (seg_mkv (S.t4.t4.sl)) (by omega)) ?_ rfl rfl
        rintro e w240 ⟨cs60, fp60, rfl, hO60, x241⟩
        refine ⟨_, rfl, x241, ?_⟩
        have S := S.add (o := tyO partT _ _) x241 hO60
        have B := bx Hb B x241
        obtain ⟨u60_3, heq, S2⟩ := S.partOpen
        subst heq
        have S := S2
        clear S2
        refine t_lit1 (fun w => bs_part1 _ _ _ _ w) rfl ?_ rfl rfl
        intro A61 w242 x243 hA61
        have B := bx Hb B x243
        have S := S.below x243
        have S := S.partShut (x := makePart s20 y59 0)
        have S := S.f3
        refine t_snoc e_part S hA61 rfl rfl rfl (by first | omega | (simp; done) | (simp; omega)) (by (simp only [maxLen]); first | omega | (simp; done) | (simp; omega)) ?_ rfl
        intro v62 w244 x245 S
        have B := B.trans x245
        refine t_y fb_path_0 rfl rfl ?_ rfl
        obtain ⟨Av62, cv62, rfl, _⟩ := S.sl.form
        have S := S.f3
        refine t_st1 S sb_s_part rfl rfl rfl rfl rfl ?_
        intro w246 b247 S
        have B := B.trans b247
        refine t_d' ?_
        have S := S.f3.tail.f13.f13.f13.f13.f13.f7.f13.f13.f13.f13.f13.f13.f12.f13
        refine x_cut (X := Path × Value) ([] ++ [makePart s20 y59 0], .slice Av62 (([]) ++ [makePart s20 y59 0]).length cv62) ?_ ?_
        rotate_left
        ·exact ⟨rfl, rfl, rfl, rfl, rfl, rfl, rfl, rfl, trivial⟩
        try dsimp only
        have hy : 1 ≤ y59 ∧ y59 ≤ 4 := by simp at hf59; omega
        exact ⟨⟨by simp, PathK.two (by simp) (PathK.one hf20 hy.1 hy.2)⟩, B, S⟩
       ·refine t_lit (T := intT) (l := [2, 3]) (css := ([2, 3]).map fun a => [I a]) int_flat S (fun w => bs_int2 _ _ w) rfl rfl rfl rfl (by simp [maxLen]) (litR_int _) ?_ rfl rfl
        intro u58 w248 x249 S
        have B := bx Hb B x249
        refine t_alt ?_ ?_
        ·refine t_b S.t4.t4.tail.box ab_seg sb_seg rfl rfl ?_ rfl
         have S := S.f1
         refine t_f Tryz.call115 rfl (spec_l1Int S (K.below B) (by simp)) ?_ rfl
         rintro e w250 ⟨y59, rfl, hf59, S, x251⟩
         refine ⟨_, rfl, ?_⟩
         have B := B.trans x251
         refine t_c Tryz.call114 rfl (spec_MakePart s20 _ _ _ _ (seg_mkv (S.t4.t4.sl)) (by omega)) ?_ rfl rfl
         rintro e w252 ⟨cs60, fp60, rfl, hO60, x253⟩
         refine ⟨_, rfl, x253, ?_⟩
         have S := S.add (o := tyO partT _ _) x253 hO60
         have B := bx Hb B x253
         obtain ⟨u60_3, heq, S2⟩ := S.partOpen
         subst heq
         have S := S2
         clear S2
         refine t_lit1 (fun w => bs_part1 _ _ _ _ w) rfl ?_ rfl rfl
         intro A61 w254 x255 hA61
         have B := bx Hb B x255
         have S := S.below x255
         have S := S.partShut (x := makePart s20 y59 0)
         have S := S.f3
         refine t_snoc e_part S hA61 rfl rfl rfl (by first | omega | (simp; done) | (simp; omega)) (by (simp only [maxLen]); first | omega | (simp; done) | (simp; omega)) ?_ rfl
         intro v62 w256 x257 S
         have B := B.trans x257
         refine t_y fb_path_0 rfl rfl ?_ rfl
         obtain ⟨Av62, cv62, rfl, _⟩ := S.sl.form
         have S := S.f3
         refine t_st1 S sb_s_part rfl rfl rfl rfl rfl ?_
         intro w258 b259 S
         have B := B.trans b259
         refine t_d' ?_
         have S := S.f3.tail.f13.f13.f13.f13.f13.f7.f13.f13.f13.f13.f13.f13.f12.f13
         refine x_cut (X := Path × Value) ([] ++ [makePart s20 y59 0], .slice Av62 (([]) ++ [makePart s20 y59 0]).length cv62) ?_ ?_
         rotate_left
         ·exact ⟨rfl, rfl, rfl, rfl, rfl, rfl, rfl, rfl, trivial⟩
         try dsimp only
         have hy : 1 ≤ y59 ∧ y59 ≤ 4 := by simp at hf59; omega
         exact ⟨⟨by simp, PathK.two (by simp) (PathK.one hf20 hy.1 hy.2)⟩, B, S⟩
        ·have S := S.f1
         refine t_f Tryz.call115 rfl (spec_l1Int S (K.below B) (by simp)) ?_ rfl
         rintro e w260 ⟨y59, rfl, hf59, S, x261⟩
         refine ⟨_, rfl, ?_⟩
         have B := B.trans x261
         refine t_b S.t4.t4.tail.box ab_seg sb_seg rfl rfl ?_ rfl
         refine t_c Tryz.call114 rfl (spec_MakePart s20 _ _ _ _ (seg_mkv (S.t4.t4.sl)) (by omega)) ?_ rfl rfl
         rintro e w262 ⟨cs60, fp60, rfl, hO60, x263⟩
         refine ⟨_, rfl, x263, ?_⟩
         have S := S.add (o := tyO partT _ _) x263 hO60
         have B := bx Hb B x263
         obtain ⟨u60_3, heq, S2⟩ := S.partOpen
         subst heq
         have S := S2
         clear S2
         refine t_lit1 (fun w => bs_part1 _ _ _ _ w) rfl ?_ rfl rfl
         intro A61 w264 x265 hA61
         have B := bx Hb B x265
         have S := S.below x265
         have S := S.partShut (x := makePart s20 y59 0)
         have S := S.f3
         refine t_snoc e_part S hA61 rfl rfl rfl (by first | omega | (simp; done) | (simp; omega)) (by (simp only [maxLen]); first | omega | (simp; done) | (simp; omega)) ?_ rfl
         intro v62 w266 x267 S
         have B := B.trans x267
         refine t_y fb_path_0 rfl rfl ?_ rfl
         obtain ⟨Av62, cv62, rfl, _⟩ := S.sl.form
         have S := S.f3
         refine t_st1 S sb_s_part rfl rfl rfl rfl rfl ?_
         intro w268 b269 S
         have B := B.trans b269
         refine t_d' ?_
         have S := S.f3.tail.f13.f13.f13.f13.f13.f7.f13.f13.f13.f13.f13.f13.f12.f13
         refine x_cut (X := Path × Value) ([] ++ [makePart s20 y59 0], .slice Av62 (([]) ++ [makePart s20 y59 0]).length cv62) ?_ ?_
         rotate_left
         ·exact ⟨rfl, rfl, rfl, rfl, rfl, rfl, rfl, rfl, trivial⟩
         try dsimp only
         have hy : 1 ≤ y59 ∧ y59 ≤ 4 := by simp at hf59; omega
         exact ⟨⟨by simp, PathK.two (by simp) (PathK.one hf20 hy.1 hy.2)⟩, B, S⟩
      ·refine t_b S.t4.t4.box ab_seg sb_seg rfl rfl ?_ rfl
       refine t_alt ?_ ?_
       ·refine t_bx1 S.tail.tail.box ab_s_part rfl rfl ?_ rfl
        refine t_lit (T := intT) (l := [2, 3]) (css := ([2, 3]).map fun a => [I a]) int_flat S (fun w => bs_int2 _ _ w) rfl rfl rfl rfl (by simp [maxLen]) (litR_int _) ?_ rfl rfl
        intro u58 w270 x271 S
        have B := bx Hb B x271
        have S := S.f1
        refine t_f Tryz.call115 rfl (spec_l1Int S (K.below B) (by simp)) ?_ rfl
        rintro e w272 ⟨y59, rfl, hf59, S, x273⟩
        refine ⟨_, rfl, ?_⟩
        have B := B.trans x273
        refine t_c Tryz.call114 rfl (spec_MakePart s20 _ _ _ _ (seg_mkv (S.t4.t4.sl)) (by omega)) ?_ rfl rfl
        rintro e w274 ⟨cs60, fp60, rfl, hO60, x275⟩
        refine ⟨_, rfl, x275, ?_⟩
        have S := S.add (o := tyO partT _ _) x275 hO60
        have B := bx Hb B x275
        obtain ⟨u60_3, heq, S2⟩ := S.partOpen
        subst heq
        have S := S2
        clear S2
        refine t_lit1 (fun w => bs_part1 _ _ _ _ w) rfl ?_ rfl rfl
        intro A61 w276 x277 hA61
        have B := bx Hb B x277
        have S := S.below x277
        have S := S.partShut (x := makePart s20 y59 0)
        have S := S.f3
        refine t_snoc e_part S hA61 rfl rfl rfl (by first | omega | (simp; done) | (simp; omega)) (by (simp only [maxLen]); first | omega | (simp; done) | (simp; omega)) ?_ rfl
        intro v62 w278 x279 S
        have B := B.trans x279
        refine t_y fb_path_0 rfl rfl ?_ rfl
        obtain ⟨Av62, cv62, rfl, _⟩ := S.sl.form
        have S := S.f3
        refine t_st1 S sb_s_part rfl rfl rfl rfl rfl ?_
        intro w280 b281 S
        have B := B.trans b281
        refine t_d' ?_
        have S := S.f3.tail.f13.f13.f13.f13.f13.f7.f13.f13.f13.f13.f13.f13.f12.f13
        refine x_cut (X := Path × Value) ([] ++ [makePart s20 y59 0], .slice Av62 (([]) ++ [makePart s20 y59 0]).length cv62) ?_ ?_
        rotate_left
        ·exact ⟨rfl, rfl, rfl, rfl, rfl, rfl, rfl, rfl, trivial⟩
        try dsimp only
        have hy : 1 ≤ y59 ∧ y59 ≤ 4 := by simp at hf59; omega
        exact ⟨⟨by simp, PathK.two (by simp) (PathK.one hf20 hy.1 hy.2)⟩, B, S⟩
       ·refine t_lit (T := intT) (l := [2, 3]) (css := ([2, 3]).map fun a => [I a]) int_flat S (fun w => bs_int2 _ _ w) rfl rfl rfl rfl (by simp [maxLen]) (litR_int _) ?_ rfl rfl
        intro u58 w282 x283 S
        have B := bx Hb B x283
        refine t_alt ?_ ?_
        ·refine t_bx1 S.tail.tail.tail.box ab_s_part rfl rfl ?_ rfl
         have S := S.f1
         refine t_f Tryz.call115 rfl (spec_l1Int S (K.below B) (by simp)) ?_ rfl
         rintro e w284 ⟨y59, rfl, hf59, S, x285⟩
         refine ⟨_, rfl, ?_⟩
         have B := B.trans x285
         refine t_c Tryz.call114 rfl (spec_MakePart s20 _ _ _ _ (seg_mkv (S.t4.t4.sl)) (by omega)) ?_ rfl rfl
         rintro e w286 ⟨cs60, fp60, rfl, hO60, x287⟩
         refine ⟨_, rfl, x287, ?_⟩
         have S := S.add (o := tyO partT _ _) x287 hO60
         have B := bx Hb B x287
         obtain ⟨u60_3, heq, S2⟩ := S.partOpen
         subst heq
         have S := S2
         clear S2
         refine t_lit1 (fun w => bs_part1 _ _ _ _ w) rfl ?_ rfl rfl
         intro A61 w288 x289 hA61
         have B := bx Hb B x289
         have S := S.below x289
         have S := S.partShut (x := makePart s20 y59 0)
         have S := S.f3
         refine t_snoc e_part S hA61 rfl rfl rfl (by first | omega | (simp; done) | (simp; omega)) (by (simp only [maxLen]); first | omega | (simp; done) | (simp; omega)) ?_ rfl
         intro v62 w290 x291 S
         have B := B.trans x291
         refine t_y fb_path_0 rfl rfl ?_ rfl
         obtain ⟨Av62, cv62, rfl, _⟩ := S.sl.form
         have S := S.f3
         refine t_st1 S sb_s_part rfl rfl rfl rfl rfl ?_
         intro w292 b293 S
         have B := B.trans b293
         refine t_d' ?_
         have S := S.f3.tail.f13.f13.f13.f13.f13.f7.f13.f13.f13.f13.f13.f13.f12.f13
         refine x_cut (X := Path × Value) ([] ++ [makePart s20 y59 0], .slice Av62 (([]) ++ [makePart s20 y59 0]).length cv62) ?_ ?_
         rotate_left
         ·exact ⟨rfl, rfl, rfl, rfl, rfl, rfl, rfl, rfl, trivial⟩
         try dsimp only
         have hy : 1 ≤ y59 ∧ y59 ≤ 4 := by simp at hf59; omega
         exact ⟨⟨by simp, PathK.two (by simp) (PathK.one hf20 hy.1 hy.2)⟩, B, S⟩
        ·have S := S.f1
         refine t_f Tryz.call115 rfl (spec_l1Int S (K.below B) (by simp)) ?_ rfl
         rintro e w294 ⟨y59, rfl, hf59, S, x295⟩
         refine ⟨_, rfl, ?_⟩
         have B := B.trans x295
         refine t_alt ?_ ?_
         ·refine t_bx1 S.tail.tail.tail.box ab_s_part rfl rfl ?_ rfl
          refine t_c Tryz.call114 rfl (spec_MakePart s20 _ _ _ _ (seg_mkv (S.t4.t4.sl)) (by omega)) ?_ rfl rfl
          rintro e w296 ⟨cs60, fp60, rfl, hO60, x297⟩
          refine ⟨_, rfl, x297, ?_⟩
          have S := S.add (o := tyO partT _ _) x297 hO60
          have B := bx Hb B x297
          obtain ⟨u60_3, heq, S2⟩ := S.partOpen
          subst heq
          have S := S2
          clear S2
          refine t_lit1 (fun w => bs_part1 _ _ _ _ w) rfl ?_ rfl rfl
          intro A61 w298 x299 hA61
          have B := bx Hb B x299
          have S := S.below x299
          have S := S.partShut (x := makePart s20 y59 0)
          have S := S.f3
          refine t_snoc e_part S hA61 rfl rfl rfl (by first | omega | (simp; done) | (simp; omega)) (by (simp only [maxLen]); first | omega | (simp; done) | (simp; omega)) ?_ rfl
          intro v62 w300 x301 S
          have B := B.trans x301
          refine t_y fb_path_0 rfl rfl ?_ rfl
          obtain ⟨Av62, cv62, rfl, _⟩ := S.sl.form
          have S := S.f3
          refine t_st1 S sb_s_part rfl rfl rfl rfl rfl ?_
          intro w302 b303 S
          have B := B.trans b303
          refine t_d' ?_
          have S := S.f3.tail.f13.f13.f13.f13.f13.f7.f13.f13.f13.f13.f13.f13.f12.f13
          refine x_cut (X := Path × Value) ([] ++ [makePart s20 y59 0], .slice Av62 (([]) ++ [makePart s20 y59 0]).length cv62) ?_ ?_
          rotate_left
          ·exact ⟨rfl, rfl, rfl, rfl, rfl, rfl, rfl, rfl, trivial⟩
          try dsimp only
          have hy : 1 ≤ y59 ∧ y59 ≤ 4 := by simp at hf59; omega
          exact ⟨⟨by simp, PathK.two (by simp) (PathK.one hf20 hy.1 hy.2)⟩, B, S⟩
         ·refine t_c Tryz.call114 rfl (spec_MakePart s20 _ _ _ _ (seg_mkv (S.t4.t4.sl)) (by omega)) ?_ rfl rfl
          rintro e w304 ⟨cs60, fp60, rfl, hO60, x305⟩
          refine ⟨_, rfl, x305, ?_⟩
          have S := S.add (o := tyO partT _ _) x305 hO60
          have B := bx Hb B x305
          obtain ⟨u60_3, heq, S2⟩ := S.partOpen
          subst heq
          have S := S2
          clear S2
          refine t_alt ?_ ?_
          ·refine t_bx1 S.t4.box ab_s_part rfl rfl ?_ rfl
           refine t_lit1 (fun w => bs_part1 _ _ _ _ w) rfl ?_ rfl rfl
           intro A61 w306 x307 hA61
           have B := bx Hb B x307
           have S := S.below x307
           have S := S.partShut (x := makePart s20 y59 0)
           have S := S.f3
           refine t_snoc e_part S hA61 rfl rfl rfl (by first | omega | (simp; done) | (simp; omega)) (by (simp only [maxLen]); first | omega | (simp; done) | (simp; omega)) ?_ rfl
           intro v62 w308 x309 S
           have B := B.trans x309
           refine t_y fb_path_0 rfl rfl ?_ rfl
           obtain ⟨Av62, cv62, rfl, _⟩ := S.sl.form
           have S := S.f3
           refine t_st1 S sb_s_part rfl rfl rfl rfl rfl ?_
           intro w310 b311 S
           have B := B.trans b311
           refine t_d' ?_
           have S := S.f3.tail.f13.f13.f13.f13.f13.f7.f13.f13.f13.f13.f13.f13.f12.f13
           refine x_cut (X := Path × Value) ([] ++ [makePart s20 y59 0], .slice Av62 (([]) ++ [makePart s20 y59 0]).length cv62) ?_ ?_
           rotate_left
           ·exact ⟨rfl, rfl, rfl, rfl, rfl, rfl, rfl, rfl, trivial⟩
           try dsimp only
           have hy : 1 ≤ y59 ∧ y59 ≤ 4 := by simp at hf59; omega
           exact ⟨⟨by simp, PathK.two (by simp) (PathK.one hf20 hy.1 hy.2)⟩, B, S⟩
          ·refine t_lit1 (fun w => bs_part1 _ _ _ _ w) rfl ?_ rfl rfl
           intro A61 w312 x313 hA61
           have B := bx Hb B x313
           have S := S.below x313
           refine t_bx1 S.t4.box ab_s_part rfl rfl ?_ rfl
           have S := S.partShut (x := makePart s20 y59 0)
           have S := S.f3
           refine t_snoc e_part S hA61 rfl rfl rfl (by first | omega | (simp; done) | (simp; omega)) (by (simp only [maxLen]); first | omega | (simp; done) | (simp; omega)) ?_ rfl
           intro v62 w314 x315 S
           have B := B.trans x315
           refine t_y fb_path_0 rfl rfl ?_ rfl
           obtain ⟨Av62, cv62, rfl, _⟩ := S.sl.form
           have S := S.f3
           refine t_st1 S sb_s_part rfl rfl rfl rfl rfl ?_
           intro w316 b317 S
           have B := B.trans b317
           refine t_d' ?_
           have S := S.f3.tail.f13.f13.f13.f13.f13.f7.f13.f13.f13.f13.f13.f13.f12.f13
           refine x_cut (X := Path × Value) ([] ++ [makePart s20 y59 0], .slice Av62 (([]) ++ [makePart s20 y59 0]).length cv62) ?_ ?_
           rotate_left
           ·exact ⟨rfl, rfl, rfl, rfl, rfl, rfl, rfl, rfl, trivial⟩
           try dsimp only
           have hy : 1 ≤ y59 ∧ y59 ≤ 4 := by simp at hf59; omega
           exact ⟨⟨by simp, PathK.two (by simp) (PathK.one hf20 hy.1 hy.2)⟩, B, S⟩
      ·refine t_lit (T := intT) (l := [2, 3]) (css := ([2, 3]).map fun a => [I a]) int_flat S (fun w => bs_int2 _ _ w) rfl rfl rfl rfl (by simp [maxLen]) (litR_int _) ?_ rfl rfl
       intro u58 w318 x319 S
       have B := bx Hb B x319
       refine t_alt ?_ (t_alt ?_ ?_)
       ·refine t_bx1 S.tail.tail.tail.box ab_s_part rfl rfl ?_ rfl
        refine t_alt ?_ ?_
        ·refine t_b S.t4.t4.tail.box ab_seg sb_seg rfl rfl ?_ rfl
         have S := S.f1
         refine t_f Tryz.call115 rfl (spec_l1Int S (K.below B) (by simp)) ?_ rfl
         rintro e w320 ⟨y59, rfl, hf59, S, x321⟩
         refine ⟨_, rfl, ?_⟩
         have B := B.trans x321
         refine t_c Tryz.call114 rfl (spec_MakePart s20 _ _ _ _ (seg_mkv (S.t4.t4.sl)) (by omega)) ?_ rfl rfl
         rintro e w322 ⟨cs60, fp60, rfl, hO60, x323⟩
         refine ⟨_, rfl, x323, ?_⟩
         have S := S.add (o := tyO partT _ _) x323 hO60
         have B := bx Hb B x323
         obtain ⟨u60_3, heq, S2⟩ := S.partOpen
         subst heq
         have S := S2
         clear S2
         refine t_lit1 (fun w => bs_part1 _ _ _ _ w) rfl ?_ rfl rfl
         intro A61 w324 x325 hA61
         have B := bx Hb B x325
         have S := S.below x325
         have S := S.partShut (x := makePart s20 y59 0)
         have S := S.f3
         refine t_snoc e_part S hA61 rfl rfl rfl (by first | omega | (simp; done) | (simp; omega)) (by (simp only [maxLen]); first | omega | (simp; done) | (simp; omega)) ?_ rfl
         intro v62 w326 x327 S
         have B := B.trans x327
         refine t_y fb_path_0 rfl rfl ?_ rfl
         obtain ⟨Av62, cv62, rfl, _⟩ := S.sl.form
         have S := S.f3
         refine t_st1 S sb_s_part rfl rfl rfl rfl rfl ?_
         intro w328 b329 S
         have B := B.trans b329
         refine t_d' ?_
         have S := S.f3.tail.f13.f13.f13.f13.f13.f7.f13.f13.f13.f13.f13.f13.f12.f13
         refine x_cut (X := Path × Value) ([] ++ [makePart s20 y59 0], .slice Av62 (([]) ++ [makePart s20 y59 0]).length cv62) ?_ ?_
         rotate_left
         ·exact ⟨rfl, rfl, rfl, rfl, rfl, rfl, rfl, rfl, trivial⟩
         try dsimp only
         have hy : 1 ≤ y59 ∧ y59 ≤ 4 := by simp at hf59; omega
         exact ⟨⟨by simp, PathK.two (by simp) (PathK.one hf20 hy.1 hy.2)⟩, B, S⟩
        ·have S := S.f1
         refine t_f Tryz.call115 rfl (spec_l1Int S (K.below B) (by simp)) ?_ rfl
         rintro e w330 ⟨y59, rfl, hf59, S, x331⟩
         refine ⟨_, rfl, ?_⟩
         have B := B.trans x331
         refine t_b S.t4.t4.tail.box ab_seg sb_seg rfl rfl ?_ rfl
         refine t_c Tryz.call114 rfl (spec_MakePart s20 _ _ _ _ (seg_mkv (S.t4.t4.sl)) (by omega)) ?_ rfl rfl
         rintro e w332 ⟨cs60, fp60, rfl, hO60, x333⟩
         refine ⟨_, rfl, x333, ?_⟩
         have S := S.add (o := tyO partT _ _) x333 hO60
         have B := bx Hb B x333
         obtain ⟨u60_3, heq, S2⟩ := S.partOpen
         subst heq
         have S := S2
         clear S2
         refine t_lit1 (fun w => bs_part1 _ _ _ _ w) rfl ?_ rfl rfl
         intro A61 w334 x335 hA61
         have B := bx Hb B x335
         have S := S.below x335
         have S := S.partShut (x := makePart s20 y59 0)
         have S := S.f3
         refine t_snoc e_part S hA61 rfl rfl rfl (by first | omega | (simp; done) | (simp; omega)) (by (simp only [maxLen]); first | omega | (simp; done) | (simp; omega)) ?_ rfl
         intro v62 w336 x337 S
         have B := B.trans x337
         refine t_y fb_path_0 rfl rfl ?_ rfl
         obtain ⟨Av62, cv62, rfl, _⟩ := S.sl.form
         have S := S.f3
         refine t_st1 S sb_s_part rfl rfl rfl rfl rfl ?_
         intro w338 b339 S
         have B := B.trans b339
         refine t_d' ?_
         have S := S.f3.tail.f13.f13.f13.f13.f13.f7.f13.f13.f13.f13.f13.f13.f12.f13
         refine x_cut (X := Path × Value) ([] ++ [makePart s20 y59 0], .slice Av62 (([]) ++ [makePart s20 y59 0]).length cv62) ?_ ?_
         rotate_left
         ·exact ⟨rfl, rfl, rfl, rfl, rfl, rfl, rfl, rfl, trivial⟩
         try dsimp only
         have hy : 1 ≤ y59 ∧ y59 ≤ 4 := by simp at hf59; omega
         exact ⟨⟨by simp, PathK.two (by simp) (PathK.one hf20 hy.1 hy.2)⟩, B, S⟩
       ·refine t_b S.t4.t4.tail.box ab_seg sb_seg rfl rfl ?_ rfl
        refine t_alt ?_ ?_
        ·refine t_bx1 S.tail.tail.tail.box ab_s_part rfl rfl ?_ rfl
         have S := S.f1
         refine t_f Tryz.call115 rfl (spec_l1Int S (K.below B) (by simp)) ?_ rfl
         rintro e w340 ⟨y59, rfl, hf59, S, x341⟩
         refine ⟨_, rfl, ?_⟩
         have B := B.trans x341
         refine t_c Tryz.call114 rfl (spec_MakePart s20 _ _ _ _ (seg_mkv (S.t4.t4.sl)) (by omega)) ?_ rfl rfl
         rintro e w342 ⟨cs60, fp60, rfl, hO60, x343⟩
         refine ⟨_, rfl, x343, ?_⟩
         have S := S.add (o := tyO partT _ _) x343 hO60
         have B := bx Hb B x343
         obtain ⟨u60_3, heq, S2⟩ := S.partOpen
         subst heq
         have S := S2
         clear S2
         refine t_lit1 (fun w => bs_part1 _ _ _ _ w) rfl ?_ rfl rfl
         intro A61 w344 x345 hA61
         have B := bx Hb B x345
         have S := S.below x345
         have S := S.partShut (x := makePart s20 y59 0)
         have S := S.f3
         refine t_snoc e_part S hA61 rfl rfl rfl (by first | omega | (simp; done) | (simp; omega)) (by (simp only [maxLen]); first | omega | (simp; done) | (simp; omega)) ?_ rfl
         intro v62 w346 x347 S
         have B := B.trans x347
         refine t_y fb_path_0 rfl rfl ?_ rfl
         obtain ⟨Av62, cv62, rfl, _⟩ := S.sl.form
         have S := S.f3
         refine t_st1 S sb_s_part rfl rfl rfl rfl rfl ?_
         intro w348 b349 S
         have B := B.trans b349
         refine t_d' ?_
         have S := S.f3.tail.f13.f13.f13.f13.f13.f7.f13.f13.f13.f13.f13.f13.f12.f13
         refine x_cut (X := Path × Value) ([] ++ [makePart s20 y59 0], .slice Av62 (([]) ++ [makePart s20 y59 0]).length cv62) ?_ ?_
         rotate_left
         ·exact ⟨rfl, rfl, rfl, rfl, rfl, rfl, rfl, rfl, trivial⟩
         try dsimp only
         have hy : 1 ≤ y59 ∧ y59 ≤ 4 := by simp at hf59; omega
         exact ⟨⟨by simp, PathK.two (by simp) (PathK.one hf20 hy.1 hy.2)⟩, B, S⟩
        ·have S := S.f1
         refine t_f Tryz.call115 rfl (spec_l1Int S (K.below B) (by simp)) ?_ rfl
         rintro e w350 ⟨y59, rfl, hf59, S, x351⟩
         refine ⟨_, rfl, ?_⟩
         have B := B.trans x351
         refine t_alt ?_ ?_
         ·refine t_bx1 S.tail.tail.tail.box ab_s_part rfl rfl ?_ rfl
          refine t_c Tryz.call114 rfl (spec_MakePart s20 _ _ _ _ (seg_mkv (S.t4.t4.sl)) (by omega)) ?_ rfl rfl
          rintro e w352 ⟨cs60, fp60, rfl, hO60, x353⟩
          refine ⟨_, rfl, x353, ?_⟩
          have S := S.add (o := tyO partT _ _) x353 hO60
          have B := bx Hb B x353
          obtain ⟨u60_3, heq, S2⟩ := S.partOpen
          subst heq
          have S := S2
          clear S2
          refine t_lit1 (fun w => bs_part1 _ _ _ _ w) rfl ?_ rfl rfl
          intro A61 w354 x355 hA61
          have B := bx Hb B x355
          have S := S.below x355
          have S := S.partShut (x := makePart s20 y59 0)
          have S := S.f3
          refine t_snoc e_part S hA61 rfl rfl rfl (by first | omega | (simp; done) | (simp; omega)) (by (simp only [maxLen]); first | omega | (simp; done) | (simp; omega)) ?_ rfl
          intro v62 w356 x357 S
          have B := B.trans x357
          refine t_y fb_path_0 rfl rfl ?_ rfl
          obtain ⟨Av62, cv62, rfl, _⟩ := S.sl.form
          have S := S.f3
          refine t_st1 S sb_s_part rfl rfl rfl rfl rfl ?_
          intro w358 b359 S
          have B := B.trans b359
          refine t_d' ?_
          have S := S.f3.tail.f13.f13.f13.f13.f13.f7.f13.f13.f13.f13.f13.f13.f12.f13
          refine x_cut (X := Path × Value) ([] ++ [makePart s20 y59 0], .slice Av62 (([]) ++ [makePart s20 y59 0]).length cv62) ?_ ?_
          rotate_left
          ·exact ⟨rfl, rfl, rfl, rfl, rfl, rfl, rfl, rfl, trivial⟩
          try dsimp only
          have hy : 1 ≤ y59 ∧ y59 ≤ 4 := by simp at hf59; omega
          exact ⟨⟨by simp, PathK.two (by simp) (PathK.one hf20 hy.1 hy.2)⟩, B, S⟩
         ·refine t_c Tryz.call114 rfl (spec_MakePart s20 _ _ _ _ (seg_mkv (S.t4.t4.sl)) (by omega)) ?_ rfl rfl
          rintro e w360 ⟨cs60, fp60, rfl, hO60, x361⟩
          refine ⟨_, rfl, x361, ?_⟩
          have S := S.add (o := tyO partT _ _) x361 hO60
          have B := bx Hb B x361
          obtain ⟨u60_3, heq, S2⟩ := S.partOpen
          subst heq
          have S := S2
          clear S2
          refine t_alt ?_ ?_
          ·refine t_bx1 S.t4.box ab_s_part rfl rfl ?_ rfl
           refine t_lit1 (fun w => bs_part1 _ _ _ _ w) rfl ?_ rfl rfl
           intro A61 w362 x363 hA61
           have B := bx Hb B x363
           have S := S.below x363
           have S := S.partShut (x := makePart s20 y59 0)
           have S := S.f3
           refine t_snoc e_part S hA61 rfl rfl rfl (by first | omega | (simp; done) | (simp; omega)) (by (simp only [maxLen]); first | omega | (simp; done) | (simp; omega)) ?_ rfl
           intro v62 w364 x365 S
           have B := B.trans x365
           refine t_y fb_path_0 rfl rfl ?_ rfl
           obtain ⟨Av62, cv62, rfl, _⟩ := S.sl.form
           have S := S.f3
           refine t_st1 S sb_s_part rfl rfl rfl rfl rfl ?_
           intro w366 b367 S
           have B := B.trans b367
           refine t_d' ?_
           have S := S.f3.tail.f13.f13.f13.f13.f13.f7.f13.f13.f13.f13.f13.f13.f12.f13
           refine x_cut (X := Path × Value) ([] ++ [makePart s20 y59 0], .slice Av62 (([]) ++ [makePart s20 y59 0]).length cv62) ?_ ?_
           rotate_left
           ·exact ⟨rfl, rfl, rfl, rfl, rfl, rfl, rfl, rfl, trivial⟩
           try dsimp only
           have hy : 1 ≤ y59 ∧ y59 ≤ 4 := by simp at hf59; omega
           exact ⟨⟨by simp, PathK.two (by simp) (PathK.one hf20 hy.1 hy.2)⟩, B, S⟩
          ·refine t_lit1 (fun w => bs_part1 _ _ _ _ w) rfl ?_ rfl rfl
           intro A61 w368 x369 hA61
           have B := bx Hb B x369
           have S := S.below x369
           refine t_bx1 S.t4.box ab_s_part rfl rfl ?_ rfl
           have S := S.partShut (x := makePart s20 y59 0)
           have S := S.f3
           refine t_snoc e_part S hA61 rfl rfl rfl (by first | omega | (simp; done) | (simp; omega)) (by (simp only [maxLen]); first | omega | (simp; done) | (simp; omega)) ?_ rfl
           intro v62 w370 x371 S
           have B := B.trans x371
           refine t_y fb_path_0 rfl rfl ?_ rfl
           obtain ⟨Av62, cv62, rfl, _⟩ := S.sl.form
           have S := S.f3
           refine t_st1 S sb_s_part rfl rfl rfl rfl rfl ?_
           intro w372 b373 S
           have B := B.trans b373
           refine t_d' ?_
           have S := S.f3.tail.f13.f13.f13.f13.f13.f7.f13.f13.f13.f13.f13.f13.f12.f13
           refine x_cut (X := Path × Value) ([] ++ [makePart s20 y59 0], .slice Av62 (([]) ++ [makePart s20 y59 0]).length cv62) ?_ ?_
           rotate_left
           ·exact ⟨rfl, rfl, rfl, rfl, rfl, rfl, rfl, rfl, trivial⟩
           try dsimp only
           have hy : 1 ≤ y59 ∧ y59 ≤ 4 := by simp at hf59; omega
           exact ⟨⟨by simp, PathK.two (by simp) (PathK.one hf20 hy.1 hy.2)⟩, B, S⟩
       ·have S := S.f1
        refine t_f Tryz.call115 rfl (spec_l1Int S (K.below B) (by simp)) ?_ rfl
        rintro e w374 ⟨y59, rfl, hf59, S, x375⟩
        refine ⟨_, rfl, ?_⟩
        have B := B.trans x375
        refine t_alt ?_ ?_
        ·refine t_bx1 S.tail.tail.tail.box ab_s_part rfl rfl ?_ rfl
         refine t_b S.t4.t4.tail.box ab_seg sb_seg rfl rfl ?_ rfl
         refine t_c Tryz.call114 rfl (spec_MakePart s20 _ _ _ _ (seg_mkv (S.t4.t4.sl)) (by omega)) ?_ rfl rfl
         rintro e w376 ⟨cs60, fp60, rfl, hO60, x377⟩
         refine ⟨_, rfl, x377, ?_⟩
         have S := S.add (o := tyO partT _ _) x377 hO60
         have B := bx Hb B x377
         obtain ⟨u60_3, heq, S2⟩ := S.partOpen
         subst heq
         have S := S2
         clear S2
         refine t_lit1 (fun w => bs_part1 _ _ _ _ w) rfl ?_ rfl rfl
         intro A61 w378 x379 hA61
         have B := bx Hb B x379
         have S := S.below x379
         have S := S.partShut (x := makePart s20 y59 0)
         have S := S.f3
         refine t_snoc e_part S hA61 rfl rfl rfl (by first | omega | (simp; done) | (simp; omega)) (by (simp only [maxLen]); first | omega | (simp; done) | (simp; omega)) ?_ rfl
         intro v62 w380 x381 S
         have B := B.trans x381
         refine t_y fb_path_0 rfl rfl ?_ rfl
         obtain ⟨Av62, cv62, rfl, _⟩ := S.sl.form
         have S := S.f3
         refine t_st1 S sb_s_part rfl rfl rfl rfl rfl ?_
         intro w382 b383 S
         have B := B.trans b383
         refine t_d' ?_
         have S := S.f3.tail.f13.f13.f13.f13.f13.f7.f13.f13.f13.f13.f13.f13.f12.f13
         refine x_cut (X := Path × Value) ([] ++ [makePart s20 y59 0], .slice Av62 (([]) ++ [makePart s20 y59 0]).length cv62) ?_ ?_
         rotate_left
         ·exact ⟨rfl, rfl, rfl, rfl, rfl, rfl, rfl, rfl, trivial⟩
         try dsimp only
         have hy : 1 ≤ y59 ∧ y59 ≤ 4 := by simp at hf59; omega
         exact ⟨⟨by simp, PathK.two (by simp) (PathK.one hf20 hy.1 hy.2)⟩, B, S⟩
        ·refine t_b S.t4.t4.tail.box ab_seg sb_seg rfl rfl ?_ rfl
         refine t_alt ?_ ?_
         ·refine t_bx1 S.tail.tail.tail.box ab_s_part rfl rfl ?_ rfl
          refine t_c Tryz.call114 rfl (spec_MakePart s20 _ _ _ _ (seg_mkv (S.t4.t4.sl)) (by omega)) ?_ rfl rfl
          rintro e w384 ⟨cs60, fp60, rfl, hO60, x385⟩
          refine ⟨_, rfl, x385, ?_⟩
          have S := S.add (o := tyO partT _ _) x385 hO60
          have B := bx Hb B x385
          obtain ⟨u60_3, heq, S2⟩ := S.partOpen
          subst heq
          have S := S2
          clear S2
          refine t_lit1 (fun w => bs_part1 _ _ _ _ w) rfl ?_ rfl rfl
          intro A61 w386 x387 hA61
          have B := bx Hb B x387
          have S := S.below x387
          have S := S.partShut (x := makePart s20 y59 0)
          have S := S.f3
          refine t_snoc e_part S hA61 rfl rfl rfl (by first | omega | (simp; done) | (simp; omega)) (by (simp only [maxLen]); first | omega | (simp; done) | (simp; omega)) ?_ rfl
          intro v62 w388 x389 S
          have B := B.trans x389
          refine t_y fb_path_0 rfl rfl ?_ rfl
          obtain ⟨Av62, cv62, rfl, _⟩ := S.sl.form
          have S := S.f3
          refine t_st1 S sb_s_part rfl rfl rfl rfl rfl ?_
          intro w390 b391 S
          have B := B.trans b391
          refine t_d' ?_
          have S := S.f3.tail.f13.f13.f13.f13.f13.f7.f13.f13.f13.f13.f13.f13.f12.f13
          refine x_cut (X := Path × Value) ([] ++ [makePart s20 y59 0], .slice Av62 (([]) ++ [makePart s20 y59 0]).length cv62) ?_ ?_
          rotate_left
          ·exact ⟨rfl, rfl, rfl, rfl, rfl, rfl, rfl, rfl, trivial⟩
          try dsimp only
          have hy : 1 ≤ y59 ∧ y59 ≤ 4 := by simp at hf59; omega
          exact ⟨⟨by simp, PathK.two (by simp) (PathK.one hf20 hy.1 hy.2)⟩, B, S⟩
         ·refine t_c Tryz.call114 rfl (spec_MakePart s20 _ _ _ _ (seg_mkv (S.t4.t4.sl)) (by omega)) ?_ rfl rfl
          rintro e w392 ⟨cs60, fp60, rfl, hO60, x393⟩
          refine ⟨_, rfl, x393, ?_⟩
          have S := S.add (o := tyO partT _ _) x393 hO60
          have B := bx Hb B x393
          obtain ⟨u60_3, heq, S2⟩ := S.partOpen
          subst heq
          have S := S2
          clear S2
          refine t_alt ?_ ?_
          ·refine t_bx1 S.t4.box ab_s_part rfl rfl ?_ rfl
           refine t_lit1 (fun w => bs_part1 _ _ _ _ w) rfl ?_ rfl rfl
           intro A61 w394 x395 hA61
           have B := bx Hb B x395
           have S := S.below x395
           have S := S.partShut (x := makePart s20 y59 0)
           have S := S.f3
           refine t_snoc e_part S hA61 rfl rfl rfl (by first | omega | (simp; done) | (simp; omega)) (by (simp only [maxLen]); first | omega | (simp; done) | (simp; omega)) ?_ rfl
           intro v62 w396 x397 S
           have B := B.trans x397
           refine t_y fb_path_0 rfl rfl ?_ rfl
           obtain ⟨Av62, cv62, rfl, _⟩ := S.sl.form
           have S := S.f3
           refine t_st1 S sb_s_part rfl rfl rfl rfl rfl ?_
           intro w398 b399 S
           have B := B.trans b399
           refine t_d' ?_
           have S := S.f3.tail.f13.f13.f13.f13.f13.f7.f13.f13.f13.f13.f13.f13.f12.f13
           refine x_cut (X := Path × Value) ([] ++ [makePart s20 y59 0], .slice Av62 (([]) ++ [makePart s20 y59 0]).length cv62) ?_ ?_
           rotate_left
           ·exact ⟨rfl, rfl, rfl, rfl, rfl, rfl, rfl, rfl, trivial⟩
           try dsimp only
           have hy : 1 ≤ y59 ∧ y59 ≤ 4 := by simp at hf59; omega
           exact ⟨⟨by simp, PathK.two (by simp) (PathK.one hf20 hy.1 hy.2)⟩, B, S⟩
          ·refine t_lit1 (fun w => bs_part1 _ _ _ _ w) rfl ?_ rfl rfl
           intro A61 w400 x401 hA61
           have B := bx Hb B x401
           have S := S.below x401
           refine t_bx1 S.t4.box ab_s_part rfl rfl ?_ rfl
           have S := S.partShut (x := makePart s20 y59 0)
           have S := S.f3
           refine t_snoc e_part S hA61 rfl rfl rfl (by first | omega | (simp; done) | (simp; omega)) (by (simp only [maxLen]); first | omega | (simp; done) | (simp; omega)) ?_ rfl
           intro v62 w402 x403 S
           have B := B.trans x403
           refine t_y fb_path_0 rfl rfl ?_ rfl
           obtain ⟨Av62, cv62, rfl, _⟩ := S.sl.form
           have S := S.f3
           refine t_st1 S sb_s_part rfl rfl rfl rfl rfl ?_
           intro w404 b405 S
           have B := B.trans b405
           refine t_d' ?_
           have S := S.f3.tail.f13.f13.f13.f13.f13.f7.f13.f13.f13.f13.f13.f13.f12.f13
           refine x_cut (X := Path × Value) ([] ++ [makePart s20 y59 0], .slice Av62 (([]) ++ [makePart s20 y59 0]).length cv62) ?_ ?_
           rotate_left
           ·exact ⟨rfl, rfl, rfl, rfl, rfl, rfl, rfl, rfl, trivial⟩
           try dsimp only
           have hy : 1 ≤ y59 ∧ y59 ≤ 4 := by simp at hf59; omega
           exact ⟨⟨by simp, PathK.two (by simp) (PathK.one hf20 hy.1 hy.2)⟩, B, S⟩
     ·intro hp
      refine w_k ?_
      have S := S.f13.f13.f13.f13.f13.f5.f13.f13.f13.f13.f13.f13.f13.f13
      refine x_cut (X := Path × Value) ([], .slice none 0 0) ?_ ?_
      rotate_left
      ·exact ⟨rfl, rfl, rfl, rfl, rfl, rfl, rfl, rfl, trivial⟩
      try dsimp only
      exact ⟨⟨by simp, by simp⟩, B, S⟩
    rintro ⟨q, vq⟩ w406 hI
    try dsimp only at hI ⊢
    obtain ⟨⟨hq1, hq2⟩, B, S⟩ := hI
    refine w_s ?_
    refine w_drawP [] (.alt (.st .fin 0 (.alt (.st .fin 1 (.st .fin 2 (.st .fin 3 .done))) (.st .fin 2 (.st .fin 1 (.st .fin 3 .done))))) (.st .fin 1 (.st .fin 0 (.st .fin 2 (.st .fin 3 .done))))) mixed (by kernel_rfl) ?_
    intro w407 x408
    have B := bx Hb B x408
    have S := S.below x408
    refine t_alt ?_ ?_
    ·refine t_b S.t4.t4.tail.tail.tail.box ab_topo sb_topo rfl rfl ?_ rfl
     refine t_alt ?_ ?_
     ·refine t_b S.tail.box ab_path sb_path rfl rfl ?_ rfl
      have S := S.f13
      refine t_stn S sb_topo rfl rfl rfl rfl (by repeat first | exact oc0 | refine oc rfl ?_ | refine oc (SlR.cells S.t4.t4.tail.tail.sl).2 ?_ | refine oc (SlR.cells S.t4.t4.tail.tail.tail.sl).2 ?_) ?_
      intro w409 b410 S
      have B := B.trans b410
      have S := S.f13
      refine t_stn S sb_path rfl rfl rfl rfl (by repeat first | exact oc0 | refine oc rfl ?_ | refine oc (SlR.cells S.tail.tail.sl).2 ?_) ?_
      intro w411 b412 S
      have B := B.trans b412
      refine t_d' ?_
      refine x_s ?_
      refine w_r ?_
      refine x_block_ret ?_
      refine x_t ?_
      refine x_retcc rfl rfl S.tail.box ab_topo sb_topo rfl rfl S.box ab_path sb_path rfl ?_
      have S := S.tail.tail.f1.tail.f1.tail.f1.tail.f1.tail.f1.tail.f1.tail.f1.tail.f4.tail.f1.f3.f3.f3
      exact ⟨_, _, _, _, _, q, rfl, ⟨T, by omega, hq2⟩, S, B⟩
     ·have S := S.f13
      refine t_stn S sb_topo rfl rfl rfl rfl (by repeat first | exact oc0 | refine oc rfl ?_ | refine oc (SlR.cells S.t4.t4.tail.tail.sl).2 ?_ | refine oc (SlR.cells S.t4.t4.tail.tail.tail.sl).2 ?_) ?_
      intro w413 b414 S
      have B := B.trans b414
      refine t_b S.tail.tail.box ab_path sb_path rfl rfl ?_ rfl
      have S := S.f13
      refine t_stn S sb_path rfl rfl rfl rfl (by repeat first | exact oc0 | refine oc rfl ?_ | refine oc (SlR.cells S.tail.tail.sl).2 ?_) ?_
      intro w415 b416 S
      have B := B.trans b416
      refine t_d' ?_
      refine x_s ?_
      refine w_r ?_
      refine x_block_ret ?_
      refine x_t ?_
      refine x_retcc rfl rfl S.tail.box ab_topo sb_topo rfl rfl S.box ab_path sb_path rfl ?_
      have S := S.tail.tail.f1.tail.f1.tail.f1.tail.f1.tail.f1.tail.f1.tail.f1.tail.f4.tail.f1.f3.f3.f3
      exact ⟨_, _, _, _, _, q, rfl, ⟨T, by omega, hq2⟩, S, B⟩
    ·refine t_b S.tail.box ab_path sb_path rfl rfl ?_ rfl
     refine t_b S.t4.t4.tail.tail.tail.box ab_topo sb_topo rfl rfl ?_ rfl
     have S := S.f13
     refine t_stn S sb_topo rfl rfl rfl rfl (by repeat first | exact oc0 | refine oc rfl ?_ | refine oc (SlR.cells S.t4.t4.tail.tail.sl).2 ?_ | refine oc (SlR.cells S.t4.t4.tail.tail.tail.sl).2 ?_) ?_
     intro w417 b418 S
     have B := B.trans b418
     have S := S.f13
     refine t_stn S sb_path rfl rfl rfl rfl (by repeat first | exact oc0 | refine oc rfl ?_ | refine oc (SlR.cells S.tail.tail.sl).2 ?_) ?_
     intro w419 b420 S
     have B := B.trans b420
     refine t_d' ?_
     refine x_s ?_
     refine w_r ?_
     refine x_block_ret ?_
     refine x_t ?_
     refine x_retcc rfl rfl S.tail.box ab_topo sb_topo rfl rfl S.box ab_path sb_path rfl ?_
     have S := S.tail.tail.f1.tail.f1.tail.f1.tail.f1.tail.f1.tail.f1.tail.f1.tail.f4.tail.f1.f3.f3.f3
     exact ⟨_, _, _, _, _, q, rfl, ⟨T, by omega, hq2⟩, S, B⟩
   ·intro h2
    refine w_k ?_
    refine x_b ?_
    refine x_s ?_
    refine w_s ?_
    refine w_cut (X := Seg × Value × Seg × Value) (fun x wq => (fun su vu sd vd => SegK ⟨A11, L11⟩ su ∧ SegK ⟨A11, L11⟩ sd ∧ Below b w wq ∧ Sep b wq (slO partT 82 (.slice none 0 0) [] :: bxO g8 30 #[(.slice none 0 0)] :: slO hopT 86 vu su.hops :: bxO g5 118 #[I su.ts, I su.beta, vu] :: slO hopT 86 vd sd.hops :: bxO g6 118 #[I sd.ts, I sd.beta, vd] :: slO hopT 86 vh20 s20.hops :: bxO g7 118 #[I s20.ts, I s20.beta, vh20] :: curO v n c 115 :: slO asnT 135 va11 A11 :: slO linkT 152 vl11 L11 :: bxO g4 27 #[va11, vl11] :: bxO g3 30 #[.slice none 0 0] :: bxO g2 27 #[.slice none 0 0, .slice none 0 0] :: os)) x.1 x.2.1 x.2.2.1 x.2.2.2) (fun x => (fun su vu sd vd => [(2, .pointer (some ⟨g2, 0, none⟩)), (3, .pointer (some ⟨g3, 0, none⟩)), (4, .pointer (some ⟨g4, 0, none⟩)), (5, .pointer (some ⟨g5, 0, none⟩)), (6, .pointer (some ⟨g6, 0, none⟩)), (7, .pointer (some ⟨g7, 0, none⟩)), (8, .pointer (some ⟨g8, 0, none⟩))]) x.1 x.2.1 x.2.2.1 x.2.2.2) ?_ ?_
    ·refine w_s ?_
     refine w_g ?_
     refine t_a rfl ?_ rfl
     refine t_d ?_
     refine x_s ?_
     refine w_block ?_
     have S := S.f13.f13.f13.f13.f13.f5.f13.f13.f13.f13.f13.f13.f13.f13
     refine w_loop (X := Nat × Seg × Value × Seg × Value) (fun x wq => (fun k su vu sd vd => k ≤ 6 ∧ SegK ⟨A11, L11⟩ su ∧ SegK ⟨A11, L11⟩ sd ∧ Below b w wq ∧ Sep b wq (slO partT 82 (.slice none 0 0) [] :: bxO g8 30 #[(.slice none 0 0)] :: slO hopT 86 vu su.hops :: bxO g5 118 #[I su.ts, I su.beta, vu] :: slO hopT 86 vd sd.hops :: bxO g6 118 #[I sd.ts, I sd.beta, vd] :: slO hopT 86 vh20 s20.hops :: bxO g7 118 #[I s20.ts, I s20.beta, vh20] :: curO v n c 115 :: slO asnT 135 va11 A11 :: slO linkT 152 vl11 L11 :: bxO g4 27 #[va11, vl11] :: bxO g3 30 #[.slice none 0 0] :: bxO g2 27 #[.slice none 0 0, .slice none 0 0] :: os)) x.1 x.2.1 x.2.2.1 x.2.2.2.1 x.2.2.2.2) (fun x => (fun k su vu sd vd => [(9, I ((k : Int))), (0, .pointer (some ⟨c, 0, none⟩)), (2, .pointer (some ⟨g2, 0, none⟩)), (3, .pointer (some ⟨g3, 0, none⟩)), (4, .pointer (some ⟨g4, 0, none⟩)), (5, .pointer (some ⟨g5, 0, none⟩)), (6, .pointer (some ⟨g6, 0, none⟩)), (7, .pointer (some ⟨g7, 0, none⟩)), (8, .pointer (some ⟨g8, 0, none⟩))]) x.1 x.2.1 x.2.2.1 x.2.2.2.1 x.2.2.2.2) (fun x => (fun k su vu sd vd => 6 - k) x.1 x.2.1 x.2.2.1 x.2.2.2.1 x.2.2.2.2) (0, s14, vh14, s17, vh17) ?_ ⟨rfl, rfl, rfl, rfl, rfl, rfl, rfl, rfl, rfl, trivial⟩ ?_
     ·exact ⟨by omega, hf14, hf17, B, S⟩
     rintro ⟨k, su, vu, sd, vd⟩ w421 hI
     try dsimp only at hI ⊢
     obtain ⟨hk, hsu, hsd, B, S⟩ := hI
     have hlu := hsu.len
     have hld := hsd.len
     iterate 2 refine w_s ?_
     refine w_g ?_
     refine t_m rfl ?_ rfl
     refine t_lss rfl rfl ?_ rfl
     refine t_m rfl ?_ rfl
     refine t_partp (t := 68) rfl ?_ ?_
     ·intro h3
      refine t_on rfl rfl ?_
      refine t_y fb_seg_2 rfl rfl ?_ rfl
      refine t_on rfl rfl ?_
      refine t_bx1 S.t4.tail.tail.tail.box ab_s_hop rfl rfl ?_ rfl
      refine t_on rfl rfl ?_
      refine t_len e_hop (S.t4.tail.tail.sl) rfl rfl ?_ rfl
      refine t_on rfl rfl ?_
      refine t_gtr rfl rfl ?_ rfl
      refine t_q rfl rfl ?_ rfl
      refine t_d ?_
      refine x_s ?_
      refine w_if rfl ?_ ?_
      ·intro h4
       refine w_k ?_
       refine x_s ?_
       refine w_s ?_
       refine w_block ?_
       refine w_s ?_
       refine w_cut (X := Seg × Value) (fun x wq => (fun su2 vu2 => SegK ⟨A11, L11⟩ su2 ∧ Below b w wq ∧ Sep b wq (slO partT 82 (.slice none 0 0) [] :: bxO g8 30 #[(.slice none 0 0)] :: slO hopT 86 vu2 su2.hops :: bxO g5 118 #[I su2.ts, I su2.beta, vu2] :: slO hopT 86 vd sd.hops :: bxO g6 118 #[I sd.ts, I sd.beta, vd] :: slO hopT 86 vh20 s20.hops :: bxO g7 118 #[I s20.ts, I s20.beta, vh20] :: curO v n c 115 :: slO asnT 135 va11 A11 :: slO linkT 152 vl11 L11 :: bxO g4 27 #[va11, vl11] :: bxO g3 30 #[.slice none 0 0] :: bxO g2 27 #[.slice none 0 0, .slice none 0 0] :: os)) x.1 x.2) (fun x => (fun su2 vu2 => [(9, I ((k : Int))), (0, .pointer (some ⟨c, 0, none⟩)), (2, .pointer (some ⟨g2, 0, none⟩)), (3, .pointer (some ⟨g3, 0, none⟩)), (4, .pointer (some ⟨g4, 0, none⟩)), (5, .pointer (some ⟨g5, 0, none⟩)), (6, .pointer (some ⟨g6, 0, none⟩)), (7, .pointer (some ⟨g7, 0, none⟩)), (8, .pointer (some ⟨g8, 0, none⟩))]) x.1 x.2) ?_ ?_
       ·refine w_s ?_
        refine w_draw (.st .take 0 (.st .take 1 (.st .take 2 (.st .take 3 (.st .take 4 (.st .take 5 (.st .take 7 (.st .run 6 (.st .run 8 (.st .take 9 (.st .take 10 .done))))))))))) mixed (by kernel_rfl) ?_
        intro w422 x423
        have B := bx Hb B x423
        have S := S.below x423
        refine t_y fb_seg_2 rfl rfl ?_ rfl
        refine t_bx1 S.tail.tail.tail.box ab_s_hop rfl rfl ?_ rfl
        refine t_len e_hop (S.tail.tail.sl) rfl rfl ?_ rfl
        refine t_gtr rfl rfl ?_ rfl
        refine t_m rfl ?_ rfl
        refine t_partp (t := 80) rfl ?_ ?_
        ·intro hc1
         refine t_on rfl rfl ?_
         refine t_b S.tail.tail.tail.box ab_seg sb_seg rfl rfl ?_ rfl
         refine t_on rfl rfl ?_
         refine t_b S.t4.tail.tail.tail.box ab_seg sb_seg rfl rfl ?_ rfl
         refine t_on rfl rfl ?_
         refine t_x Tryz.call116 rfl (spec_FirstAS su _ _ (seg_mkv (S.tail.tail.sl)) (by omega)) ?_ rfl rfl
         intro w424 x425
         have B := bx Hb B x425
         have S := S.below x425
         refine t_on rfl rfl ?_
         refine t_x Tryz.call116 rfl (spec_FirstAS s20 _ _ (seg_mkv (S.t4.tail.tail.sl)) (by omega)) ?_ rfl rfl
         intro w426 x427
         have B := bx Hb B x427
         have S := S.below x427
         refine t_on rfl rfl ?_
         refine t_neq rfl rfl ?_ rfl
         refine t_q rfl rfl ?_ rfl
         refine t_d' ?_
         refine x_s ?_
         refine w_if rfl ?_ ?_
         ·intro hc2
          refine w_g ?_
          refine t_m rfl ?_ rfl
          refine t_b S.t4.t4.tail.tail.tail.box ab_topo sb_topo rfl rfl ?_ rfl
          have S := S.f10.f10.f10
          refine t_f Tryz.call112 rfl (spec_l9Grow 2 T S (K.below B)) ?_ rfl
          rintro e w428 ⟨vh89, s89, rfl, hf89, S, x429⟩
          refine ⟨_, rfl, ?_⟩
          have B := B.trans x429
          have S := S.f7
          refine t_stn S sb_seg rfl rfl rfl rfl (by repeat first | exact oc0 | refine oc rfl ?_ | refine oc (SlR.cells S.tail.sl).2 ?_) ?_
          intro w430 b431 S
          have B := B.trans b431
          refine t_d ?_
          have S := S.f7.tail.f13.f13.f13.f7.f7.f7.f13.f13.f13.f13.f10.f11.f13.f13
          refine x_cut (X := Seg × Value) (s89, vh89) ?_ ?_
          rotate_left
          ·exact ⟨rfl, rfl, rfl, rfl, rfl, rfl, rfl, rfl, rfl, trivial⟩
          try dsimp only
          exact ⟨by assumption, B, S⟩
         ·intro hc3
          refine w_k ?_
          refine x_cut (X := Seg × Value) (su, vu) ?_ ?_
          rotate_left
          ·exact ⟨rfl, rfl, rfl, rfl, rfl, rfl, rfl, rfl, rfl, trivial⟩
          try dsimp only
          exact ⟨by assumption, B, S⟩
        ·intro hc4
         iterate 5 refine t_off rfl rfl rfl ?_ rfl
         refine t_p rfl rfl ?_ rfl
         refine t_d' ?_
         refine x_s ?_
         refine w_no rfl ?_
         refine w_k ?_
         refine x_cut (X := Seg × Value) (su, vu) ?_ ?_
         rotate_left
         ·exact ⟨rfl, rfl, rfl, rfl, rfl, rfl, rfl, rfl, rfl, trivial⟩
         try dsimp only
         exact ⟨by assumption, B, S⟩
       rintro ⟨su2, vu2⟩ w432 hI
       try dsimp only at hI ⊢
       obtain ⟨hsu2, B, S⟩ := hI
       refine w_s ?_
       refine w_draw (.st .take 0 (.st .take 1 (.st .take 2 (.st .take 3 (.st .take 4 (.st .take 5 (.st .take 7 (.st .run 6 (.st .run 8 (.st .take 9 (.st .take 10 .done))))))))))) mixed (by kernel_rfl) ?_
       intro w433 x434
       have B := bx Hb B x434
       have S := S.below x434
       refine t_y fb_seg_2 rfl rfl ?_ rfl
       refine t_bx1 S.t4.tail.box ab_s_hop rfl rfl ?_ rfl
       refine t_len e_hop (S.t4.sl) rfl rfl ?_ rfl
       refine t_gtr rfl rfl ?_ rfl
       refine t_m rfl ?_ rfl
       refine t_partp (t := 94) rfl ?_ ?_
       ·intro hc5
        refine t_on rfl rfl ?_
        refine t_b S.t4.tail.box ab_seg sb_seg rfl rfl ?_ rfl
        refine t_on rfl rfl ?_
        refine t_b S.t4.tail.tail.tail.box ab_seg sb_seg rfl rfl ?_ rfl
        refine t_on rfl rfl ?_
        refine t_x Tryz.call116 rfl (spec_FirstAS sd _ _ (seg_mkv (S.t4.sl)) (by omega)) ?_ rfl rfl
        intro w435 x436
        have B := bx Hb B x436
        have S := S.below x436
        refine t_on rfl rfl ?_
        refine t_x Tryz.call117 rfl (spec_LastAS s20 _ _ (seg_mkv (S.t4.tail.tail.sl)) (by omega)) ?_ rfl rfl
        intro w437 x438
        have B := bx Hb B x438
        have S := S.below x438
        refine t_on rfl rfl ?_
        refine t_neq rfl rfl ?_ rfl
        refine t_q rfl rfl ?_ rfl
        refine t_d' ?_
        refine x_s ?_
        refine w_if rfl ?_ ?_
        ·intro hc6
         refine w_g ?_
         refine t_m rfl ?_ rfl
         refine t_b S.t4.t4.tail.tail.tail.box ab_topo sb_topo rfl rfl ?_ rfl
         have S := S.f10.f10.f10
         refine t_f Tryz.call112 rfl (spec_l9Grow 2 T S (K.below B)) ?_ rfl
         rintro e w439 ⟨vh103, s103, rfl, hf103, S, x440⟩
         refine ⟨_, rfl, ?_⟩
         have B := B.trans x440
         have S := S.f9
         refine t_stn S sb_seg rfl rfl rfl rfl (by repeat first | exact oc0 | refine oc rfl ?_ | refine oc (SlR.cells S.tail.sl).2 ?_) ?_
         intro w441 b442 S
         have B := B.trans b442
         refine t_d ?_
         refine x_b ?_
         refine x_s ?_
         refine w_g ?_
         refine t_m rfl ?_ rfl
         refine t_add rfl rfl (by omega) ?_ rfl
         refine t_a rfl ?_ rfl
         refine t_d ?_
         have S := S.f9.tail.f13.f13.f13.f7.f7.f7.f13.f13.f8.f9.f13.f13.f13.f13
         refine x_r (X := Nat × Seg × Value × Seg × Value) (k + 1, su2, vu2, s103, vh103) ?_ (by exact ⟨rfl, rfl, rfl, rfl, rfl, rfl, rfl, rfl, rfl, trivial⟩) (by (try dsimp only); omega)
         try dsimp only
         exact ⟨by omega, by assumption, by assumption, B, S⟩
        ·intro hc7
         refine w_k ?_
         refine x_b ?_
         refine x_s ?_
         refine w_g ?_
         refine t_m rfl ?_ rfl
         refine t_add rfl rfl (by omega) ?_ rfl
         refine t_a rfl ?_ rfl
         refine t_d ?_
         refine x_r (X := Nat × Seg × Value × Seg × Value) (k + 1, su2, vu2, sd, vd) ?_ (by exact ⟨rfl, rfl, rfl, rfl, rfl, rfl, rfl, rfl, rfl, trivial⟩) (by (try dsimp only); omega)
         try dsimp only
         exact ⟨by omega, by assumption, by assumption, B, S⟩
       ·intro hc8
        iterate 5 refine t_off rfl rfl rfl ?_ rfl
        refine t_p rfl rfl ?_ rfl
        refine t_d' ?_
        refine x_s ?_
        refine w_no rfl ?_
        refine w_k ?_
        refine x_b ?_
        refine x_s ?_
        refine w_g ?_
        refine t_m rfl ?_ rfl
        refine t_add rfl rfl (by omega) ?_ rfl
        refine t_a rfl ?_ rfl
        refine t_d ?_
        refine x_r (X := Nat × Seg × Value × Seg × Value) (k + 1, su2, vu2, sd, vd) ?_ (by exact ⟨rfl, rfl, rfl, rfl, rfl, rfl, rfl, rfl, rfl, trivial⟩) (by (try dsimp only); omega)
        try dsimp only
        exact ⟨by omega, by assumption, by assumption, B, S⟩
      ·intro h4
       refine w_exit ?_
       iterate 2 refine x_then_exit ?_
       refine x_block_exit ?_
       refine x_cut (X := Seg × Value × Seg × Value) (su, vu, sd, vd) ?_ ?_
       rotate_left
       ·exact ⟨rfl, rfl, rfl, rfl, rfl, rfl, rfl, trivial⟩
       try dsimp only
       exact ⟨hsu, hsd, B, S⟩
     ·intro h3
      iterate 4 refine t_off rfl rfl rfl ?_ rfl
      refine t_p rfl rfl ?_ rfl
      refine t_d ?_
      refine x_s ?_
      refine w_no rfl ?_
      refine w_exit ?_
      iterate 2 refine x_then_exit ?_
      refine x_block_exit ?_
      refine x_cut (X := Seg × Value × Seg × Value) (su, vu, sd, vd) ?_ ?_
      rotate_left
      ·exact ⟨rfl, rfl, rfl, rfl, rfl, rfl, rfl, trivial⟩
      try dsimp only
      exact ⟨hsu, hsd, B, S⟩
    rintro ⟨su, vu, sd, vd⟩ w443 hI
    try dsimp only at hI ⊢
    obtain ⟨hsu, hsd, B, S⟩ := hI
    have hlu := hsu.len
    have hld := hsd.len
    refine w_s ?_
    refine w_cut (X := Path × Value) (fun x wq => (fun q1 vq1 => (List.length q1 ≤ 1 ∧ ∀ x ∈ q1, PartK ⟨A11, L11⟩ x) ∧ Below b w wq ∧ Sep b wq (slO partT 82 vq1 q1 :: bxO g8 30 #[vq1] :: slO hopT 86 vu su.hops :: bxO g5 118 #[I su.ts, I su.beta, vu] :: slO hopT 86 vd sd.hops :: bxO g6 118 #[I sd.ts, I sd.beta, vd] :: slO hopT 86 vh20 s20.hops :: bxO g7 118 #[I s20.ts, I s20.beta, vh20] :: curO v n c 115 :: slO asnT 135 va11 A11 :: slO linkT 152 vl11 L11 :: bxO g4 27 #[va11, vl11] :: bxO g3 30 #[.slice none 0 0] :: bxO g2 27 #[.slice none 0 0, .slice none 0 0] :: os)) x.1 x.2) (fun x => (fun q1 vq1 => [(2, .pointer (some ⟨g2, 0, none⟩)), (3, .pointer (some ⟨g3, 0, none⟩)), (4, .pointer (some ⟨g4, 0, none⟩)), (6, .pointer (some ⟨g6, 0, none⟩)), (7, .pointer (some ⟨g7, 0, none⟩)), (8, .pointer (some ⟨g8, 0, none⟩))]) x.1 x.2) ?_ ?_
    ·refine w_s ?_
     refine w_g ?_
     refine t_y fb_seg_2 rfl rfl ?_ rfl
     refine t_bx1 S.tail.tail.tail.box ab_s_hop rfl rfl ?_ rfl
     refine t_len e_hop (S.tail.tail.sl) rfl rfl ?_ rfl
     refine t_gtr rfl rfl ?_ rfl
     refine t_d ?_
     refine x_s ?_
     refine w_if rfl ?_ ?_
     ·intro hp
      refine w_draw (.st .take 0 (.st .take 1 (.st .take 2 (.st .run 3 (.st .run 4 (.st .fin 5 (.st .fin 6 (.st .fin 7 .done)))))))) mixed (by kernel_rfl) ?_
      intro w444 x445
      have B := bx Hb B x445
      have S := S.below x445
      refine t_y fb_path_0 rfl rfl ?_ rfl
      refine t_bx1 S.tail.box ab_s_part rfl rfl ?_ rfl
      refine t_b S.tail.tail.tail.box ab_seg sb_seg rfl rfl ?_ rfl
      refine t_c Tryz.call114 rfl (spec_MakePart su _ _ _ _ (seg_mkv (S.tail.tail.sl)) (by omega)) ?_ rfl rfl
      rintro e w446 ⟨cs111, fp111, rfl, hO111, x447⟩
      refine ⟨_, rfl, x447, ?_⟩
      have S := S.add (o := tyO partT _ _) x447 hO111
      have B := bx Hb B x447
      obtain ⟨u111_3, heq, S2⟩ := S.partOpen
      subst heq
      have S := S2
      clear S2
      refine t_lit1 (fun w => bs_part1 _ _ _ _ w) rfl ?_ rfl rfl
      intro A112 w448 x449 hA112
      have B := bx Hb B x449
      have S := S.below x449
      have S := S.partShut (x := makePart su 1 0)
      have S := S.f1
      refine t_snoc e_part S hA112 rfl rfl rfl (by first | omega | (simp; done) | (simp; omega)) (by (simp only [maxLen]); first | omega | (simp; done) | (simp; omega)) ?_ rfl
      intro v113 w450 x451 S
      have B := B.trans x451
      refine t_y fb_path_0 rfl rfl ?_ rfl
      obtain ⟨Av113, cv113, rfl, _⟩ := S.sl.form
      have S := S.f1
      refine t_st1 S sb_s_part rfl rfl rfl rfl rfl ?_
      intro w452 b453 S
      have B := B.trans b453
      refine t_d' ?_
      have S := S.f13.f13.f13.f13.f13.f13.f13.f13.f13.f13.f13.f13.f12.f13
      refine x_cut (X := Path × Value) ([] ++ [makePart su 1 0], .slice Av113 (([]) ++ [makePart su 1 0]).length cv113) ?_ ?_
      rotate_left
      ·exact ⟨rfl, rfl, rfl, rfl, rfl, rfl, trivial⟩
      try dsimp only
      exact ⟨⟨by first | (simp; done) | (rw [List.length_append, List.length_singleton]; omega), PathK.two (by simp) (PathK.one hsu (by omega) (by omega))⟩, B, S⟩
     ·intro hp
      refine w_k ?_
      refine x_cut (X := Path × Value) ([], .slice none 0 0) ?_ ?_
      rotate_left
      ·exact ⟨rfl, rfl, rfl, rfl, rfl, rfl, trivial⟩
      try dsimp only
      exact ⟨⟨by simp, by simp⟩, B, S⟩
    rintro ⟨q1, vq1⟩ w454 hI
    try dsimp only at hI ⊢
    obtain ⟨⟨hlq1, hq1⟩, B, S⟩ := hI
    refine w_s ?_
    refine w_cut (X := Path × Value) (fun x wq => (fun q2 vq2 => (List.length q2 ≤ 2 ∧ ∀ x ∈ q2, PartK ⟨A11, L11⟩ x) ∧ Below b w wq ∧ Sep b wq (slO partT 82 vq2 q2 :: bxO g8 30 #[vq2] :: slO hopT 86 vu su.hops :: bxO g5 118 #[I su.ts, I su.beta, vu] :: slO hopT 86 vd sd.hops :: bxO g6 118 #[I sd.ts, I sd.beta, vd] :: slO hopT 86 vh20 s20.hops :: bxO g7 118 #[I s20.ts, I s20.beta, vh20] :: curO v n c 115 :: slO asnT 135 va11 A11 :: slO linkT 152 vl11 L11 :: bxO g4 27 #[va11, vl11] :: bxO g3 30 #[.slice none 0 0] :: bxO g2 27 #[.slice none 0 0, .slice none 0 0] :: os)) x.1 x.2) (fun x => (fun q2 vq2 => [(2, .pointer (some ⟨g2, 0, none⟩)), (3, .pointer (some ⟨g3, 0, none⟩)), (4, .pointer (some ⟨g4, 0, none⟩)), (6, .pointer (some ⟨g6, 0, none⟩)), (8, .pointer (some ⟨g8, 0, none⟩))]) x.1 x.2) ?_ ?_
    ·refine w_s ?_
     refine w_g ?_
     refine t_y fb_seg_2 rfl rfl ?_ rfl
     refine t_bx1 S.t4.tail.tail.tail.box ab_s_hop rfl rfl ?_ rfl
     refine t_len e_hop (S.t4.tail.tail.sl) rfl rfl ?_ rfl
     refine t_gtr rfl rfl ?_ rfl
     refine t_d ?_
     refine x_s ?_
     refine w_if rfl ?_ ?_
     ·intro hp
      refine w_draw (.st .take 0 (.st .take 1 (.st .take 2 (.st .run 3 (.st .run 4 (.st .fin 5 (.st .fin 6 (.st .fin 7 .done)))))))) mixed (by kernel_rfl) ?_
      intro w455 x456
      have B := bx Hb B x456
      have S := S.below x456
      refine t_y fb_path_0 rfl rfl ?_ rfl
      refine t_bx1 S.tail.box ab_s_part rfl rfl ?_ rfl
      refine t_b S.t4.tail.tail.tail.box ab_seg sb_seg rfl rfl ?_ rfl
      refine t_c Tryz.call114 rfl (spec_MakePart s20 _ _ _ _ (seg_mkv (S.t4.tail.tail.sl)) (by omega)) ?_ rfl rfl
      rintro e w457 ⟨cs122, fp122, rfl, hO122, x458⟩
      refine ⟨_, rfl, x458, ?_⟩
      have S := S.add (o := tyO partT _ _) x458 hO122
      have B := bx Hb B x458
      obtain ⟨u122_3, heq, S2⟩ := S.partOpen
      subst heq
      have S := S2
      clear S2
      refine t_lit1 (fun w => bs_part1 _ _ _ _ w) rfl ?_ rfl rfl
      intro A123 w459 x460 hA123
      have B := bx Hb B x460
      have S := S.below x460
      have S := S.partShut (x := makePart s20 2 0)
      have S := S.f1
      refine t_snoc e_part S hA123 rfl rfl rfl (by first | omega | (simp; done) | (simp; omega)) (by (simp only [maxLen]); first | omega | (simp; done) | (simp; omega)) ?_ rfl
      intro v124 w461 x462 S
      have B := B.trans x462
      refine t_y fb_path_0 rfl rfl ?_ rfl
      obtain ⟨Av124, cv124, rfl, _⟩ := S.sl.form
      have S := S.f1
      refine t_st1 S sb_s_part rfl rfl rfl rfl rfl ?_
      intro w463 b464 S
      have B := B.trans b464
      refine t_d' ?_
      have S := S.f13.f13.f13.f13.f13.f13.f13.f13.f13.f13.f13.f13.f12.f13
      refine x_cut (X := Path × Value) (q1 ++ [makePart s20 2 0], .slice Av124 (q1 ++ [makePart s20 2 0]).length cv124) ?_ ?_
      rotate_left
      ·exact ⟨rfl, rfl, rfl, rfl, rfl, trivial⟩
      try dsimp only
      exact ⟨⟨by first | (simp; done) | (rw [List.length_append, List.length_singleton]; omega), PathK.two hq1 (PathK.one hf20 (by omega) (by omega))⟩, B, S⟩
     ·intro hp
      refine w_k ?_
      refine x_cut (X := Path × Value) (q1, vq1) ?_ ?_
      rotate_left
      ·exact ⟨rfl, rfl, rfl, rfl, rfl, trivial⟩
      try dsimp only
      exact ⟨⟨by omega, hq1⟩, B, S⟩
    rintro ⟨q2, vq2⟩ w465 hI
    try dsimp only at hI ⊢
    obtain ⟨⟨hlq2, hq2⟩, B, S⟩ := hI
    refine w_s ?_
    refine w_cut (X := Path × Value) (fun x wq => (fun q3 vq3 => (List.length q3 ≤ 3 ∧ ∀ x ∈ q3, PartK ⟨A11, L11⟩ x) ∧ Below b w wq ∧ Sep b wq (slO partT 82 vq3 q3 :: bxO g8 30 #[vq3] :: slO hopT 86 vu su.hops :: bxO g5 118 #[I su.ts, I su.beta, vu] :: slO hopT 86 vd sd.hops :: bxO g6 118 #[I sd.ts, I sd.beta, vd] :: slO hopT 86 vh20 s20.hops :: bxO g7 118 #[I s20.ts, I s20.beta, vh20] :: curO v n c 115 :: slO asnT 135 va11 A11 :: slO linkT 152 vl11 L11 :: bxO g4 27 #[va11, vl11] :: bxO g3 30 #[.slice none 0 0] :: bxO g2 27 #[.slice none 0 0, .slice none 0 0] :: os)) x.1 x.2) (fun x => (fun q3 vq3 => [(2, .pointer (some ⟨g2, 0, none⟩)), (3, .pointer (some ⟨g3, 0, none⟩)), (4, .pointer (some ⟨g4, 0, none⟩)), (8, .pointer (some ⟨g8, 0, none⟩))]) x.1 x.2) ?_ ?_
    ·refine w_s ?_
     refine w_g ?_
     refine t_y fb_seg_2 rfl rfl ?_ rfl
     refine t_bx1 S.t4.tail.box ab_s_hop rfl rfl ?_ rfl
     refine t_len e_hop (S.t4.sl) rfl rfl ?_ rfl
     refine t_gtr rfl rfl ?_ rfl
     refine t_d ?_
     refine x_s ?_
     refine w_if rfl ?_ ?_
     ·intro hp
      refine w_draw (.st .take 0 (.st .take 1 (.st .take 2 (.st .run 3 (.st .run 4 (.st .fin 5 (.st .fin 6 (.st .fin 7 .done)))))))) mixed (by kernel_rfl) ?_
      intro w466 x467
      have B := bx Hb B x467
      have S := S.below x467
      refine t_y fb_path_0 rfl rfl ?_ rfl
      refine t_bx1 S.tail.box ab_s_part rfl rfl ?_ rfl
      refine t_b S.t4.tail.box ab_seg sb_seg rfl rfl ?_ rfl
      refine t_c Tryz.call114 rfl (spec_MakePart sd _ _ _ _ (seg_mkv (S.t4.sl)) (by omega)) ?_ rfl rfl
      rintro e w468 ⟨cs133, fp133, rfl, hO133, x469⟩
      refine ⟨_, rfl, x469, ?_⟩
      have S := S.add (o := tyO partT _ _) x469 hO133
      have B := bx Hb B x469
      obtain ⟨u133_3, heq, S2⟩ := S.partOpen
      subst heq
      have S := S2
      clear S2
      refine t_lit1 (fun w => bs_part1 _ _ _ _ w) rfl ?_ rfl rfl
      intro A134 w470 x471 hA134
      have B := bx Hb B x471
      have S := S.below x471
      have S := S.partShut (x := makePart sd 4 0)
      have S := S.f1
      refine t_snoc e_part S hA134 rfl rfl rfl (by first | omega | (simp; done) | (simp; omega)) (by (simp only [maxLen]); first | omega | (simp; done) | (simp; omega)) ?_ rfl
      intro v135 w472 x473 S
      have B := B.trans x473
      refine t_y fb_path_0 rfl rfl ?_ rfl
      obtain ⟨Av135, cv135, rfl, _⟩ := S.sl.form
      have S := S.f1
      refine t_st1 S sb_s_part rfl rfl rfl rfl rfl ?_
      intro w474 b475 S
      have B := B.trans b475
      refine t_d' ?_
      have S := S.f13.f13.f13.f13.f13.f13.f13.f13.f13.f13.f13.f13.f12.f13
      refine x_cut (X := Path × Value) (q2 ++ [makePart sd 4 0], .slice Av135 (q2 ++ [makePart sd 4 0]).length cv135) ?_ ?_
      rotate_left
      ·exact ⟨rfl, rfl, rfl, rfl, trivial⟩
      try dsimp only
      exact ⟨⟨by first | (simp; done) | (rw [List.length_append, List.length_singleton]; omega), PathK.two hq2 (PathK.one hsd (by omega) (by omega))⟩, B, S⟩
     ·intro hp
      refine w_k ?_
      refine x_cut (X := Path × Value) (q2, vq2) ?_ ?_
      rotate_left
      ·exact ⟨rfl, rfl, rfl, rfl, trivial⟩
      try dsimp only
      exact ⟨⟨by omega, hq2⟩, B, S⟩
    rintro ⟨q3, vq3⟩ w476 hI
    try dsimp only at hI ⊢
    obtain ⟨⟨hlq3, hq3⟩, B, S⟩ := hI
    refine w_s ?_
    refine w_drawP [] (.alt (.st .fin 0 (.alt (.st .fin 1 (.st .fin 2 (.st .fin 3 .done))) (.st .fin 2 (.st .fin 1 (.st .fin 3 .done))))) (.st .fin 1 (.st .fin 0 (.st .fin 2 (.st .fin 3 .done))))) mixed (by kernel_rfl) ?_
    intro w477 x478
    have B := bx Hb B x478
    have S := S.below x478
    refine t_alt ?_ ?_
    ·refine t_b S.t4.t4.tail.tail.tail.box ab_topo sb_topo rfl rfl ?_ rfl
     refine t_alt ?_ ?_
     ·refine t_b S.tail.box ab_path sb_path rfl rfl ?_ rfl
      have S := S.f13
      refine t_stn S sb_topo rfl rfl rfl rfl (by repeat first | exact oc0 | refine oc rfl ?_ | refine oc (SlR.cells S.t4.t4.tail.tail.sl).2 ?_ | refine oc (SlR.cells S.t4.t4.tail.tail.tail.sl).2 ?_) ?_
      intro w479 b480 S
      have B := B.trans b480
      have S := S.f13
      refine t_stn S sb_path rfl rfl rfl rfl (by repeat first | exact oc0 | refine oc rfl ?_ | refine oc (SlR.cells S.tail.tail.sl).2 ?_) ?_
      intro w481 b482 S
      have B := B.trans b482
      refine t_d' ?_
      refine x_s ?_
      refine w_r ?_
      refine x_retcc rfl rfl S.tail.box ab_topo sb_topo rfl rfl S.box ab_path sb_path rfl ?_
      have S := S.tail.tail.f1.tail.f1.tail.f1.tail.f1.tail.f1.tail.f1.tail.f1.tail.f4.tail.f1.f3.f3.f3
      exact ⟨_, _, _, _, _, q3, rfl, ⟨T, by omega, hq3⟩, S, B⟩
     ·have S := S.f13
      refine t_stn S sb_topo rfl rfl rfl rfl (by repeat first | exact oc0 | refine oc rfl ?_ | refine oc (SlR.cells S.t4.t4.tail.tail.sl).2 ?_ | refine oc (SlR.cells S.t4.t4.tail.tail.tail.sl).2 ?_) ?_
      intro w483 b484 S
      have B := B.trans b484
      refine t_b S.tail.tail.box ab_path sb_path rfl rfl ?_ rfl
      have S := S.f13
      refine t_stn S sb_path rfl rfl rfl rfl (by repeat first | exact oc0 | refine oc rfl ?_ | refine oc (SlR.cells S.tail.tail.sl).2 ?_) ?_
      intro w485 b486 S
      have B := B.trans b486
      refine t_d' ?_
      refine x_s ?_
      refine w_r ?_
      refine x_retcc rfl rfl S.tail.box ab_topo sb_topo rfl rfl S.box ab_path sb_path rfl ?_
      have S := S.tail.tail.f1.tail.f1.tail.f1.tail.f1.tail.f1.tail.f1.tail.f1.tail.f4.tail.f1.f3.f3.f3
      exact ⟨_, _, _, _, _, q3, rfl, ⟨T, by omega, hq3⟩, S, B⟩
    ·refine t_b S.tail.box ab_path sb_path rfl rfl ?_ rfl
     refine t_b S.t4.t4.tail.tail.tail.box ab_topo sb_topo rfl rfl ?_ rfl
     have S := S.f13
     refine t_stn S sb_topo rfl rfl rfl rfl (by repeat first | exact oc0 | refine oc rfl ?_ | refine oc (SlR.cells S.t4.t4.tail.tail.sl).2 ?_ | refine oc (SlR.cells S.t4.t4.tail.tail.tail.sl).2 ?_) ?_
     intro w487 b488 S
     have B := B.trans b488
     have S := S.f13
     refine t_stn S sb_path rfl rfl rfl rfl (by repeat first | exact oc0 | refine oc rfl ?_ | refine oc (SlR.cells S.tail.tail.sl).2 ?_) ?_
     intro w489 b490 S
     have B := B.trans b490
     refine t_d' ?_
     refine x_s ?_
     refine w_r ?_
     refine x_retcc rfl rfl S.tail.box ab_topo sb_topo rfl rfl S.box ab_path sb_path rfl ?_
     have S := S.tail.tail.f1.tail.f1.tail.f1.tail.f1.tail.f1.tail.f1.tail.f1.tail.f4.tail.f1.f3.f3.f3
     exact ⟨_, _, _, _, _, q3, rfl, ⟨T, by omega, hq3⟩, S, B⟩
end Go.Proofs.YtdaecknfahgddaaGreat
namespace Go.Proofs.YtdaecknfahgddaaGreat
open Go.RowKit
set_option linter.unusedVariables false
/-- A slice that can be read as_ long as_ its blocks (all from b on) stay. -/
def rdO {α : Type} (T : Ty α) (v : Value) (l : List α) : Ow where
  P b w fp := (∀ x ∈ fp, b ≤ x ∧ x < w.heap.size) ∧ ∀ w', (∀ x ∈ fp, w'.heap[x]? = w.heap[x]?) → SlR T w' v l
  lt h := h.1
  keep := by
    rintro b w w' fp ⟨h1, h2⟩ k
    refine ⟨fun x hx => ⟨(h1 x hx).1, ?_⟩, fun w'' k2 => h2 w'' fun x hx => (k2 x hx).trans (k x hx)⟩
    have h3 := k x hx
    rw [Array.getElem?_eq_getElem (h1 x hx).2] at h3
    exact (Array.getElem?_eq_some_iff.1 h3).1
  mono := by
    rintro b b' w fp hb ⟨h1, h2⟩
    exact ⟨fun x hx => ⟨by have := (h1 x hx).1; omega, (h1 x hx).2⟩, h2⟩
section
variable {b : Nat} {w w' : World} {os : List Ow} {α : Type} {T : Ty α} {e : TypeId} {v v' : Value} {l l' : List α}
theorem Sep.toRd (f : ∀ w, SlR T w v l → SlR T w v' l') (S : Sep b w (slO T e v l :: os)) : Sep b w (rdO T v' l' :: os) :=
  S.conv fun fp h => ⟨(slO T e v l).lt h, fun w' k => f w' (SlO.read ((slO T e v l).keep h k))⟩
theorem Sep.rd (S : Sep b w (rdO T v l :: os)) : SlR T w v l := by
  obtain ⟨fp, _, h⟩ := S.head
  exact h w fun _ _ => rfl
theorem SepF.append {os' : List Ow} {g' g : List Nat} (h' : SepF b w os' g') (h : SepF b w os g) (hd : ∀ x ∈ g', x ∉ g) : SepF b w (os' ++ os) (g' ++ g) := by
  induction os' generalizing g' with
  | nil => rw [show g' = [] from h']; exact h
  | cons o t ih =>
    obtain ⟨f, k, rfl, h1, h2, h3⟩ := h'
    rw [List.append_assoc]
    refine ⟨f, k ++ g, rfl, h1, ih h2 fun x hx => hd x (List.mem_append.2 (.inr hx)), fun x hx hy => ?_⟩
    rcases List.mem_append.1 hy with hy | hy
    · exact h3 x hx hy
    · exact hd x (List.mem_append.2 (.inl hx)) hy
/-- What a call made, beside what there was. -/
theorem Sep.join2 {os' : List Ow} (h : Sep b w os) (x : Ext w w') (h' : Sep w.heap.size w' os') : Sep b w' (os' ++ os) := by
  obtain ⟨h1, g, h2⟩ := h
  obtain ⟨k1, g', k2⟩ := h'
  refine ⟨Nat.le_trans h1 x.size, g' ++ g, SepF.append (k2.mono h1) (h2.keep fun y hy => x.block y (h2.lt y hy).2) fun y hy hz => ?_⟩
  have := (k2.lt y hy).1
  have := (h2.lt y hz).2
  omega
end
end Go.Proofs.YtdaecknfahgddaaGreat
namespace Go.Proofs.YtdaecknfahgddaaGreat
open Go.RowKit
set_option linter.unusedVariables false
set_option maxRecDepth 20000
def Res (n : Int) : Prop := 0 ≤ n ∧ n ≤ 2147483646
theorem addM_in (b s : Int) : Res (addM b s) := by
  unfold addM Res
  split
  · constructor
    · exact Int.emod_nonneg _ (by omega)
    · have := Int.emod_lt_of_pos (b + s) (b := 2147483647) (by omega); omega
  · omega
theorem chain_in {b : Int} (hb : Res b) : ∀ l : List Int, Res (chainAdd b l) := by
  intro l
  unfold chainAdd
  induction l generalizing b with
  | nil => exact hb
  | cons a t ih => rw [List.foldl_cons]; exact ih (addM_in b a)
end Go.Proofs.YtdaecknfahgddaaGreat
namespace Go.Proofs.YtdaecknfahgddaaGreat
open Go.RowKit
set_option linter.unusedVariables false
section
variable {P : Program} {n : Nat} {ops : Array Oper} {Q : Exit → Act → World → Prop} {L : Frm} {w : World} {m : Md} {r : IT} {d : Nat} {ty : TypeId} {pos : String} {af : Array Edge} {b : Nat} {os : List Ow}
/-- A store of a struct of one cell into a box. -/
theorem t_stp {t tb : TypeId} {g j : Nat} {C : Array Value} {po xo : Operand} {x u c : Value} (S : Sep b w (bxO g tb C :: os)) (hs : sizeB P t = some 1) (hp : ev L po = some (.pointer (some ⟨g, j, none⟩))) (hx : ev L xo = some x) (hc : C[j]? = some c) (hu : u.oneCell' = true) (huc : x.cells = #[u])
    (k : ∀ w', Below b w w' → Sep b w' (bxO g tb (C.setIfInBounds j u) :: os) → WT P n ops Q r L w') : WT P n ops Q (.st .fin ⟨none, .store t po xo, ty, pos, af, none⟩ r) L w := by
  have hb := S.box
  refine t_store (w' := w.setCell ⟨g, j, none⟩ u) (fun a ha _ _ _ => ?_) (k _ ?_ (S.turn (fp' := fun _ _ => True) fun f hf => ?_))
  · simp [execOp, ha.ev hp, ha.ev hx, Instr.storeAt, Instr.sureAddr, storeVar, huc, run_sizeOf hs, storeCells, Addr.add, run_store1 hb hc hu]
  · obtain ⟨fp, _, hg, _⟩ := S.head
    exact (Below.refl _ _).setCell hg u
  · obtain ⟨h1, h2, h3⟩ := hf
    refine ⟨f, ⟨h1, h2, heap_set h3⟩, fun x hx => .inl hx, (Kept.refl _ _).setCell (by rw [h1]; simp) u⟩
end
theorem b_hop0 (w : World) : (Instr.build 86 #[]).run Tryz.prog w = .ok (.agg #[I 0, I 0, I 0, I 0, I 0]) w := by kernel_rfl
theorem b_pkt  (w : World) : (Instr.build 51 #[]).run Tryz.prog w = .ok (.agg #[I 0, I 0, I 0, .slice none 0 0, I 0, I 0, I 0, I 0, I 0, .slice none 0 0]) w := by kernel_rfl
theorem b_pkt_0_3_7_8_9 (a0 : Int) (A3 : Option Addr) (k3 q3 : Nat) (a7 : Int) (a8 : Int) (A9 : Option Addr) (k9 q9 : Nat) (w : World) : (Instr.build 51 #[(0, I a0), (3, .agg #[.slice A3 k3 q3]), (7, I a7), (8, I a8), (9, .slice A9 k9 q9)]).run Tryz.prog w = .ok (.agg #[I a0, I 0, I 0, .slice A3 k3 q3, I 0, I 0, I 0, I a7, I a8, .slice A9 k9 q9]) w := by kernel_rfl
theorem b_pkt_0_1_2_3_7_8_9 (a0 : Int) (a1 : Int) (a2 : Int) (A3 : Option Addr) (k3 q3 : Nat) (a7 : Int) (a8 : Int) (A9 : Option Addr) (k9 q9 : Nat) (w : World) : (Instr.build 51 #[(0, I a0), (1, I a1), (2, I a2), (3, .agg #[.slice A3 k3 q3]), (7, I a7), (8, I a8), (9, .slice A9 k9 q9)]).run Tryz.prog w = .ok (.agg #[I a0, I a1, I a2, .slice A3 k3 q3, I 0, I 0, I 0, I a7, I a8, .slice A9 k9 q9]) w := by kernel_rfl
theorem b_pkt_0_1_2_3_4_5_6_7_8_9 (a0 : Int) (a1 : Int) (a2 : Int) (A3 : Option Addr) (k3 q3 : Nat) (a4 : Int) (a5 : Int) (a6 : Int) (a7 : Int) (a8 : Int) (A9 : Option Addr) (k9 q9 : Nat) (w : World) : (Instr.build 51 #[(0, I a0), (1, I a1), (2, I a2), (3, .agg #[.slice A3 k3 q3]), (4, I a4), (5, I a5), (6, I a6), (7, I a7), (8, I a8), (9, .slice A9 k9 q9)]).run Tryz.prog w = .ok (.agg #[I a0, I a1, I a2, .slice A3 k3 q3, I a4, I a5, I a6, I a7, I a8, .slice A9 k9 q9]) w := by kernel_rfl
theorem b_pkt_0_1_2_4_5_6_7_8_9_3 (a0 : Int) (a1 : Int) (a2 : Int) (a4 : Int) (a5 : Int) (a6 : Int) (a7 : Int) (a8 : Int) (A9 : Option Addr) (k9 q9 : Nat) (A3 : Option Addr) (k3 q3 : Nat) (w : World) : (Instr.build 51 #[(0, I a0), (1, I a1), (2, I a2), (4, I a4), (5, I a5), (6, I a6), (7, I a7), (8, I a8), (9, .slice A9 k9 q9), (3, .agg #[.slice A3 k3 q3])]).run Tryz.prog w = .ok (.agg #[I a0, I a1, I a2, .slice A3 k3 q3, I a4, I a5, I a6, I a7, I a8, .slice A9 k9 q9]) w := by kernel_rfl
end Go.Proofs.YtdaecknfahgddaaGreat
namespace Go.Proofs.YtdaecknfahgddaaGreat
open Go.RowKit
set_option linter.unusedVariables false
set_option maxRecDepth 20000
theorem psz {p : Path} {k : Nat} {x : Part} (h : p[k]? = some x) : List.length p + x.hops.length ≤ sz_path p := by
  have := le_sum_of_mem (List.mem_map.2 ⟨x, List.mem_of_getElem? h, rfl⟩ : sz_part x ∈ p.map sz_part)
  show _ ≤ List.length p + _
  have e : sz_part x = x.hops.length := rfl
  omega
theorem impl_copyPath (p : Path) (u : Value) (w : World) (hp : VA pathT w u p) (hz' : sz_path p ≤ 1048576) : Calls Tryz.prog 101 #[u] w fun e w' => ∃ cs fp, e = .returned (.agg cs.toArray) ∧ pathT.O w.heap.size w' cs p fp ∧ Below w.heap.size w w' := by
 have hpl : List.length p ≤ sz_path p := by show List.length p ≤ List.length p + _; omega
 have X0 := Below.refl w.heap.size w
 refine enter Tryz.func101 rfl Tryz.ntmps101 rfl ?_
 refine w_s ?_
 refine w_g ?_
 refine t_boxr ‹_› rfl ?_ rfl rfl
 intro p1 w1 x2 hp1
 replace hp := hp.below x2
 have X0 := ext_trans X0 x2
 have S := Sep.nil w1
 have B := Below.refl w1.heap.size w1
 have Hb := Nat.le_refl w1.heap.size
 refine t_w S z_path rfl ?_ rfl rfl
 intro g2 w3 x4 S
 have B := bx Hb B x4
 refine t_d ?_
 refine x_s ?_
 refine w_s ?_
 refine w_g ?_
 refine t_w S z_path rfl ?_ rfl rfl
 intro g3 w5 x6 S
 have B := bx Hb B x6
 refine t_d ?_
 refine x_s ?_
 iterate 2 refine w_s ?_
 refine w_g ?_
 refine t_fld ln_path_0 ‹_› fb_path_0 rfl ?_ rfl
 intro p6 hp6
 refine t_lds ‹_› ab_s_part B rfl ?_ rfl
 intro v7 hv7
 refine t_len e_part ‹_› rfl rfl ?_ rfl
 refine t_m rfl ?_ rfl
 refine t_d ?_
 refine x_s ?_
 refine w_block ?_
 refine w_loop (X := Nat × Value) (fun x wq => (fun k u => k ≤ List.length p ∧ Below w1.heap.size w1 wq ∧ Sep w1.heap.size wq [bxO g3 30 #[u], slO partT 82 u (p.take k), bxO g2 30 #[.slice none 0 0]]) x.1 x.2) (fun x => (fun k u => [(9, I ((k : Int))), (2, .pointer (some ⟨g2, 0, none⟩)), (3, .pointer (some ⟨g3, 0, none⟩)), (7, v7), (8, I ((p.length : Int)))]) x.1 x.2) (fun x => (fun k u => List.length p - k) x.1 x.2) (0, .slice none 0 0) ?_ ⟨rfl, rfl, rfl, rfl, rfl, trivial⟩ ?_
 ·exact ⟨by omega, B, S.addNil.f1⟩
 ·rintro ⟨k, u⟩ w7 hI
  try dsimp only at hI ⊢
  obtain ⟨hk, B, S⟩ := hI
  have htl : (p.take k).length = k := by rw [List.length_take]; omega
  refine w_s ?_
  refine w_g ?_
  refine t_lss rfl rfl ?_ rfl
  refine t_d ?_
  refine x_s ?_
  refine w_s ?_
  refine w_if rfl ?_ ?_
  ·intro hlt
   obtain ⟨x, hx⟩ : ∃ e, p[k]? = some e := getx (by omega)
   have hhl := psz hx
   refine w_k ?_
   refine x_s ?_
   refine w_s ?_
   refine w_block ?_
   refine w_s ?_
   refine w_g ?_
   refine t_idx e_part (k := k) ‹_› hx B rfl rfl (by first | rfl | omega) ?_ rfl
   intro p11 hp11
   refine t_lda ‹_› ab_part sb_part B rfl ?_ rfl
   intro v12 hv12
   obtain ⟨v12_3, rfl, hv12_3⟩ := part_va hv12
   refine t_w S z_part rfl ?_ rfl rfl
   intro g5 w8 x9 S
   have B := bx Hb B x9
   refine t_stn S sb_part rfl rfl rfl rfl (by repeat first | exact oc0 | refine oc rfl ?_ | refine oc (SlR.cells (by have z := S; repeat first | assumption | exact z.sl | replace z := z.tail)).2 ?_) ?_
   intro w10 b11 S
   have B := B.trans b11
   refine t_d ?_
   refine x_s ?_
   refine w_s ?_
   refine w_g ?_
   refine t_y fb_part_3 rfl rfl ?_ rfl
   refine t_bx1 S.box ab_s_hop rfl rfl ?_ rfl
   refine t_c Tryz.call147 rfl (impl_copyHops _ _ _ (by first | assumption | exact SlR.below ‹_› B) (by omega)) ?_ rfl rfl
   rintro e w12 ⟨v15, fpv15, rfl, hOv15, x13⟩
   refine ⟨_, rfl, x13, ?_⟩
   have S := S.add (o := slO _ _ _ _) x13 hOv15
   have B := bx Hb B x13
   refine t_y fb_part_3 rfl rfl ?_ rfl
   obtain ⟨Av15, cv15, rfl, _⟩ := S.sl.form
   have S := S.f1
   refine t_st1 S sb_s_hop rfl rfl rfl rfl rfl ?_
   intro w14 b15 S
   have B := B.trans b15
   refine t_d ?_
   refine x_s ?_
   refine w_g ?_
   refine t_y fb_path_0 rfl rfl ?_ rfl
   refine t_bx1 S.tail.tail.box ab_s_part rfl rfl ?_ rfl
   refine t_b S.box ab_part sb_part rfl rfl ?_ rfl
   refine t_lit1 (fun w => bs_part1 _ _ _ _ w) rfl ?_ rfl rfl
   intro A20 w16 x17 hA20
   have B := bx Hb B x17
   have S := S.below x17
   have S := S.f1
   have S := S.partShut (x := (⟨x.kind, x.ts, x.beta, x.hops⟩ : Part))
   have S := S.f3
   refine t_snoc e_part S hA20 rfl rfl rfl (by first | omega | (simp; done) | (simp; omega)) (by (simp only [maxLen]); first | omega | (simp; done) | (simp; omega)) ?_ rfl
   intro v21 w18 x19 S
   have B := B.trans x19
   refine t_y fb_path_0 rfl rfl ?_ rfl
   obtain ⟨Av21, cv21, rfl, _⟩ := S.sl.form
   have S := S.f2
   refine t_st1 S sb_s_part rfl rfl rfl rfl rfl ?_
   intro w20 b21 S
   have B := B.trans b21
   refine t_d ?_
   refine x_b ?_
   refine x_s ?_
   refine w_g ?_
   refine t_add rfl rfl (by omega) ?_ rfl
   refine t_m rfl ?_ rfl
   refine t_d ?_
   have S := S.f2.tail
   refine x_r (X := Nat × Value) (k + 1, .slice Av21 ((p.take k) ++ [(⟨x.kind, x.ts, x.beta, x.hops⟩ : Part)]).length cv21) ?_ (by exact ⟨rfl, rfl, rfl, rfl, rfl, trivial⟩) (by (try dsimp only); omega)
   try dsimp only
   refine ⟨by omega, B, ?_⟩
   rw [take_succ hx]
   exact S
  ·intro hge
   refine w_exit ?_
   iterate 2 refine x_then_exit ?_
   refine x_block_exit ?_
   refine x_s ?_
   refine w_s ?_
   refine w_g ?_
   refine t_b S.box ab_path sb_path rfl rfl ?_ rfl
   have S := S.f2
   refine t_stn S sb_path rfl rfl rfl rfl (by repeat first | exact oc0 | refine oc rfl ?_ | refine oc (SlR.cells (by have z := S; repeat first | assumption | exact z.sl | replace z := z.tail)).2 ?_) ?_
   intro w22 b23 S
   have B := B.trans b23
   refine t_d ?_
   refine x_s ?_
   refine w_r ?_
   refine x_retc rfl rfl S.box ab_path sb_path rfl ?_
   have S := S.f2
   have S := S.pathShut (x := (p.take k))
   obtain ⟨fp, hO⟩ := (S.mono X0.size).head
   rw [List.take_of_length_le (by omega)] at hO
   exact ⟨_, fp, rfl, hO, ext_trans X0 B⟩
theorem spec_l21Copy (x : Part) (u : Value) (w : World) (hp : VA partT w u x) (hz : x.hops.length ≤ 1048576) : Calls Tryz.prog 119 #[u] w fun e w' => ∃ cs fp, e = .returned (.agg cs.toArray) ∧ partT.O w.heap.size w' cs x fp ∧ Below w.heap.size w w' := by
 have X0 := Below.refl w.heap.size w
 refine enter Tryz.func119 rfl Tryz.ntmps119 rfl ?_
 refine w_s ?_
 refine w_g ?_
 refine t_boxr ‹_› rfl ?_ rfl rfl
 intro p1 w24 x25 hp1
 replace hp := hp.below x25
 have X0 := ext_trans X0 x25
 have S := Sep.nil w24
 have B := Below.refl w24.heap.size w24
 have Hb := Nat.le_refl w24.heap.size
 refine t_w S z_part rfl ?_ rfl rfl
 intro g2 w26 x27 S
 have B := bx Hb B x27
 refine t_d ?_
 refine x_s ?_
 refine w_s ?_
 refine w_g ?_
 refine t_lda ‹_› ab_part sb_part B rfl ?_ rfl
 intro v4 hv4
 obtain ⟨v4_3, rfl, hv4_3⟩ := part_va hv4
 refine t_w S z_part rfl ?_ rfl rfl
 intro g3 w28 x29 S
 have B := bx Hb B x29
 refine t_stn S sb_part rfl rfl rfl rfl (by repeat first | exact oc0 | refine oc rfl ?_ | refine oc (SlR.cells (by have z := S; repeat first | assumption | exact z.sl | replace z := z.tail)).2 ?_) ?_
 intro w30 b31 S
 have B := B.trans b31
 refine t_d ?_
 refine x_s ?_
 refine w_s ?_
 refine w_g ?_
 refine t_lit (T := hopT) (css := []) (l := []) hop_flat S bs_hop0 rfl rfl rfl rfl (Nat.zero_le _) litR_nil ?_ rfl rfl
 intro u5 w32 x33 S
 have B := bx Hb B x33
 refine t_fld ln_part_3 ‹_› fb_part_3 rfl ?_ rfl
 intro p6 hp6
 refine t_lds ‹_› ab_s_hop B rfl ?_ rfl
 intro v7 hv7
 refine t_cat hop_flat e_hop S (by first | assumption | exact SlR.below ‹_› B) rfl rfl rfl (by first | omega | (simp [-List.length_flatMap]; omega)) (by (simp [maxLen, -List.length_flatMap]; try omega)) ?_ rfl
 intro v8 w34 x35 S
 have B := B.trans x35
 refine t_y fb_part_3 rfl rfl ?_ rfl
 obtain ⟨Av8, cv8, rfl, _⟩ := S.sl.form
 have S := S.f1
 refine t_st1 S sb_s_hop rfl rfl rfl rfl rfl ?_
 intro w36 b37 S
 have B := B.trans b37
 refine t_d ?_
 refine x_s ?_
 refine w_s ?_
 refine w_g ?_
 refine t_b S.box ab_part sb_part rfl rfl ?_ rfl
 have S := S.f2
 refine t_stn S sb_part rfl rfl rfl rfl (by repeat first | exact oc0 | refine oc rfl ?_ | refine oc (SlR.cells (by have z := S; repeat first | assumption | exact z.sl | replace z := z.tail)).2 ?_) ?_
 intro w38 b39 S
 have B := B.trans b39
 refine t_d ?_
 refine x_s ?_
 refine w_r ?_
 refine x_retc rfl rfl S.box ab_part sb_part rfl ?_
 have S := S.f2
 have S := S.partShut (x := x)
 obtain ⟨fp, hO⟩ := (S.mono X0.size).head
 exact ⟨_, fp, rfl, hO, ext_trans X0 B⟩
theorem spec_l22Copy (p : Path) (u : Value) (w : World) (hp : VA pathT w u p) (hz' : sz_path p ≤ 1048576) : Calls Tryz.prog 59 #[u] w fun e w' => ∃ cs fp, e = .returned (.agg cs.toArray) ∧ pathT.O w.heap.size w' cs p fp ∧ Below w.heap.size w w' := by
 have hpl : List.length p ≤ sz_path p := by show List.length p ≤ List.length p + _; omega
 have X0 := Below.refl w.heap.size w
 refine enter Tryz.func59 rfl Tryz.ntmps59 rfl ?_
 refine w_s ?_
 refine w_g ?_
 refine t_boxr ‹_› rfl ?_ rfl rfl
 intro p1 w40 x41 hp1
 replace hp := hp.below x41
 have X0 := ext_trans X0 x41
 have S := Sep.nil w40
 have B := Below.refl w40.heap.size w40
 have Hb := Nat.le_refl w40.heap.size
 refine t_w S z_path rfl ?_ rfl rfl
 intro g2 w42 x43 S
 have B := bx Hb B x43
 refine t_d ?_
 refine x_s ?_
 refine w_s ?_
 refine w_g ?_
 refine t_g (fun w => b_path0 w) rfl ?_ rfl
 refine t_w S z_path rfl ?_ rfl rfl
 intro g3 w44 x45 S
 have B := bx Hb B x45
 refine t_stn S sb_path rfl rfl rfl rfl (by simp [Value.oneCell']) ?_
 intro w46 b47 S
 have B := B.trans b47
 refine t_d ?_
 refine x_s ?_
 iterate 2 refine w_s ?_
 refine w_g ?_
 refine t_a rfl ?_ rfl
 refine t_d ?_
 refine x_s ?_
 refine w_block ?_
 refine w_loop (X := Nat × Value) (fun x wq => (fun k u => k ≤ List.length p ∧ Below w40.heap.size w40 wq ∧ Sep w40.heap.size wq [bxO g3 30 #[u], slO partT 82 u (p.take k), bxO g2 30 #[.slice none 0 0]]) x.1 x.2) (fun x => (fun k u => [(4, I ((k : Int))), (1, p1), (2, .pointer (some ⟨g2, 0, none⟩)), (3, .pointer (some ⟨g3, 0, none⟩))]) x.1 x.2) (fun x => (fun k u => List.length p - k) x.1 x.2) (0, .slice none 0 0) ?_ ⟨rfl, rfl, rfl, rfl, trivial⟩ ?_
 ·exact ⟨by omega, B, S.addNil.f1⟩
 ·rintro ⟨k, u⟩ w48 hI
  try dsimp only at hI ⊢
  obtain ⟨hk, B, S⟩ := hI
  have htl : (p.take k).length = k := by rw [List.length_take]; omega
  iterate 2 refine w_s ?_
  refine w_g ?_
  refine t_m rfl ?_ rfl
  refine t_fld ln_path_0 ‹_› fb_path_0 rfl ?_ rfl
  intro p8 hp8
  refine t_lds ‹_› ab_s_part B rfl ?_ rfl
  intro v9 hv9
  refine t_len e_part ‹_› rfl rfl ?_ rfl
  refine t_lss rfl rfl ?_ rfl
  refine t_d ?_
  refine x_s ?_
  refine w_if rfl ?_ ?_
  ·intro hlt
   obtain ⟨x, hx⟩ : ∃ e, p[k]? = some e := getx (by omega)
   have hhl := psz hx
   refine w_k ?_
   refine x_s ?_
   refine w_s ?_
   refine w_block ?_
   refine w_s ?_
   refine w_g ?_
   refine t_fld ln_path_0 ‹_› fb_path_0 rfl ?_ rfl
   intro p14 hp14
   refine t_lds ‹_› ab_s_part B rfl ?_ rfl
   intro v15 hv15
   refine t_m rfl ?_ rfl
   refine t_idx e_part (k := k) ‹_› hx B rfl rfl (by first | rfl | omega) ?_ rfl
   intro p17 hp17
   refine t_lda ‹_› ab_part sb_part B rfl ?_ rfl
   intro v18 hv18
   obtain ⟨v18_3, rfl, hv18_3⟩ := part_va hv18
   refine t_c Tryz.call119 rfl (spec_l21Copy _ _ _ (by first | assumption | exact VA.below ‹_› B | exact part_mkv (by first | assumption | exact SlR.below ‹_› B)) (by omega)) ?_ rfl rfl
   rintro e w49 ⟨cs19, fp19, rfl, hO19, x50⟩
   refine ⟨_, rfl, x50, ?_⟩
   have S := S.add (o := tyO partT _ _) x50 hO19
   have B := bx Hb B x50
   obtain ⟨u19_3, heq, S2⟩ := S.partOpen
   subst heq
   have S := S2
   clear S2
   refine t_w S z_part rfl ?_ rfl rfl
   intro g5 w51 x52 S
   have B := bx Hb B x52
   refine t_stn S sb_part rfl rfl rfl rfl (by repeat first | exact oc0 | refine oc rfl ?_ | refine oc (SlR.cells (by have z := S; repeat first | assumption | exact z.sl | replace z := z.tail)).2 ?_) ?_
   intro w53 b54 S
   have B := B.trans b54
   refine t_d ?_
   refine x_s ?_
   refine w_g ?_
   refine t_y fb_path_0 rfl rfl ?_ rfl
   refine t_bx1 S.tail.tail.box ab_s_part rfl rfl ?_ rfl
   refine t_b S.box ab_part sb_part rfl rfl ?_ rfl
   refine t_lit1 (fun w => bs_part1 _ _ _ _ w) rfl ?_ rfl rfl
   intro A23 w55 x56 hA23
   have B := bx Hb B x56
   have S := S.below x56
   have S := S.f1
   have S := S.partShut (x := x)
   have S := S.f3
   refine t_snoc e_part S hA23 rfl rfl rfl (by first | omega | (simp; done) | (simp; omega)) (by (simp only [maxLen]); first | omega | (simp; done) | (simp; omega)) ?_ rfl
   intro v24 w57 x58 S
   have B := B.trans x58
   refine t_y fb_path_0 rfl rfl ?_ rfl
   obtain ⟨Av24, cv24, rfl, _⟩ := S.sl.form
   have S := S.f2
   refine t_st1 S sb_s_part rfl rfl rfl rfl rfl ?_
   intro w59 b60 S
   have B := B.trans b60
   refine t_d ?_
   refine x_b ?_
   refine x_s ?_
   refine w_g ?_
   refine t_m rfl ?_ rfl
   refine t_add rfl rfl (by omega) ?_ rfl
   refine t_a rfl ?_ rfl
   refine t_d ?_
   have S := S.f2.tail
   refine x_r (X := Nat × Value) (k + 1, .slice Av24 ((p.take k) ++ [x]).length cv24) ?_ (by exact ⟨rfl, rfl, rfl, rfl, trivial⟩) (by (try dsimp only); omega)
   try dsimp only
   refine ⟨by omega, B, ?_⟩
   rw [take_succ hx]
   exact S
  ·intro hge
   refine w_exit ?_
   iterate 2 refine x_then_exit ?_
   refine x_block_exit ?_
   refine x_s ?_
   refine w_s ?_
   refine w_g ?_
   refine t_b S.box ab_path sb_path rfl rfl ?_ rfl
   have S := S.f2
   refine t_stn S sb_path rfl rfl rfl rfl (by repeat first | exact oc0 | refine oc rfl ?_ | refine oc (SlR.cells (by have z := S; repeat first | assumption | exact z.sl | replace z := z.tail)).2 ?_) ?_
   intro w61 b62 S
   have B := B.trans b62
   refine t_d ?_
   refine x_s ?_
   refine w_r ?_
   refine x_retc rfl rfl S.box ab_path sb_path rfl ?_
   have S := S.f2
   have S := S.pathShut (x := (p.take k))
   obtain ⟨fp, hO⟩ := (S.mono X0.size).head
   rw [List.take_of_length_le (by omega)] at hO
   exact ⟨_, fp, rfl, hO, ext_trans X0 B⟩
end Go.Proofs.YtdaecknfahgddaaGreat
namespace Go.Proofs.YtdaecknfahgddaaGreat
open Go.RowKit
set_option linter.unusedVariables false
set_option maxRecDepth 20000
/-- A path of a few short parts. -/
def PathS (p : Path) : Prop := List.length p ≤ 4 ∧ ∀ x ∈ p, x.hops.length ≤ 5 ∧ rng_part x
theorem validHop_rng {h : Hop} (e : validHop h = true) : rng_hop h := by
  unfold validHop at e
  simp only [Bool.and_eq_true, inR_iff] at e
  obtain ⟨⟨⟨⟨⟨h1, h2⟩, h3⟩, _⟩, h5⟩, h6⟩ := e
  refine ⟨⟨?_, ?_⟩, ⟨?_, ?_⟩, ⟨?_, ?_⟩, ⟨?_, ?_⟩, ?_, ?_⟩ <;> omega
theorem in64 {n : Int} (h0 : -9223372036854775808 ≤ n) (h1 : n ≤ 9223372036854775807) : In64 n := ⟨h0, h1⟩
theorem PartK.small {t : Topo} {x : Part} (h : PartK t x) : x.hops.length ≤ 5 ∧ rng_part x := by
  obtain ⟨s, kind, i, hs, h1, h2, rfl⟩ := h
  obtain ⟨⟨k0, k1, k2, k3, k4⟩, hS⟩ := hs
  have hb : ∀ j, Res (segBeta s j) := fun j => by
    unfold segBeta
    split
    · exact chain_in ⟨k2, by omega⟩ _
    · exact ⟨by omega, by omega⟩
  have hv := hS.hop
  refine ⟨Nat.le_trans (make_len s kind i) k4, ?_⟩
  unfold makePart
  split
  · split
    · refine ⟨in64 (by dsimp only; omega) (by dsimp only; omega), in64 (by dsimp only; omega) (by dsimp only; omega), ?_, fun y hy => validHop_rng (hv y (List.mem_of_mem_drop (List.mem_reverse.1 hy)))⟩
      have := hb s.hops.length
      unfold Res at this
      exact in64 (by dsimp only; omega) (by dsimp only; omega)
    · refine ⟨in64 (by dsimp only; omega) (by dsimp only; omega), in64 (by dsimp only; omega) (by dsimp only; omega), ?_, fun y hy => validHop_rng (hv y (List.mem_of_mem_drop hy))⟩
      have := hb i
      unfold Res at this
      exact in64 (by dsimp only; omega) (by dsimp only; omega)
  · exact ⟨in64 (by dsimp only; omega) (by dsimp only; omega), in64 (by dsimp only; omega) (by dsimp only; omega), in64 (by dsimp only; omega) (by dsimp only; omega), fun y hy => by simp at hy⟩
theorem PathK.small {t : Topo} {p : Path} (h : PathK t p) : List.length p ≤ 3 ∧ ∀ x ∈ p, x.hops.length ≤ 5 ∧ rng_part x := ⟨h.1, fun x hx => (h.2 x hx).small⟩
theorem set_all {α : Type} {Q : α → Prop} {l : List α} (h : ∀ x ∈ l, Q x) {i : Nat} {y : α} (hy : Q y) : ∀ x ∈ l.set i y, Q x := fun x hx => by
  rcases List.mem_or_eq_of_mem_set hx with hx | rfl
  · exact h x hx
  · exact hy
theorem PathS.sz {p : Path} (h : PathS p) : sz_path p ≤ 24 := by
  obtain ⟨h1, h2⟩ := h
  have : ∀ l : List Part, (∀ x ∈ l, x.hops.length ≤ 5) → (l.map sz_part).sum ≤ 5 * l.length := fun l => by
    induction l with
    | nil => simp
    | cons a t ih =>
      intro ha
      have h3 := ha a (by simp)
      have h4 := ih fun x hx => ha x (List.mem_cons_of_mem _ hx)
      simp only [List.map_cons, List.sum_cons, List.length_cons]
      have : sz_part a = a.hops.length := rfl
      omega
  have h3 := this p fun x hx => (h2 x hx).1
  show List.length p + (p.map sz_part).sum ≤ 24
  omega
theorem PathS.rng {p : Path} (h : PathS p) : rng_path p := fun x hx => (h.2 x hx).2
theorem PathS.lenOk {p : Path} (h : PathS p) : lenOk_path p := ⟨by have := h.1; omega, fun x hx => by have := (h.2 x hx).1; show x.hops.length ≤ _; omega⟩
theorem PathK.toS {t : Topo} {p : Path} (h : PathK t p) : PathS p := ⟨by have := h.1; omega, h.small.2⟩
set_option maxHeartbeats 8000000 in
theorem spec_l22Any {b n c : Nat} {w : World} {v : Value} {os : List Ow} (S : Sep b w (curO v n c 115 :: os)) (K : CodeK b w v n) : Calls Tryz.prog 60 #[.pointer (some ⟨c, 0, none⟩)] w fun e w' =>
  ∃ (va vl vp : Value) (A : List ASd) (L : List Lnk) (p : Path), e = .returned (.tuple #[.agg #[va, vl], .agg #[vp]]) ∧ (TopK A L ∧ PathS p) ∧ Sep b w' (rdO partT vp p :: slO asnT 135 va A :: slO linkT 152 vl L :: curO v n c 115 :: os) ∧ Below b w w' := by
 have X0 := Below.refl w.heap.size w
 refine enter Tryz.func60 rfl Tryz.ntmps60 rfl ?_
 have B := Below.refl b w
 have Hb := S.base
 refine w_s ?_
 refine w_g ?_
 refine t_w S z_topo rfl ?_ rfl rfl
 intro g2 w1 x2 S
 have B := bx Hb B x2
 refine t_w S z_path rfl ?_ rfl rfl
 intro g3 w3 x4 S
 have B := bx Hb B x4
 refine t_d ?_
 refine x_s ?_
 refine w_s ?_
 refine w_g ?_
 refine t_m rfl ?_ rfl
 have S := S.f2
 refine t_f Tryz.call54 rfl (spec_l22Draw S (K.below B)) ?_ rfl
 rintro e w5 ⟨va10, vl10, vp10, A10, L10, p10, rfl, hf10, S, x6⟩
 refine ⟨_, rfl, ?_⟩
 have B := B.trans x6
 refine t_m rfl ?_ rfl
 iterate 2 refine t_extract rfl rfl ?_ rfl
 refine t_w S z_topo rfl ?_ rfl rfl
 intro g4 w7 x8 S
 have B := bx Hb B x8
 refine t_w S z_path rfl ?_ rfl rfl
 intro g5 w9 x10 S
 have B := bx Hb B x10
 have S := S.f1
 refine t_stn S sb_topo rfl rfl rfl rfl (by repeat first | exact oc0 | refine oc rfl ?_ | refine oc (SlR.cells S.tail.tail.tail.sl).2 ?_ | refine oc (SlR.cells S.t4.sl).2 ?_) ?_
 intro w11 b12 S
 have B := B.trans b12
 have S := S.f1
 refine t_stn S sb_path rfl rfl rfl rfl (by repeat first | exact oc0 | refine oc rfl ?_ | refine oc (SlR.cells S.tail.tail.sl).2 ?_) ?_
 intro w13 b14 S
 have B := B.trans b14
 refine t_d ?_
 refine x_s ?_
 refine w_s ?_
 obtain ⟨T, hP⟩ := hf10
 have hQ := hP.small
 refine w_s ?_
 refine w_g ?_
 refine t_y fb_path_0 rfl rfl ?_ rfl
 refine t_bx1 S.box ab_s_part rfl rfl ?_ rfl
 refine t_len e_part (S.tail.tail.sl) rfl rfl ?_ rfl
 refine t_eql rfl rfl ?_ rfl
 refine t_d ?_
 refine x_s ?_
 refine w_if rfl ?_ ?_
 ·intro h0
  refine w_s ?_
  refine w_drawP [] (.alt (.st .fin 0 (.alt (.st .fin 1 (.st .fin 2 (.st .fin 3 .done))) (.st .fin 2 (.st .fin 1 (.st .fin 3 .done))))) (.st .fin 1 (.st .fin 0 (.st .fin 2 (.st .fin 3 .done))))) mixed (by kernel_rfl) ?_
  intro w15 x16
  have B := bx Hb B x16
  have S := S.below x16
  refine t_alt ?_ ?_
  ·refine t_b S.tail.box ab_topo sb_topo rfl rfl ?_ rfl
   refine t_alt ?_ ?_
   ·refine t_b S.box ab_path sb_path rfl rfl ?_ rfl
    have S := S.f7
    refine t_stn S sb_topo rfl rfl rfl rfl (by repeat first | exact oc0 | refine oc rfl ?_ | refine oc (SlR.cells S.t4.sl).2 ?_ | refine oc (SlR.cells S.t4.tail.sl).2 ?_) ?_
    intro w17 b18 S
    have B := B.trans b18
    have S := S.f7
    refine t_stn S sb_path rfl rfl rfl rfl (by repeat first | exact oc0 | refine oc rfl ?_ | refine oc (SlR.cells S.t4.sl).2 ?_) ?_
    intro w19 b20 S
    have B := B.trans b20
    refine t_d' ?_
    refine x_s ?_
    refine w_r ?_
    refine x_t ?_
    refine x_retcc rfl rfl S.tail.box ab_topo sb_topo rfl rfl S.box ab_path sb_path rfl ?_
    have S := S.f4
    have S := S.toRd (fun _ h => h)
    have S := S.f1.tail.f1.tail.f1.tail.f1.tail.f3.f3.f3.f3
    exact ⟨_, _, _, _, _, p10, rfl, ⟨T, hP.toS⟩, S, B⟩
   ·have S := S.f7
    refine t_stn S sb_topo rfl rfl rfl rfl (by repeat first | exact oc0 | refine oc rfl ?_ | refine oc (SlR.cells S.t4.sl).2 ?_ | refine oc (SlR.cells S.t4.tail.sl).2 ?_) ?_
    intro w21 b22 S
    have B := B.trans b22
    refine t_b S.tail.box ab_path sb_path rfl rfl ?_ rfl
    have S := S.f7
    refine t_stn S sb_path rfl rfl rfl rfl (by repeat first | exact oc0 | refine oc rfl ?_ | refine oc (SlR.cells S.t4.sl).2 ?_) ?_
    intro w23 b24 S
    have B := B.trans b24
    refine t_d' ?_
    refine x_s ?_
    refine w_r ?_
    refine x_t ?_
    refine x_retcc rfl rfl S.tail.box ab_topo sb_topo rfl rfl S.box ab_path sb_path rfl ?_
    have S := S.f4
    have S := S.toRd (fun _ h => h)
    have S := S.f1.tail.f1.tail.f1.tail.f1.tail.f3.f3.f3.f3
    exact ⟨_, _, _, _, _, p10, rfl, ⟨T, hP.toS⟩, S, B⟩
  ·refine t_b S.box ab_path sb_path rfl rfl ?_ rfl
   refine t_b S.tail.box ab_topo sb_topo rfl rfl ?_ rfl
   have S := S.f7
   refine t_stn S sb_topo rfl rfl rfl rfl (by repeat first | exact oc0 | refine oc rfl ?_ | refine oc (SlR.cells S.t4.sl).2 ?_ | refine oc (SlR.cells S.t4.tail.sl).2 ?_) ?_
   intro w25 b26 S
   have B := B.trans b26
   have S := S.f7
   refine t_stn S sb_path rfl rfl rfl rfl (by repeat first | exact oc0 | refine oc rfl ?_ | refine oc (SlR.cells S.t4.sl).2 ?_) ?_
   intro w27 b28 S
   have B := B.trans b28
   refine t_d' ?_
   refine x_s ?_
   refine w_r ?_
   refine x_t ?_
   refine x_retcc rfl rfl S.tail.box ab_topo sb_topo rfl rfl S.box ab_path sb_path rfl ?_
   have S := S.f4
   have S := S.toRd (fun _ h => h)
   have S := S.f1.tail.f1.tail.f1.tail.f1.tail.f3.f3.f3.f3
   exact ⟨_, _, _, _, _, p10, rfl, ⟨T, hP.toS⟩, S, B⟩
 ·intro h0
  refine w_k ?_
  refine x_s ?_
  refine w_s ?_
  refine w_g ?_
  refine t_m rfl ?_ rfl
  refine t_y fb_path_0 rfl rfl ?_ rfl
  refine t_bx1 S.box ab_s_part rfl rfl ?_ rfl
  refine t_len e_part (S.tail.tail.sl) rfl rfl ?_ rfl
  have S := S.f5
  refine t_f Tryz.call57 rfl (spec_l1Below (p10.length : Int) S (K.below B)) ?_ rfl
  rintro e w29 ⟨y23, rfl, hf23, S, x30⟩
  refine ⟨_, rfl, ?_⟩
  have B := B.trans x30
  refine t_a rfl ?_ rfl
  refine t_d ?_
  refine x_s ?_
  refine w_s ?_
  obtain ⟨ek, hek⟩ := getx (l := p10) (k := y23.toNat) (by omega)
  have hkm := List.mem_of_getElem? hek
  have hkS := hQ.2 ek hkm
  refine w_cut (X := Path × Value) (fun x wq => (fun q vq => PathS q ∧ Below b w wq ∧ Sep b wq (rdO partT vq q :: bxO g5 30 #[vq] :: slO asnT 135 va10 A10 :: slO linkT 152 vl10 L10 :: curO v n c 115 :: bxO g4 27 #[va10, vl10] :: bxO g3 30 #[.slice none 0 0] :: bxO g2 27 #[.slice none 0 0, .slice none 0 0] :: os)) x.1 x.2) (fun x => (fun q vq => [(2, .pointer (some ⟨g2, 0, none⟩)), (3, .pointer (some ⟨g3, 0, none⟩)), (4, .pointer (some ⟨g4, 0, none⟩)), (5, .pointer (some ⟨g5, 0, none⟩))]) x.1 x.2) ?_ ?_
  ·refine w_s ?_
   refine w_g ?_
   refine t_m rfl ?_ rfl
   refine t_f Tryz.call57 rfl (spec_l1Below 12 S (K.below B)) ?_ rfl
   rintro e w31 ⟨y25, rfl, hf25, S, x32⟩
   refine ⟨_, rfl, ?_⟩
   have B := B.trans x32
   refine t_d ?_
   refine x_s ?_
   refine w_block ?_
   refine w_s ?_
   refine w_g ?_
   refine t_eql rfl rfl ?_ rfl
   refine t_a rfl ?_ rfl
   refine t_d ?_
   refine x_s ?_
   refine w_if rfl ?_ ?_
   ·intro h1
    have S := S.f3
    obtain ⟨Gvp10, Cvp10, rfl⟩ := S.addr (by omega)
    refine w_drawP [0, 2, 3] (.alt (.st .fin 1 (.st .fin 4 (.st .fin 5 (.st .fin 6 (.st .fin 7 .done))))) (.st .fin 4 (.st .fin 1 (.st .fin 5 (.st .fin 6 (.st .fin 7 .done)))))) mixed (by kernel_rfl) ?_
    intro w33 x34
    have B := bx Hb B x34
    have S := S.below x34
    refine p_fldx fb_path_0 rfl rfl ?_ rfl
    iterate 2 refine p_move rfl ?_ rfl
    refine p_done ?_
    refine t_alt ?_ ?_
    ·refine t_bx1 S.tail.tail.box ab_s_part rfl rfl ?_ rfl
     have S := S.f1
     refine t_f Tryz.call57 rfl (spec_l1Below 6 S (K.below B)) ?_ rfl
     rintro e w35 ⟨y32, rfl, hf32, S, x36⟩
     refine ⟨_, rfl, ?_⟩
     have B := B.trans x36
     refine t_idxx e_part (k := y23.toNat) rfl rfl (by first | rfl | omega) (by omega) rfl ?_ rfl
     refine t_y fb_part_0 rfl rfl ?_ rfl
     have S := S.f1
     refine t_stS (T := partT) (j := 0) (x' := { ek with kind := y32 }) S (by first | rfl | ((try simp only [List.length_set]); first | omega | simp)) sb_int rfl rfl hek rfl (by decide) rfl rfl so_part_0 ?_
     intro w37 b38 S
     have B := B.trans b38
     have hq39 := set_at (y := { ek with kind := y32 }) hek
     refine t_d' ?_
     refine x_b ?_
     have S := S.toRd (fun _ h => h)
     have S := S.f7.f7.f5.f4.f7.f7.f7.f7
     refine x_cut (X := Path × Value) (p10.set y23.toNat { ek with kind := y32 }, (.slice (some ⟨Gvp10, 0, none⟩) p10.length Cvp10)) ?_ ?_
     rotate_left
     ·exact ⟨rfl, rfl, rfl, rfl, trivial⟩
     try dsimp only
     exact ⟨⟨by rw [List.length_set]; omega, set_all hQ.2 ⟨hkS.1, in64 (by dsimp only; omega) (by dsimp only; omega), hkS.2.2⟩⟩, B, S⟩
    ·have S := S.f1
     refine t_f Tryz.call57 rfl (spec_l1Below 6 S (K.below B)) ?_ rfl
     rintro e w40 ⟨y32, rfl, hf32, S, x41⟩
     refine ⟨_, rfl, ?_⟩
     have B := B.trans x41
     refine t_bx1 S.tail.tail.box ab_s_part rfl rfl ?_ rfl
     refine t_idxx e_part (k := y23.toNat) rfl rfl (by first | rfl | omega) (by omega) rfl ?_ rfl
     refine t_y fb_part_0 rfl rfl ?_ rfl
     have S := S.f1
     refine t_stS (T := partT) (j := 0) (x' := { ek with kind := y32 }) S (by first | rfl | ((try simp only [List.length_set]); first | omega | simp)) sb_int rfl rfl hek rfl (by decide) rfl rfl so_part_0 ?_
     intro w42 b43 S
     have B := B.trans b43
     have hq44 := set_at (y := { ek with kind := y32 }) hek
     refine t_d' ?_
     refine x_b ?_
     have S := S.toRd (fun _ h => h)
     have S := S.f7.f7.f5.f4.f7.f7.f7.f7
     refine x_cut (X := Path × Value) (p10.set y23.toNat { ek with kind := y32 }, (.slice (some ⟨Gvp10, 0, none⟩) p10.length Cvp10)) ?_ ?_
     rotate_left
     ·exact ⟨rfl, rfl, rfl, rfl, trivial⟩
     try dsimp only
     exact ⟨⟨by rw [List.length_set]; omega, set_all hQ.2 ⟨hkS.1, in64 (by dsimp only; omega) (by dsimp only; omega), hkS.2.2⟩⟩, B, S⟩
   ·intro h1
    refine w_s ?_
    refine w_g ?_
    refine t_eql rfl rfl ?_ rfl
    refine t_a rfl ?_ rfl
    refine t_d ?_
    refine x_s ?_
    refine w_if rfl ?_ ?_
    ·intro h2
     have S := S.f3
     obtain ⟨Gvp10, Cvp10, rfl⟩ := S.addr (by omega)
     refine w_drawP [0, 2, 3] (.alt (.st .fin 1 (.st .fin 4 (.st .fin 5 (.st .fin 6 (.st .fin 7 .done))))) (.st .fin 4 (.st .fin 1 (.st .fin 5 (.st .fin 6 (.st .fin 7 .done)))))) mixed (by kernel_rfl) ?_
     intro w45 x46
     have B := bx Hb B x46
     have S := S.below x46
     refine p_fldx fb_path_0 rfl rfl ?_ rfl
     iterate 2 refine p_move rfl ?_ rfl
     refine p_done ?_
     refine t_alt ?_ ?_
     ·refine t_bx1 S.tail.tail.box ab_s_part rfl rfl ?_ rfl
      have S := S.f1
      refine t_f Tryz.call120 rfl (spec_l3Word S (K.below B)) ?_ rfl
      rintro e w47 ⟨y41, rfl, hf41, S, x48⟩
      refine ⟨_, rfl, ?_⟩
      have B := B.trans x48
      refine t_idxx e_part (k := y23.toNat) rfl rfl (by first | rfl | omega) (by omega) rfl ?_ rfl
      refine t_y fb_part_2 rfl rfl ?_ rfl
      have S := S.f1
      refine t_stS (T := partT) (j := 2) (x' := { ek with beta := y41 }) S (by first | rfl | ((try simp only [List.length_set]); first | omega | simp)) sb_int rfl rfl hek rfl (by decide) rfl rfl so_part_2 ?_
      intro w49 b50 S
      have B := B.trans b50
      have hq51 := set_at (y := { ek with beta := y41 }) hek
      refine t_d' ?_
      refine x_b ?_
      have S := S.toRd (fun _ h => h)
      have S := S.f7.f7.f5.f4.f7.f7.f7.f7
      refine x_cut (X := Path × Value) (p10.set y23.toNat { ek with beta := y41 }, (.slice (some ⟨Gvp10, 0, none⟩) p10.length Cvp10)) ?_ ?_
      rotate_left
      ·exact ⟨rfl, rfl, rfl, rfl, trivial⟩
      try dsimp only
      exact ⟨⟨by rw [List.length_set]; omega, set_all hQ.2 ⟨hkS.1, hkS.2.1, hkS.2.2.1, in64 (by dsimp only; omega) (by dsimp only; omega), hkS.2.2.2.2⟩⟩, B, S⟩
     ·have S := S.f1
      refine t_f Tryz.call120 rfl (spec_l3Word S (K.below B)) ?_ rfl
      rintro e w52 ⟨y41, rfl, hf41, S, x53⟩
      refine ⟨_, rfl, ?_⟩
      have B := B.trans x53
      refine t_bx1 S.tail.tail.box ab_s_part rfl rfl ?_ rfl
      refine t_idxx e_part (k := y23.toNat) rfl rfl (by first | rfl | omega) (by omega) rfl ?_ rfl
      refine t_y fb_part_2 rfl rfl ?_ rfl
      have S := S.f1
      refine t_stS (T := partT) (j := 2) (x' := { ek with beta := y41 }) S (by first | rfl | ((try simp only [List.length_set]); first | omega | simp)) sb_int rfl rfl hek rfl (by decide) rfl rfl so_part_2 ?_
      intro w54 b55 S
      have B := B.trans b55
      have hq56 := set_at (y := { ek with beta := y41 }) hek
      refine t_d' ?_
      refine x_b ?_
      have S := S.toRd (fun _ h => h)
      have S := S.f7.f7.f5.f4.f7.f7.f7.f7
      refine x_cut (X := Path × Value) (p10.set y23.toNat { ek with beta := y41 }, (.slice (some ⟨Gvp10, 0, none⟩) p10.length Cvp10)) ?_ ?_
      rotate_left
      ·exact ⟨rfl, rfl, rfl, rfl, trivial⟩
      try dsimp only
      exact ⟨⟨by rw [List.length_set]; omega, set_all hQ.2 ⟨hkS.1, hkS.2.1, hkS.2.2.1, in64 (by dsimp only; omega) (by dsimp only; omega), hkS.2.2.2.2⟩⟩, B, S⟩
    ·intro h2
     refine w_s ?_
     refine w_g ?_
     refine t_eql rfl rfl ?_ rfl
     refine t_a rfl ?_ rfl
     refine t_d ?_
     refine x_s ?_
     refine w_if rfl ?_ ?_
     ·intro h3
      refine w_draw (.st .take 0 (.st .take 1 (.st .take 2 (.st .take 3 (.st .take 4 (.st .take 5 (.st .take 6 (.st .run 7 (.st .run 8 (.st .fin 9 (.st .fin 10 (.st .fin 11 .done)))))))))))) mixed (by kernel_rfl) ?_
      intro w57 x58
      have B := bx Hb B x58
      have S := S.below x58
      refine t_y fb_path_0 rfl rfl ?_ rfl
      refine t_bx1 S.tail.box ab_s_part rfl rfl ?_ rfl
      refine t_y fb_path_0 rfl rfl ?_ rfl
      refine t_bx1 S.tail.box ab_s_part rfl rfl ?_ rfl
      refine t_m rfl ?_ rfl
      refine t_idx e_part (k := y23.toNat) (S.tail.tail.tail.sl) hek (Below.refl _ _) rfl rfl (by first | rfl | omega) ?_ rfl
      intro p51 hp51
      refine t_lda ‹_› ab_part sb_part (Below.refl _ _) rfl ?_ rfl
      intro v52 hv52
      obtain ⟨v52_3, rfl, hv52_3⟩ := part_va hv52
      refine t_c Tryz.call119 rfl (spec_l21Copy ek _ _ (by first | assumption | exact VA.below ‹_› B | exact part_mkv (by first | assumption | exact SlR.below ‹_› B)) (by omega)) ?_ rfl rfl
      rintro e w59 ⟨cs53, fp53, rfl, hO53, x60⟩
      refine ⟨_, rfl, x60, ?_⟩
      have S := S.add (o := tyO partT _ _) x60 hO53
      have B := bx Hb B x60
      obtain ⟨u53_3, heq, S2⟩ := S.partOpen
      subst heq
      have S := S2
      clear S2
      refine t_lit1 (fun w => bs_part1 _ _ _ _ w) rfl ?_ rfl rfl
      intro A54 w61 x62 hA54
      have B := bx Hb B x62
      have S := S.below x62
      have S := S.partShut (x := ek)
      have S := S.f4
      refine t_snoc e_part S hA54 rfl rfl rfl (by first | omega | (simp; done) | (simp; omega)) (by (simp only [maxLen]); first | omega | (simp; done) | (simp; omega)) ?_ rfl
      intro v55 w63 x64 S
      have B := B.trans x64
      refine t_y fb_path_0 rfl rfl ?_ rfl
      obtain ⟨Av55, cv55, rfl, _⟩ := S.sl.form
      have S := S.f2
      refine t_st1 S sb_s_part rfl rfl rfl rfl rfl ?_
      intro w65 b66 S
      have B := B.trans b66
      refine t_d' ?_
      refine x_b ?_
      have S := S.f1
      have S := S.toRd (fun _ h => h)
      have S := S.f7.f7.f5.f5.f7.f7.f7.f7
      refine x_cut (X := Path × Value) (p10 ++ [ek], .slice Av55 (p10 ++ [ek]).length cv55) ?_ ?_
      rotate_left
      ·exact ⟨rfl, rfl, rfl, rfl, trivial⟩
      try dsimp only
      exact ⟨⟨by rw [List.length_append, List.length_singleton]; omega, fun x hx => by rcases List.mem_append.1 hx with hx | hx; exact hQ.2 x hx; rw [List.mem_singleton] at hx; rw [hx]; exact hkS⟩, B, S⟩
     ·intro h3
      refine w_s ?_
      refine w_g ?_
      refine t_eql rfl rfl ?_ rfl
      refine t_a rfl ?_ rfl
      refine t_d ?_
      refine x_s ?_
      refine w_if rfl ?_ ?_
      ·intro h4
       refine w_g ?_
       refine t_y fb_path_0 rfl rfl ?_ rfl
       refine t_bx1 S.tail.box ab_s_part rfl rfl ?_ rfl
       obtain ⟨Avp10, cvp10, rfl, _⟩ := S.tail.tail.tail.sl.form
       refine t_sldv e_part (k := 1) rfl rfl (by first | rfl | omega) (by omega) (by omega) ?_ rfl
       refine t_y fb_path_0 rfl rfl ?_ rfl
       have S := S.f1
       refine t_st1 S sb_s_part rfl rfl rfl rfl rfl ?_
       intro w67 b68 S
       have B := B.trans b68
       refine t_d ?_
       refine x_b ?_
       have S := S.f3
       have S := S.toRd (fun _ h => SlR.drop (k := 1) h (by omega))
       have S := S.f7.f7.f5.f5.f7.f7.f7.f7
       refine x_cut (X := Path × Value) (p10.drop 1, (.slice (if cvp10 = 1 then Avp10 else Avp10.map (·.add (1 * 4))) (p10.length - 1) (cvp10 - 1))) ?_ ?_
       rotate_left
       ·exact ⟨rfl, rfl, rfl, rfl, trivial⟩
       try dsimp only
       exact ⟨⟨by rw [List.length_drop]; omega, fun x hx => hQ.2 x (List.mem_of_mem_drop hx)⟩, B, S⟩
      ·intro h4
       refine w_s ?_
       refine w_g ?_
       refine t_eql rfl rfl ?_ rfl
       refine t_a rfl ?_ rfl
       refine t_d ?_
       refine x_s ?_
       refine w_if rfl ?_ ?_
       ·intro h5
        refine w_s ?_
        refine w_g ?_
        refine t_y fb_path_0 rfl rfl ?_ rfl
        refine t_bx1 S.tail.box ab_s_part rfl rfl ?_ rfl
        refine t_m rfl ?_ rfl
        refine t_idx e_part (k := y23.toNat) (S.tail.tail.tail.sl) hek (Below.refl _ _) rfl rfl (by first | rfl | omega) ?_ rfl
        intro p68 hp68
        refine t_fld ln_part_3 ‹_› fb_part_3 rfl ?_ rfl
        intro p69 hp69
        refine t_lds ‹_› ab_s_hop (Below.refl _ _) rfl ?_ rfl
        intro v70 hv70
        refine t_len e_hop ‹_› rfl rfl ?_ rfl
        refine t_gtr rfl rfl ?_ rfl
        refine t_d ?_
        refine x_s ?_
        refine w_if rfl ?_ ?_
        ·intro h6
         refine w_s ?_
         refine w_g ?_
         refine t_m rfl ?_ rfl
         refine t_y fb_path_0 rfl rfl ?_ rfl
         refine t_bx1 S.tail.box ab_s_part rfl rfl ?_ rfl
         refine t_m rfl ?_ rfl
         refine t_idx e_part (k := y23.toNat) (S.tail.tail.tail.sl) hek (Below.refl _ _) rfl rfl (by first | rfl | omega) ?_ rfl
         intro p77 hp77
         refine t_fld ln_part_3 ‹_› fb_part_3 rfl ?_ rfl
         intro p78 hp78
         refine t_lds ‹_› ab_s_hop (Below.refl _ _) rfl ?_ rfl
         intro v79 hv79
         refine t_len e_hop ‹_› rfl rfl ?_ rfl
         refine t_f Tryz.call57 rfl (spec_l1Below (ek.hops.length : Int) S (K.below B)) ?_ rfl
         rintro e w69 ⟨y81, rfl, hf81, S, x70⟩
         refine ⟨_, rfl, ?_⟩
         have B := B.trans x70
         refine t_a rfl ?_ rfl
         refine t_d ?_
         refine x_s ?_
         have S := S.f3
         obtain ⟨Gvp10, Cvp10, rfl⟩ := S.addr (by omega)
         obtain ⟨eh, heh⟩ := getx (l := ek.hops) (k := y81.toNat) (by omega)
         have heR := hkS.2.2.2.2 eh (List.mem_of_getElem? heh)
         refine w_drawP [0, 2, 6, 7] (.alt (.st .fin 1 (.alt (.st .fin 3 (.alt (.st .fin 4 (.alt (.st .fin 5 (.st .fin 8 (.st .fin 9 (.st .fin 10 (.st .fin 11 .done))))) (.st .fin 8 (.st .fin 5 (.st .fin 9 (.st .fin 10 (.st .fin 11 .done))))))) (.st .fin 8 (.st .fin 4 (.st .fin 5 (.st .fin 9 (.st .fin 10 (.st .fin 11 .done)))))))) (.st .fin 8 (.st .fin 3 (.st .fin 4 (.st .fin 5 (.st .fin 9 (.st .fin 10 (.st .fin 11 .done))))))))) (.st .fin 8 (.st .fin 1 (.st .fin 3 (.st .fin 4 (.st .fin 5 (.st .fin 9 (.st .fin 10 (.st .fin 11 .done))))))))) mixed (by kernel_rfl) ?_
         intro w71 x72
         have B := bx Hb B x72
         have S := S.below x72
         refine p_fldx fb_path_0 rfl rfl ?_ rfl
         iterate 3 refine p_move rfl ?_ rfl
         refine p_done ?_
         refine t_alt ?_ ?_
         ·refine t_bx1 S.tail.tail.box ab_s_part rfl rfl ?_ rfl
          refine t_alt ?_ ?_
          ·refine t_idxx e_part (k := y23.toNat) rfl rfl (by first | rfl | omega) (by omega) rfl ?_ rfl
           refine t_alt ?_ ?_
           ·refine t_y fb_part_3 rfl rfl ?_ rfl
            refine t_alt ?_ ?_
            ·obtain ⟨cs87, S, hc87⟩ := S.split hek
             obtain ⟨u87, rfl, S⟩ := S.partOpen
             obtain ⟨Gu87, Cu87, rfl⟩ := S.addr (by omega)
             refine t_ld1 ab_s_hop (hc87 _ _ _ rfl 3 _ rfl) (Below.refl _ _) rfl ?_ rfl
             have S := S.f2
             refine t_f Tryz.call120 rfl (spec_l3Word S (K.below B)) ?_ rfl
             rintro e w73 ⟨y90, rfl, hf90, S, x74⟩
             refine ⟨_, rfl, ?_⟩
             have B := B.trans x74
             refine t_idxx e_hop (k := y81.toNat) rfl rfl (by first | rfl | omega) (by omega) rfl ?_ rfl
             refine t_y fb_hop_4 rfl rfl ?_ rfl
             have S := S.f1
             refine t_stS (T := hopT) (j := 4) (x' := { eh with mac := y90 }) S (by first | rfl | ((try simp only [List.length_set]); first | omega | simp)) sb_int rfl rfl heh rfl (by decide) rfl rfl so_hop_4 ?_
             intro w75 b76 S
             have B := B.trans b76
             have hq77 := set_at (y := { eh with mac := y90 }) heh
             refine t_d' ?_
             refine x_b ?_
             have S := S.f2.f1
             have S := S.partShut (x := { ek with hops := ek.hops.set y81.toNat { eh with mac := y90 } })
             have S := S.join
             have S := S.toRd (fun _ h => h)
             have S := S.f7.f7.f5.f4.f7.f7.f7.f7
             refine x_cut (X := Path × Value) (p10.set y23.toNat { ek with hops := ek.hops.set y81.toNat { eh with mac := y90 } }, (.slice (some ⟨Gvp10, 0, none⟩) p10.length Cvp10)) ?_ ?_
             rotate_left
             ·exact ⟨rfl, rfl, rfl, rfl, trivial⟩
             try dsimp only
             exact ⟨⟨by rw [List.length_set]; omega, set_all hQ.2 ⟨by dsimp only; rw [List.length_set]; exact hkS.1, hkS.2.1, hkS.2.2.1, hkS.2.2.2.1, set_all hkS.2.2.2.2 ⟨heR.1, heR.2.1, heR.2.2.1, heR.2.2.2.1, in64 (by dsimp only; omega) (by dsimp only; omega)⟩⟩⟩, B, S⟩
            ·have S := S.f1
             refine t_f Tryz.call120 rfl (spec_l3Word S (K.below B)) ?_ rfl
             rintro e w78 ⟨y90, rfl, hf90, S, x79⟩
             refine ⟨_, rfl, ?_⟩
             have B := B.trans x79
             have S := S.f1
             obtain ⟨cs87, S, hc87⟩ := S.split hek
             obtain ⟨u87, rfl, S⟩ := S.partOpen
             obtain ⟨Gu87, Cu87, rfl⟩ := S.addr (by omega)
             refine t_ld1 ab_s_hop (hc87 _ _ _ rfl 3 _ rfl) (Below.refl _ _) rfl ?_ rfl
             refine t_idxx e_hop (k := y81.toNat) rfl rfl (by first | rfl | omega) (by omega) rfl ?_ rfl
             refine t_y fb_hop_4 rfl rfl ?_ rfl
             refine t_stS (T := hopT) (j := 4) (x' := { eh with mac := y90 }) S (by first | rfl | ((try simp only [List.length_set]); first | omega | simp)) sb_int rfl rfl heh rfl (by decide) rfl rfl so_hop_4 ?_
             intro w80 b81 S
             have B := B.trans b81
             have hq82 := set_at (y := { eh with mac := y90 }) heh
             refine t_d' ?_
             refine x_b ?_
             have S := S.f1.f1
             have S := S.partShut (x := { ek with hops := ek.hops.set y81.toNat { eh with mac := y90 } })
             have S := S.join
             have S := S.toRd (fun _ h => h)
             have S := S.f7.f7.f5.f4.f7.f7.f7.f7
             refine x_cut (X := Path × Value) (p10.set y23.toNat { ek with hops := ek.hops.set y81.toNat { eh with mac := y90 } }, (.slice (some ⟨Gvp10, 0, none⟩) p10.length Cvp10)) ?_ ?_
             rotate_left
             ·exact ⟨rfl, rfl, rfl, rfl, trivial⟩
             try dsimp only
             exact ⟨⟨by rw [List.length_set]; omega, set_all hQ.2 ⟨by dsimp only; rw [List.length_set]; exact hkS.1, hkS.2.1, hkS.2.2.1, hkS.2.2.2.1, set_all hkS.2.2.2.2 ⟨heR.1, heR.2.1, heR.2.2.1, heR.2.2.2.1, in64 (by dsimp only; omega) (by dsimp only; omega)⟩⟩⟩, B, S⟩
           ·have S := S.f1
            refine t_f Tryz.call120 rfl (spec_l3Word S (K.below B)) ?_ rfl
            rintro e w83 ⟨y90, rfl, hf90, S, x84⟩
            refine ⟨_, rfl, ?_⟩
            have B := B.trans x84
            refine t_y fb_part_3 rfl rfl ?_ rfl
            have S := S.f1
            obtain ⟨cs87, S, hc87⟩ := S.split hek
            obtain ⟨u87, rfl, S⟩ := S.partOpen
            obtain ⟨Gu87, Cu87, rfl⟩ := S.addr (by omega)
            refine t_ld1 ab_s_hop (hc87 _ _ _ rfl 3 _ rfl) (Below.refl _ _) rfl ?_ rfl
            refine t_idxx e_hop (k := y81.toNat) rfl rfl (by first | rfl | omega) (by omega) rfl ?_ rfl
            refine t_y fb_hop_4 rfl rfl ?_ rfl
            refine t_stS (T := hopT) (j := 4) (x' := { eh with mac := y90 }) S (by first | rfl | ((try simp only [List.length_set]); first | omega | simp)) sb_int rfl rfl heh rfl (by decide) rfl rfl so_hop_4 ?_
            intro w85 b86 S
            have B := B.trans b86
            have hq87 := set_at (y := { eh with mac := y90 }) heh
            refine t_d' ?_
            refine x_b ?_
            have S := S.f1.f1
            have S := S.partShut (x := { ek with hops := ek.hops.set y81.toNat { eh with mac := y90 } })
            have S := S.join
            have S := S.toRd (fun _ h => h)
            have S := S.f7.f7.f5.f4.f7.f7.f7.f7
            refine x_cut (X := Path × Value) (p10.set y23.toNat { ek with hops := ek.hops.set y81.toNat { eh with mac := y90 } }, (.slice (some ⟨Gvp10, 0, none⟩) p10.length Cvp10)) ?_ ?_
            rotate_left
            ·exact ⟨rfl, rfl, rfl, rfl, trivial⟩
            try dsimp only
            exact ⟨⟨by rw [List.length_set]; omega, set_all hQ.2 ⟨by dsimp only; rw [List.length_set]; exact hkS.1, hkS.2.1, hkS.2.2.1, hkS.2.2.2.1, set_all hkS.2.2.2.2 ⟨heR.1, heR.2.1, heR.2.2.1, heR.2.2.2.1, in64 (by dsimp only; omega) (by dsimp only; omega)⟩⟩⟩, B, S⟩
          ·have S := S.f1
           refine t_f Tryz.call120 rfl (spec_l3Word S (K.below B)) ?_ rfl
           rintro e w88 ⟨y90, rfl, hf90, S, x89⟩
           refine ⟨_, rfl, ?_⟩
           have B := B.trans x89
           refine t_idxx e_part (k := y23.toNat) rfl rfl (by first | rfl | omega) (by omega) rfl ?_ rfl
           refine t_y fb_part_3 rfl rfl ?_ rfl
           have S := S.f1
           obtain ⟨cs87, S, hc87⟩ := S.split hek
           obtain ⟨u87, rfl, S⟩ := S.partOpen
           obtain ⟨Gu87, Cu87, rfl⟩ := S.addr (by omega)
           refine t_ld1 ab_s_hop (hc87 _ _ _ rfl 3 _ rfl) (Below.refl _ _) rfl ?_ rfl
           refine t_idxx e_hop (k := y81.toNat) rfl rfl (by first | rfl | omega) (by omega) rfl ?_ rfl
           refine t_y fb_hop_4 rfl rfl ?_ rfl
           refine t_stS (T := hopT) (j := 4) (x' := { eh with mac := y90 }) S (by first | rfl | ((try simp only [List.length_set]); first | omega | simp)) sb_int rfl rfl heh rfl (by decide) rfl rfl so_hop_4 ?_
           intro w90 b91 S
           have B := B.trans b91
           have hq92 := set_at (y := { eh with mac := y90 }) heh
           refine t_d' ?_
           refine x_b ?_
           have S := S.f1.f1
           have S := S.partShut (x := { ek with hops := ek.hops.set y81.toNat { eh with mac := y90 } })
           have S := S.join
           have S := S.toRd (fun _ h => h)
           have S := S.f7.f7.f5.f4.f7.f7.f7.f7
           refine x_cut (X := Path × Value) (p10.set y23.toNat { ek with hops := ek.hops.set y81.toNat { eh with mac := y90 } }, (.slice (some ⟨Gvp10, 0, none⟩) p10.length Cvp10)) ?_ ?_
           rotate_left
           ·exact ⟨rfl, rfl, rfl, rfl, trivial⟩
           try dsimp only
           exact ⟨⟨by rw [List.length_set]; omega, set_all hQ.2 ⟨by dsimp only; rw [List.length_set]; exact hkS.1, hkS.2.1, hkS.2.2.1, hkS.2.2.2.1, set_all hkS.2.2.2.2 ⟨heR.1, heR.2.1, heR.2.2.1, heR.2.2.2.1, in64 (by dsimp only; omega) (by dsimp only; omega)⟩⟩⟩, B, S⟩
         ·have S := S.f1
          refine t_f Tryz.call120 rfl (spec_l3Word S (K.below B)) ?_ rfl
          rintro e w93 ⟨y90, rfl, hf90, S, x94⟩
          refine ⟨_, rfl, ?_⟩
          have B := B.trans x94
          refine t_bx1 S.tail.tail.box ab_s_part rfl rfl ?_ rfl
          refine t_idxx e_part (k := y23.toNat) rfl rfl (by first | rfl | omega) (by omega) rfl ?_ rfl
          refine t_y fb_part_3 rfl rfl ?_ rfl
          have S := S.f1
          obtain ⟨cs87, S, hc87⟩ := S.split hek
          obtain ⟨u87, rfl, S⟩ := S.partOpen
          obtain ⟨Gu87, Cu87, rfl⟩ := S.addr (by omega)
          refine t_ld1 ab_s_hop (hc87 _ _ _ rfl 3 _ rfl) (Below.refl _ _) rfl ?_ rfl
          refine t_idxx e_hop (k := y81.toNat) rfl rfl (by first | rfl | omega) (by omega) rfl ?_ rfl
          refine t_y fb_hop_4 rfl rfl ?_ rfl
          refine t_stS (T := hopT) (j := 4) (x' := { eh with mac := y90 }) S (by first | rfl | ((try simp only [List.length_set]); first | omega | simp)) sb_int rfl rfl heh rfl (by decide) rfl rfl so_hop_4 ?_
          intro w95 b96 S
          have B := B.trans b96
          have hq97 := set_at (y := { eh with mac := y90 }) heh
          refine t_d' ?_
          refine x_b ?_
          have S := S.f1.f1
          have S := S.partShut (x := { ek with hops := ek.hops.set y81.toNat { eh with mac := y90 } })
          have S := S.join
          have S := S.toRd (fun _ h => h)
          have S := S.f7.f7.f5.f4.f7.f7.f7.f7
          refine x_cut (X := Path × Value) (p10.set y23.toNat { ek with hops := ek.hops.set y81.toNat { eh with mac := y90 } }, (.slice (some ⟨Gvp10, 0, none⟩) p10.length Cvp10)) ?_ ?_
          rotate_left
          ·exact ⟨rfl, rfl, rfl, rfl, trivial⟩
          try dsimp only
          exact ⟨⟨by rw [List.length_set]; omega, set_all hQ.2 ⟨by dsimp only; rw [List.length_set]; exact hkS.1, hkS.2.1, hkS.2.2.1, hkS.2.2.2.1, set_all hkS.2.2.2.2 ⟨heR.1, heR.2.1, heR.2.2.1, heR.2.2.2.1, in64 (by dsimp only; omega) (by dsimp only; omega)⟩⟩⟩, B, S⟩
        ·intro h6
         refine w_k ?_
         refine x_b ?_
         have S := S.f3
         have S := S.toRd (fun _ h => h)
         have S := S.f7.f7.f5.f4.f7.f7.f7.f7
         refine x_cut (X := Path × Value) (p10, vp10) ?_ ?_
         rotate_left
         ·exact ⟨rfl, rfl, rfl, rfl, trivial⟩
         try dsimp only
         exact ⟨hP.toS, B, S⟩
       ·intro h5
        refine w_k ?_
        refine x_b ?_
        have S := S.f3
        have S := S.toRd (fun _ h => h)
        have S := S.f7.f7.f5.f4.f7.f7.f7.f7
        refine x_cut (X := Path × Value) (p10, vp10) ?_ ?_
        rotate_left
        ·exact ⟨rfl, rfl, rfl, rfl, trivial⟩
        try dsimp only
        exact ⟨hP.toS, B, S⟩
  rintro ⟨q, vq⟩ w98 hI
  try dsimp only at hI ⊢
  obtain ⟨hS, B, S⟩ := hI
  refine w_s ?_
  refine w_drawP [] (.alt (.st .fin 0 (.alt (.st .fin 1 (.st .fin 2 (.st .fin 3 .done))) (.st .fin 2 (.st .fin 1 (.st .fin 3 .done))))) (.st .fin 1 (.st .fin 0 (.st .fin 2 (.st .fin 3 .done))))) mixed (by kernel_rfl) ?_
  intro w99 x100
  have B := bx Hb B x100
  have S := S.below x100
  refine t_alt ?_ ?_
  ·refine t_b S.t4.tail.box ab_topo sb_topo rfl rfl ?_ rfl
   refine t_alt ?_ ?_
   ·refine t_b S.tail.box ab_path sb_path rfl rfl ?_ rfl
    have S := S.f7
    refine t_stn S sb_topo rfl rfl rfl rfl (by repeat first | exact oc0 | refine oc rfl ?_ | refine oc (SlR.cells S.tail.tail.tail.sl).2 ?_ | refine oc (SlR.cells S.t4.sl).2 ?_) ?_
    intro w101 b102 S
    have B := B.trans b102
    have S := S.f7
    refine t_stn S sb_path rfl rfl rfl rfl (by repeat first | exact oc0 | refine oc rfl ?_ | refine oc (SlR.cells S.tail.tail.rd).2 ?_) ?_
    intro w103 b104 S
    have B := B.trans b104
    refine t_d' ?_
    refine x_s ?_
    refine w_r ?_
    refine x_retcc rfl rfl S.tail.box ab_topo sb_topo rfl rfl S.box ab_path sb_path rfl ?_
    have S := S.tail.tail.f1.tail.f4.tail.f3.f3.f3.f3
    exact ⟨_, _, _, _, _, q, rfl, ⟨T, hS⟩, S, B⟩
   ·have S := S.f7
    refine t_stn S sb_topo rfl rfl rfl rfl (by repeat first | exact oc0 | refine oc rfl ?_ | refine oc (SlR.cells S.tail.tail.tail.sl).2 ?_ | refine oc (SlR.cells S.t4.sl).2 ?_) ?_
    intro w105 b106 S
    have B := B.trans b106
    refine t_b S.tail.tail.box ab_path sb_path rfl rfl ?_ rfl
    have S := S.f7
    refine t_stn S sb_path rfl rfl rfl rfl (by repeat first | exact oc0 | refine oc rfl ?_ | refine oc (SlR.cells S.tail.tail.rd).2 ?_) ?_
    intro w107 b108 S
    have B := B.trans b108
    refine t_d' ?_
    refine x_s ?_
    refine w_r ?_
    refine x_retcc rfl rfl S.tail.box ab_topo sb_topo rfl rfl S.box ab_path sb_path rfl ?_
    have S := S.tail.tail.f1.tail.f4.tail.f3.f3.f3.f3
    exact ⟨_, _, _, _, _, q, rfl, ⟨T, hS⟩, S, B⟩
  ·refine t_b S.tail.box ab_path sb_path rfl rfl ?_ rfl
   refine t_b S.t4.tail.box ab_topo sb_topo rfl rfl ?_ rfl
   have S := S.f7
   refine t_stn S sb_topo rfl rfl rfl rfl (by repeat first | exact oc0 | refine oc rfl ?_ | refine oc (SlR.cells S.tail.tail.tail.sl).2 ?_ | refine oc (SlR.cells S.t4.sl).2 ?_) ?_
   intro w109 b110 S
   have B := B.trans b110
   have S := S.f7
   refine t_stn S sb_path rfl rfl rfl rfl (by repeat first | exact oc0 | refine oc rfl ?_ | refine oc (SlR.cells S.tail.tail.rd).2 ?_) ?_
   intro w111 b112 S
   have B := B.trans b112
   refine t_d' ?_
   refine x_s ?_
   refine w_r ?_
   refine x_retcc rfl rfl S.tail.box ab_topo sb_topo rfl rfl S.box ab_path sb_path rfl ?_
   have S := S.tail.tail.f1.tail.f4.tail.f3.f3.f3.f3
   exact ⟨_, _, _, _, _, q, rfl, ⟨T, hS⟩, S, B⟩
theorem spec_l22One (code : List UInt8) (v : Value) (w : World) (h : SlR byteT w v code) (hz : code.length ≤ 1048576) : Calls Tryz.prog 56 #[v] w fun e w' => ∃ (g : Nat) (va vl vp : Value) (A : List ASd) (L : List Lnk) (p : Path), e = .returned (.tuple #[.pointer (some ⟨g, 0, none⟩), .agg #[va, vl], .agg #[vp]]) ∧ (TopK A L ∧ PathS p) ∧ Sep w.heap.size w' [rdO partT vp p, slO asnT 135 va A, slO linkT 152 vl L, curO v code.length g 115] ∧ Ext w w' := by
 have K := CodeK.of h hz
 have X0 := Below.refl w.heap.size w
 refine enter Tryz.func56 rfl Tryz.ntmps56 rfl ?_
 have S := Sep.nil w
 have B := Below.refl w.heap.size w
 have Hb := Nat.le_refl w.heap.size
 refine w_s ?_
 refine w_g ?_
 refine t_a rfl ?_ rfl
 refine t_w S z_topo rfl ?_ rfl rfl
 intro g3 w113 x114 S
 have B := bx Hb B x114
 refine t_w S z_path rfl ?_ rfl rfl
 intro g4 w115 x116 S
 have B := bx Hb B x116
 refine t_d ?_
 refine x_s ?_
 refine w_s ?_
 refine w_g ?_
 refine t_m rfl ?_ rfl
 refine t_c Tryz.call53 rfl (spec_l1New _ _ _ (by first | assumption | exact SlR.below ‹_› B) (by omega)) ?_ rfl rfl
 rintro e w117 ⟨g9, fpg9, rfl, hOg9, x118⟩
 refine ⟨_, rfl, x118, ?_⟩
 have S := S.add (o := curO _ _ _ _) x118 hOg9
 have B := bx Hb B x118
 refine t_a rfl ?_ rfl
 refine t_d ?_
 refine x_s ?_
 refine w_s ?_
 refine w_g ?_
 refine t_m rfl ?_ rfl
 refine t_f Tryz.call60 rfl (spec_l22Any S (K.below B)) ?_ rfl
 rintro e w119 ⟨va12, vl12, vp12, A12, L12, p12, rfl, hf12, S, x120⟩
 refine ⟨_, rfl, ?_⟩
 have B := B.trans x120
 refine t_m rfl ?_ rfl
 iterate 2 refine t_extract rfl rfl ?_ rfl
 refine t_w S z_topo rfl ?_ rfl rfl
 intro g6 w121 x122 S
 have B := bx Hb B x122
 refine t_w S z_path rfl ?_ rfl rfl
 intro g7 w123 x124 S
 have B := bx Hb B x124
 have S := S.f1
 refine t_stn S sb_topo rfl rfl rfl rfl (by repeat first | exact oc0 | refine oc rfl ?_ | refine oc (SlR.cells S.tail.tail.tail.sl).2 ?_ | refine oc (SlR.cells S.t4.sl).2 ?_) ?_
 intro w125 b126 S
 have B := B.trans b126
 have S := S.f1
 refine t_stn S sb_path rfl rfl rfl rfl (by repeat first | exact oc0 | refine oc rfl ?_ | refine oc (SlR.cells S.tail.tail.rd).2 ?_) ?_
 intro w127 b128 S
 have B := B.trans b128
 refine t_d ?_
 refine x_s ?_
 refine w_s ?_
 refine w_drawP [0] (.alt (.st .fin 1 (.alt (.st .fin 2 (.st .fin 3 (.st .fin 4 (.st .fin 5 .done)))) (.st .fin 3 (.alt (.st .fin 2 (.st .fin 4 (.st .fin 5 .done))) (.st .fin 4 (.st .fin 2 (.st .fin 5 .done))))))) (.alt (.st .fin 2 (.alt (.st .fin 1 (.st .fin 3 (.st .fin 4 (.st .fin 5 .done)))) (.st .fin 3 (.st .fin 1 (.st .fin 4 (.st .fin 5 .done)))))) (.st .fin 3 (.alt (.st .fin 1 (.alt (.st .fin 2 (.st .fin 4 (.st .fin 5 .done))) (.st .fin 4 (.st .fin 2 (.st .fin 5 .done))))) (.st .fin 2 (.st .fin 1 (.st .fin 4 (.st .fin 5 .done)))))))) mixed (by kernel_rfl) ?_
 intro w129 x130
 have B := bx Hb B x130
 have S := S.below x130
 refine p_move rfl ?_ rfl
 refine p_done ?_
 refine t_alt ?_ (t_alt ?_ ?_)
 ·refine t_b S.tail.box ab_topo sb_topo rfl rfl ?_ rfl
  refine t_alt ?_ ?_
  ·refine t_b S.box ab_path sb_path rfl rfl ?_ rfl
   refine t_a rfl ?_ rfl
   have S := S.f7
   refine t_stn S sb_topo rfl rfl rfl rfl (by repeat first | exact oc0 | refine oc rfl ?_ | refine oc (SlR.cells S.t4.sl).2 ?_ | refine oc (SlR.cells S.t4.tail.sl).2 ?_) ?_
   intro w131 b132 S
   have B := B.trans b132
   have S := S.f7
   refine t_stn S sb_path rfl rfl rfl rfl (by repeat first | exact oc0 | refine oc rfl ?_ | refine oc (SlR.cells S.t4.rd).2 ?_) ?_
   intro w133 b134 S
   have B := B.trans b134
   refine t_d' ?_
   refine x_s ?_
   refine w_r ?_
   refine x_rettcc rfl rfl rfl S.tail.box ab_topo sb_topo rfl rfl S.box ab_path sb_path rfl ?_
   have S := S.tail.tail.tail.tail.f3.f3.f3.f3
   exact ⟨_, _, _, _, _, _, _, rfl, hf12, S, ext_trans X0 B⟩
  ·refine t_a rfl ?_ rfl
   refine t_alt ?_ ?_
   ·refine t_b S.box ab_path sb_path rfl rfl ?_ rfl
    have S := S.f7
    refine t_stn S sb_topo rfl rfl rfl rfl (by repeat first | exact oc0 | refine oc rfl ?_ | refine oc (SlR.cells S.t4.sl).2 ?_ | refine oc (SlR.cells S.t4.tail.sl).2 ?_) ?_
    intro w135 b136 S
    have B := B.trans b136
    have S := S.f7
    refine t_stn S sb_path rfl rfl rfl rfl (by repeat first | exact oc0 | refine oc rfl ?_ | refine oc (SlR.cells S.t4.rd).2 ?_) ?_
    intro w137 b138 S
    have B := B.trans b138
    refine t_d' ?_
    refine x_s ?_
    refine w_r ?_
    refine x_rettcc rfl rfl rfl S.tail.box ab_topo sb_topo rfl rfl S.box ab_path sb_path rfl ?_
    have S := S.tail.tail.tail.tail.f3.f3.f3.f3
    exact ⟨_, _, _, _, _, _, _, rfl, hf12, S, ext_trans X0 B⟩
   ·have S := S.f7
    refine t_stn S sb_topo rfl rfl rfl rfl (by repeat first | exact oc0 | refine oc rfl ?_ | refine oc (SlR.cells S.t4.sl).2 ?_ | refine oc (SlR.cells S.t4.tail.sl).2 ?_) ?_
    intro w139 b140 S
    have B := B.trans b140
    refine t_b S.tail.box ab_path sb_path rfl rfl ?_ rfl
    have S := S.f7
    refine t_stn S sb_path rfl rfl rfl rfl (by repeat first | exact oc0 | refine oc rfl ?_ | refine oc (SlR.cells S.t4.rd).2 ?_) ?_
    intro w141 b142 S
    have B := B.trans b142
    refine t_d' ?_
    refine x_s ?_
    refine w_r ?_
    refine x_rettcc rfl rfl rfl S.tail.box ab_topo sb_topo rfl rfl S.box ab_path sb_path rfl ?_
    have S := S.tail.tail.tail.tail.f3.f3.f3.f3
    exact ⟨_, _, _, _, _, _, _, rfl, hf12, S, ext_trans X0 B⟩
 ·refine t_b S.box ab_path sb_path rfl rfl ?_ rfl
  refine t_alt ?_ ?_
  ·refine t_b S.tail.box ab_topo sb_topo rfl rfl ?_ rfl
   refine t_a rfl ?_ rfl
   have S := S.f7
   refine t_stn S sb_topo rfl rfl rfl rfl (by repeat first | exact oc0 | refine oc rfl ?_ | refine oc (SlR.cells S.t4.sl).2 ?_ | refine oc (SlR.cells S.t4.tail.sl).2 ?_) ?_
   intro w143 b144 S
   have B := B.trans b144
   have S := S.f7
   refine t_stn S sb_path rfl rfl rfl rfl (by repeat first | exact oc0 | refine oc rfl ?_ | refine oc (SlR.cells S.t4.rd).2 ?_) ?_
   intro w145 b146 S
   have B := B.trans b146
   refine t_d' ?_
   refine x_s ?_
   refine w_r ?_
   refine x_rettcc rfl rfl rfl S.tail.box ab_topo sb_topo rfl rfl S.box ab_path sb_path rfl ?_
   have S := S.tail.tail.tail.tail.f3.f3.f3.f3
   exact ⟨_, _, _, _, _, _, _, rfl, hf12, S, ext_trans X0 B⟩
  ·refine t_a rfl ?_ rfl
   refine t_b S.tail.box ab_topo sb_topo rfl rfl ?_ rfl
   have S := S.f7
   refine t_stn S sb_topo rfl rfl rfl rfl (by repeat first | exact oc0 | refine oc rfl ?_ | refine oc (SlR.cells S.t4.sl).2 ?_ | refine oc (SlR.cells S.t4.tail.sl).2 ?_) ?_
   intro w147 b148 S
   have B := B.trans b148
   have S := S.f7
   refine t_stn S sb_path rfl rfl rfl rfl (by repeat first | exact oc0 | refine oc rfl ?_ | refine oc (SlR.cells S.t4.rd).2 ?_) ?_
   intro w149 b150 S
   have B := B.trans b150
   refine t_d' ?_
   refine x_s ?_
   refine w_r ?_
   refine x_rettcc rfl rfl rfl S.tail.box ab_topo sb_topo rfl rfl S.box ab_path sb_path rfl ?_
   have S := S.tail.tail.tail.tail.f3.f3.f3.f3
   exact ⟨_, _, _, _, _, _, _, rfl, hf12, S, ext_trans X0 B⟩
 ·refine t_a rfl ?_ rfl
  refine t_alt ?_ ?_
  ·refine t_b S.tail.box ab_topo sb_topo rfl rfl ?_ rfl
   refine t_alt ?_ ?_
   ·refine t_b S.box ab_path sb_path rfl rfl ?_ rfl
    have S := S.f7
    refine t_stn S sb_topo rfl rfl rfl rfl (by repeat first | exact oc0 | refine oc rfl ?_ | refine oc (SlR.cells S.t4.sl).2 ?_ | refine oc (SlR.cells S.t4.tail.sl).2 ?_) ?_
    intro w151 b152 S
    have B := B.trans b152
    have S := S.f7
    refine t_stn S sb_path rfl rfl rfl rfl (by repeat first | exact oc0 | refine oc rfl ?_ | refine oc (SlR.cells S.t4.rd).2 ?_) ?_
    intro w153 b154 S
    have B := B.trans b154
    refine t_d' ?_
    refine x_s ?_
    refine w_r ?_
    refine x_rettcc rfl rfl rfl S.tail.box ab_topo sb_topo rfl rfl S.box ab_path sb_path rfl ?_
    have S := S.tail.tail.tail.tail.f3.f3.f3.f3
    exact ⟨_, _, _, _, _, _, _, rfl, hf12, S, ext_trans X0 B⟩
   ·have S := S.f7
    refine t_stn S sb_topo rfl rfl rfl rfl (by repeat first | exact oc0 | refine oc rfl ?_ | refine oc (SlR.cells S.t4.sl).2 ?_ | refine oc (SlR.cells S.t4.tail.sl).2 ?_) ?_
    intro w155 b156 S
    have B := B.trans b156
    refine t_b S.tail.box ab_path sb_path rfl rfl ?_ rfl
    have S := S.f7
    refine t_stn S sb_path rfl rfl rfl rfl (by repeat first | exact oc0 | refine oc rfl ?_ | refine oc (SlR.cells S.t4.rd).2 ?_) ?_
    intro w157 b158 S
    have B := B.trans b158
    refine t_d' ?_
    refine x_s ?_
    refine w_r ?_
    refine x_rettcc rfl rfl rfl S.tail.box ab_topo sb_topo rfl rfl S.box ab_path sb_path rfl ?_
    have S := S.tail.tail.tail.tail.f3.f3.f3.f3
    exact ⟨_, _, _, _, _, _, _, rfl, hf12, S, ext_trans X0 B⟩
  ·refine t_b S.box ab_path sb_path rfl rfl ?_ rfl
   refine t_b S.tail.box ab_topo sb_topo rfl rfl ?_ rfl
   have S := S.f7
   refine t_stn S sb_topo rfl rfl rfl rfl (by repeat first | exact oc0 | refine oc rfl ?_ | refine oc (SlR.cells S.t4.sl).2 ?_ | refine oc (SlR.cells S.t4.tail.sl).2 ?_) ?_
   intro w159 b160 S
   have B := B.trans b160
   have S := S.f7
   refine t_stn S sb_path rfl rfl rfl rfl (by repeat first | exact oc0 | refine oc rfl ?_ | refine oc (SlR.cells S.t4.rd).2 ?_) ?_
   intro w161 b162 S
   have B := B.trans b162
   refine t_d' ?_
   refine x_s ?_
   refine w_r ?_
   refine x_rettcc rfl rfl rfl S.tail.box ab_topo sb_topo rfl rfl S.box ab_path sb_path rfl ?_
   have S := S.tail.tail.tail.tail.f3.f3.f3.f3
   exact ⟨_, _, _, _, _, _, _, rfl, hf12, S, ext_trans X0 B⟩
end Go.Proofs.YtdaecknfahgddaaGreat
namespace Go.Proofs.YtdaecknfahgddaaGreat
open Go.RowKit
set_option linter.unusedVariables false
set_option maxRecDepth 20000
theorem spec_l1Bytes {b n c : Nat} {w : World} {v : Value} {os : List Ow} (m : Int) (S : Sep b w (curO v n c 115 :: os)) (K : CodeK b w v n) (hm : m ≤ 1000) : Calls Tryz.prog 95 #[.pointer (some ⟨c, 0, none⟩), I m] w fun e w' => ∃ (u : Value) (l : List UInt8), e = .returned u ∧ l.length ≤ m.toNat ∧ Sep b w' (slO byteT 5 u l :: curO v n c 115 :: os) ∧ Below b w w' := by
 have X0 := Below.refl w.heap.size w
 refine enter Tryz.func95 rfl Tryz.ntmps95 rfl ?_
 have B := Below.refl b w
 have Hb := S.base
 refine w_s ?_
 refine w_g ?_
 refine t_a rfl ?_ rfl
 refine t_d ?_
 refine x_s ?_
 refine w_s ?_
 refine w_g ?_
 refine t_lit (T := byteT) (css := []) (l := []) byte_flat S bs_byte0 rfl rfl rfl rfl (Nat.zero_le _) litR_nil ?_ rfl rfl
 intro u7 w1 x2 S
 have B := bx Hb B x2
 refine t_a rfl ?_ rfl
 refine t_d ?_
 refine x_s ?_
 iterate 2 refine w_s ?_
 refine w_g ?_
 refine t_a rfl ?_ rfl
 refine t_d ?_
 refine x_s ?_
 refine w_block ?_
 refine w_loop (X := Nat × List UInt8 × Value) (fun x wq => (fun k l u => k ≤ m.toNat ∧ List.length l = k ∧ Below b w wq ∧ Sep b wq (slO byteT 5 u l :: curO v n c 115 :: os)) x.1 x.2.1 x.2.2) (fun x => (fun k l u => [(6, I ((k : Int))), (5, u), (0, .pointer (some ⟨c, 0, none⟩)), (1, I m), (4, .slice none 0 0)]) x.1 x.2.1 x.2.2) (fun x => (fun k l u => m.toNat - k) x.1 x.2.1 x.2.2) (0, [], _) ?_ ⟨rfl, rfl, rfl, rfl, rfl, trivial⟩ ?_
 ·exact ⟨by omega, rfl, B, S⟩
 rintro ⟨k, l, u⟩ w3 hI
 try dsimp only at hI ⊢
 obtain ⟨hk, hl, B, S⟩ := hI
 iterate 2 refine w_s ?_
 refine w_g ?_
 iterate 2 refine t_m rfl ?_ rfl
 refine t_lss rfl rfl ?_ rfl
 refine t_d ?_
 refine x_s ?_
 refine w_if rfl ?_ ?_
 ·intro hlt
  refine w_k ?_
  refine x_s ?_
  refine w_s ?_
  refine w_block ?_
  refine w_g ?_
  iterate 2 refine t_m rfl ?_ rfl
  have S := S.f1
  refine t_f Tryz.call118 rfl (spec_l1Byte S (K.below B)) ?_ rfl
  rintro e w4 ⟨y15, rfl, hf15, S, x5⟩
  refine ⟨_, rfl, ?_⟩
  have B := B.trans x5
  refine t_conv Tryz.underlying3 Tryz.underlying5 rfl ?_ rfl
  refine t_lit (T := byteT) (l := [bt y15]) (css := [[.int .u8 (IntKind.u8.wrap y15)]]) byte_flat S (fun w => bs_byte1 _ w) rfl rfl rfl rfl (by simp [maxLen]) (litR_one fun _ => byte_lit _) ?_ rfl rfl
  intro u17 w6 x7 S
  have B := bx Hb B x7
  have hR := S.sl
  have S := S.f2
  refine t_cat byte_flat e_byte S hR rfl rfl rfl (by first | omega | (simp [-List.length_flatMap]; omega)) (by (simp [maxLen, -List.length_flatMap]; try omega)) ?_ rfl
  intro v18 w8 x9 S
  have B := B.trans x9
  clear hR
  have S := S.f1.tail
  refine t_a rfl ?_ rfl
  refine t_d ?_
  refine x_b ?_
  refine x_s ?_
  refine w_g ?_
  refine t_m rfl ?_ rfl
  refine t_add rfl rfl (by omega) ?_ rfl
  refine t_a rfl ?_ rfl
  refine t_d ?_
  refine x_r (X := Nat × List UInt8 × Value) (k + 1, l ++ [bt y15], v18) ?_ (by exact ⟨rfl, rfl, rfl, rfl, rfl, trivial⟩) (by (try dsimp only); omega)
  try dsimp only
  exact ⟨by omega, by rw [List.length_append, List.length_singleton]; omega, B, S⟩
 ·intro hge
  refine w_exit ?_
  iterate 2 refine x_then_exit ?_
  refine x_block_exit ?_
  refine x_s ?_
  refine w_s ?_
  refine w_g ?_
  refine t_m rfl ?_ rfl
  refine t_a rfl ?_ rfl
  refine t_d ?_
  refine x_s ?_
  refine w_r ?_
  refine x_ret1 rfl rfl ?_
  exact ⟨_, _, rfl, by omega, S, B⟩
/-- Bytes, bent: they are only read from then on. -/
theorem spec_l1Bent {b n c : Nat} {w : World} {v u : Value} {l : List UInt8} {os : List Ow} (S : Sep b w (curO v n c 115 :: slO byteT 5 u l :: os)) (K : CodeK b w v n) (hz : l.length ≤ 1000000000) : Calls Tryz.prog 88 #[.pointer (some ⟨c, 0, none⟩), u] w fun e w' => ∃ (u' : Value) (l' : List UInt8), e = .returned u' ∧ l'.length ≤ l.length + 1 ∧ Sep b w' (rdO byteT u' l' :: curO v n c 115 :: slO byteT 5 u l :: os) ∧ Below b w w' := by
 have X0 := Below.refl w.heap.size w
 refine enter Tryz.func88 rfl Tryz.ntmps88 rfl ?_
 have B := Below.refl b w
 have Hb := S.base
 refine w_s ?_
 refine w_g ?_
 refine t_a rfl ?_ rfl
 refine t_d ?_
 refine x_s ?_
 refine w_s ?_
 refine w_g ?_
 refine t_lit0 (T := byteT) S bs_byte0 rfl ?_ rfl rfl
 intro A6 w10 x11 S
 have B := bx Hb B x11
 refine t_m rfl ?_ rfl
 have hR := S.tail.tail.sl
 refine t_cat byte_flat e_byte S hR rfl rfl rfl (by first | omega | (simp [-List.length_flatMap]; omega)) (by (simp [maxLen, -List.length_flatMap]; try omega)) ?_ rfl
 intro v8 w12 x13 S
 have B := B.trans x13
 clear hR
 refine t_a rfl ?_ rfl
 refine t_d ?_
 refine x_s ?_
 iterate 2 refine w_s ?_
 refine w_g ?_
 refine t_m rfl ?_ rfl
 have S := S.f1
 refine t_f Tryz.call57 rfl (spec_l1Below 6 S (K.below B)) ?_ rfl
 rintro e w14 ⟨y10, rfl, hf10, S, x15⟩
 refine ⟨_, rfl, ?_⟩
 have B := B.trans x15
 refine t_d ?_
 refine x_s ?_
 refine w_block ?_
 refine w_s ?_
 refine w_g ?_
 refine t_eql rfl rfl ?_ rfl
 refine t_a rfl ?_ rfl
 refine t_d ?_
 refine x_s ?_
 simp only [List.nil_append] at S
 refine w_if rfl ?_ ?_
 ·intro h0
  refine w_s ?_
  refine w_g ?_
  refine t_m rfl ?_ rfl
  refine t_len e_byte (S.tail.sl) rfl rfl ?_ rfl
  refine t_gtr rfl rfl ?_ rfl
  refine t_d ?_
  refine x_s ?_
  refine w_if rfl ?_ ?_
  ·intro h1
   have S := S.f1
   obtain ⟨Gv8, Cv8, rfl⟩ := S.addr (by omega)
   refine w_g ?_
   iterate 3 refine t_m rfl ?_ rfl
   refine t_lenx e_byte rfl rfl ?_ rfl
   have S := S.f1
   refine t_f Tryz.call57 rfl (spec_l1Below (l.length : Int) S (K.below B)) ?_ rfl
   rintro e w16 ⟨y20, rfl, hf20, S, x17⟩
   refine ⟨_, rfl, ?_⟩
   have B := B.trans x17
   refine t_m rfl ?_ rfl
   refine t_f Tryz.call57 rfl (spec_l1Below 256 S (K.below B)) ?_ rfl
   rintro e w18 ⟨y22, rfl, hf22, S, x19⟩
   refine ⟨_, rfl, ?_⟩
   have B := B.trans x19
   refine t_conv Tryz.underlying3 Tryz.underlying5 rfl ?_ rfl
   refine t_idxx e_byte (k := y20.toNat) rfl rfl (by first | rfl | omega) (by omega) rfl ?_ rfl
   obtain ⟨e0, he0⟩ := getx (l := l) (k := y20.toNat) (by omega)
   have S := S.f1
   refine t_stS (T := byteT) (j := 0) (x' := bt y22) S (by first | rfl | ((try simp only [List.length_set]); first | omega | simp)) sb_byte rfl rfl he0 rfl (by decide) rfl rfl so_byte ?_
   intro w20 b21 S
   have B := B.trans b21
   have hq22 := set_at (y := bt y22) he0
   refine t_d ?_
   refine x_b ?_
   refine x_s ?_
   refine w_s ?_
   refine w_g ?_
   refine t_m rfl ?_ rfl
   refine t_a rfl ?_ rfl
   refine t_d ?_
   refine x_s ?_
   refine w_r ?_
   refine x_ret1 rfl rfl ?_
   have S := S.toRd (fun _ h => h)
   have S := S.f2.f2.f2
   exact ⟨_, _, rfl, by rw [List.length_set]; omega, S, B⟩
  ·intro h1
   refine w_k ?_
   refine x_b ?_
   refine x_s ?_
   refine w_s ?_
   refine w_g ?_
   refine t_m rfl ?_ rfl
   refine t_a rfl ?_ rfl
   refine t_d ?_
   refine x_s ?_
   refine w_r ?_
   refine x_ret1 rfl rfl ?_
   have S := S.f1
   have S := S.toRd (fun _ h => h)
   have S := S.f2.f2.f2
   exact ⟨_, l, rfl, by omega, S, B⟩
 ·intro h0
  refine w_s ?_
  refine w_g ?_
  refine t_eql rfl rfl ?_ rfl
  refine t_a rfl ?_ rfl
  refine t_d ?_
  refine x_s ?_
  refine w_if rfl ?_ ?_
  ·intro h1
   refine w_g ?_
   iterate 3 refine t_m rfl ?_ rfl
   refine t_len e_byte (S.tail.sl) rfl rfl ?_ rfl
   refine t_add rfl rfl (by omega) ?_ rfl
   refine t_f Tryz.call57 rfl (spec_l1Below ((l.length : Int) + 1) S (K.below B)) ?_ rfl
   rintro e w23 ⟨y32, rfl, hf32, S, x24⟩
   refine ⟨_, rfl, ?_⟩
   have B := B.trans x24
   obtain ⟨Av8, cv8, rfl, _⟩ := S.tail.sl.form
   refine t_sltv e_byte (k := y32.toNat) rfl rfl (by first | rfl | omega) (by omega) ?_ rfl
   refine t_a rfl ?_ rfl
   refine t_d ?_
   refine x_b ?_
   refine x_s ?_
   refine w_s ?_
   refine w_g ?_
   refine t_m rfl ?_ rfl
   refine t_a rfl ?_ rfl
   refine t_d ?_
   refine x_s ?_
   refine w_r ?_
   refine x_ret1 rfl rfl ?_
   have S := S.f1
   have S := S.toRd (fun _ h => SlR.takeV (k := y32.toNat) h (by omega))
   have S := S.f2.f2.f2
   exact ⟨_, l.take y32.toNat, rfl, by rw [List.length_take]; omega, S, B⟩
  ·intro h1
   refine w_s ?_
   refine w_g ?_
   refine t_eql rfl rfl ?_ rfl
   refine t_a rfl ?_ rfl
   refine t_d ?_
   refine x_s ?_
   refine w_if rfl ?_ ?_
   ·intro h2
    refine w_g ?_
    iterate 2 refine t_m rfl ?_ rfl
    refine t_lit (T := intT) (l := [0, 1, 128, 255]) (css := ([0, 1, 128, 255]).map fun a => [I a]) int_flat S (fun w => bs_int4 _ _ _ _ w) rfl rfl rfl rfl (by simp [maxLen]) (litR_int _) ?_ rfl rfl
    intro u38 w25 x26 S
    have B := bx Hb B x26
    have S := S.f1
    refine t_f Tryz.call115 rfl (spec_l1Int S (K.below B) (by simp)) ?_ rfl
    rintro e w27 ⟨y39, rfl, hf39, S, x28⟩
    refine ⟨_, rfl, ?_⟩
    have B := B.trans x28
    refine t_conv Tryz.underlying3 Tryz.underlying5 rfl ?_ rfl
    refine t_lit (T := byteT) (l := [bt y39]) (css := [[.int .u8 (IntKind.u8.wrap y39)]]) byte_flat S (fun w => bs_byte1 _ w) rfl rfl rfl rfl (by simp [maxLen]) (litR_one fun _ => byte_lit _) ?_ rfl rfl
    intro u41 w29 x30 S
    have B := bx Hb B x30
    have hR := S.sl
    have S := S.f3
    refine t_cat byte_flat e_byte S hR rfl rfl rfl (by first | omega | (simp [-List.length_flatMap]; omega)) (by (simp [maxLen, -List.length_flatMap]; try omega)) ?_ rfl
    intro v42 w31 x32 S
    have B := B.trans x32
    clear hR
    have S := S.f1.tail
    refine t_a rfl ?_ rfl
    refine t_d ?_
    refine x_b ?_
    refine x_s ?_
    refine w_s ?_
    refine w_g ?_
    refine t_m rfl ?_ rfl
    refine t_a rfl ?_ rfl
    refine t_d ?_
    refine x_s ?_
    refine w_r ?_
    refine x_ret1 rfl rfl ?_
    have S := S.toRd (fun _ h => h)
    have S := S.f2.tail.f2.f2.f2
    exact ⟨_, _, rfl, by rw [List.length_append, List.length_singleton]; omega, S, B⟩
   ·intro h2
    refine w_k ?_
    refine x_b ?_
    refine x_s ?_
    refine w_s ?_
    refine w_g ?_
    refine t_m rfl ?_ rfl
    refine t_a rfl ?_ rfl
    refine t_d ?_
    refine x_s ?_
    refine w_r ?_
    refine x_ret1 rfl rfl ?_
    have S := S.f1
    have S := S.toRd (fun _ h => h)
    have S := S.f2.f2.f2
    exact ⟨_, l, rfl, by omega, S, B⟩
end Go.Proofs.YtdaecknfahgddaaGreat
namespace Go.Proofs.YtdaecknfahgddaaGreat
open Go.RowKit
set_option linter.unusedVariables false
/-- The part at which a packet stands. -/
def curPart (p : Pkt) : Option Part := if 0 ≤ p.pidx then p.path[p.pidx.toNat]? else none
def curHop (p : Pkt) : Option Hop := match curPart p with
  | none => none
  | some x => if 0 ≤ p.hidx then x.hops[p.hidx.toNat]? else none
def currentAS (p : Pkt) : Int := match curHop p with
  | none => -1
  | some h => h.ia
/-- A packet stands at no part, at a part but at no hop, or at a hop. -/
theorem cur_cases (p : Pkt) : (Hid (inR p.pidx 0 ((p.path.length : Int) - 1) = false) ∧ Hid (curHop p = none)) ∨
    (∃ k x, p.pidx = ((k : Nat) : Int) ∧ k < p.path.length ∧ Hid (p.path[k]? = some x) ∧ Hid (inR (k : Int) 0 ((p.path.length : Int) - 1) = true) ∧
      ((Hid (inR p.hidx 0 ((x.hops.length : Int) - 1) = false) ∧ Hid (curHop p = none)) ∨
       ∃ j h, p.hidx = ((j : Nat) : Int) ∧ j < x.hops.length ∧ Hid (x.hops[j]? = some h) ∧ Hid (inR (j : Int) 0 ((x.hops.length : Int) - 1) = true) ∧ Hid (curHop p = some h))) := by
  by_cases h1 : 0 ≤ p.pidx ∧ p.pidx < p.path.length
  · right
    obtain ⟨k, hk⟩ := Int.eq_ofNat_of_zero_le h1.1
    have hlt : k < p.path.length := by omega
    have hx : p.path[k]? = some (p.path[k]'hlt) := List.getElem?_eq_getElem hlt
    have hc : curPart p = some (p.path[k]'hlt) := by unfold curPart; rw [if_pos h1.1, hk, Int.toNat_natCast, hx]
    refine ⟨k, p.path[k]'hlt, hk, hlt, hx, inR_yes (by omega) (by omega), ?_⟩
    by_cases h2 : 0 ≤ p.hidx ∧ p.hidx < (p.path[k]'hlt).hops.length
    · right
      obtain ⟨j, hj⟩ := Int.eq_ofNat_of_zero_le h2.1
      have hjl : j < (p.path[k]'hlt).hops.length := by omega
      refine ⟨j, (p.path[k]'hlt).hops[j]'hjl, hj, hjl, List.getElem?_eq_getElem hjl, inR_yes (by omega) (by omega), ?_⟩
      show curHop p = _
      unfold curHop
      rw [hc]
      simp only []
      rw [if_pos h2.1, hj, Int.toNat_natCast, List.getElem?_eq_getElem hjl]
    · left
      refine ⟨?_, ?_⟩
      · by_cases h3 : 0 ≤ p.hidx
        · exact inR_hi (by omega)
        · exact inR_lo (by omega)
      · show curHop p = _
        unfold curHop
        rw [hc]
        simp only []
        by_cases h3 : 0 ≤ p.hidx
        · rw [if_pos h3, List.getElem?_eq_none (by omega)]
        · rw [if_neg h3]
  · left
    refine ⟨?_, ?_⟩
    · by_cases h3 : 0 ≤ p.pidx
      · exact inR_hi (by omega)
      · exact inR_lo (by omega)
    · show curHop p = _
      unfold curHop curPart
      by_cases h3 : 0 ≤ p.pidx
      · rw [if_pos h3, List.getElem?_eq_none (by omega)]
      · rw [if_neg h3]
theorem same_false {P : Program} {f : FuncId} {args : Array Value} {w : World} {b c : Bool} (hb : Hid (b = c)) (h : Calls P f args w fun e w' => e = .returned (.bool b) ∧ w = w') : Calls P f args w fun e w' => e = .returned (.bool c) ∧ w = w' := by
  rw [hb.out] at h; exact h
set_option maxRecDepth 100000 in
set_option maxHeartbeats 1000000 in
theorem impl_hasHop (p : Pkt) (cs : List Value) (w : World) (h : pktT.R w cs p) (hz : sz_pkt p ≤ 1048576) :
  Calls Tryz.prog 109 #[.agg cs.toArray] w fun e w' => e = .returned (.bool (curHop p).isSome) ∧ Below w.heap.size w w' := by
 obtain ⟨A3, c3, A9, c9, rfl, ⟨h3, _⟩, _⟩ := pkt_form h
 have hs : sz_path p.path ≤ 1048576 := by unfold sz_pkt at hz; omega
 have hn0 : p.path.length ≤ 1048576 := by have : sz_path p.path = List.length p.path + (p.path.map sz_part).sum := rfl; omega
 obtain ⟨r, Hr⟩ : ∃ r, Hid (r = (curHop p).isSome) := ⟨_, rfl⟩
 rw [← Hr.out]
 clear h hz
 have hcc := cur_cases p
 obtain ⟨n, H⟩ : ∃ n, Hid (n = List.length p.path) := ⟨_, rfl⟩
 rw [← H.out] at h3 hn0 ⊢
 obtain ⟨W, HW⟩ : ∃ W, Hid (W = w.alloc (.cells #[I p.kind, I p.src, I p.dst, .slice A3 n c3, I p.pidx, I p.hidx, I p.beta, I p.rid, I p.seq, .slice A9 p.pay.length c9] 51)) := ⟨_, rfl⟩
 have x0 : Below w.heap.size w W := by rw [HW.out]; exact ext_alloc1 _ _
 have a3 : ∀ m : Xt W, m.w.cell? ⟨w.heap.size, 3, none⟩ = some (.slice A3 n c3) := fun m => ck m.h (by rw [HW.out]; simp)
 have a4 : ∀ m : Xt W, m.w.cell? ⟨w.heap.size, 4, none⟩ = some (I p.pidx) := fun m => ck m.h (by rw [HW.out]; simp)
 have a5 : ∀ m : Xt W, m.w.cell? ⟨w.heap.size, 5, none⟩ = some (I p.hidx) := fun m => ck m.h (by rw [HW.out]; simp)
 rcases hcc with ⟨hr, hc⟩ | ⟨k, x, ek, hk, hx, hr, hj⟩
 ·rw [← H.out] at hr
  have HR : Hid (r = false) := by show _ = _; rw [Hr.out, hc.out]; rfl
  go_enter Tryz.func109, Tryz.ntmps109
  go_wp2_with (fail)
  rw [← HW.out]
  refine wp_region_ext (by kernel_rfl) (by kernel_rfl) ?_
  repeat (go_big_quiet_step ((go_at_call 61; exact ext_of_same _ (same_false hr (impl_InRange _ _ _ _)))))
  refine wpQuiet_nil ?_
  rintro _ ⟨⟨w1, hb1⟩, rfl⟩
  go_wp2_with (fail)
  go_ret
  exact ⟨by rw [HR.out]; rfl, ext_trans x0 hb1⟩
 ·rw [← H.out] at hr hk
  rw [ek] at a4
  clear ek
  obtain ⟨g, o, q, x', B, d, e, hg, hxk, hin, hd, c0, c1, c2, c3'⟩ := part_at (k := k) h3 (by rw [← H.out]; exact hk)
  rw [← H.out] at e
  cases e
  obtain rfl : x = x' := by have := hx.out.symm.trans hxk.out; injection this
  have b3 : ∀ m : Xt W, m.w.cell? ⟨g, o + k * 4 + 3, none⟩ = some (.slice B x.hops.length d) := fun m => ck m.h (ck x0 c3')
  clear c0 c1 c2 c3'
  have hm0 : x.hops.length ≤ 1048576 := by
   have := le_sum_of_mem (List.mem_map.2 ⟨x, List.mem_of_getElem? hx.out, rfl⟩ : sz_part x ∈ p.path.map sz_part)
   have h2 : sz_path p.path = List.length p.path + (p.path.map sz_part).sum := rfl
   have h3 : sz_part x = x.hops.length := rfl
   omega
  obtain ⟨m, Hm⟩ : ∃ m, Hid (m = x.hops.length) := ⟨_, rfl⟩
  rw [← Hm.out] at b3 hm0
  rcases hj with ⟨hr2, hc⟩ | ⟨j, y, ej, hjl, hy, hr2, hc⟩
  ·rw [← Hm.out] at hr2
   have HR : Hid (r = false) := by show _ = _; rw [Hr.out, hc.out]; rfl
   go_enter Tryz.func109, Tryz.ntmps109
   go_wp2_with (fail)
   rw [← HW.out]
   refine wp_region_ext (by kernel_rfl) (by kernel_rfl) ?_
   repeat (go_big_quiet_step (first | (go_at_call_of 61 (I (k : Int)); exact ext_of_same _ (same_false hr (impl_InRange _ _ _ _))) | (go_at_call_of 61 (I p.hidx); exact ext_of_same _ (same_false hr2 (impl_InRange _ _ _ _)))))
   refine wpQuiet_nil ?_
   rintro _ ⟨⟨w1, hb1⟩, rfl⟩
   go_wp2_with (fail)
   go_ret
   exact ⟨by rw [HR.out]; rfl, ext_trans x0 hb1⟩
  ·rw [← Hm.out] at hr2
   rw [ej] at a5
   clear ej
   have HR : Hid (r = true) := by show _ = _; rw [Hr.out, hc.out]; rfl
   go_enter Tryz.func109, Tryz.ntmps109
   go_wp2_with (fail)
   rw [← HW.out]
   refine wp_region_ext (by kernel_rfl) (by kernel_rfl) ?_
   repeat (go_big_quiet_step (first | (go_at_call_of 61 (I (k : Int)); exact ext_of_same _ (same_false hr (impl_InRange _ _ _ _))) | (go_at_call_of 61 (I (j : Int)); exact ext_of_same _ (same_false hr2 (impl_InRange _ _ _ _)))))
   refine wpQuiet_nil ?_
   rintro _ ⟨⟨w1, hb1⟩, rfl⟩
   go_wp2_with (fail)
   go_ret
   exact ⟨by rw [HR.out]; rfl, ext_trans x0 hb1⟩
set_option maxRecDepth 100000 in
set_option maxHeartbeats 1000000 in
theorem impl_CurrentAS (p : Pkt) (cs : List Value) (w : World) (h : pktT.R w cs p) (hz : sz_pkt p ≤ 1048576) (hl : lenOk_pkt p) (hg : rng_pkt p) :
  Calls Tryz.prog 49 #[.agg cs.toArray] w fun e w' => e = .returned (I (currentAS p)) ∧ Below w.heap.size w w' := by
 obtain ⟨A3, c3, A9, c9, rfl, ⟨h3, _⟩, _⟩ := pkt_form h
 have hs : sz_path p.path ≤ 1048576 := by unfold sz_pkt at hz; omega
 have hn0 : p.path.length ≤ 1048576 := by have : sz_path p.path = List.length p.path + (p.path.map sz_part).sum := rfl; omega
 obtain ⟨r, Hr⟩ : ∃ r, Hid (r = currentAS p) := ⟨_, rfl⟩
 rw [← Hr.out]
 have hcc := cur_cases p
 obtain ⟨n, H⟩ : ∃ n, Hid (n = List.length p.path) := ⟨_, rfl⟩
 have HC := hid fun w' (hw : Below w.heap.size w w') => impl_hasHop p _ w' (pktT.kp h hw) hz
 clear h hz hl hg
 rw [← H.out] at h3 hn0 HC ⊢
 obtain ⟨W, HW⟩ : ∃ W, Hid (W = w.alloc (.cells #[I p.kind, I p.src, I p.dst, .slice A3 n c3, I p.pidx, I p.hidx, I p.beta, I p.rid, I p.seq, .slice A9 p.pay.length c9] 51)) := ⟨_, rfl⟩
 have x0 : Below w.heap.size w W := by rw [HW.out]; exact ext_alloc1 _ _
 have a3 : ∀ m : Xt W, m.w.cell? ⟨w.heap.size, 3, none⟩ = some (.slice A3 n c3) := fun m => ck m.h (by rw [HW.out]; simp)
 have a4 : ∀ m : Xt W, m.w.cell? ⟨w.heap.size, 4, none⟩ = some (I p.pidx) := fun m => ck m.h (by rw [HW.out]; simp)
 have a5 : ∀ m : Xt W, m.w.cell? ⟨w.heap.size, 5, none⟩ = some (I p.hidx) := fun m => ck m.h (by rw [HW.out]; simp)
 rcases hcc with ⟨hr, hc⟩ | ⟨k, x, ek, hk, hx, hr, hj⟩
 ·have HR : Hid (r = -1) := by show _ = _; rw [Hr.out]; unfold currentAS; rw [hc.out]
  have hsome : Hid ((curHop p).isSome = false) := by show _ = _; rw [hc.out]; rfl
  go_enter Tryz.func49, Tryz.ntmps49
  go_wp2_with (fail)
  rw [← HW.out]
  refine (HC.out W x0).mono ?_
  rintro e w1 ⟨rfl, hb1⟩
  rw [hsome.out]
  go_wp2_with (fail)
  go_ret
  exact ⟨by rw [HR.out]; rfl, ext_trans x0 hb1⟩
 ·rw [← H.out] at hr hk
  rw [ek] at a4
  clear ek
  obtain ⟨g, o, q, x', B, d, e, hg, hxk, hin, hd, c0, c1, c2, c3'⟩ := part_at (k := k) h3 (by rw [← H.out]; exact hk)
  rw [← H.out] at e
  cases e
  obtain rfl : x = x' := by have := hx.out.symm.trans hxk.out; injection this
  have b3 : ∀ m : Xt W, m.w.cell? ⟨g, o + k * 4 + 3, none⟩ = some (.slice B x.hops.length d) := fun m => ck m.h (ck x0 c3')
  clear c0 c1 c2 c3'
  have hm0 : x.hops.length ≤ 1048576 := by
   have := le_sum_of_mem (List.mem_map.2 ⟨x, List.mem_of_getElem? hx.out, rfl⟩ : sz_part x ∈ p.path.map sz_part)
   have h2 : sz_path p.path = List.length p.path + (p.path.map sz_part).sum := rfl
   have h3 : sz_part x = x.hops.length := rfl
   omega
  obtain ⟨m, Hm⟩ : ∃ m, Hid (m = x.hops.length) := ⟨_, rfl⟩
  rw [← Hm.out] at b3 hm0
  rcases hj with ⟨hr2, hc⟩ | ⟨j, y, ej, hjl, hy, hr2, hc⟩
  ·have HR : Hid (r = -1) := by show _ = _; rw [Hr.out]; unfold currentAS; rw [hc.out]
   have hsome : Hid ((curHop p).isSome = false) := by show _ = _; rw [hc.out]; rfl
   go_enter Tryz.func49, Tryz.ntmps49
   go_wp2_with (fail)
   rw [← HW.out]
   refine (HC.out W x0).mono ?_
   rintro e w1 ⟨rfl, hb1⟩
   rw [hsome.out]
   go_wp2_with (fail)
   go_ret
   exact ⟨by rw [HR.out]; rfl, ext_trans x0 hb1⟩
  ·rw [ej] at a5
   clear ej
   obtain ⟨g', o', q', y', e', hg', hyj, b0, b1, b2, b3', b4⟩ := hop_at (k := j) hin (by omega)
   rw [← Hm.out] at hjl e'
   cases e'
   obtain rfl : y = y' := by have := hy.out.symm.trans hyj.out; injection this
   have HR : Hid (r = y.ia) := by show _ = _; rw [Hr.out]; unfold currentAS; rw [hc.out]
   have hsome : Hid ((curHop p).isSome = true) := by show _ = _; rw [hc.out]; rfl
   go_enter Tryz.func49, Tryz.ntmps49
   go_wp2_with (fail)
   rw [← HW.out]
   refine (HC.out W x0).mono ?_
   rintro e w1 ⟨rfl, hb1⟩
   rw [hsome.out]
   have f3 := a3 ⟨w1, hb1⟩
   have f4 := a4 ⟨w1, hb1⟩
   have f5 := a5 ⟨w1, hb1⟩
   have fb := b3 ⟨w1, hb1⟩
   have fh := ck (ext_trans x0 hb1) b0
   clear a3 a4 a5 b3 b0 b1 b2 b3' b4
   go_wp2_with (fail)
   go_quiet (fail)
   go_wp2_with (fail)
   go_ret
   exact ⟨by rw [HR.out]; rfl, below_drewN (ext_trans x0 hb1) _⟩
set_option maxRecDepth 100000 in
set_option maxHeartbeats 1000000 in
theorem spec_CurrentAS (p : Pkt) (cs : List Value) (w : World) (h : pktT.R w cs p) (hz : sz_pkt p ≤ 1048576) (hl : lenOk_pkt p) (hg : rng_pkt p) :
  Calls Tryz.prog 50 #[.agg cs.toArray] w fun e w' => e = .returned (I (currentAS p)) ∧ Below w.heap.size w w' := by
 obtain ⟨A3, c3, A9, c9, rfl, ⟨h3, _⟩, _⟩ := pkt_form h
 have hs : sz_path p.path ≤ 1048576 := by unfold sz_pkt at hz; omega
 have hn0 : p.path.length ≤ 1048576 := by have : sz_path p.path = List.length p.path + (p.path.map sz_part).sum := rfl; omega
 obtain ⟨r, Hr⟩ : ∃ r, Hid (r = currentAS p) := ⟨_, rfl⟩
 rw [← Hr.out]
 have hcc := cur_cases p
 obtain ⟨n, H⟩ : ∃ n, Hid (n = List.length p.path) := ⟨_, rfl⟩
 clear h hz hl hg
 rw [← H.out] at h3 hn0 ⊢
 obtain ⟨W, HW⟩ : ∃ W, Hid (W = w.alloc (.cells #[I p.kind, I p.src, I p.dst, .slice A3 n c3, I p.pidx, I p.hidx, I p.beta, I p.rid, I p.seq, .slice A9 p.pay.length c9] 51)) := ⟨_, rfl⟩
 have x0 : Below w.heap.size w W := by rw [HW.out]; exact ext_alloc1 _ _
 have a3 : ∀ m : Xt W, m.w.cell? ⟨w.heap.size, 3, none⟩ = some (.slice A3 n c3) := fun m => ck m.h (by rw [HW.out]; simp)
 have a4 : ∀ m : Xt W, m.w.cell? ⟨w.heap.size, 4, none⟩ = some (I p.pidx) := fun m => ck m.h (by rw [HW.out]; simp)
 have a5 : ∀ m : Xt W, m.w.cell? ⟨w.heap.size, 5, none⟩ = some (I p.hidx) := fun m => ck m.h (by rw [HW.out]; simp)
 rcases hcc with ⟨hr, hc⟩ | ⟨k, x, ek, hk, hx, hr, hj⟩
 ·rw [← H.out] at hr
  have HR : Hid (r = -1) := by show _ = _; rw [Hr.out]; unfold currentAS; rw [hc.out]
  have hsome : Hid ((curHop p).isSome = false) := by show _ = _; rw [hc.out]; rfl
  go_enter Tryz.func50, Tryz.ntmps50
  go_wp2_with (fail)
  rw [← HW.out]
  refine wp_region_ext (by kernel_rfl) (by kernel_rfl) ?_
  repeat (go_big_quiet_step ((go_at_call 64; exact ext_of_same _ (same_false hr (spec_l1In _ _ _ _)))))
  refine wpQuiet_nil ?_
  rintro w1 ⟨⟨_, hb1⟩, rfl⟩
  go_wp2_with (fail)
  go_ret
  exact ⟨by rw [HR.out]; rfl, ext_trans x0 hb1⟩
 ·rw [← H.out] at hr hk
  rw [ek] at a4
  clear ek
  obtain ⟨g, o, q, x', B, d, e, hg, hxk, hin, hd, c0, c1, c2, c3'⟩ := part_at (k := k) h3 (by rw [← H.out]; exact hk)
  rw [← H.out] at e
  cases e
  obtain rfl : x = x' := by have := hx.out.symm.trans hxk.out; injection this
  have b3 : ∀ m : Xt W, m.w.cell? ⟨g, o + k * 4 + 3, none⟩ = some (.slice B x.hops.length d) := fun m => ck m.h (ck x0 c3')
  clear c0 c1 c2 c3'
  have hm0 : x.hops.length ≤ 1048576 := by
   have := le_sum_of_mem (List.mem_map.2 ⟨x, List.mem_of_getElem? hx.out, rfl⟩ : sz_part x ∈ p.path.map sz_part)
   have h2 : sz_path p.path = List.length p.path + (p.path.map sz_part).sum := rfl
   have h3 : sz_part x = x.hops.length := rfl
   omega
  obtain ⟨m, Hm⟩ : ∃ m, Hid (m = x.hops.length) := ⟨_, rfl⟩
  rw [← Hm.out] at b3 hm0
  rcases hj with ⟨hr2, hc⟩ | ⟨j, y, ej, hjl, hy, hr2, hc⟩
  ·rw [← Hm.out] at hr2
   have HR : Hid (r = -1) := by show _ = _; rw [Hr.out]; unfold currentAS; rw [hc.out]
   have hsome : Hid ((curHop p).isSome = false) := by show _ = _; rw [hc.out]; rfl
   go_enter Tryz.func50, Tryz.ntmps50
   go_wp2_with (fail)
   rw [← HW.out]
   refine wp_region_ext (by kernel_rfl) (by kernel_rfl) ?_
   repeat (go_big_quiet_step (first | (go_at_call_of 64 (I (k : Int)); exact ext_of_same _ (same_false hr (spec_l1In _ _ _ _))) | (go_at_call_of 64 (I p.hidx); exact ext_of_same _ (same_false hr2 (spec_l1In _ _ _ _)))))
   refine wpQuiet_nil ?_
   rintro w1 ⟨⟨_, hb1⟩, rfl⟩
   go_wp2_with (fail)
   go_ret
   exact ⟨by rw [HR.out]; rfl, ext_trans x0 hb1⟩
  ·rw [← Hm.out] at hr2
   rw [ej] at a5
   clear ej
   obtain ⟨g', o', q', y', e', hg', hyj, b0, b1, b2, b3', b4⟩ := hop_at (k := j) hin (by omega)
   rw [← Hm.out] at hjl e'
   cases e'
   obtain rfl : y = y' := by have := hy.out.symm.trans hyj.out; injection this
   have HR : Hid (r = y.ia) := by show _ = _; rw [Hr.out]; unfold currentAS; rw [hc.out]
   have hsome : Hid ((curHop p).isSome = true) := by show _ = _; rw [hc.out]; rfl
   go_enter Tryz.func50, Tryz.ntmps50
   go_wp2_with (fail)
   rw [← HW.out]
   refine wp_region_ext (by kernel_rfl) (by kernel_rfl) ?_
   repeat (go_big_quiet_step (first | (go_at_call_of 64 (I (k : Int)); exact ext_of_same _ (same_false hr (spec_l1In _ _ _ _))) | (go_at_call_of 64 (I (j : Int)); exact ext_of_same _ (same_false hr2 (spec_l1In _ _ _ _)))))
   refine wpQuiet_nil ?_
   rintro w1 ⟨⟨_, hb1⟩, rfl⟩
   have f3 := a3 ⟨w1, hb1⟩
   have f4 := a4 ⟨w1, hb1⟩
   have f5 := a5 ⟨w1, hb1⟩
   have fb := b3 ⟨w1, hb1⟩
   have fh := ck (ext_trans x0 hb1) b0
   clear a3 a4 a5 b3 b0 b1 b2 b3' b4
   go_wp2_with (fail)
   go_quiet (fail)
   go_wp2_with (fail)
   go_ret
   exact ⟨by rw [HR.out]; rfl, below_drewN (ext_trans x0 hb1) _⟩
end Go.Proofs.YtdaecknfahgddaaGreat
namespace Go.Proofs.YtdaecknfahgddaaGreat
open Go.RowKit
set_option linter.unusedVariables false
/-- Whether a packet stands at the last hop of its path. -/
def atLastHop (p : Pkt) : Bool := match curPart p with
  | none => false
  | some x => decide (0 ≤ currentAS p) && ((p.hidx == (x.hops.length : Int) - 1) && (p.pidx == (p.path.length : Int) - 1))
set_option maxRecDepth 100000 in
set_option maxHeartbeats 1000000 in
theorem impl_lastOfPart (p : Pkt) (cs : List Value) (w : World) (h : pktT.R w cs p) (hz : sz_pkt p ≤ 1048576) (k : Nat) (x : Part) (ek : p.pidx = (k : Int)) (hx : Hid (p.path[k]? = some x)) :
  Calls Tryz.prog 110 #[.agg cs.toArray] w fun e w' => e = .returned (.bool (p.hidx == (x.hops.length : Int) - 1)) ∧ Below w.heap.size w w' := by
 obtain ⟨A3, c3, A9, c9, rfl, ⟨h3, _⟩, _⟩ := pkt_form h
 have hs : sz_path p.path ≤ 1048576 := by unfold sz_pkt at hz; omega
 have hn0 : p.path.length ≤ 1048576 := by have : sz_path p.path = List.length p.path + (p.path.map sz_part).sum := rfl; omega
 obtain ⟨r, Hr⟩ : ∃ r, Hid (r = (p.hidx == (x.hops.length : Int) - 1)) := ⟨_, rfl⟩
 rw [← Hr.out]
 clear h hz
 have hk : k < p.path.length := (List.getElem?_eq_some_iff.1 hx.out).1
 obtain ⟨n, H⟩ : ∃ n, Hid (n = List.length p.path) := ⟨_, rfl⟩
 rw [← H.out] at h3 hn0 hk ⊢
 obtain ⟨W, HW⟩ : ∃ W, Hid (W = w.alloc (.cells #[I p.kind, I p.src, I p.dst, .slice A3 n c3, I p.pidx, I p.hidx, I p.beta, I p.rid, I p.seq, .slice A9 p.pay.length c9] 51)) := ⟨_, rfl⟩
 have x0 : Below w.heap.size w W := by rw [HW.out]; exact ext_alloc1 _ _
 have a3 : ∀ m : Xt W, m.w.cell? ⟨w.heap.size, 3, none⟩ = some (.slice A3 n c3) := fun m => ck m.h (by rw [HW.out]; simp)
 have a4 : ∀ m : Xt W, m.w.cell? ⟨w.heap.size, 4, none⟩ = some (I p.pidx) := fun m => ck m.h (by rw [HW.out]; simp)
 have a5 : ∀ m : Xt W, m.w.cell? ⟨w.heap.size, 5, none⟩ = some (I p.hidx) := fun m => ck m.h (by rw [HW.out]; simp)
 rw [ek] at a4
 clear ek
 obtain ⟨g, o, q, x', B, d, e, hg, hxk, hin, hd, c0, c1, c2, c3'⟩ := part_at (k := k) h3 (by rw [← H.out]; exact hk)
 rw [← H.out] at e
 cases e
 obtain rfl : x = x' := by have := hx.out.symm.trans hxk.out; injection this
 have b3 : ∀ m : Xt W, m.w.cell? ⟨g, o + k * 4 + 3, none⟩ = some (.slice B x.hops.length d) := fun m => ck m.h (ck x0 c3')
 clear c0 c1 c2 c3'
 have hm0 : x.hops.length ≤ 1048576 := by
  have := le_sum_of_mem (List.mem_map.2 ⟨x, List.mem_of_getElem? hx.out, rfl⟩ : sz_part x ∈ p.path.map sz_part)
  have h2 : sz_path p.path = List.length p.path + (p.path.map sz_part).sum := rfl
  have h3 : sz_part x = x.hops.length := rfl
  omega
 obtain ⟨m, Hm⟩ : ∃ m, Hid (m = x.hops.length) := ⟨_, rfl⟩
 rw [← Hm.out] at b3 hm0
 have HR : Hid (r = (p.hidx == (m : Int) - 1)) := by show _ = _; rw [Hr.out, Hm.out]
 have f3 := a3 ⟨W, Below.refl _ _⟩
 have f4 := a4 ⟨W, Below.refl _ _⟩
 have f5 := a5 ⟨W, Below.refl _ _⟩
 have fb := b3 ⟨W, Below.refl _ _⟩
 clear a3 a4 a5 b3
 go_enter Tryz.func110, Tryz.ntmps110
 go_wp2_with (fail)
 rw [← HW.out]
 go_quiet (fail)
 go_wp2_with (fail)
 go_ret
 exact ⟨by rw [HR.out]; rfl, below_drewN x0 _⟩
theorem some_of_as {p : Pkt} (h : decide (0 ≤ currentAS p) = true) : ∃ k x, p.pidx = ((k : Nat) : Int) ∧ k < p.path.length ∧ Hid (p.path[k]? = some x) ∧ Hid (curPart p = some x) ∧ ∃ j y, p.hidx = ((j : Nat) : Int) ∧ j < x.hops.length ∧ Hid (x.hops[j]? = some y) := by
  have h0 : 0 ≤ currentAS p := by simpa using h
  rcases cur_cases p with ⟨_, hc⟩ | ⟨k, x, ek, hk, hx, _, ⟨_, hc⟩ | ⟨j, y, ej, hj, hy, _, _⟩⟩
  · unfold currentAS at h0; rw [hc.out] at h0; simp at h0
  · unfold currentAS at h0; rw [hc.out] at h0; simp at h0
  · exact ⟨k, x, ek, hk, hx, by show _ = _; unfold curPart; rw [if_pos (by omega), ek, Int.toNat_natCast]; exact hx.out, j, y, ej, hj, hy⟩
set_option maxRecDepth 100000 in
set_option maxHeartbeats 1000000 in
theorem impl_AtLastHop (p : Pkt) (cs : List Value) (w : World) (h : pktT.R w cs p) (hz : sz_pkt p ≤ 1048576) (hl : lenOk_pkt p) (hg : rng_pkt p) :
  Calls Tryz.prog 51 #[.agg cs.toArray] w fun e w' => e = .returned (.bool (atLastHop p)) ∧ Below w.heap.size w w' := by
 obtain ⟨A3, c3, A9, c9, rfl, ⟨h3, _⟩, _⟩ := pkt_form h
 have hs : sz_path p.path ≤ 1048576 := by unfold sz_pkt at hz; omega
 have hn0 : p.path.length ≤ 1048576 := by have : sz_path p.path = List.length p.path + (p.path.map sz_part).sum := rfl; omega
 obtain ⟨r, Hr⟩ : ∃ r, Hid (r = atLastHop p) := ⟨_, rfl⟩
 rw [← Hr.out]
 obtain ⟨n, H⟩ : ∃ n, Hid (n = List.length p.path) := ⟨_, rfl⟩
 obtain ⟨c, Hc⟩ : ∃ c, Hid (c = currentAS p) := ⟨_, rfl⟩
 have HC := hid fun w' (hw : Below w.heap.size w w') => impl_CurrentAS p _ w' (pktT.kp h hw) hz hl hg
 rw [← H.out, ← Hc.out] at HC
 rw [← H.out] at h3 hn0 ⊢
 obtain ⟨W, HW⟩ : ∃ W, Hid (W = w.alloc (.cells #[I p.kind, I p.src, I p.dst, .slice A3 n c3, I p.pidx, I p.hidx, I p.beta, I p.rid, I p.seq, .slice A9 p.pay.length c9] 51)) := ⟨_, rfl⟩
 have x0 : Below w.heap.size w W := by rw [HW.out]; exact ext_alloc1 _ _
 cases hA : decide (0 ≤ c)
 ·have HR : Hid (r = false) := by show _ = _; rw [Hr.out]; unfold atLastHop; rw [← Hc.out, hA]; split <;> rfl
  go_enter Tryz.func51, Tryz.ntmps51
  go_wp2_with (fail)
  rw [← HW.out]
  refine (HC.out W x0).mono ?_
  rintro e w1 ⟨rfl, hb1⟩
  go_wp2_with (fail)
  go_ret
  exact ⟨by rw [HR.out]; rfl, ext_trans x0 hb1⟩
 ·obtain ⟨k, x, ek, hk, hx, hcp, _⟩ := some_of_as (p := p) (by rw [← Hc.out]; exact hA)
  have HL := hid fun w' (hw : Below w.heap.size w w') => impl_lastOfPart p _ w' (pktT.kp h hw) hz k x ek hx
  rw [← H.out] at HL
  obtain ⟨b1, h1⟩ : ∃ b, (p.hidx == (x.hops.length : Int) - 1) = b := ⟨_, rfl⟩
  rw [h1] at HL
  obtain ⟨b2, h2⟩ : ∃ b, (p.pidx == (n : Int) - 1) = b := ⟨_, rfl⟩
  have HR : Hid (r = (b1 && b2)) := by show _ = _; rw [Hr.out]; unfold atLastHop; rw [hcp.out]; simp only []; rw [← Hc.out, hA, h1, ← H.out, h2]; rfl
  have a3 : ∀ m : Xt W, m.w.cell? ⟨w.heap.size, 3, none⟩ = some (.slice A3 n c3) := fun m => ck m.h (by rw [HW.out]; simp)
  have a4 : ∀ m : Xt W, m.w.cell? ⟨w.heap.size, 4, none⟩ = some (I p.pidx) := fun m => ck m.h (by rw [HW.out]; simp)
  have aw : ∀ m : Xt W, m.w.cell? ⟨w.heap.size, 0, none⟩ = some (I p.kind) ∧ m.w.cell? ⟨w.heap.size, 1, none⟩ = some (I p.src) ∧ m.w.cell? ⟨w.heap.size, 2, none⟩ = some (I p.dst) ∧ m.w.cell? ⟨w.heap.size, 5, none⟩ = some (I p.hidx) ∧ m.w.cell? ⟨w.heap.size, 6, none⟩ = some (I p.beta) ∧ m.w.cell? ⟨w.heap.size, 7, none⟩ = some (I p.rid) ∧ m.w.cell? ⟨w.heap.size, 8, none⟩ = some (I p.seq) ∧ m.w.cell? ⟨w.heap.size, 9, none⟩ = some (.slice A9 p.pay.length c9) := fun m => ⟨ck m.h (by rw [HW.out]; simp), ck m.h (by rw [HW.out]; simp), ck m.h (by rw [HW.out]; simp), ck m.h (by rw [HW.out]; simp), ck m.h (by rw [HW.out]; simp), ck m.h (by rw [HW.out]; simp), ck m.h (by rw [HW.out]; simp), ck m.h (by rw [HW.out]; simp)⟩
  clear ek h h1
  cases b1 <;> cases b2
  all_goals
   go_enter Tryz.func51, Tryz.ntmps51
   go_wp2_with (fail)
   rw [← HW.out]
   refine (HC.out W x0).mono ?_
   rintro e w1 ⟨rfl, hb1⟩
   have f3 := a3 ⟨w1, hb1⟩
   have f4 := a4 ⟨w1, hb1⟩
   obtain ⟨f0, f1, f2, f5, f6, f7, f8, f9⟩ := aw ⟨w1, hb1⟩
   go_wp2_with (fail)
   refine (HL.out w1 (ext_trans x0 hb1)).mono ?_
   rintro e w2 ⟨rfl, hb2⟩
   have g3 := ck hb2 f3
   have g4 := ck hb2 f4
   go_wp2_with (fail)
   go_ret
   exact ⟨by rw [HR.out]; rfl, ext_trans x0 (ext_trans hb1 hb2)⟩
set_option maxRecDepth 100000 in
set_option maxHeartbeats 1000000 in
theorem spec_AtLastHop (p : Pkt) (cs : List Value) (w : World) (h : pktT.R w cs p) (hz : sz_pkt p ≤ 1048576) (hl : lenOk_pkt p) (hg : rng_pkt p) :
  Calls Tryz.prog 52 #[.agg cs.toArray] w fun e w' => e = .returned (.bool (atLastHop p)) ∧ Below w.heap.size w w' := by
 obtain ⟨A3, c3, A9, c9, rfl, ⟨h3, _⟩, _⟩ := pkt_form h
 have hs : sz_path p.path ≤ 1048576 := by unfold sz_pkt at hz; omega
 have hn0 : p.path.length ≤ 1048576 := by have : sz_path p.path = List.length p.path + (p.path.map sz_part).sum := rfl; omega
 obtain ⟨r, Hr⟩ : ∃ r, Hid (r = atLastHop p) := ⟨_, rfl⟩
 rw [← Hr.out]
 obtain ⟨n, H⟩ : ∃ n, Hid (n = List.length p.path) := ⟨_, rfl⟩
 obtain ⟨c, Hc⟩ : ∃ c, Hid (c = currentAS p) := ⟨_, rfl⟩
 have HC := hid fun w' (hw : Below w.heap.size w w') => spec_CurrentAS p _ w' (pktT.kp h hw) hz hl hg
 rw [← H.out, ← Hc.out] at HC
 rw [← H.out] at h3 hn0 ⊢
 obtain ⟨W, HW⟩ : ∃ W, Hid (W = w.alloc (.cells #[I p.kind, I p.src, I p.dst, .slice A3 n c3, I p.pidx, I p.hidx, I p.beta, I p.rid, I p.seq, .slice A9 p.pay.length c9] 51)) := ⟨_, rfl⟩
 have x0 : Below w.heap.size w W := by rw [HW.out]; exact ext_alloc1 _ _
 have a3 : ∀ m : Xt W, m.w.cell? ⟨w.heap.size, 3, none⟩ = some (.slice A3 n c3) := fun m => ck m.h (by rw [HW.out]; simp)
 have a4 : ∀ m : Xt W, m.w.cell? ⟨w.heap.size, 4, none⟩ = some (I p.pidx) := fun m => ck m.h (by rw [HW.out]; simp)
 have a5 : ∀ m : Xt W, m.w.cell? ⟨w.heap.size, 5, none⟩ = some (I p.hidx) := fun m => ck m.h (by rw [HW.out]; simp)
 have a0 : ∀ m : Xt W, m.w.cell? ⟨w.heap.size, 0, none⟩ = some (I p.kind) := fun m => ck m.h (by rw [HW.out]; simp)
 have a1 : ∀ m : Xt W, m.w.cell? ⟨w.heap.size, 1, none⟩ = some (I p.src) := fun m => ck m.h (by rw [HW.out]; simp)
 have a2 : ∀ m : Xt W, m.w.cell? ⟨w.heap.size, 2, none⟩ = some (I p.dst) := fun m => ck m.h (by rw [HW.out]; simp)
 have a6 : ∀ m : Xt W, m.w.cell? ⟨w.heap.size, 6, none⟩ = some (I p.beta) := fun m => ck m.h (by rw [HW.out]; simp)
 have a7 : ∀ m : Xt W, m.w.cell? ⟨w.heap.size, 7, none⟩ = some (I p.rid) := fun m => ck m.h (by rw [HW.out]; simp)
 have a8 : ∀ m : Xt W, m.w.cell? ⟨w.heap.size, 8, none⟩ = some (I p.seq) := fun m => ck m.h (by rw [HW.out]; simp)
 have a9 : ∀ m : Xt W, m.w.cell? ⟨w.heap.size, 9, none⟩ = some (.slice A9 p.pay.length c9) := fun m => ck m.h (by rw [HW.out]; simp)
 cases hA : decide (0 ≤ c)
 ·have HR : Hid (r = false) := by show _ = _; rw [Hr.out]; unfold atLastHop; rw [← Hc.out, hA]; split <;> rfl
  go_enter Tryz.func52, Tryz.ntmps52
  go_wp2_with (fail)
  rw [← HW.out]
  refine wp_region_ext (by kernel_rfl) (by kernel_rfl) ?_
  repeat (go_big_quiet_step ((go_at_call 50; exact ext_of _ (HC.out _ (ext_trans x0 (Xt.h _))))))
  refine wpQuiet_nil ?_
  rintro w1 ⟨⟨_, hb1⟩, rfl⟩
  go_wp2_with (fail)
  go_ret
  exact ⟨by rw [HR.out]; rfl, ext_trans x0 hb1⟩
 ·obtain ⟨k, x, ek, hk, hx, hcp, _⟩ := some_of_as (p := p) (by rw [← Hc.out]; exact hA)
  rw [← H.out] at hk
  obtain ⟨g, o, q, x', B, d, e, hg, hxk, hin, hd, c0, c1, c2, c3'⟩ := part_at (k := k) h3 (by rw [← H.out]; exact hk)
  rw [← H.out] at e
  cases e
  obtain rfl : x = x' := by have := hx.out.symm.trans hxk.out; injection this
  have b3 : ∀ m : Xt W, m.w.cell? ⟨g, o + k * 4 + 3, none⟩ = some (.slice B x.hops.length d) := fun m => ck m.h (ck x0 c3')
  clear c0 c1 c2 c3'
  have hm0 : x.hops.length ≤ 1048576 := by
   have := le_sum_of_mem (List.mem_map.2 ⟨x, List.mem_of_getElem? hx.out, rfl⟩ : sz_part x ∈ p.path.map sz_part)
   have h2 : sz_path p.path = List.length p.path + (p.path.map sz_part).sum := rfl
   have h3 : sz_part x = x.hops.length := rfl
   omega
  obtain ⟨m, Hm⟩ : ∃ m, Hid (m = x.hops.length) := ⟨_, rfl⟩
  rw [← Hm.out] at b3 hm0
  obtain ⟨b1, h1⟩ : ∃ b, ((k : Int) == (n : Int) - 1) = b := ⟨_, rfl⟩
  obtain ⟨b2, h2⟩ : ∃ b, (p.hidx == (m : Int) - 1) = b := ⟨_, rfl⟩
  have HR : Hid (r = (b2 && b1)) := by show _ = _; rw [Hr.out]; unfold atLastHop; rw [hcp.out]; simp only []; rw [← Hc.out, hA, ek, ← H.out, h1, ← Hm.out, h2]; rfl
  rw [ek] at a4 HC
  clear ek
  cases b1 <;> cases b2
  all_goals
   go_enter Tryz.func52, Tryz.ntmps52
   go_wp2_with (fail)
   rw [← HW.out]
   refine wp_region_ext (by kernel_rfl) (by kernel_rfl) ?_
   repeat (go_big_quiet_step ((go_at_call 50; exact ext_of _ (HC.out _ (ext_trans x0 (Xt.h _))))))
   refine wpQuiet_nil ?_
   rintro w1 ⟨⟨_, hb1⟩, rfl⟩
   go_wp2_with (fail)
   go_ret
   exact ⟨by rw [HR.out]; rfl, ext_trans x0 hb1⟩
end Go.Proofs.YtdaecknfahgddaaGreat
namespace Go.Proofs.YtdaecknfahgddaaGreat
open Go.RowKit
set_option linter.unusedVariables false
/-- The ends of a path. -/
def endA (p : Path) : Int := if (pathSteps p).length = 0 then -1 else (firstOf (pathSteps p)).ia
def endB (p : Path) : Int := if (pathSteps p).length = 0 then -1 else (lastOf (pathSteps p)).ia
set_option maxRecDepth 100000 in
set_option maxHeartbeats 1000000 in
theorem impl_Endpoints (p : Path) (cs : List Value) (w : World) (h : pathT.R w cs p) (hz : sz_path p ≤ 1048576) (hl : lenOk_path p) (hg : rng_path p) :
  Calls Tryz.prog 10 #[.agg cs.toArray] w fun e w' => e = .returned (.tuple #[I (endA p), I (endB p)]) ∧ Below w.heap.size w w' := by
 have h0 := h
 obtain ⟨A, c, rfl, _⟩ := path_form h
 have hsl := Nat.le_trans (pathSteps_len p) hz
 have HC := hid fun w' (hw : Below w.heap.size w w') => impl_PathSteps p _ w' (pathT.kp h0 hw) hz hl hg
 clear hz hl hg h h0
 have hb0 : Below w.heap.size w (w.alloc (.cells #[.slice A (List.length p) c] 30)) := ext_alloc1 _ _
 obtain ⟨a, Ha⟩ : ∃ a, Hid (a = endA p) := ⟨_, rfl⟩
 obtain ⟨b, Hb⟩ : ∃ b, Hid (b = endB p) := ⟨_, rfl⟩
 rw [← Ha.out, ← Hb.out]
 go_enter Tryz.func10, Tryz.ntmps10
 go_wp2_with (fail)
 refine (HC.out _ hb0).mono ?_
 rintro e w1 ⟨v1, fp1, rfl, hO1, hb1⟩
 obtain ⟨Av, cv, ev, _⟩ := hO1.form
 subst ev
 obtain ⟨l, Hl⟩ : ∃ l, Hid (l = pathSteps p) := ⟨_, rfl⟩
 rw [← Hl.out] at hO1 hsl ⊢
 have x1 := hid (ext_trans hb0 hb1)
 clear hb0 hb1 HC
 rcases Nat.eq_zero_or_pos l.length with hl0 | hl0
 ·have HA : Hid (a = -1) := by show _ = _; rw [Ha.out]; unfold endA; rw [← Hl.out, if_pos hl0]
  have HB : Hid (b = -1) := by show _ = _; rw [Hb.out]; unfold endB; rw [← Hl.out, if_pos hl0]
  rw [hl0]
  clear hl0 hO1 hsl
  go_wp2_with (fail)
  go_ret2
  exact ⟨by rw [HA.out, HB.out]; rfl, x1.out⟩
 ·obtain ⟨L, HL⟩ : ∃ L, l.length = L + 1 := ⟨l.length - 1, by omega⟩
  obtain ⟨g, o, q, sf, e1, hg1, hsf, r0, r1, r2⟩ := step_at (k := 0) hO1.read (by omega)
  cases e1
  obtain ⟨g', o', q', sg, e2, hg2, hsg, s0, s1, s2⟩ := step_at (k := L) hO1.read (by omega)
  cases e2
  simp only [Nat.zero_mul, Nat.add_zero] at r0 r1 r2
  have HA : Hid (a = sf.ia) := by show _ = _; rw [Ha.out]; unfold endA; rw [← Hl.out, if_neg (by omega), firstOf_at hsf.out]
  have HB : Hid (b = sg.ia) := by show _ = _; rw [Hb.out]; unfold endB; rw [← Hl.out, if_neg (by omega), lastOf_at (by rw [HL]; exact hsg.out)]
  have hL2 : L ≤ 1048576 := by omega
  have hL3 : L < L + 1 := Nat.lt_succ_self L
  rw [HL] at hO1 ⊢
  clear hl0 HL r1 r2 s1 s2 hsl
  go_wp2_with (fail)
  go_quiet (fail)
  go_wp2_with (fail)
  go_ret2
  exact ⟨by rw [HA.out, HB.out]; rfl, below_drewN x1.out _⟩
set_option maxRecDepth 100000 in
set_option maxHeartbeats 1000000 in
theorem spec_Endpoints (p : Path) (cs : List Value) (w : World) (h : pathT.R w cs p) (hz : sz_path p ≤ 1048576) (hl : lenOk_path p) (hg : rng_path p) :
  Calls Tryz.prog 11 #[.agg cs.toArray] w fun e w' => e = .returned (.tuple #[I (endA p), I (endB p)]) ∧ Below w.heap.size w w' := by
 have h0 := h
 obtain ⟨A, c, rfl, _⟩ := path_form h
 have hsl := Nat.le_trans (pathSteps_len p) hz
 have HC := hid fun w' (hw : Below w.heap.size w w') => spec_PathSteps p _ w' (pathT.kp h0 hw) hz hl hg
 clear hz hl hg h h0
 have hb0 : Below w.heap.size w (w.alloc (.cells #[.slice A (List.length p) c] 30)) := ext_alloc1 _ _
 obtain ⟨a, Ha⟩ : ∃ a, Hid (a = endA p) := ⟨_, rfl⟩
 obtain ⟨b, Hb⟩ : ∃ b, Hid (b = endB p) := ⟨_, rfl⟩
 rw [← Ha.out, ← Hb.out]
 go_enter Tryz.func11, Tryz.ntmps11
 go_wp2_with (fail)
 refine (HC.out _ hb0).mono ?_
 rintro e w1 ⟨v1, fp1, rfl, hO1, hb1⟩
 obtain ⟨Av, cv, ev, _⟩ := hO1.form
 subst ev
 obtain ⟨l, Hl⟩ : ∃ l, Hid (l = pathSteps p) := ⟨_, rfl⟩
 rw [← Hl.out] at hO1 hsl ⊢
 have x1 := hid (ext_trans hb0 hb1)
 clear hb0 hb1 HC
 rcases Nat.eq_zero_or_pos l.length with hl0 | hl0
 ·have HA : Hid (a = -1) := by show _ = _; rw [Ha.out]; unfold endA; rw [← Hl.out, if_pos hl0]
  have HB : Hid (b = -1) := by show _ = _; rw [Hb.out]; unfold endB; rw [← Hl.out, if_pos hl0]
  rw [hl0]
  clear hl0 hO1 hsl
  go_wp2_with (fail)
  go_ret2
  exact ⟨by rw [HA.out, HB.out]; rfl, x1.out⟩
 ·obtain ⟨L, HL⟩ : ∃ L, l.length = L + 1 := ⟨l.length - 1, by omega⟩
  obtain ⟨g, o, q, sf, e1, hg1, hsf, r0, r1, r2⟩ := step_at (k := 0) hO1.read (by omega)
  cases e1
  obtain ⟨g', o', q', sg, e2, hg2, hsg, s0, s1, s2⟩ := step_at (k := L) hO1.read (by omega)
  cases e2
  simp only [Nat.zero_mul, Nat.add_zero] at r0 r1 r2
  have HA : Hid (a = sf.ia) := by show _ = _; rw [Ha.out]; unfold endA; rw [← Hl.out, if_neg (by omega), firstOf_at hsf.out]
  have HB : Hid (b = sg.ia) := by show _ = _; rw [Hb.out]; unfold endB; rw [← Hl.out, if_neg (by omega), lastOf_at (by rw [HL]; exact hsg.out)]
  have hL2 : L ≤ 1048576 := by omega
  have hL3 : L < L + 1 := Nat.lt_succ_self L
  rw [HL] at hO1 ⊢
  clear hl0 HL r1 r2 s1 s2 hsl
  go_wp2_with (fail)
  go_quiet (fail)
  go_wp2_with (fail)
  go_ret2
  exact ⟨by rw [HA.out, HB.out]; rfl, below_drewN x1.out _⟩
end Go.Proofs.YtdaecknfahgddaaGreat
namespace Go.Proofs.YtdaecknfahgddaaGreat
open Go.RowKit
set_option linter.unusedVariables false
set_option maxRecDepth 20000
theorem Sep.pktShut {b : Nat} {w : World} {os : List Ow} {u3 u9 : Value} {x : Pkt} (S : Sep b w (slO partT 82 u3 x.path :: slO byteT 5 u9 x.pay :: os)) : Sep b w (tyO pktT [I x.kind, I x.src, I x.dst, u3, I x.pidx, I x.hidx, I x.beta, I x.rid, I x.seq, u9] x :: os) := by
  obtain ⟨h1, fp, f, g, rfl, hf, ⟨f2, g2, rfl, hf2, hg2, hd2⟩, hd1⟩ := S
  have hO1 : SlO partT 82 b w u3 x.path f := hf
  have hO2 : SlO byteT 5 b w u9 x.pay f2 := hf2
  obtain ⟨A3, c3, rfl, _⟩ := hO1.read.form
  obtain ⟨A9, c9, rfl, _⟩ := hO2.read.form
  have hnd : (f ++ f2).Nodup := by
    rw [List.nodup_append]
    exact ⟨hO1.nodup, hO2.nodup, fun x hx y hy hxy => hd1 x hx (List.mem_append.2 (.inl (hxy ▸ hy)))⟩
  obtain ⟨fp, hO, hm⟩ := pkt_omk hO1 hO2 hnd
  refine ⟨h1, fp ++ g2, fp, g2, rfl, hO, hg2, fun y hy hz => ?_⟩
  rcases List.mem_append.1 ((hm y).1 hy) with hy | hy
  · exact hd1 y hy (List.mem_append.2 (.inr hz))
  · exact hd2 y hy hz
theorem spec_l26Copy (x : Pkt) (v : Value) (w : World) (hp : VA pktT w v x) (hz : sz_pkt x ≤ 1048576) : Calls Tryz.prog 96 #[v] w fun e w' => ∃ cs fp, e = .returned (.agg cs.toArray) ∧ pktT.O w.heap.size w' cs x fp ∧ Below w.heap.size w w' := by
 have hz1 : sz_path x.path ≤ 1048576 := by unfold sz_pkt at hz; omega
 have hz2 : x.pay.length ≤ 1048576 := by unfold sz_pkt at hz; omega
 have X0 := Below.refl w.heap.size w
 refine enter Tryz.func96 rfl Tryz.ntmps96 rfl ?_
 refine w_s ?_
 refine w_g ?_
 refine t_boxr ‹_› rfl ?_ rfl rfl
 intro p1 w1 x2 hp1
 replace hp := hp.below x2
 have X0 := ext_trans X0 x2
 have S := Sep.nil w1
 have B := Below.refl w1.heap.size w1
 have Hb := Nat.le_refl w1.heap.size
 refine t_w S z_pkt rfl ?_ rfl rfl
 intro g2 w3 x4 S
 have B := bx Hb B x4
 refine t_d ?_
 refine x_s ?_
 refine w_s ?_
 refine w_g ?_
 refine t_lda ‹_› ab_pkt sb_pkt B rfl ?_ rfl
 intro v4 hv4
 obtain ⟨v4_3, v4_9, rfl, hv4_3, hv4_9⟩ := pkt_va hv4
 refine t_w S z_pkt rfl ?_ rfl rfl
 intro g3 w5 x6 S
 have B := bx Hb B x6
 refine t_stn S sb_pkt rfl rfl rfl rfl (by repeat first | exact oc0 | refine oc rfl ?_ | refine oc (SlR.cells (by have z := S; repeat first | assumption | exact z.sl | replace z := z.tail)).2 ?_) ?_
 intro w7 b8 S
 have B := B.trans b8
 refine t_d ?_
 refine x_s ?_
 refine w_s ?_
 refine w_g ?_
 refine t_fld ln_pkt_3 ‹_› fb_pkt_3 rfl ?_ rfl
 intro p5 hp5
 refine t_lda ‹_› ab_path sb_path B rfl ?_ rfl
 intro v6 hv6
 obtain ⟨v6_0, rfl, hv6_0⟩ := path_va hv6
 refine t_c Tryz.call59 rfl (spec_l22Copy _ _ _ (by first | assumption | exact VA.below ‹_› B | exact path_mkv (by first | assumption | exact SlR.below ‹_› B)) (by omega)) ?_ rfl rfl
 rintro e w9 ⟨cs7, fp7, rfl, hO7, x10⟩
 refine ⟨_, rfl, x10, ?_⟩
 have S := S.add (o := tyO pathT _ _) x10 hO7
 have B := bx Hb B x10
 obtain ⟨u7_0, heq, S2⟩ := S.pathOpen
 subst heq
 have S := S2
 clear S2
 refine t_y fb_pkt_3 rfl rfl ?_ rfl
 obtain ⟨Au7_0, cu7_0, rfl, _⟩ := S.sl.form
 have S := S.f1
 refine t_stp S sb_path rfl rfl rfl rfl rfl ?_
 intro w11 b12 S
 have B := B.trans b12
 refine t_d ?_
 refine x_s ?_
 refine w_s ?_
 refine w_g ?_
 refine t_lit (T := byteT) (css := []) (l := []) byte_flat S bs_byte0 rfl rfl rfl rfl (Nat.zero_le _) litR_nil ?_ rfl rfl
 intro u9 w13 x14 S
 have B := bx Hb B x14
 refine t_fld ln_pkt_9 ‹_› fb_pkt_9 rfl ?_ rfl
 intro p10 hp10
 refine t_lds ‹_› ab_s_byte B rfl ?_ rfl
 intro v11 hv11
 refine t_cat byte_flat e_byte S (by first | assumption | exact SlR.below ‹_› B) rfl rfl rfl (by first | omega | (simp [-List.length_flatMap]; omega)) (by (simp [maxLen, -List.length_flatMap]; try omega)) ?_ rfl
 intro v12 w15 x16 S
 have B := B.trans x16
 refine t_y fb_pkt_9 rfl rfl ?_ rfl
 obtain ⟨Av12, cv12, rfl, _⟩ := S.sl.form
 have S := S.f1
 refine t_st1 S sb_s_byte rfl rfl rfl rfl rfl ?_
 intro w17 b18 S
 have B := B.trans b18
 refine t_d ?_
 refine x_s ?_
 refine w_s ?_
 refine w_g ?_
 refine t_b S.box ab_pkt sb_pkt rfl rfl ?_ rfl
 have S := S.f3
 refine t_stn S sb_pkt rfl rfl rfl rfl (by repeat first | exact oc0 | refine oc rfl ?_ | refine oc (SlR.cells (by have z := S; repeat first | assumption | exact z.sl | replace z := z.tail)).2 ?_) ?_
 intro w19 b20 S
 have B := B.trans b20
 refine t_d ?_
 refine x_s ?_
 refine w_r ?_
 refine x_retc rfl rfl S.box ab_pkt sb_pkt rfl ?_
 have S := S.f2.f3
 have S := S.pktShut (x := x)
 obtain ⟨fp, hO⟩ := (S.mono X0.size).head
 exact ⟨_, fp, rfl, hO, ext_trans X0 B⟩
def betaOf (p : Path) (k : Nat) : Int := match p[k]? with
  | some y => y.beta
  | none => 0
def newPkt (k : Int) (p : Path) (r s : Int) (b : List UInt8) : Pkt := ⟨k, endA p, endB p, p, 0, 0, betaOf p 0, r, s, b⟩
theorem betaOf_eq {p : Path} {k : Nat} {y : Part} (h : p[k]? = some y) : betaOf p k = y.beta := by unfold betaOf; rw [h]
theorem impl_NewPacket (k : Int) (p : Path) (u : Value) (r s : Int) (b : List UInt8) (v : Value) (w : World) (hp : VA pathT w u p) (hb : SlR byteT w v b) (hz' : sz_path p ≤ 1048576) (hz : b.length ≤ 1048576) (hl : lenOk_path p) (hg : rng_path p) : Calls Tryz.prog 42 #[I k, u, I r, I s, v] w fun e w' => ∃ cs fp, e = .returned (.agg cs.toArray) ∧ pktT.O w.heap.size w' cs (newPkt k p r s b) fp ∧ Below w.heap.size w w' := by
 have hpl : List.length p ≤ sz_path p := by show List.length p ≤ List.length p + _; omega
 have X0 := Below.refl w.heap.size w
 refine enter Tryz.func42 rfl Tryz.ntmps42 rfl ?_
 refine w_s ?_
 refine w_g ?_
 refine t_boxr ‹_› rfl ?_ rfl rfl
 intro p6 w21 x22 hp6
 replace hp := hp.below x22
 replace hb := hb.below x22
 have X0 := ext_trans X0 x22
 have S := Sep.nil w21
 have B := Below.refl w21.heap.size w21
 have Hb := Nat.le_refl w21.heap.size
 refine t_w S z_pkt rfl ?_ rfl rfl
 intro g10 w23 x24 S
 have B := bx Hb B x24
 refine t_d ?_
 refine x_s ?_
 refine w_s ?_
 refine w_g ?_
 refine t_m rfl ?_ rfl
 refine t_lda ‹_› ab_path sb_path B rfl ?_ rfl
 intro v13 hv13
 obtain ⟨v13_0, rfl, hv13_0⟩ := path_va hv13
 refine t_c Tryz.call101 rfl (impl_copyPath _ _ _ (by first | assumption | exact VA.below ‹_› B | exact path_mkv (by first | assumption | exact SlR.below ‹_› B)) (by omega)) ?_ rfl rfl
 rintro e w25 ⟨cs14, fp14, rfl, hO14, x26⟩
 refine ⟨_, rfl, x26, ?_⟩
 have S := S.add (o := tyO pathT _ _) x26 hO14
 have B := bx Hb B x26
 obtain ⟨u14_0, heq, S2⟩ := S.pathOpen
 subst heq
 have S := S2
 clear S2
 iterate 3 refine t_m rfl ?_ rfl
 refine t_c Tryz.call102 rfl (impl_copyBytes _ _ _ (by first | assumption | exact SlR.below ‹_› B) (by omega)) ?_ rfl rfl
 rintro e w27 ⟨v18, fpv18, rfl, hOv18, x28⟩
 refine ⟨_, rfl, x28, ?_⟩
 have S := S.add (o := slO _ _ _ _) x28 hOv18
 have B := bx Hb B x28
 obtain ⟨Au14_0, cu14_0, rfl, _⟩ := S.tail.sl.form
 obtain ⟨Av18, cv18, rfl, _⟩ := S.sl.form
 refine t_g (fun w => b_pkt_0_3_7_8_9 _ _ _ _ _ _ _ _ _ w) rfl ?_ rfl
 refine t_w S z_pkt rfl ?_ rfl rfl
 intro g11 w29 x30 S
 have B := bx Hb B x30
 refine t_stn S sb_pkt rfl rfl rfl rfl (by repeat first | exact oc0 | refine oc rfl ?_ | refine oc (SlR.cells (by have z := S; repeat first | assumption | exact z.sl | replace z := z.tail)).2 ?_) ?_
 intro w31 b32 S
 have B := B.trans b32
 refine t_d ?_
 refine x_s ?_
 refine w_s ?_
 refine w_g ?_
 refine t_lda ‹_› ab_path sb_path B rfl ?_ rfl
 intro v21 hv21
 obtain ⟨v21_0, rfl, hv21_0⟩ := path_va hv21
 refine t_x Tryz.call10 rfl (va1 (by first | assumption | exact VA.below ‹_› B | exact path_mkv (by first | assumption | exact SlR.below ‹_› B)) fun cs h => impl_Endpoints _ cs _ h (by omega) ‹_› ‹_›) ?_ rfl rfl
 intro w33 x34
 have B := bx Hb B x34
 have S := S.below x34
 refine t_m rfl ?_ rfl
 iterate 2 refine t_extract rfl rfl ?_ rfl
 refine t_y fb_pkt_1 rfl rfl ?_ rfl
 refine t_st1 S sb_int rfl rfl rfl rfl rfl ?_
 intro w35 b36 S
 have B := B.trans b36
 refine t_y fb_pkt_2 rfl rfl ?_ rfl
 refine t_st1 S sb_int rfl rfl rfl rfl rfl ?_
 intro w37 b38 S
 have B := B.trans b38
 refine t_d ?_
 refine x_s ?_
 iterate 2 refine w_s ?_
 refine w_g ?_
 refine t_fld ln_path_0 ‹_› fb_path_0 rfl ?_ rfl
 intro p27 hp27
 refine t_lds ‹_› ab_s_part B rfl ?_ rfl
 intro v28 hv28
 refine t_len e_part ‹_› rfl rfl ?_ rfl
 refine t_gtr rfl rfl ?_ rfl
 refine t_d ?_
 refine x_s ?_
 refine w_if rfl ?_ ?_
 ·intro hlt
  obtain ⟨x, hx⟩ : ∃ e, p[0]? = some e := getx (by omega)
  have hn : newPkt k p r s b = ⟨k, endA p, endB p, p, 0, 0, x.beta, r, s, b⟩ := by unfold newPkt; rw [betaOf_eq hx]
  refine w_g ?_
  refine t_fld ln_path_0 ‹_› fb_path_0 rfl ?_ rfl
  intro p31 hp31
  refine t_lds ‹_› ab_s_part B rfl ?_ rfl
  intro v32 hv32
  refine t_idx e_part (k := 0) ‹_› hx B rfl rfl (by first | rfl | omega) ?_ rfl
  intro p33 hp33
  refine t_fld ln_part_2 ‹_› fb_part_2 rfl ?_ rfl
  intro p34 hp34
  refine t_ldi ‹_› ab_int B rfl ?_ rfl
  refine t_y fb_pkt_6 rfl rfl ?_ rfl
  refine t_st1 S sb_int rfl rfl rfl rfl rfl ?_
  intro w39 b40 S
  have B := B.trans b40
  refine t_d ?_
  refine x_s ?_
  refine w_s ?_
  refine w_g ?_
  refine t_b S.box ab_pkt sb_pkt rfl rfl ?_ rfl
  have S := S.f3
  refine t_stn S sb_pkt rfl rfl rfl rfl (by repeat first | exact oc0 | refine oc rfl ?_ | refine oc (SlR.cells (by have z := S; repeat first | assumption | exact z.sl | replace z := z.tail)).2 ?_) ?_
  intro w41 b42 S
  have B := B.trans b42
  refine t_d ?_
  refine x_s ?_
  refine w_r ?_
  refine x_retc rfl rfl S.box ab_pkt sb_pkt rfl ?_
  have S := S.f2.f3
  have S := S.pktShut (x := (⟨k, endA p, endB p, p, 0, 0, x.beta, r, s, b⟩ : Pkt))
  obtain ⟨fp, hO⟩ := (S.mono X0.size).head
  rw [hn]
  exact ⟨_, fp, rfl, hO, ext_trans X0 B⟩
 ·intro hge
  have hn : newPkt k p r s b = ⟨k, endA p, endB p, p, 0, 0, 0, r, s, b⟩ := by
   unfold newPkt betaOf
   rw [List.getElem?_eq_none (by show List.length p ≤ 0; omega)]
  refine w_k ?_
  refine x_s ?_
  refine w_s ?_
  refine w_g ?_
  refine t_b S.box ab_pkt sb_pkt rfl rfl ?_ rfl
  have S := S.f3
  refine t_stn S sb_pkt rfl rfl rfl rfl (by repeat first | exact oc0 | refine oc rfl ?_ | refine oc (SlR.cells (by have z := S; repeat first | assumption | exact z.sl | replace z := z.tail)).2 ?_) ?_
  intro w43 b44 S
  have B := B.trans b44
  refine t_d ?_
  refine x_s ?_
  refine w_r ?_
  refine x_retc rfl rfl S.box ab_pkt sb_pkt rfl ?_
  have S := S.f2.f3
  have S := S.pktShut (x := (⟨k, endA p, endB p, p, 0, 0, 0, r, s, b⟩ : Pkt))
  obtain ⟨fp, hO⟩ := (S.mono X0.size).head
  rw [hn]
  exact ⟨_, fp, rfl, hO, ext_trans X0 B⟩
theorem spec_NewPacket (k : Int) (p : Path) (u : Value) (r s : Int) (b : List UInt8) (v : Value) (w : World) (hp : VA pathT w u p) (hb : SlR byteT w v b) (hz' : sz_path p ≤ 1048576) (hz : b.length ≤ 1048576) (hl : lenOk_path p) (hg : rng_path p) : Calls Tryz.prog 43 #[I k, u, I r, I s, v] w fun e w' => ∃ cs fp, e = .returned (.agg cs.toArray) ∧ pktT.O w.heap.size w' cs (newPkt k p r s b) fp ∧ Below w.heap.size w w' := by
 have hpl : List.length p ≤ sz_path p := by show List.length p ≤ List.length p + _; omega
 have X0 := Below.refl w.heap.size w
 refine enter Tryz.func43 rfl Tryz.ntmps43 rfl ?_
 refine w_s ?_
 refine w_g ?_
 refine t_boxr ‹_› rfl ?_ rfl rfl
 intro p6 w45 x46 hp6
 replace hp := hp.below x46
 replace hb := hb.below x46
 have X0 := ext_trans X0 x46
 have S := Sep.nil w45
 have B := Below.refl w45.heap.size w45
 have Hb := Nat.le_refl w45.heap.size
 refine t_w S z_pkt rfl ?_ rfl rfl
 intro g10 w47 x48 S
 have B := bx Hb B x48
 refine t_d ?_
 refine x_s ?_
 refine w_s ?_
 refine w_g ?_
 refine t_lda ‹_› ab_path sb_path B rfl ?_ rfl
 intro v15 hv15
 obtain ⟨v15_0, rfl, hv15_0⟩ := path_va hv15
 refine t_x Tryz.call11 rfl (va1 (by first | assumption | exact VA.below ‹_› B | exact path_mkv (by first | assumption | exact SlR.below ‹_› B)) fun cs h => spec_Endpoints _ cs _ h (by omega) ‹_› ‹_›) ?_ rfl rfl
 intro w49 x50
 have B := bx Hb B x50
 have S := S.below x50
 refine t_m rfl ?_ rfl
 iterate 2 refine t_extract rfl rfl ?_ rfl
 iterate 2 refine t_a rfl ?_ rfl
 refine t_d ?_
 refine x_s ?_
 refine w_s ?_
 refine w_g ?_
 iterate 3 refine t_m rfl ?_ rfl
 refine t_lda ‹_› ab_path sb_path B rfl ?_ rfl
 intro v22 hv22
 obtain ⟨v22_0, rfl, hv22_0⟩ := path_va hv22
 refine t_c Tryz.call59 rfl (spec_l22Copy _ _ _ (by first | assumption | exact VA.below ‹_› B | exact path_mkv (by first | assumption | exact SlR.below ‹_› B)) (by omega)) ?_ rfl rfl
 rintro e w51 ⟨cs23, fp23, rfl, hO23, x52⟩
 refine ⟨_, rfl, x52, ?_⟩
 have S := S.add (o := tyO pathT _ _) x52 hO23
 have B := bx Hb B x52
 obtain ⟨u23_0, heq, S2⟩ := S.pathOpen
 subst heq
 have S := S2
 clear S2
 iterate 2 refine t_m rfl ?_ rfl
 refine t_lit (T := byteT) (css := []) (l := []) byte_flat S bs_byte0 rfl rfl rfl rfl (Nat.zero_le _) litR_nil ?_ rfl rfl
 intro u26 w53 x54 S
 have B := bx Hb B x54
 refine t_m rfl ?_ rfl
 refine t_cat byte_flat e_byte S (by first | assumption | exact SlR.below ‹_› B) rfl rfl rfl (by first | omega | (simp [-List.length_flatMap]; omega)) (by (simp [maxLen, -List.length_flatMap]; try omega)) ?_ rfl
 intro v28 w55 x56 S
 have B := B.trans x56
 obtain ⟨Au23_0, cu23_0, rfl, _⟩ := S.tail.sl.form
 obtain ⟨Av28, cv28, rfl, _⟩ := S.sl.form
 refine t_g (fun w => b_pkt_0_1_2_3_7_8_9 _ _ _ _ _ _ _ _ _ _ _ w) rfl ?_ rfl
 refine t_w S z_pkt rfl ?_ rfl rfl
 intro g13 w57 x58 S
 have B := bx Hb B x58
 refine t_stn S sb_pkt rfl rfl rfl rfl (by repeat first | exact oc0 | refine oc rfl ?_ | refine oc (SlR.cells (by have z := S; repeat first | assumption | exact z.sl | replace z := z.tail)).2 ?_) ?_
 intro w59 b60 S
 have B := B.trans b60
 refine t_d ?_
 refine x_s ?_
 iterate 2 refine w_s ?_
 refine w_g ?_
 refine t_fld ln_path_0 ‹_› fb_path_0 rfl ?_ rfl
 intro p30 hp30
 refine t_lds ‹_› ab_s_part B rfl ?_ rfl
 intro v31 hv31
 refine t_len e_part ‹_› rfl rfl ?_ rfl
 refine t_gtr rfl rfl ?_ rfl
 refine t_d ?_
 refine x_s ?_
 refine w_if rfl ?_ ?_
 ·intro hlt
  obtain ⟨x, hx⟩ : ∃ e, p[0]? = some e := getx (by omega)
  have hn : newPkt k p r s b = ⟨k, endA p, endB p, p, 0, 0, x.beta, r, s, b⟩ := by unfold newPkt; rw [betaOf_eq hx]
  refine w_g ?_
  refine t_fld ln_path_0 ‹_› fb_path_0 rfl ?_ rfl
  intro p34 hp34
  refine t_lds ‹_› ab_s_part B rfl ?_ rfl
  intro v35 hv35
  refine t_idx e_part (k := 0) ‹_› hx B rfl rfl (by first | rfl | omega) ?_ rfl
  intro p36 hp36
  refine t_fld ln_part_2 ‹_› fb_part_2 rfl ?_ rfl
  intro p37 hp37
  refine t_ldi ‹_› ab_int B rfl ?_ rfl
  refine t_y fb_pkt_6 rfl rfl ?_ rfl
  refine t_st1 S sb_int rfl rfl rfl rfl rfl ?_
  intro w61 b62 S
  have B := B.trans b62
  refine t_d ?_
  refine x_s ?_
  refine w_s ?_
  refine w_g ?_
  refine t_b S.box ab_pkt sb_pkt rfl rfl ?_ rfl
  have S := S.f3
  refine t_stn S sb_pkt rfl rfl rfl rfl (by repeat first | exact oc0 | refine oc rfl ?_ | refine oc (SlR.cells (by have z := S; repeat first | assumption | exact z.sl | replace z := z.tail)).2 ?_) ?_
  intro w63 b64 S
  have B := B.trans b64
  refine t_d ?_
  refine x_s ?_
  refine w_r ?_
  refine x_retc rfl rfl S.box ab_pkt sb_pkt rfl ?_
  have S := S.f2.f3
  have S := S.pktShut (x := (⟨k, endA p, endB p, p, 0, 0, x.beta, r, s, b⟩ : Pkt))
  obtain ⟨fp, hO⟩ := (S.mono X0.size).head
  rw [hn]
  exact ⟨_, fp, rfl, hO, ext_trans X0 B⟩
 ·intro hge
  have hn : newPkt k p r s b = ⟨k, endA p, endB p, p, 0, 0, 0, r, s, b⟩ := by
   unfold newPkt betaOf
   rw [List.getElem?_eq_none (by show List.length p ≤ 0; omega)]
  refine w_k ?_
  refine x_s ?_
  refine w_s ?_
  refine w_g ?_
  refine t_b S.box ab_pkt sb_pkt rfl rfl ?_ rfl
  have S := S.f3
  refine t_stn S sb_pkt rfl rfl rfl rfl (by repeat first | exact oc0 | refine oc rfl ?_ | refine oc (SlR.cells (by have z := S; repeat first | assumption | exact z.sl | replace z := z.tail)).2 ?_) ?_
  intro w65 b66 S
  have B := B.trans b66
  refine t_d ?_
  refine x_s ?_
  refine w_r ?_
  refine x_retc rfl rfl S.box ab_pkt sb_pkt rfl ?_
  have S := S.f2.f3
  have S := S.pktShut (x := (⟨k, endA p, endB p, p, 0, 0, 0, r, s, b⟩ : Pkt))
  obtain ⟨fp, hO⟩ := (S.mono X0.size).head
  rw [hn]
  exact ⟨_, fp, rfl, hO, ext_trans X0 B⟩
theorem stands {x : Pkt} (h : ¬ currentAS x < 0) : ∃ (k : Nat) (y : Part) (j : Nat), x.pidx = (k : Int) ∧ k < x.path.length ∧ x.path[k]? = some y ∧ curPart x = some y ∧ x.hidx = (j : Int) ∧ j < y.hops.length := by
  have hno : curHop x ≠ none := fun hc => h (by unfold currentAS; rw [hc]; decide)
  rcases cur_cases x with ⟨_, h2⟩ | ⟨k, y, h1, h2, h3, h4, h5⟩
  · exact absurd h2.out hno
  · rcases h5 with ⟨_, h6⟩ | ⟨j, z, h6, h7, _⟩
    · exact absurd h6.out hno
    · refine ⟨k, y, j, h1, h2, h3.out, ?_, h6, h7⟩
      unfold curPart
      rw [if_pos (by omega), h1, Int.toNat_natCast]
      exact h3.out
end Go.Proofs.YtdaecknfahgddaaGreat
namespace Go.Proofs.YtdaecknfahgddaaGreat
open Go.RowKit
set_option linter.unusedVariables false
/-- A packet's box. -/
structure PkB (w : World) (b : Nat) (p : Pkt) (A3 : Option Addr) (n c3 : Nat) (A9 : Option Addr) (m9 c9 : Nat) : Prop where
  c0 : w.cell? ⟨b, 0, none⟩ = some (I p.kind)
  c1 : w.cell? ⟨b, 1, none⟩ = some (I p.src)
  c2 : w.cell? ⟨b, 2, none⟩ = some (I p.dst)
  c3' : w.cell? ⟨b, 3, none⟩ = some (.slice A3 n c3)
  c4 : w.cell? ⟨b, 4, none⟩ = some (I p.pidx)
  c5 : w.cell? ⟨b, 5, none⟩ = some (I p.hidx)
  c6 : w.cell? ⟨b, 6, none⟩ = some (I p.beta)
  c7 : w.cell? ⟨b, 7, none⟩ = some (I p.rid)
  c8 : w.cell? ⟨b, 8, none⟩ = some (I p.seq)
  c9' : w.cell? ⟨b, 9, none⟩ = some (.slice A9 m9 c9)
theorem PkB.below {w w' : World} {b : Nat} {p : Pkt} {A3 : Option Addr} {n c3 : Nat} {A9 : Option Addr} {m9 c9 : Nat} (h : PkB w b p A3 n c3 A9 m9 c9) (hb : Below w.heap.size w w') : PkB w' b p A3 n c3 A9 m9 c9 :=
  ⟨ck hb h.c0, ck hb h.c1, ck hb h.c2, ck hb h.c3', ck hb h.c4, ck hb h.c5, ck hb h.c6, ck hb h.c7, ck hb h.c8, ck hb h.c9'⟩
theorem PkB.new (w : World) (p : Pkt) (A3 : Option Addr) (n c3 : Nat) (A9 : Option Addr) (m9 c9 : Nat) (t : TypeId) : PkB (w.alloc (.cells #[I p.kind, I p.src, I p.dst, .slice A3 n c3, I p.pidx, I p.hidx, I p.beta, I p.rid, I p.seq, .slice A9 m9 c9] t)) w.heap.size p A3 n c3 A9 m9 c9 := by
  constructor <;> simp
theorem and5 (b1 b2 b3 b4 b5 : Bool) : b1 = false ∨ (b1 = true ∧ b2 = false) ∨ (b1 = true ∧ b2 = true ∧ b3 = false) ∨ (b1 = true ∧ b2 = true ∧ b3 = true ∧ b4 = false) ∨ (b1 = true ∧ b2 = true ∧ b3 = true ∧ b4 = true ∧ b5 = false) ∨ (b1 = true ∧ b2 = true ∧ b3 = true ∧ b4 = true ∧ b5 = true) := by
  cases b1 <;> cases b2 <;> cases b3 <;> cases b4 <;> cases b5 <;> simp
def someHops (x : Part) : Bool := !(x.hops.length == 0)
def tailOk (p : Pkt) : Bool := inR p.src 0 7 && (inR p.dst 0 7 && (inR p.rid 0 100000 && (inR p.seq 0 100000 && decide ((p.pay.length : Int) ≤ 40))))
def validPkt (p : Pkt) : Bool := inR p.kind 1 3 && (encPath p.path && (!(p.path.length == 0) && (!decide (currentAS p < 0) && (inR p.beta 0 2147483646 && (p.path.all someHops && tailOk p)))))
theorem enc_ia {p : Path} {k : Nat} {x : Part} {j : Nat} {y : Hop} (h : encPath p = true) (hx : p[k]? = some x) (hy : x.hops[j]? = some y) : 0 ≤ y.ia := by
  unfold encPath at h
  simp only [Bool.and_eq_true, List.all_eq_true] at h
  have h1 := h.2 x (List.mem_of_getElem? hx)
  unfold encPart encHops at h1
  simp only [Bool.and_eq_true, List.all_eq_true] at h1
  have h2 := h1.2.2.2 y (List.mem_of_getElem? hy)
  unfold validHop at h2
  simp only [Bool.and_eq_true] at h2
  exact (inR_iff.1 h2.1.1.1.1.1).1
set_option maxRecDepth 100000 in
set_option maxHeartbeats 4000000 in
theorem impl_ValidPacket (p : Pkt) (cs : List Value) (w : World) (h : pktT.R w cs p) (hz : sz_pkt p ≤ 1048576) (hl : lenOk_pkt p) (hg : rng_pkt p) :
  Calls Tryz.prog 47 #[.agg cs.toArray] w fun e w' => e = .returned (.bool (validPkt p)) ∧ Below w.heap.size w w' := by
 obtain ⟨A3, c3, A9, c9, rfl, ⟨h3, m3⟩, _⟩ := pkt_form h
 have hs : sz_path p.path ≤ 1048576 := by unfold sz_pkt at hz; omega
 have hn0 : p.path.length ≤ 1048576 := by have : sz_path p.path = List.length p.path + (p.path.map sz_part).sum := rfl; omega
 have hm9 : p.pay.length ≤ 1048576 := by unfold sz_pkt at hz; omega
 obtain ⟨r, Hr⟩ : ∃ r, Hid (r = validPkt p) := ⟨_, rfl⟩
 rw [← Hr.out]
 obtain ⟨n, H⟩ : ∃ n, Hid (n = List.length p.path) := ⟨_, rfl⟩
 obtain ⟨m9, H9⟩ : ∃ n, Hid (n = List.length p.pay) := ⟨_, rfl⟩
 obtain ⟨c, Hc⟩ : ∃ c, Hid (c = currentAS p) := ⟨_, rfl⟩
 have HC := hid fun w' (hw : Below w.heap.size w w') => impl_CurrentAS p _ w' (pktT.kp h hw) hz hl hg
 have HE := hid fun w' (hw : Below w.heap.size w w') => impl_EncodablePath p.path _ w' (path_mk (h3.below hw)) hs hl.1 hg.2.2.2.1
 rw [← H.out, ← H9.out, ← Hc.out] at HC
 rw [← H.out] at HE
 rw [← H.out] at h3 hn0 ⊢
 rw [← H9.out] at hm9 ⊢
 clear h hz hl hg m3
 obtain ⟨W, HW⟩ : ∃ W, Hid (W = w.alloc (.cells #[I p.kind, I p.src, I p.dst, .slice A3 n c3, I p.pidx, I p.hidx, I p.beta, I p.rid, I p.seq, .slice A9 m9 c9] 51)) := ⟨_, rfl⟩
 have x0 : Below w.heap.size w W := by rw [HW.out]; exact ext_alloc1 _ _
 have B0 : PkB W w.heap.size p A3 n c3 A9 m9 c9 := by rw [HW.out]; exact PkB.new _ _ _ _ _ _ _ _ _
 rcases and5 (inR p.kind 1 3) (encPath p.path) (!(n == 0)) (!decide (c < 0)) (inR p.beta 0 2147483646) with h1 | ⟨h1, h2⟩ | ⟨h1, h2, h3'⟩ | ⟨h1, h2, h3', h4⟩ | ⟨h1, h2, h3', h4, h5⟩ | ⟨h1, h2, h3', h4, h5⟩
 ·have HR : Hid (r = false) := by show r = _; rw [Hr.out]; unfold validPkt; rw [h1]; rfl
  go_enter Tryz.func47, Tryz.ntmps47
  go_wp2_with (fail)
  rw [← HW.out]
  obtain ⟨f0, f1, f2, f3, f4, f5, f6, f7, f8, f9⟩ := B0
  refine (impl_InRange _ _ _ _).mono ?_
  rintro e w1 ⟨rfl, rfl⟩
  go_wp2_with (fail)
  go_ret
  exact ⟨by rw [HR.out]; rfl, x0⟩
 ·have HR : Hid (r = false) := by show r = _; rw [Hr.out]; unfold validPkt; rw [h1, h2]; rfl
  go_enter Tryz.func47, Tryz.ntmps47
  go_wp2_with (fail)
  rw [← HW.out]
  obtain ⟨f0, f1, f2, f3, f4, f5, f6, f7, f8, f9⟩ := B0
  refine (impl_InRange _ _ _ _).mono ?_
  rintro e w1 ⟨rfl, rfl⟩
  go_wp2_with (fail)
  refine (HE.out W x0).mono ?_
  rintro e w1 ⟨rfl, hb1⟩
  go_wp2_with (fail)
  go_ret
  exact ⟨by rw [HR.out]; rfl, ext_trans x0 hb1⟩
 ·have HR : Hid (r = false) := by show r = _; rw [Hr.out]; unfold validPkt; rw [h1, h2, ← H.out, h3']; rfl
  have hn := hid (show n = 0 by simpa using h3')
  clear h3'
  go_enter Tryz.func47, Tryz.ntmps47
  go_wp2_with (fail)
  rw [← HW.out]
  obtain ⟨f0, f1, f2, f3, f4, f5, f6, f7, f8, f9⟩ := id B0
  refine (impl_InRange _ _ _ _).mono ?_
  rintro e w1 ⟨rfl, rfl⟩
  go_wp2_with (fail)
  refine (HE.out W x0).mono ?_
  rintro e w1 ⟨rfl, hb1⟩
  clear f0 f1 f2 f3 f4 f5 f6 f7 f8 f9
  obtain ⟨f0, f1, f2, f3, f4, f5, f6, f7, f8, f9⟩ := B0.below hb1
  have hnn : ((n : Int) == 0) = true := by rw [hn.out]; rfl
  have hn2 : (n == 0) = true := by rw [hn.out]; rfl
  go_wp2_with (fail)
  go_ret
  exact ⟨by rw [HR.out]; rfl, ext_trans x0 hb1⟩
 all_goals
  have hnn : ((n : Int) == 0) = false := by have hq : n ≠ 0 := (by simpa using h3'); simp; omega
  have hn1 : (n == 0) = false := by simpa using h3'
 ·have HR : Hid (r = false) := by show r = _; rw [Hr.out]; unfold validPkt; rw [h1, h2, ← H.out, h3', ← Hc.out, h4]; rfl
  have h4' : decide (c < 0) = true := by simpa using h4
  clear h3' h4
  go_enter Tryz.func47, Tryz.ntmps47
  go_wp2_with (fail)
  rw [← HW.out]
  obtain ⟨f0, f1, f2, f3, f4, f5, f6, f7, f8, f9⟩ := id B0
  refine (impl_InRange _ _ _ _).mono ?_
  rintro e w1 ⟨rfl, rfl⟩
  go_wp2_with (fail)
  refine (HE.out W x0).mono ?_
  rintro e w1 ⟨rfl, hb1⟩
  clear f0 f1 f2 f3 f4 f5 f6 f7 f8 f9
  obtain ⟨f0, f1, f2, f3, f4, f5, f6, f7, f8, f9⟩ := B0.below hb1
  go_wp2_with (fail)
  refine (HC.out w1 (ext_trans x0 hb1)).mono ?_
  rintro e w2 ⟨rfl, hb2⟩
  go_wp2_with (fail)
  go_ret
  exact ⟨by rw [HR.out]; rfl, ext_trans x0 (ext_trans hb1 hb2)⟩
 ·have HR : Hid (r = false) := by show r = _; rw [Hr.out]; unfold validPkt; rw [h1, h2, ← H.out, h3', ← Hc.out, h4, h5]; rfl
  have h4' : decide (c < 0) = false := by simpa using h4
  clear h3' h4
  go_enter Tryz.func47, Tryz.ntmps47
  go_wp2_with (fail)
  rw [← HW.out]
  obtain ⟨f0, f1, f2, f3, f4, f5, f6, f7, f8, f9⟩ := id B0
  refine (impl_InRange _ _ _ _).mono ?_
  rintro e w1 ⟨rfl, rfl⟩
  go_wp2_with (fail)
  refine (HE.out W x0).mono ?_
  rintro e w1 ⟨rfl, hb1⟩
  clear f0 f1 f2 f3 f4 f5 f6 f7 f8 f9
  have B1 := B0.below hb1
  obtain ⟨f0, f1, f2, f3, f4, f5, f6, f7, f8, f9⟩ := id B1
  go_wp2_with (fail)
  refine (HC.out w1 (ext_trans x0 hb1)).mono ?_
  rintro e w2 ⟨rfl, hb2⟩
  clear f0 f1 f2 f3 f4 f5 f6 f7 f8 f9
  obtain ⟨f0, f1, f2, f3, f4, f5, f6, f7, f8, f9⟩ := B1.below hb2
  go_wp2_with (fail)
  refine (impl_isResidue _ _).mono ?_
  rintro e w3 ⟨rfl, rfl⟩
  go_wp2_with (fail)
  go_ret
  exact ⟨by rw [HR.out]; rfl, ext_trans x0 (ext_trans hb1 hb2)⟩
 ·have HR : Hid (r = (p.path.all someHops && tailOk p)) := by show r = _; rw [Hr.out]; unfold validPkt; rw [h1, h2, ← H.out, h3', ← Hc.out, h4, h5]; rfl
  have h4' : decide (c < 0) = false := by simpa using h4
  clear h3' h4
  go_enter Tryz.func47, Tryz.ntmps47
  go_wp2_with (fail)
  rw [← HW.out]
  obtain ⟨f0, f1, f2, f3, f4, f5, f6, f7, f8, f9⟩ := id B0
  refine (impl_InRange _ _ _ _).mono ?_
  rintro e w1 ⟨rfl, rfl⟩
  go_wp2_with (fail)
  refine (HE.out W x0).mono ?_
  rintro e w1 ⟨rfl, hb1⟩
  clear f0 f1 f2 f3 f4 f5 f6 f7 f8 f9
  have B1 := B0.below hb1
  obtain ⟨f0, f1, f2, f3, f4, f5, f6, f7, f8, f9⟩ := id B1
  go_wp2_with (fail)
  refine (HC.out w1 (ext_trans x0 hb1)).mono ?_
  rintro e w2 ⟨rfl, hb2⟩
  clear f0 f1 f2 f3 f4 f5 f6 f7 f8 f9
  have B2 := B1.below hb2
  obtain ⟨f0, f1, f2, f3, f4, f5, f6, f7, f8, f9⟩ := id B2
  go_wp2_with (fail)
  refine (impl_isResidue _ _).mono ?_
  rintro e w3 ⟨rfl, rfl⟩
  go_wp2_with (fail)
  have X2 := ext_trans x0 (ext_trans hb1 hb2)
  clear f0 f1 f2 f3 f4 f5 f6 f7 f8 f9 B0 B1 h1 h2 h4' h5 hnn hn1
  go_loopw [37] (fun i wr => ∃ k : Nat, k ≤ n ∧ i = I k ∧ (p.path.take k).all someHops = true ∧ Below w.heap.size w wr ∧ PkB wr w.heap.size p A3 n c3 A9 m9 c9) (fun i _ => n - (intOf i).toNat)
  case atStart => exact ⟨0, by omega, rfl, rfl, X2, B2⟩
  case round =>
   rename_i wr
   obtain ⟨k, hk, rfl, hall, hb, B⟩ := hrel
   have Ha := hid hall
   clear hall X2 B2 x0 hb1 hb2
   by_cases hlt : k < n
   ·obtain ⟨g, o, q, x, B', d, e, hg, hxk, hin, hd, c0, c1, c2, c3⟩ := part_at (h3.below hb) (by rw [← H.out]; exact hlt)
    rw [← H.out] at e
    cases e
    obtain ⟨m, Hm⟩ : ∃ m, Hid (m = x.hops.length) := ⟨_, rfl⟩
    rw [← Hm.out] at c3
    clear hin hd
    by_cases hm : m = 0
    ·have Hv : Hid (someHops x = false) := by show _ = _; unfold someHops; rw [← Hm.out, hm]; rfl
     clear Hm
     subst hm
     go_wp2_with (fail)
     go_ret
     exact ⟨by rw [HR.out, all_bad hxk.out Hv.out]; rfl, ext_alloc hb _⟩
    ·have Hv : Hid (someHops x = true) := by show _ = _; unfold someHops; rw [← Hm.out]; simp [hm]
     have hm1 : ((m : Int) == 0) = false := by simp; omega
     have hm2 : (m == 0) = false := by simp; omega
     go_wp2_with (fail)
     go_roundw
     case rel => exact ⟨k + 1, by omega, by go_num, all_succ Ha.out hxk.out Hv.out, ext_alloc hb _, B.below (ext_alloc1 _ _)⟩
     case measure => simp [intOf]; omega
   ·have hkn : k = n := by omega
    have hA := Ha.out
    rw [List.take_of_length_le (by rw [← H.out]; omega)] at hA
    have HT : Hid (r = tailOk p) := by show _ = _; rw [HR.out, hA]; rfl
    clear HR hA Ha Hr
    obtain ⟨f0, f1, f2, f3, f4, f5, f6, f7, f8, f9⟩ := B
    rcases and4 (inR p.src 0 7) (inR p.dst 0 7) (inR p.rid 0 100000) (inR p.seq 0 100000) with h1 | ⟨h1, h2⟩ | ⟨h1, h2, h3⟩ | ⟨h1, h2, h3, h4⟩ | ⟨h1, h2, h3, h4⟩
    all_goals
     have HQ : Hid (tailOk p = (inR p.src 0 7 && (inR p.dst 0 7 && (inR p.rid 0 100000 && (inR p.seq 0 100000 && decide ((m9 : Int) ≤ 40)))))) := by show _ = _; rw [H9.out]; rfl
     go_wp2_with (first | (go_at_call 61; refine (impl_InRange _ _ _ _).mono ?_; rintro e w1 ⟨rfl, rfl⟩))
     go_ret
     exact ⟨by rw [HT.out, HQ.out]; simp [*], hb⟩
theorem valid_pidx {p : Pkt} (h : inR p.pidx 0 ((p.path.length : Int) - 1) = false) : validPkt p = false := by
  have hc : currentAS p = -1 := by
    rcases cur_cases p with ⟨_, hc⟩ | ⟨k, x, ek, hk, hx, hr, _⟩
    · unfold currentAS; rw [hc.out]
    · have := hr.out; rw [← ek, h] at this; cases this
  unfold validPkt
  rw [hc]
  simp
theorem valid_tail {p : Pkt} {k : Nat} {x : Part} (h1 : inR p.kind 1 3 = true) (h2 : encPath p.path = true) (h5 : inR p.beta 0 2147483646 = true) (ek : p.pidx = (k : Int)) (hx : p.path[k]? = some x) :
    validPkt p = (p.path.all someHops && (inR p.hidx 0 ((x.hops.length : Int) - 1) && tailOk p)) := by
  have hk := (List.getElem?_eq_some_iff.1 hx).1
  have hl : (p.path.length == 0) = false := by simp; intro e; rw [e] at hk; simp at hk
  have hq : (!decide (currentAS p < 0)) = inR p.hidx 0 ((x.hops.length : Int) - 1) := by
    rcases cur_cases p with ⟨hr, _⟩ | ⟨k', x', ek', hk', hx', hr, hj⟩
    · have := hr.out; rw [ek, inR_yes (by omega) (by omega)] at this; cases this
    · have : k' = k := by omega
      subst this
      have := hx'.out.symm.trans hx
      injection this with this
      subst this
      rcases hj with ⟨hr2, hc⟩ | ⟨j, y, ej, hjl, hy, hr2, hc⟩
      · rw [hr2.out]; unfold currentAS; rw [hc.out]; simp
      · rw [ej, hr2.out]; unfold currentAS; rw [hc.out]
        have := enc_ia h2 hx hy.out
        simp; omega
  unfold validPkt
  rw [h1, h2, h5, hl, hq]
  simp only [Bool.true_and, Bool.not_false]
  cases inR p.hidx 0 ((x.hops.length : Int) - 1) <;> simp
set_option maxRecDepth 100000 in
set_option maxHeartbeats 8000000 in
theorem spec_ValidPacket (p : Pkt) (cs : List Value) (w : World) (h : pktT.R w cs p) (hz : sz_pkt p ≤ 1048576) (hl : lenOk_pkt p) (hg : rng_pkt p) :
  Calls Tryz.prog 48 #[.agg cs.toArray] w fun e w' => e = .returned (.bool (validPkt p)) ∧ Below w.heap.size w w' := by
 obtain ⟨A3, c3, A9, c9, rfl, ⟨h3, m3⟩, _⟩ := pkt_form h
 have hs : sz_path p.path ≤ 1048576 := by unfold sz_pkt at hz; omega
 have hn0 : p.path.length ≤ 1048576 := by have : sz_path p.path = List.length p.path + (p.path.map sz_part).sum := rfl; omega
 have hm9 : p.pay.length ≤ 1048576 := by unfold sz_pkt at hz; omega
 obtain ⟨r, Hr⟩ : ∃ r, Hid (r = validPkt p) := ⟨_, rfl⟩
 rw [← Hr.out]
 obtain ⟨n, H⟩ : ∃ n, Hid (n = List.length p.path) := ⟨_, rfl⟩
 obtain ⟨m9, H9⟩ : ∃ n, Hid (n = List.length p.pay) := ⟨_, rfl⟩
 have HE := hid fun w' (hw : Below w.heap.size w w') => spec_EncodablePath p.path _ w' (path_mk (h3.below hw)) hs hl.1 hg.2.2.2.1
 have Hs := hid hs
 rw [← H.out] at HE
 rw [← H.out] at h3 hn0 ⊢
 rw [← H9.out] at hm9 ⊢
 clear h hz hl hg m3 hs
 obtain ⟨W, HW⟩ : ∃ W, Hid (W = w.alloc (.cells #[I p.kind, I p.src, I p.dst, .slice A3 n c3, I p.pidx, I p.hidx, I p.beta, I p.rid, I p.seq, .slice A9 m9 c9] 51)) := ⟨_, rfl⟩
 have x0 : Below w.heap.size w W := by rw [HW.out]; exact ext_alloc1 _ _
 have B0 : PkB W w.heap.size p A3 n c3 A9 m9 c9 := by rw [HW.out]; exact PkB.new _ _ _ _ _ _ _ _ _
 rcases and4 (inR p.kind 1 3) (encPath p.path) (inR p.pidx 0 ((n : Int) - 1)) (inR p.beta 0 2147483646) with h1 | ⟨h1, h2⟩ | ⟨h1, h2, h3'⟩ | ⟨h1, h2, h3', h4⟩ | ⟨h1, h2, h3', h4⟩
 ·have HR : Hid (r = false) := by show r = _; rw [Hr.out]; unfold validPkt; rw [h1]; rfl
  go_enter Tryz.func48, Tryz.ntmps48
  go_wp2_with (fail)
  rw [← HW.out]
  obtain ⟨f0, f1, f2, f3, f4, f5, f6, f7, f8, f9⟩ := B0
  refine (spec_l1In _ _ _ _).mono ?_
  rintro e w1 ⟨rfl, rfl⟩
  go_wp2_with (fail)
  go_ret
  exact ⟨by rw [HR.out]; rfl, x0⟩
 ·have HR : Hid (r = false) := by show r = _; rw [Hr.out]; unfold validPkt; rw [h1, h2]; rfl
  go_enter Tryz.func48, Tryz.ntmps48
  go_wp2_with (fail)
  rw [← HW.out]
  obtain ⟨f0, f1, f2, f3, f4, f5, f6, f7, f8, f9⟩ := B0
  refine (spec_l1In _ _ _ _).mono ?_
  rintro e w1 ⟨rfl, rfl⟩
  go_wp2_with (fail)
  refine (HE.out W x0).mono ?_
  rintro e w1 ⟨rfl, hb1⟩
  go_wp2_with (fail)
  go_ret
  exact ⟨by rw [HR.out]; rfl, ext_trans x0 hb1⟩
 ·have HR : Hid (r = false) := by show r = _; rw [Hr.out]; exact valid_pidx (by rw [← H.out]; exact h3')
  go_enter Tryz.func48, Tryz.ntmps48
  go_wp2_with (fail)
  rw [← HW.out]
  obtain ⟨f0, f1, f2, f3, f4, f5, f6, f7, f8, f9⟩ := id B0
  refine (spec_l1In _ _ _ _).mono ?_
  rintro e w1 ⟨rfl, rfl⟩
  go_wp2_with (fail)
  refine (HE.out W x0).mono ?_
  rintro e w1 ⟨rfl, hb1⟩
  clear f0 f1 f2 f3 f4 f5 f6 f7 f8 f9
  obtain ⟨f0, f1, f2, f3, f4, f5, f6, f7, f8, f9⟩ := B0.below hb1
  go_wp2_with (fail)
  refine (spec_l1In _ _ _ _).mono ?_
  rintro e w2 ⟨rfl, rfl⟩
  go_wp2_with (fail)
  go_ret
  exact ⟨by rw [HR.out]; rfl, ext_trans x0 hb1⟩
 ·have HR : Hid (r = false) := by show r = _; rw [Hr.out]; unfold validPkt; rw [h1, h2, h4]; simp
  go_enter Tryz.func48, Tryz.ntmps48
  go_wp2_with (fail)
  rw [← HW.out]
  obtain ⟨f0, f1, f2, f3, f4, f5, f6, f7, f8, f9⟩ := id B0
  refine (spec_l1In _ _ _ _).mono ?_
  rintro e w1 ⟨rfl, rfl⟩
  go_wp2_with (fail)
  refine (HE.out W x0).mono ?_
  rintro e w1 ⟨rfl, hb1⟩
  clear f0 f1 f2 f3 f4 f5 f6 f7 f8 f9
  obtain ⟨f0, f1, f2, f3, f4, f5, f6, f7, f8, f9⟩ := B0.below hb1
  go_wp2_with (fail)
  refine (spec_l1In _ _ _ _).mono ?_
  rintro e w2 ⟨rfl, rfl⟩
  go_wp2_with (fail)
  refine (spec_l3Ok _ _).mono ?_
  rintro e w2 ⟨rfl, rfl⟩
  go_wp2_with (fail)
  go_ret
  exact ⟨by rw [HR.out]; rfl, ext_trans x0 hb1⟩
 ·obtain ⟨u1, u2⟩ := inR_iff.1 h3'
  obtain ⟨kk, ek⟩ := Int.eq_ofNat_of_zero_le u1
  have hkk : kk < n := by omega
  have hx' : p.path[kk]? = some (p.path[kk]'(by rw [← H.out]; exact hkk)) := List.getElem?_eq_getElem _
  obtain ⟨X, HX⟩ : ∃ X, Hid (p.path[kk]? = some X) := ⟨_, hx'⟩
  clear hx' u1 u2
  have HR : Hid (r = (p.path.all someHops && (inR p.hidx 0 ((X.hops.length : Int) - 1) && tailOk p))) := by show r = _; rw [Hr.out]; exact valid_tail h1 h2 h4 ek HX.out
  have EK := hid ek
  clear ek
  go_enter Tryz.func48, Tryz.ntmps48
  go_wp2_with (fail)
  rw [← HW.out]
  obtain ⟨f0, f1, f2, f3, f4, f5, f6, f7, f8, f9⟩ := id B0
  refine (spec_l1In _ _ _ _).mono ?_
  rintro e w1 ⟨rfl, rfl⟩
  go_wp2_with (fail)
  refine (HE.out W x0).mono ?_
  rintro e w1 ⟨rfl, hb1⟩
  clear f0 f1 f2 f3 f4 f5 f6 f7 f8 f9
  have B1 := B0.below hb1
  obtain ⟨f0, f1, f2, f3, f4, f5, f6, f7, f8, f9⟩ := id B1
  go_wp2_with (fail)
  refine (spec_l1In _ _ _ _).mono ?_
  rintro e w2 ⟨rfl, rfl⟩
  go_wp2_with (fail)
  refine (spec_l3Ok _ _).mono ?_
  rintro e w2 ⟨rfl, rfl⟩
  go_wp2_with (fail)
  have X2 := ext_trans x0 hb1
  clear f0 f1 f2 f3 f4 f5 f6 f7 f8 f9 B0 h1 h2 h3' h4
  go_loopw [3] (fun i wr => ∃ k : Nat, k ≤ n ∧ i = I k ∧ (p.path.take k).all someHops = true ∧ Below w.heap.size w wr ∧ PkB wr w.heap.size p A3 n c3 A9 m9 c9) (fun i _ => n - (intOf i).toNat)
  case atStart => exact ⟨0, by omega, rfl, rfl, X2, B1⟩
  case round =>
   rename_i wr
   obtain ⟨k, hk, rfl, hall, hb, B⟩ := hrel
   have Ha := hid hall
   clear hall X2 B1 x0 hb1
   obtain ⟨f0, f1, f2, f3, f4, f5, f6, f7, f8, f9⟩ := id B
   by_cases hlt : k < n
   ·clear f0 f1 f2 f4 f5 f6 f7 f8 f9
    obtain ⟨g, o, q, x, B', d, e, hg, hxk, hin, hd, c0, c1, c2, c3⟩ := part_at (h3.below hb) (by rw [← H.out]; exact hlt)
    rw [← H.out] at e
    cases e
    obtain ⟨m, Hm⟩ : ∃ m, Hid (m = x.hops.length) := ⟨_, rfl⟩
    rw [← Hm.out] at c3
    clear hin hd
    by_cases hm : m = 0
    ·have Hv : Hid (someHops x = false) := by show _ = _; unfold someHops; rw [← Hm.out, hm]; rfl
     clear Hm
     subst hm
     go_wp2_with (fail)
     go_ret
     exact ⟨by rw [HR.out, all_bad hxk.out Hv.out]; rfl, hb⟩
    ·have Hv : Hid (someHops x = true) := by show _ = _; unfold someHops; rw [← Hm.out]; simp [hm]
     have hm1 : ((m : Int) == 0) = false := by simp; omega
     have hm2 : (m == 0) = false := by simp; omega
     go_wp2_with (fail)
     go_roundw
     case rel => exact ⟨k + 1, by omega, by go_num, all_succ Ha.out hxk.out Hv.out, hb, B⟩
     case measure => simp [intOf]; omega
   ·have hkn : k = n := by omega
    have hA := Ha.out
    rw [List.take_of_length_le (by rw [← H.out]; omega)] at hA
    obtain ⟨g, o, q, x, B', d, e, hg, hxk, hin, hd, c0, c1, c2, c3'⟩ := part_at (k := kk) (h3.below hb) (by rw [← H.out]; exact hkk)
    rw [← H.out] at e
    cases e
    obtain rfl : X = x := by have := HX.out.symm.trans hxk.out; injection this
    have hm0 : X.hops.length ≤ 1048576 := Nat.le_trans (mem_sz_part (List.mem_of_getElem? hxk.out)) Hs.out
    obtain ⟨m, Hm⟩ : ∃ m, Hid (m = X.hops.length) := ⟨_, rfl⟩
    rw [← Hm.out] at c3' hm0 HR
    have HT : Hid (r = (inR p.hidx 0 ((m : Int) - 1) && tailOk p)) := by show _ = _; rw [HR.out, hA]; rfl
    have HQ : Hid (tailOk p = (inR p.src 0 7 && (inR p.dst 0 7 && (inR p.rid 0 100000 && (inR p.seq 0 100000 && decide ((m9 : Int) ≤ 40)))))) := by show _ = _; rw [H9.out]; rfl
    rw [EK.out] at f4
    clear HR hA Ha Hr hin hd c0 c1 c2 f0 f6
    have a1 : ∀ m : Xt wr, m.w.cell? ⟨w.heap.size, 1, none⟩ = some (I p.src) := fun m => ck m.h f1
    have a2 : ∀ m : Xt wr, m.w.cell? ⟨w.heap.size, 2, none⟩ = some (I p.dst) := fun m => ck m.h f2
    have a3 : ∀ m : Xt wr, m.w.cell? ⟨w.heap.size, 3, none⟩ = some (.slice (some ⟨g, o, none⟩) n c3) := fun m => ck m.h f3
    have a4 : ∀ m : Xt wr, m.w.cell? ⟨w.heap.size, 4, none⟩ = some (I (kk : Int)) := fun m => ck m.h f4
    have a5 : ∀ m : Xt wr, m.w.cell? ⟨w.heap.size, 5, none⟩ = some (I p.hidx) := fun m => ck m.h f5
    have a7 : ∀ m : Xt wr, m.w.cell? ⟨w.heap.size, 7, none⟩ = some (I p.rid) := fun m => ck m.h f7
    have a8 : ∀ m : Xt wr, m.w.cell? ⟨w.heap.size, 8, none⟩ = some (I p.seq) := fun m => ck m.h f8
    have a9 : ∀ m : Xt wr, m.w.cell? ⟨w.heap.size, 9, none⟩ = some (.slice A9 m9 c9) := fun m => ck m.h f9
    have b3 : ∀ m' : Xt wr, m'.w.cell? ⟨g, o + kk * 4 + 3, none⟩ = some (.slice B' m d) := fun m => ck m.h c3'
    clear f1 f2 f4 f5 f7 f8 f9 c3'
    rcases and5 (inR p.hidx 0 ((m : Int) - 1)) (inR p.src 0 7) (inR p.dst 0 7) (inR p.rid 0 100000) (inR p.seq 0 100000) with h1 | ⟨h1, h2⟩ | ⟨h1, h2, h3⟩ | ⟨h1, h2, h3, h4⟩ | ⟨h1, h2, h3, h4, h5⟩ | ⟨h1, h2, h3, h4, h5⟩
    all_goals
     go_wp2_with (fail)
     refine wp_region_ext (by kernel_rfl) (by kernel_rfl) ?_
     repeat (go_big_quiet_step (first
      | (go_at_call_of 64 (I p.hidx); exact ext_of_same _ (same_false (hid h1) (spec_l1In _ _ _ _)))
      | (go_at_call_of 64 (I p.src); exact ext_of_same _ (same_false (hid h2) (spec_l1In _ _ _ _)))
      | (go_at_call_of 64 (I p.dst); exact ext_of_same _ (same_false (hid h3) (spec_l1In _ _ _ _)))
      | (go_at_call_of 64 (I p.rid); exact ext_of_same _ (same_false (hid h4) (spec_l1In _ _ _ _)))
      | (go_at_call_of 64 (I p.seq); exact ext_of_same _ (same_false (hid h5) (spec_l1In _ _ _ _)))))
     refine wpQuiet_nil ?_
     rintro w1 ⟨⟨_, hb1⟩, rfl⟩
     go_wp2_with (fail)
     go_ret
     exact ⟨by rw [HT.out, HQ.out]; simp [*], ext_trans hb hb1⟩
end Go.Proofs.YtdaecknfahgddaaGreat
