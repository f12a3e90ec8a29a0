/- Packets made and moved on: copyPacket, NewPacket, AdvanceHop, of the program and of the reference. -/
import Derived.Test.YtfgobdejlfojiaaWkT
import Derived.Test.YtfgobdejlfojiaaWkH
import Derived.Test.YtfgobdejlfojiaaPacketB
import Derived.Test.YtfgobdejlfojiaaLengths
namespace Go.Proofs.Ytfgobdejlfojiaa
open Go.RowKit
set_option linter.unusedVariables false
set_option maxRecDepth 20000

theorem Sep.pktShut {b : Nat} {w : World} {os : List Ow} {u3 u9 : Value} {x : Pkt} (S : Sep b w (slO partT 90 u3 x.path :: slO byteT 5 u9 x.pay :: os)) : Sep b w (tyO pktT [I x.kind, I x.src, I x.dst, u3, I x.pidx, I x.hidx, I x.beta, I x.rid, I x.seq, u9] x :: os) := by
  obtain ⟨h1, fp, f, g, rfl, hf, ⟨f2, g2, rfl, hf2, hg2, hd2⟩, hd1⟩ := S
  have hO1 : SlO partT 90 b w u3 x.path f := hf
  have hO2 : SlO byteT 5 b w u9 x.pay f2 := hf2
  obtain ⟨A3, c3, rfl, _⟩ := hO1.read.form
  obtain ⟨A9, c9, rfl, _⟩ := hO2.read.form
  have hnd : (f ++ f2).Nodup := by
    rw [List.nodup_append]
    exact ⟨hO1.nodup, hO2.nodup, fun x hx y hy hxy => hd1 x hx (List.mem_append.2 (.inl (hxy ▸ hy)))⟩
  obtain ⟨fp, hO, hm⟩ := pkt_omk hO1 hO2 hnd
  refine ⟨h1, fp ++ g2, fp, g2, rfl, hO, hg2, fun y hy hz => ?_⟩
  rcases List.mem_append.1 ((hm y).1 hy) with hy | hy
  · exact hd1 y hy (List.mem_append.2 (.inr hz))
  · exact hd2 y hy hz

theorem impl_copyPacket (x : Pkt) (v : Value) (w : World) (hp : VA pktT w v x) (hz : sz_pkt x ≤ 1048576) : Calls Try.prog 88 #[v] w fun e w' => ∃ cs fp, e = .returned (.agg cs.toArray) ∧ pktT.O w.heap.size w' cs x fp ∧ Below w.heap.size w w' := by
  have hz1 : sz_path x.path ≤ 1048576 := by unfold sz_pkt at hz; omega
  have hz2 : x.pay.length ≤ 1048576 := by unfold sz_pkt at hz; omega
  obtain ⟨v3, v9, rfl, h3, h9⟩ := pkt_va hp
  have X0 := Below.refl w.heap.size w
  refine enter Try.func88 rfl Try.ntmps88 rfl ?_
  have X0 := Below.refl w.heap.size w
  refine w_seq ?_
  refine w_region ?_
  have S := Sep.nil w
  have B := Below.refl w.heap.size w
  have Hb := Nat.le_refl w.heap.size
  refine t_boxo S rfl rfl ?_ rfl rfl
  intro g1 w1 x2 S
  have B := bx Hb B x2
  refine t_alloc S z_pkt rfl ?_ rfl rfl
  intro g2 w3 x4 S
  have B := bx Hb B x4
  refine t_done ?_
  refine x_seq ?_
  refine w_seq ?_
  refine w_region ?_
  refine t_fldx fb_pkt_3 rfl rfl ?_ rfl
  refine t_bxp S.tail.box ab_path sb_path rfl rfl ?_ rfl
  refine t_call Try.call103 rfl (impl_copyPath _ _ _ (by first | assumption | exact VA.below (by assumption) B | exact path_mkv (by first | assumption | exact SlR.below (by assumption) B)) (by omega)) ?_ rfl rfl
  rintro e w5 ⟨cs5, fp5, rfl, hO5, x6⟩
  refine ⟨_, rfl, x6, ?_⟩
  have S := S.add (o := tyO pathT _ _) x6 hO5
  have B := bx Hb B x6
  obtain ⟨u5_0, heq, S2⟩ := S.pathOpen
  subst heq
  have S := S2
  clear S2
  refine t_fldx fb_pkt_3 rfl rfl ?_ rfl
  obtain ⟨Au5_0, cu5_0, rfl, _⟩ := S.sl.form
  have S := S.f2
  refine t_stp S sb_path rfl rfl rfl rfl rfl ?_
  intro w7 b8 S
  have B := B.trans b8
  refine t_done ?_
  refine x_seq ?_
  refine w_seq ?_
  refine w_region ?_
  refine t_fldx fb_pkt_9 rfl rfl ?_ rfl
  refine t_bx1 S.box ab_s_byte rfl rfl ?_ rfl
  refine t_call Try.call104 rfl (impl_copyBytes _ _ _ (by first | assumption | exact SlR.below (by assumption) B) (by omega)) ?_ rfl rfl
  rintro e w9 ⟨v9, fpv9, rfl, hOv9, x10⟩
  refine ⟨_, rfl, x10, ?_⟩
  have S := S.add (o := slO _ _ _ _) x10 hOv9
  have B := bx Hb B x10
  refine t_fldx fb_pkt_9 rfl rfl ?_ rfl
  obtain ⟨Av9, cv9, rfl, _⟩ := S.sl.form
  have S := S.f1
  refine t_st1 S sb_s_byte rfl rfl rfl rfl rfl ?_
  intro w11 b12 S
  have B := B.trans b12
  refine t_done ?_
  refine x_seq ?_
  refine w_seq ?_
  refine w_region ?_
  refine t_bxn S.box ab_pkt sb_pkt rfl rfl ?_ rfl
  have S := S.f3
  refine t_stn S sb_pkt rfl rfl rfl rfl (by intro zz hu; have hu : zz ∈ ([I x.kind, I x.src, I x.dst, .slice Au5_0 x.path.length cu5_0, I x.pidx, I x.hidx, I x.beta, I x.rid, I x.seq, .slice Av9 x.pay.length cv9] : List Value) := hu; simp only [List.mem_cons, List.not_mem_nil, or_false] at hu; rcases hu with rfl | rfl | rfl | rfl | rfl | rfl | rfl | rfl | rfl | rfl <;> first | rfl | exact (SlR.cells (by first | assumption | exact S.tail.sl | exact S.tail.tail.sl | exact S.tail.tail.tail.sl | exact S.tail.tail.tail.tail.sl | exact S.tail.tail.tail.tail.tail.sl | exact S.tail.tail.tail.tail.tail.tail.sl | exact S.tail.tail.tail.tail.tail.tail.tail.sl | exact S.tail.tail.tail.tail.tail.tail.tail.tail.sl)).2) ?_
  intro w13 b14 S
  have B := B.trans b14
  refine t_done ?_
  refine x_seq ?_
  refine w_ret ?_
  refine x_retc rfl rfl S.box ab_pkt sb_pkt rfl ?_
  have S := S.f2
  have S := S.f3
  have S := S.pktShut (x := x)
  obtain ⟨fp, hO⟩ := (S.mono X0.size).head
  exact ⟨_, fp, rfl, hO, ext_trans X0 B⟩
theorem spec_l26Copy (x : Pkt) (v : Value) (w : World) (hp : VA pktT w v x) (hz : sz_pkt x ≤ 1048576) : Calls Try.prog 85 #[v] w fun e w' => ∃ cs fp, e = .returned (.agg cs.toArray) ∧ pktT.O w.heap.size w' cs x fp ∧ Below w.heap.size w w' := by
  have hz1 : sz_path x.path ≤ 1048576 := by unfold sz_pkt at hz; omega
  have hz2 : x.pay.length ≤ 1048576 := by unfold sz_pkt at hz; omega
  have X0 := Below.refl w.heap.size w
  refine enter Try.func85 rfl Try.ntmps85 rfl ?_
  refine w_seq ?_
  refine w_region ?_
  refine t_boxr (by assumption) rfl ?_ rfl rfl
  intro p1 w15 x16 hp1
  replace hp := hp.below x16
  have X0 := ext_trans X0 x16
  have S := Sep.nil w15
  have B := Below.refl w15.heap.size w15
  have Hb := Nat.le_refl w15.heap.size
  refine t_alloc S z_pkt rfl ?_ rfl rfl
  intro g2 w17 x18 S
  have B := bx Hb B x18
  refine t_done ?_
  refine x_seq ?_
  refine w_seq ?_
  refine w_region ?_
  refine t_lda (by assumption) ab_pkt sb_pkt B rfl ?_ rfl
  intro v4 hv4
  obtain ⟨v4_3, v4_9, rfl, hv4_3, hv4_9⟩ := pkt_va hv4
  refine t_alloc S z_pkt rfl ?_ rfl rfl
  intro g3 w19 x20 S
  have B := bx Hb B x20
  refine t_stn S sb_pkt rfl rfl rfl rfl (by intro zz hu; have hu : zz ∈ ([I x.kind, I x.src, I x.dst, v4_3, I x.pidx, I x.hidx, I x.beta, I x.rid, I x.seq, v4_9] : List Value) := hu; simp only [List.mem_cons, List.not_mem_nil, or_false] at hu; rcases hu with rfl | rfl | rfl | rfl | rfl | rfl | rfl | rfl | rfl | rfl <;> first | rfl | exact (SlR.cells (by first | assumption | exact S.tail.sl | exact S.tail.tail.sl | exact S.tail.tail.tail.sl | exact S.tail.tail.tail.tail.sl | exact S.tail.tail.tail.tail.tail.sl | exact S.tail.tail.tail.tail.tail.tail.sl | exact S.tail.tail.tail.tail.tail.tail.tail.sl | exact S.tail.tail.tail.tail.tail.tail.tail.tail.sl)).2) ?_
  intro w21 b22 S
  have B := B.trans b22
  refine t_done ?_
  refine x_seq ?_
  refine w_seq ?_
  refine w_region ?_
  refine t_fld ln_pkt_3 (by assumption) fb_pkt_3 rfl ?_ rfl
  intro p5 hp5
  refine t_lda (by assumption) ab_path sb_path B rfl ?_ rfl
  intro v6 hv6
  obtain ⟨v6_0, rfl, hv6_0⟩ := path_va hv6
  refine t_call Try.call102 rfl (spec_l22Copy _ _ _ (by first | assumption | exact VA.below (by assumption) B | exact path_mkv (by first | assumption | exact SlR.below (by assumption) B)) (by omega)) ?_ rfl rfl
  rintro e w23 ⟨cs7, fp7, rfl, hO7, x24⟩
  refine ⟨_, rfl, x24, ?_⟩
  have S := S.add (o := tyO pathT _ _) x24 hO7
  have B := bx Hb B x24
  obtain ⟨u7_0, heq, S2⟩ := S.pathOpen
  subst heq
  have S := S2
  clear S2
  refine t_fldx fb_pkt_3 rfl rfl ?_ rfl
  obtain ⟨Au7_0, cu7_0, rfl, _⟩ := S.sl.form
  have S := S.f1
  refine t_stp S sb_path rfl rfl rfl rfl rfl ?_
  intro w25 b26 S
  have B := B.trans b26
  refine t_done ?_
  refine x_seq ?_
  refine w_seq ?_
  refine w_region ?_
  refine t_lit (T := byteT) (css := []) (l := []) byte_flat S bs_byte0 rfl rfl rfl rfl (Nat.zero_le _) litR_nil ?_ rfl rfl
  intro u9 w27 x28 S
  have B := bx Hb B x28
  refine t_fld ln_pkt_9 (by assumption) fb_pkt_9 rfl ?_ rfl
  intro p10 hp10
  refine t_lds (by assumption) ab_s_byte B rfl ?_ rfl
  intro v11 hv11
  refine t_cat byte_flat e_byte S (by first | assumption | exact SlR.below (by assumption) B) rfl rfl rfl (by first | omega | (simp [-List.length_flatMap]; omega)) (by (simp [maxLen, -List.length_flatMap]; try omega)) ?_ rfl
  intro v12 w29 x30 S
  have B := B.trans x30
  refine t_fldx fb_pkt_9 rfl rfl ?_ rfl
  obtain ⟨Av12, cv12, rfl, _⟩ := S.sl.form
  have S := S.f1
  refine t_st1 S sb_s_byte rfl rfl rfl rfl rfl ?_
  intro w31 b32 S
  have B := B.trans b32
  refine t_done ?_
  refine x_seq ?_
  refine w_seq ?_
  refine w_region ?_
  refine t_bxn S.box ab_pkt sb_pkt rfl rfl ?_ rfl
  have S := S.f3
  refine t_stn S sb_pkt rfl rfl rfl rfl (by intro zz hu; have hu : zz ∈ ([I x.kind, I x.src, I x.dst, .slice Au7_0 x.path.length cu7_0, I x.pidx, I x.hidx, I x.beta, I x.rid, I x.seq, .slice Av12 (([]) ++ x.pay).length cv12] : List Value) := hu; simp only [List.mem_cons, List.not_mem_nil, or_false] at hu; rcases hu with rfl | rfl | rfl | rfl | rfl | rfl | rfl | rfl | rfl | rfl <;> first | rfl | exact (SlR.cells (by first | assumption | exact S.tail.sl | exact S.tail.tail.sl | exact S.tail.tail.tail.sl | exact S.tail.tail.tail.tail.sl | exact S.tail.tail.tail.tail.tail.sl | exact S.tail.tail.tail.tail.tail.tail.sl | exact S.tail.tail.tail.tail.tail.tail.tail.sl | exact S.tail.tail.tail.tail.tail.tail.tail.tail.sl)).2) ?_
  intro w33 b34 S
  have B := B.trans b34
  refine t_done ?_
  refine x_seq ?_
  refine w_ret ?_
  refine x_retc rfl rfl S.box ab_pkt sb_pkt rfl ?_
  have S := S.f2
  have S := S.f3
  have S := S.pktShut (x := x)
  obtain ⟨fp, hO⟩ := (S.mono X0.size).head
  exact ⟨_, fp, rfl, hO, ext_trans X0 B⟩

/-! ### A packet at the beginning of its path -/

def betaOf (p : Path) (k : Nat) : Int := match p[k]? with
  | some y => y.beta
  | none => 0
def newPkt (k : Int) (p : Path) (r s : Int) (b : List UInt8) : Pkt := ⟨k, endA p, endB p, p, 0, 0, betaOf p 0, r, s, b⟩
theorem betaOf_eq {p : Path} {k : Nat} {y : Part} (h : p[k]? = some y) : betaOf p k = y.beta := by unfold betaOf; rw [h]
theorem impl_NewPacket (k : Int) (p : Path) (u : Value) (r s : Int) (b : List UInt8) (v : Value) (w : World) (hp : VA pathT w u p) (hb : SlR byteT w v b) (hz' : sz_path p ≤ 1048576) (hz : b.length ≤ 1048576) (hl : lenOk_path p) (hg : rng_path p) : Calls Try.prog 42 #[I k, u, I r, I s, v] w fun e w' => ∃ cs fp, e = .returned (.agg cs.toArray) ∧ pktT.O w.heap.size w' cs (newPkt k p r s b) fp ∧ Below w.heap.size w w' := by
  have hpl : List.length p ≤ sz_path p := by show List.length p ≤ List.length p + _; omega
  have X0 := Below.refl w.heap.size w
  refine enter Try.func42 rfl Try.ntmps42 rfl ?_
  refine w_seq ?_
  refine w_region ?_
  refine t_boxr (by assumption) rfl ?_ rfl rfl
  intro p6 w35 x36 hp6
  replace hp := hp.below x36
  replace hb := hb.below x36
  have X0 := ext_trans X0 x36
  have S := Sep.nil w35
  have B := Below.refl w35.heap.size w35
  have Hb := Nat.le_refl w35.heap.size
  refine t_alloc S z_pkt rfl ?_ rfl rfl
  intro g10 w37 x38 S
  have B := bx Hb B x38
  refine t_done ?_
  refine x_seq ?_
  refine w_seq ?_
  refine w_region ?_
  refine t_move rfl ?_ rfl
  refine t_lda (by assumption) ab_path sb_path B rfl ?_ rfl
  intro v13 hv13
  obtain ⟨v13_0, rfl, hv13_0⟩ := path_va hv13
  refine t_call Try.call103 rfl (impl_copyPath _ _ _ (by first | assumption | exact VA.below (by assumption) B | exact path_mkv (by first | assumption | exact SlR.below (by assumption) B)) (by omega)) ?_ rfl rfl
  rintro e w39 ⟨cs14, fp14, rfl, hO14, x40⟩
  refine ⟨_, rfl, x40, ?_⟩
  have S := S.add (o := tyO pathT _ _) x40 hO14
  have B := bx Hb B x40
  obtain ⟨u14_0, heq, S2⟩ := S.pathOpen
  subst heq
  have S := S2
  clear S2
  refine t_move rfl ?_ rfl
  refine t_move rfl ?_ rfl
  refine t_move rfl ?_ rfl
  refine t_call Try.call104 rfl (impl_copyBytes _ _ _ (by first | assumption | exact SlR.below (by assumption) B) (by omega)) ?_ rfl rfl
  rintro e w41 ⟨v18, fpv18, rfl, hOv18, x42⟩
  refine ⟨_, rfl, x42, ?_⟩
  have S := S.add (o := slO _ _ _ _) x42 hOv18
  have B := bx Hb B x42
  obtain ⟨Au14_0, cu14_0, rfl, _⟩ := S.tail.sl.form
  obtain ⟨Av18, cv18, rfl, _⟩ := S.sl.form
  refine t_build (fun w => b_pkt_0_3_7_8_9 _ _ _ _ _ _ _ _ _ w) rfl ?_ rfl
  refine t_alloc S z_pkt rfl ?_ rfl rfl
  intro g11 w43 x44 S
  have B := bx Hb B x44
  refine t_stn S sb_pkt rfl rfl rfl rfl (by intro zz hu; have hu : zz ∈ ([I k, I 0, I 0, .slice Au14_0 p.length cu14_0, I 0, I 0, I 0, I r, I s, .slice Av18 b.length cv18] : List Value) := hu; simp only [List.mem_cons, List.not_mem_nil, or_false] at hu; rcases hu with rfl | rfl | rfl | rfl | rfl | rfl | rfl | rfl | rfl | rfl <;> first | rfl | exact (SlR.cells (by first | assumption | exact S.tail.sl | exact S.tail.tail.sl | exact S.tail.tail.tail.sl | exact S.tail.tail.tail.tail.sl | exact S.tail.tail.tail.tail.tail.sl | exact S.tail.tail.tail.tail.tail.tail.sl | exact S.tail.tail.tail.tail.tail.tail.tail.sl | exact S.tail.tail.tail.tail.tail.tail.tail.tail.sl)).2) ?_
  intro w45 b46 S
  have B := B.trans b46
  refine t_done ?_
  refine x_seq ?_
  refine w_seq ?_
  refine w_region ?_
  refine t_lda (by assumption) ab_path sb_path B rfl ?_ rfl
  intro v21 hv21
  obtain ⟨v21_0, rfl, hv21_0⟩ := path_va hv21
  refine t_callx Try.call105 rfl (va1 (by first | assumption | exact VA.below (by assumption) B | exact path_mkv (by first | assumption | exact SlR.below (by assumption) B)) fun cs h => impl_Endpoints _ cs _ h (by omega) (by assumption) (by assumption)) ?_ rfl rfl
  intro w47 x48
  have B := bx Hb B x48
  have S := S.below x48
  refine t_move rfl ?_ rfl
  refine t_extract rfl rfl ?_ rfl
  refine t_extract rfl rfl ?_ rfl
  refine t_fldx fb_pkt_1 rfl rfl ?_ rfl
  refine t_st1 S sb_int rfl rfl rfl rfl rfl ?_
  intro w49 b50 S
  have B := B.trans b50
  refine t_fldx fb_pkt_2 rfl rfl ?_ rfl
  refine t_st1 S sb_int rfl rfl rfl rfl rfl ?_
  intro w51 b52 S
  have B := B.trans b52
  refine t_done ?_
  refine x_seq ?_
  refine w_seq ?_
  refine w_seq ?_
  refine w_region ?_
  refine t_fld ln_path_0 (by assumption) fb_path_0 rfl ?_ rfl
  intro p27 hp27
  refine t_lds (by assumption) ab_s_part B rfl ?_ rfl
  intro v28 hv28
  refine t_len e_part (by assumption) rfl rfl ?_ rfl
  refine t_gtr rfl rfl ?_ rfl
  refine t_done ?_
  refine x_seq ?_
  refine w_if rfl ?_ ?_
  · intro hlt
    obtain ⟨x, hx⟩ : ∃ e, p[0]? = some e := getx (by omega)
    have hn : newPkt k p r s b = ⟨k, endA p, endB p, p, 0, 0, x.beta, r, s, b⟩ := by unfold newPkt; rw [betaOf_eq hx]
    refine w_region ?_
    refine t_fld ln_path_0 (by assumption) fb_path_0 rfl ?_ rfl
    intro p31 hp31
    refine t_lds (by assumption) ab_s_part B rfl ?_ rfl
    intro v32 hv32
    refine t_idx e_part (k := 0) (by assumption) hx B rfl rfl (by first | rfl | omega) ?_ rfl
    intro p33 hp33
    refine t_fld ln_part_2 (by assumption) fb_part_2 rfl ?_ rfl
    intro p34 hp34
    refine t_ldi (by assumption) ab_int B rfl ?_ rfl
    refine t_fldx fb_pkt_6 rfl rfl ?_ rfl
    refine t_st1 S sb_int rfl rfl rfl rfl rfl ?_
    intro w53 b54 S
    have B := B.trans b54
    refine t_done ?_
    refine x_seq ?_
    refine w_seq ?_
    refine w_region ?_
    refine t_bxn S.box ab_pkt sb_pkt rfl rfl ?_ rfl
    have S := S.f3
    refine t_stn S sb_pkt rfl rfl rfl rfl (by intro zz hu; have hu : zz ∈ ([I k, I (endA p), I (endB p), .slice Au14_0 p.length cu14_0, I 0, I 0, I x.beta, I r, I s, .slice Av18 b.length cv18] : List Value) := hu; simp only [List.mem_cons, List.not_mem_nil, or_false] at hu; rcases hu with rfl | rfl | rfl | rfl | rfl | rfl | rfl | rfl | rfl | rfl <;> first | rfl | exact (SlR.cells (by first | assumption | exact S.tail.sl | exact S.tail.tail.sl | exact S.tail.tail.tail.sl | exact S.tail.tail.tail.tail.sl | exact S.tail.tail.tail.tail.tail.sl | exact S.tail.tail.tail.tail.tail.tail.sl | exact S.tail.tail.tail.tail.tail.tail.tail.sl | exact S.tail.tail.tail.tail.tail.tail.tail.tail.sl)).2) ?_
    intro w55 b56 S
    have B := B.trans b56
    refine t_done ?_
    refine x_seq ?_
    refine w_ret ?_
    refine x_retc rfl rfl S.box ab_pkt sb_pkt rfl ?_
    have S := S.f2
    have S := S.f3
    have S := S.pktShut (x := (⟨k, endA p, endB p, p, 0, 0, x.beta, r, s, b⟩ : Pkt))
    obtain ⟨fp, hO⟩ := (S.mono X0.size).head
    rw [hn]
    exact ⟨_, fp, rfl, hO, ext_trans X0 B⟩
  · intro hge
    have hn : newPkt k p r s b = ⟨k, endA p, endB p, p, 0, 0, 0, r, s, b⟩ := by
      unfold newPkt betaOf
      rw [List.getElem?_eq_none (by show List.length p ≤ 0; omega)]
    refine w_skip ?_
    refine x_seq ?_
    refine w_seq ?_
    refine w_region ?_
    refine t_bxn S.box ab_pkt sb_pkt rfl rfl ?_ rfl
    have S := S.f3
    refine t_stn S sb_pkt rfl rfl rfl rfl (by intro zz hu; have hu : zz ∈ ([I k, I (endA p), I (endB p), .slice Au14_0 p.length cu14_0, I 0, I 0, I 0, I r, I s, .slice Av18 b.length cv18] : List Value) := hu; simp only [List.mem_cons, List.not_mem_nil, or_false] at hu; rcases hu with rfl | rfl | rfl | rfl | rfl | rfl | rfl | rfl | rfl | rfl <;> first | rfl | exact (SlR.cells (by first | assumption | exact S.tail.sl | exact S.tail.tail.sl | exact S.tail.tail.tail.sl | exact S.tail.tail.tail.tail.sl | exact S.tail.tail.tail.tail.tail.sl | exact S.tail.tail.tail.tail.tail.tail.sl | exact S.tail.tail.tail.tail.tail.tail.tail.sl | exact S.tail.tail.tail.tail.tail.tail.tail.tail.sl)).2) ?_
    intro w57 b58 S
    have B := B.trans b58
    refine t_done ?_
    refine x_seq ?_
    refine w_ret ?_
    refine x_retc rfl rfl S.box ab_pkt sb_pkt rfl ?_
    have S := S.f2
    have S := S.f3
    have S := S.pktShut (x := (⟨k, endA p, endB p, p, 0, 0, 0, r, s, b⟩ : Pkt))
    obtain ⟨fp, hO⟩ := (S.mono X0.size).head
    rw [hn]
    exact ⟨_, fp, rfl, hO, ext_trans X0 B⟩
theorem spec_NewPacket (k : Int) (p : Path) (u : Value) (r s : Int) (b : List UInt8) (v : Value) (w : World) (hp : VA pathT w u p) (hb : SlR byteT w v b) (hz' : sz_path p ≤ 1048576) (hz : b.length ≤ 1048576) (hl : lenOk_path p) (hg : rng_path p) : Calls Try.prog 41 #[I k, u, I r, I s, v] w fun e w' => ∃ cs fp, e = .returned (.agg cs.toArray) ∧ pktT.O w.heap.size w' cs (newPkt k p r s b) fp ∧ Below w.heap.size w w' := by
  have hpl : List.length p ≤ sz_path p := by show List.length p ≤ List.length p + _; omega
  have X0 := Below.refl w.heap.size w
  refine enter Try.func41 rfl Try.ntmps41 rfl ?_
  refine w_seq ?_
  refine w_region ?_
  refine t_boxr (by assumption) rfl ?_ rfl rfl
  intro p6 w59 x60 hp6
  replace hp := hp.below x60
  replace hb := hb.below x60
  have X0 := ext_trans X0 x60
  have S := Sep.nil w59
  have B := Below.refl w59.heap.size w59
  have Hb := Nat.le_refl w59.heap.size
  refine t_alloc S z_pkt rfl ?_ rfl rfl
  intro g10 w61 x62 S
  have B := bx Hb B x62
  refine t_done ?_
  refine x_seq ?_
  refine w_seq ?_
  refine w_region ?_
  refine t_lda (by assumption) ab_path sb_path B rfl ?_ rfl
  intro v15 hv15
  obtain ⟨v15_0, rfl, hv15_0⟩ := path_va hv15
  refine t_callx Try.call101 rfl (va1 (by first | assumption | exact VA.below (by assumption) B | exact path_mkv (by first | assumption | exact SlR.below (by assumption) B)) fun cs h => spec_Endpoints _ cs _ h (by omega) (by assumption) (by assumption)) ?_ rfl rfl
  intro w63 x64
  have B := bx Hb B x64
  have S := S.below x64
  refine t_move rfl ?_ rfl
  refine t_extract rfl rfl ?_ rfl
  refine t_extract rfl rfl ?_ rfl
  refine t_assign rfl ?_ rfl
  refine t_assign rfl ?_ rfl
  refine t_done ?_
  refine x_seq ?_
  refine w_seq ?_
  refine w_region ?_
  refine t_move rfl ?_ rfl
  refine t_move rfl ?_ rfl
  refine t_move rfl ?_ rfl
  refine t_lda (by assumption) ab_path sb_path B rfl ?_ rfl
  intro v22 hv22
  obtain ⟨v22_0, rfl, hv22_0⟩ := path_va hv22
  refine t_call Try.call102 rfl (spec_l22Copy _ _ _ (by first | assumption | exact VA.below (by assumption) B | exact path_mkv (by first | assumption | exact SlR.below (by assumption) B)) (by omega)) ?_ rfl rfl
  rintro e w65 ⟨cs23, fp23, rfl, hO23, x66⟩
  refine ⟨_, rfl, x66, ?_⟩
  have S := S.add (o := tyO pathT _ _) x66 hO23
  have B := bx Hb B x66
  obtain ⟨u23_0, heq, S2⟩ := S.pathOpen
  subst heq
  have S := S2
  clear S2
  refine t_move rfl ?_ rfl
  refine t_move rfl ?_ rfl
  refine t_lit (T := byteT) (css := []) (l := []) byte_flat S bs_byte0 rfl rfl rfl rfl (Nat.zero_le _) litR_nil ?_ rfl rfl
  intro u26 w67 x68 S
  have B := bx Hb B x68
  refine t_move rfl ?_ rfl
  refine t_cat byte_flat e_byte S (by first | assumption | exact SlR.below (by assumption) B) rfl rfl rfl (by first | omega | (simp [-List.length_flatMap]; omega)) (by (simp [maxLen, -List.length_flatMap]; try omega)) ?_ rfl
  intro v28 w69 x70 S
  have B := B.trans x70
  obtain ⟨Au23_0, cu23_0, rfl, _⟩ := S.tail.sl.form
  obtain ⟨Av28, cv28, rfl, _⟩ := S.sl.form
  refine t_build (fun w => b_pkt_0_1_2_3_7_8_9 _ _ _ _ _ _ _ _ _ _ _ w) rfl ?_ rfl
  refine t_alloc S z_pkt rfl ?_ rfl rfl
  intro g13 w71 x72 S
  have B := bx Hb B x72
  refine t_stn S sb_pkt rfl rfl rfl rfl (by intro zz hu; have hu : zz ∈ ([I k, I (endA p), I (endB p), .slice Au23_0 p.length cu23_0, I 0, I 0, I 0, I r, I s, .slice Av28 (([]) ++ b).length cv28] : List Value) := hu; simp only [List.mem_cons, List.not_mem_nil, or_false] at hu; rcases hu with rfl | rfl | rfl | rfl | rfl | rfl | rfl | rfl | rfl | rfl <;> first | rfl | exact (SlR.cells (by first | assumption | exact S.tail.sl | exact S.tail.tail.sl | exact S.tail.tail.tail.sl | exact S.tail.tail.tail.tail.sl | exact S.tail.tail.tail.tail.tail.sl | exact S.tail.tail.tail.tail.tail.tail.sl | exact S.tail.tail.tail.tail.tail.tail.tail.sl | exact S.tail.tail.tail.tail.tail.tail.tail.tail.sl)).2) ?_
  intro w73 b74 S
  have B := B.trans b74
  refine t_done ?_
  refine x_seq ?_
  refine w_seq ?_
  refine w_seq ?_
  refine w_region ?_
  refine t_fld ln_path_0 (by assumption) fb_path_0 rfl ?_ rfl
  intro p30 hp30
  refine t_lds (by assumption) ab_s_part B rfl ?_ rfl
  intro v31 hv31
  refine t_len e_part (by assumption) rfl rfl ?_ rfl
  refine t_gtr rfl rfl ?_ rfl
  refine t_done ?_
  refine x_seq ?_
  refine w_if rfl ?_ ?_
  · intro hlt
    obtain ⟨x, hx⟩ : ∃ e, p[0]? = some e := getx (by omega)
    have hn : newPkt k p r s b = ⟨k, endA p, endB p, p, 0, 0, x.beta, r, s, b⟩ := by unfold newPkt; rw [betaOf_eq hx]
    refine w_region ?_
    refine t_fld ln_path_0 (by assumption) fb_path_0 rfl ?_ rfl
    intro p34 hp34
    refine t_lds (by assumption) ab_s_part B rfl ?_ rfl
    intro v35 hv35
    refine t_idx e_part (k := 0) (by assumption) hx B rfl rfl (by first | rfl | omega) ?_ rfl
    intro p36 hp36
    refine t_fld ln_part_2 (by assumption) fb_part_2 rfl ?_ rfl
    intro p37 hp37
    refine t_ldi (by assumption) ab_int B rfl ?_ rfl
    refine t_fldx fb_pkt_6 rfl rfl ?_ rfl
    refine t_st1 S sb_int rfl rfl rfl rfl rfl ?_
    intro w75 b76 S
    have B := B.trans b76
    refine t_done ?_
    refine x_seq ?_
    refine w_seq ?_
    refine w_region ?_
    refine t_bxn S.box ab_pkt sb_pkt rfl rfl ?_ rfl
    have S := S.f3
    refine t_stn S sb_pkt rfl rfl rfl rfl (by intro zz hu; have hu : zz ∈ ([I k, I (endA p), I (endB p), .slice Au23_0 p.length cu23_0, I 0, I 0, I x.beta, I r, I s, .slice Av28 (([]) ++ b).length cv28] : List Value) := hu; simp only [List.mem_cons, List.not_mem_nil, or_false] at hu; rcases hu with rfl | rfl | rfl | rfl | rfl | rfl | rfl | rfl | rfl | rfl <;> first | rfl | exact (SlR.cells (by first | assumption | exact S.tail.sl | exact S.tail.tail.sl | exact S.tail.tail.tail.sl | exact S.tail.tail.tail.tail.sl | exact S.tail.tail.tail.tail.tail.sl | exact S.tail.tail.tail.tail.tail.tail.sl | exact S.tail.tail.tail.tail.tail.tail.tail.sl | exact S.tail.tail.tail.tail.tail.tail.tail.tail.sl)).2) ?_
    intro w77 b78 S
    have B := B.trans b78
    refine t_done ?_
    refine x_seq ?_
    refine w_ret ?_
    refine x_retc rfl rfl S.box ab_pkt sb_pkt rfl ?_
    have S := S.f2
    have S := S.f3
    have S := S.pktShut (x := (⟨k, endA p, endB p, p, 0, 0, x.beta, r, s, b⟩ : Pkt))
    obtain ⟨fp, hO⟩ := (S.mono X0.size).head
    rw [hn]
    exact ⟨_, fp, rfl, hO, ext_trans X0 B⟩
  · intro hge
    have hn : newPkt k p r s b = ⟨k, endA p, endB p, p, 0, 0, 0, r, s, b⟩ := by
      unfold newPkt betaOf
      rw [List.getElem?_eq_none (by show List.length p ≤ 0; omega)]
    refine w_skip ?_
    refine x_seq ?_
    refine w_seq ?_
    refine w_region ?_
    refine t_bxn S.box ab_pkt sb_pkt rfl rfl ?_ rfl
    have S := S.f3
    refine t_stn S sb_pkt rfl rfl rfl rfl (by intro zz hu; have hu : zz ∈ ([I k, I (endA p), I (endB p), .slice Au23_0 p.length cu23_0, I 0, I 0, I 0, I r, I s, .slice Av28 (([]) ++ b).length cv28] : List Value) := hu; simp only [List.mem_cons, List.not_mem_nil, or_false] at hu; rcases hu with rfl | rfl | rfl | rfl | rfl | rfl | rfl | rfl | rfl | rfl <;> first | rfl | exact (SlR.cells (by first | assumption | exact S.tail.sl | exact S.tail.tail.sl | exact S.tail.tail.tail.sl | exact S.tail.tail.tail.tail.sl | exact S.tail.tail.tail.tail.tail.sl | exact S.tail.tail.tail.tail.tail.tail.sl | exact S.tail.tail.tail.tail.tail.tail.tail.sl | exact S.tail.tail.tail.tail.tail.tail.tail.tail.sl)).2) ?_
    intro w79 b80 S
    have B := B.trans b80
    refine t_done ?_
    refine x_seq ?_
    refine w_ret ?_
    refine x_retc rfl rfl S.box ab_pkt sb_pkt rfl ?_
    have S := S.f2
    have S := S.f3
    have S := S.pktShut (x := (⟨k, endA p, endB p, p, 0, 0, 0, r, s, b⟩ : Pkt))
    obtain ⟨fp, hO⟩ := (S.mono X0.size).head
    rw [hn]
    exact ⟨_, fp, rfl, hO, ext_trans X0 B⟩

/-! ### A packet moved on -/

def advance (x : Pkt) : Pkt := if currentAS x < 0 then x else if atLastHop x = true then x else match curPart x with
  | none => x
  | some y => if x.hidx = (y.hops.length : Int) - 1 then { x with pidx := x.pidx + 1, hidx := 0, beta := betaOf x.path (x.pidx + 1).toNat } else { x with hidx := x.hidx + 1 }
theorem advance_sz (x : Pkt) : (advance x).path = x.path ∧ (advance x).pay = x.pay := by
  unfold advance
  split
  · exact ⟨rfl, rfl⟩
  · split
    · exact ⟨rfl, rfl⟩
    · split
      · exact ⟨rfl, rfl⟩
      · split <;> exact ⟨rfl, rfl⟩
theorem stands {x : Pkt} (h : ¬ currentAS x < 0) : ∃ (k : Nat) (y : Part) (j : Nat), x.pidx = (k : Int) ∧ k < x.path.length ∧ x.path[k]? = some y ∧ curPart x = some y ∧ x.hidx = (j : Int) ∧ j < y.hops.length := by
  have hno : curHop x ≠ none := fun hc => h (by unfold currentAS; rw [hc]; decide)
  rcases cur_cases x with ⟨_, h2⟩ | ⟨k, y, h1, h2, h3, h4, h5⟩
  · exact absurd h2.out hno
  · rcases h5 with ⟨_, h6⟩ | ⟨j, z, h6, h7, _⟩
    · exact absurd h6.out hno
    · refine ⟨k, y, j, h1, h2, h3.out, ?_, h6, h7⟩
      unfold curPart
      rw [if_pos (by omega), h1, Int.toNat_natCast]
      exact h3.out
theorem atLast_no {x : Pkt} {y : Part} (h : ¬ currentAS x < 0) (hy : curPart x = some y) (ha : ¬ atLastHop x = true) (hh : x.hidx = (y.hops.length : Int) - 1) : x.pidx ≠ (x.path.length : Int) - 1 := by
  intro hp
  apply ha
  unfold atLastHop
  rw [hy]
  simp only
  rw [decide_eq_true (by omega), hh, hp]
  simp
theorem impl_AdvanceHop (x : Pkt) (v : Value) (w : World) (hp : VA pktT w v x) (hz : sz_pkt x ≤ 1048576) (hl : lenOk_pkt x) (hg : rng_pkt x) : Calls Try.prog 30 #[v] w fun e w' => ∃ cs fp, e = .returned (.agg cs.toArray) ∧ pktT.O w.heap.size w' cs (advance x) fp ∧ Below w.heap.size w w' := by
  have hz1 : List.length x.path ≤ 1048576 := by have : sz_path x.path = List.length x.path + (x.path.map sz_part).sum := rfl; unfold sz_pkt at hz; omega
  have hz2 : sz_path x.path ≤ 1048576 := by unfold sz_pkt at hz; omega
  have X0 := Below.refl w.heap.size w
  refine enter Try.func30 rfl Try.ntmps30 rfl ?_
  refine w_seq ?_
  refine w_region ?_
  refine t_boxr (by assumption) rfl ?_ rfl rfl
  intro p1 w81 x82 hp1
  replace hp := hp.below x82
  have X0 := ext_trans X0 x82
  have S := Sep.nil w81
  have B := Below.refl w81.heap.size w81
  have Hb := Nat.le_refl w81.heap.size
  refine t_alloc S z_pkt rfl ?_ rfl rfl
  intro g2 w83 x84 S
  have B := bx Hb B x84
  refine t_done ?_
  refine x_seq ?_
  refine w_seq ?_
  refine w_region ?_
  refine t_lda (by assumption) ab_pkt sb_pkt B rfl ?_ rfl
  intro v4 hv4
  obtain ⟨v4_3, v4_9, rfl, hv4_3, hv4_9⟩ := pkt_va hv4
  refine t_call Try.call88 rfl (impl_copyPacket _ _ _ (by first | assumption | exact VA.below (by assumption) B | exact pkt_mkv (by first | assumption | exact SlR.below (by assumption) B) (by first | assumption | exact SlR.below (by assumption) B)) (by omega)) ?_ rfl rfl
  rintro e w85 ⟨cs5, fp5, rfl, hO5, x86⟩
  refine ⟨_, rfl, x86, ?_⟩
  have S := S.add (o := tyO pktT _ _) x86 hO5
  have B := bx Hb B x86
  obtain ⟨u5_3, u5_9, heq, S2⟩ := S.pktOpen
  subst heq
  have S := S2
  clear S2
  refine t_alloc S z_pkt rfl ?_ rfl rfl
  intro g3 w87 x88 S
  have B := bx Hb B x88
  refine t_stn S sb_pkt rfl rfl rfl rfl (by intro zz hu; have hu : zz ∈ ([I x.kind, I x.src, I x.dst, u5_3, I x.pidx, I x.hidx, I x.beta, I x.rid, I x.seq, u5_9] : List Value) := hu; simp only [List.mem_cons, List.not_mem_nil, or_false] at hu; rcases hu with rfl | rfl | rfl | rfl | rfl | rfl | rfl | rfl | rfl | rfl <;> first | rfl | exact (SlR.cells (by first | assumption | exact S.tail.sl | exact S.tail.tail.sl | exact S.tail.tail.tail.sl | exact S.tail.tail.tail.tail.sl | exact S.tail.tail.tail.tail.tail.sl | exact S.tail.tail.tail.tail.tail.tail.sl | exact S.tail.tail.tail.tail.tail.tail.tail.sl | exact S.tail.tail.tail.tail.tail.tail.tail.tail.sl)).2) ?_
  intro w89 b90 S
  have B := B.trans b90
  refine t_done ?_
  refine x_seq ?_
  refine w_seq ?_
  refine w_block ?_
  refine w_seq ?_
  refine w_region ?_
  refine t_lda (by assumption) ab_pkt sb_pkt B rfl ?_ rfl
  intro v11 hv11
  obtain ⟨v11_3, v11_9, rfl, hv11_3, hv11_9⟩ := pkt_va hv11
  refine t_callx Try.call89 rfl (va1 (by first | assumption | exact VA.below (by assumption) B | exact pkt_mkv (by first | assumption | exact SlR.below (by assumption) B) (by first | assumption | exact SlR.below (by assumption) B)) fun cs h => impl_CurrentAS _ cs _ h (by omega) (by assumption) (by assumption)) ?_ rfl rfl
  intro w91 x92
  have B := bx Hb B x92
  have S := S.below x92
  refine t_lss rfl rfl ?_ rfl
  refine t_move rfl ?_ rfl
  refine t_partp (t := 14) rfl ?_ ?_
  · intro h1
    refine t_off rfl rfl rfl ?_ rfl
    refine t_off rfl rfl rfl ?_ rfl
    refine t_pickt rfl rfl ?_ rfl
    refine t_assign rfl ?_ rfl
    refine t_done ?_
    refine x_seq ?_
    refine w_yes rfl ?_
    refine w_skip ?_
    refine x_block_normal ?_
    refine x_seq ?_
    refine w_seq ?_
    refine w_region ?_
    refine t_bxn S.box ab_pkt sb_pkt rfl rfl ?_ rfl
    have S := S.f3
    refine t_stn S sb_pkt rfl rfl rfl rfl (by intro zz hu; have hu : zz ∈ ([I x.kind, I x.src, I x.dst, u5_3, I x.pidx, I x.hidx, I x.beta, I x.rid, I x.seq, u5_9] : List Value) := hu; simp only [List.mem_cons, List.not_mem_nil, or_false] at hu; rcases hu with rfl | rfl | rfl | rfl | rfl | rfl | rfl | rfl | rfl | rfl <;> first | rfl | exact (SlR.cells (by first | assumption | exact S.tail.sl | exact S.tail.tail.sl | exact S.tail.tail.tail.sl | exact S.tail.tail.tail.tail.sl | exact S.tail.tail.tail.tail.tail.sl | exact S.tail.tail.tail.tail.tail.tail.sl | exact S.tail.tail.tail.tail.tail.tail.tail.sl | exact S.tail.tail.tail.tail.tail.tail.tail.tail.sl)).2) ?_
    intro w93 b94 S
    have B := B.trans b94
    refine t_done ?_
    refine x_seq ?_
    refine w_ret ?_
    refine x_retc rfl rfl S.box ab_pkt sb_pkt rfl ?_
    have S := S.f3
    have S := S.f3
    have S := S.pktShut (x := x)
    obtain ⟨fp, hO⟩ := (S.mono X0.size).head
    exact ⟨_, fp, rfl, by rw [advance, if_pos h1]; exact hO, ext_trans X0 B⟩
  intro h1
  refine t_on rfl rfl ?_
  refine t_lda (by assumption) ab_pkt sb_pkt B rfl ?_ rfl
  intro v15 hv15
  obtain ⟨v15_3, v15_9, rfl, hv15_3, hv15_9⟩ := pkt_va hv15
  refine t_on rfl rfl ?_
  refine t_callx Try.call90 rfl (va1 (by first | assumption | exact VA.below (by assumption) B | exact pkt_mkv (by first | assumption | exact SlR.below (by assumption) B) (by first | assumption | exact SlR.below (by assumption) B)) fun cs h => impl_AtLastHop _ cs _ h (by omega) (by assumption) (by assumption)) ?_ rfl rfl
  intro w95 x96
  have B := bx Hb B x96
  have S := S.below x96
  refine t_pickf rfl rfl ?_ rfl
  refine t_assign rfl ?_ rfl
  refine t_done ?_
  refine x_seq ?_
  refine w_ifb rfl ?_ ?_
  · intro h2
    refine w_skip ?_
    refine x_block_normal ?_
    refine x_seq ?_
    refine w_seq ?_
    refine w_region ?_
    refine t_bxn S.box ab_pkt sb_pkt rfl rfl ?_ rfl
    have S := S.f3
    refine t_stn S sb_pkt rfl rfl rfl rfl (by intro zz hu; have hu : zz ∈ ([I x.kind, I x.src, I x.dst, u5_3, I x.pidx, I x.hidx, I x.beta, I x.rid, I x.seq, u5_9] : List Value) := hu; simp only [List.mem_cons, List.not_mem_nil, or_false] at hu; rcases hu with rfl | rfl | rfl | rfl | rfl | rfl | rfl | rfl | rfl | rfl <;> first | rfl | exact (SlR.cells (by first | assumption | exact S.tail.sl | exact S.tail.tail.sl | exact S.tail.tail.tail.sl | exact S.tail.tail.tail.tail.sl | exact S.tail.tail.tail.tail.tail.sl | exact S.tail.tail.tail.tail.tail.tail.sl | exact S.tail.tail.tail.tail.tail.tail.tail.sl | exact S.tail.tail.tail.tail.tail.tail.tail.tail.sl)).2) ?_
    intro w97 b98 S
    have B := B.trans b98
    refine t_done ?_
    refine x_seq ?_
    refine w_ret ?_
    refine x_retc rfl rfl S.box ab_pkt sb_pkt rfl ?_
    have S := S.f3
    have S := S.f3
    have S := S.pktShut (x := x)
    obtain ⟨fp, hO⟩ := (S.mono X0.size).head
    exact ⟨_, fp, rfl, by rw [advance, if_neg h1, if_pos h2]; exact hO, ext_trans X0 B⟩
  intro h2
  have h2' : ¬ atLastHop x = true := by rw [h2]; decide
  obtain ⟨k, y, j, hk, hkl, hy, hcp, hj, hjl⟩ := stands h1
  have hyl := psz hy
  refine w_seq ?_
  refine w_region ?_
  refine t_lda (by assumption) ab_pkt sb_pkt B rfl ?_ rfl
  intro v19 hv19
  obtain ⟨v19_3, v19_9, rfl, hv19_3, hv19_9⟩ := pkt_va hv19
  refine t_callx Try.call91 rfl (va1 (by first | assumption | exact VA.below (by assumption) B | exact pkt_mkv (by first | assumption | exact SlR.below (by assumption) B) (by first | assumption | exact SlR.below (by assumption) B)) fun cs h => impl_lastOfPart _ cs _ h (by omega) k y hk hy) ?_ rfl rfl
  intro w99 x100
  have B := bx Hb B x100
  have S := S.below x100
  refine t_assign rfl ?_ rfl
  refine t_done ?_
  refine x_seq ?_
  refine w_ifb rfl ?_ ?_
  · intro h3
    have h3' : x.hidx = (y.hops.length : Int) - 1 := by simpa using h3
    have hne := atLast_no h1 hcp h2' h3'
    have hkl2 : k + 1 < List.length x.path := by
      have e : List.length x.path = x.path.length := rfl
      omega
    obtain ⟨y2, hy2⟩ : ∃ e, x.path[k + 1]? = some e := getx hkl2
    have ha : advance x = { x with pidx := x.pidx + 1, hidx := 0, beta := y2.beta } := by
      rw [advance, if_neg h1, if_neg h2', hcp]
      simp only
      rw [if_pos h3', show (x.pidx + 1).toNat = k + 1 by omega, betaOf_eq hy2]
    refine w_seq ?_
    refine w_region ?_
    refine t_fldx fb_pkt_4 rfl rfl ?_ rfl
    refine t_bx1 S.box ab_int rfl rfl ?_ rfl
    refine t_add rfl rfl (by omega) ?_ rfl
    refine t_fldx fb_pkt_4 rfl rfl ?_ rfl
    refine t_st1 S sb_int rfl rfl rfl rfl rfl ?_
    intro w101 b102 S
    have B := B.trans b102
    refine t_done ?_
    refine x_seq ?_
    refine w_seq ?_
    refine w_region ?_
    refine t_fldx fb_pkt_5 rfl rfl ?_ rfl
    refine t_st1 S sb_int rfl rfl rfl rfl rfl ?_
    intro w103 b104 S
    have B := B.trans b104
    refine t_done ?_
    refine x_seq ?_
    refine w_region ?_
    refine t_fld ln_pkt_3 (by assumption) fb_pkt_3 rfl ?_ rfl
    intro p26 hp26
    refine t_fld ln_path_0 (by assumption) fb_path_0 rfl ?_ rfl
    intro p27 hp27
    refine t_lds (by assumption) ab_s_part B rfl ?_ rfl
    intro v28 hv28
    refine t_fldx fb_pkt_4 rfl rfl ?_ rfl
    refine t_bx1 S.box ab_int rfl rfl ?_ rfl
    refine t_idx e_part (k := (k + 1)) (by assumption) hy2 B rfl rfl (by first | rfl | omega) ?_ rfl
    intro p31 hp31
    refine t_fld ln_part_2 (by assumption) fb_part_2 rfl ?_ rfl
    intro p32 hp32
    refine t_ldi (by assumption) ab_int B rfl ?_ rfl
    refine t_fldx fb_pkt_6 rfl rfl ?_ rfl
    refine t_st1 S sb_int rfl rfl rfl rfl rfl ?_
    intro w105 b106 S
    have B := B.trans b106
    refine t_done ?_
    refine x_block_normal ?_
    refine x_seq ?_
    refine w_seq ?_
    refine w_region ?_
    refine t_bxn S.box ab_pkt sb_pkt rfl rfl ?_ rfl
    have S := S.f3
    refine t_stn S sb_pkt rfl rfl rfl rfl (by intro zz hu; have hu : zz ∈ ([I x.kind, I x.src, I x.dst, u5_3, I (x.pidx + 1), I 0, I y2.beta, I x.rid, I x.seq, u5_9] : List Value) := hu; simp only [List.mem_cons, List.not_mem_nil, or_false] at hu; rcases hu with rfl | rfl | rfl | rfl | rfl | rfl | rfl | rfl | rfl | rfl <;> first | rfl | exact (SlR.cells (by first | assumption | exact S.tail.sl | exact S.tail.tail.sl | exact S.tail.tail.tail.sl | exact S.tail.tail.tail.tail.sl | exact S.tail.tail.tail.tail.tail.sl | exact S.tail.tail.tail.tail.tail.tail.sl | exact S.tail.tail.tail.tail.tail.tail.tail.sl | exact S.tail.tail.tail.tail.tail.tail.tail.tail.sl)).2) ?_
    intro w107 b108 S
    have B := B.trans b108
    refine t_done ?_
    refine x_seq ?_
    refine w_ret ?_
    refine x_retc rfl rfl S.box ab_pkt sb_pkt rfl ?_
    have S := S.f3
    have S := S.f3
    have S := S.pktShut (x := ({ x with pidx := x.pidx + 1, hidx := 0, beta := y2.beta } : Pkt))
    obtain ⟨fp, hO⟩ := (S.mono X0.size).head
    rw [ha]
    exact ⟨_, fp, rfl, hO, ext_trans X0 B⟩
  · intro h3
    have h3' : ¬ x.hidx = (y.hops.length : Int) - 1 := by simpa using h3
    have ha : advance x = { x with hidx := x.hidx + 1 } := by
      rw [advance, if_neg h1, if_neg h2', hcp]
      simp only
      rw [if_neg h3']
    refine w_region ?_
    refine t_fldx fb_pkt_5 rfl rfl ?_ rfl
    refine t_bx1 S.box ab_int rfl rfl ?_ rfl
    refine t_add rfl rfl (by omega) ?_ rfl
    refine t_fldx fb_pkt_5 rfl rfl ?_ rfl
    refine t_st1 S sb_int rfl rfl rfl rfl rfl ?_
    intro w109 b110 S
    have B := B.trans b110
    refine t_done ?_
    refine x_block_normal ?_
    refine x_seq ?_
    refine w_seq ?_
    refine w_region ?_
    refine t_bxn S.box ab_pkt sb_pkt rfl rfl ?_ rfl
    have S := S.f3
    refine t_stn S sb_pkt rfl rfl rfl rfl (by intro zz hu; have hu : zz ∈ ([I x.kind, I x.src, I x.dst, u5_3, I x.pidx, I (x.hidx + 1), I x.beta, I x.rid, I x.seq, u5_9] : List Value) := hu; simp only [List.mem_cons, List.not_mem_nil, or_false] at hu; rcases hu with rfl | rfl | rfl | rfl | rfl | rfl | rfl | rfl | rfl | rfl <;> first | rfl | exact (SlR.cells (by first | assumption | exact S.tail.sl | exact S.tail.tail.sl | exact S.tail.tail.tail.sl | exact S.tail.tail.tail.tail.sl | exact S.tail.tail.tail.tail.tail.sl | exact S.tail.tail.tail.tail.tail.tail.sl | exact S.tail.tail.tail.tail.tail.tail.tail.sl | exact S.tail.tail.tail.tail.tail.tail.tail.tail.sl)).2) ?_
    intro w111 b112 S
    have B := B.trans b112
    refine t_done ?_
    refine x_seq ?_
    refine w_ret ?_
    refine x_retc rfl rfl S.box ab_pkt sb_pkt rfl ?_
    have S := S.f3
    have S := S.f3
    have S := S.pktShut (x := ({ x with hidx := x.hidx + 1 } : Pkt))
    obtain ⟨fp, hO⟩ := (S.mono X0.size).head
    rw [ha]
    exact ⟨_, fp, rfl, hO, ext_trans X0 B⟩
theorem spec_AdvanceHop (x : Pkt) (v : Value) (w : World) (hp : VA pktT w v x) (hz : sz_pkt x ≤ 1048576) (hl : lenOk_pkt x) (hg : rng_pkt x) : Calls Try.prog 28 #[v] w fun e w' => ∃ cs fp, e = .returned (.agg cs.toArray) ∧ pktT.O w.heap.size w' cs (advance x) fp ∧ Below w.heap.size w w' := by
  have hz1 : List.length x.path ≤ 1048576 := by have : sz_path x.path = List.length x.path + (x.path.map sz_part).sum := rfl; unfold sz_pkt at hz; omega
  have hz2 : sz_path x.path ≤ 1048576 := by unfold sz_pkt at hz; omega
  have X0 := Below.refl w.heap.size w
  refine enter Try.func28 rfl Try.ntmps28 rfl ?_
  refine w_seq ?_
  refine w_region ?_
  refine t_boxr (by assumption) rfl ?_ rfl rfl
  intro p1 w113 x114 hp1
  replace hp := hp.below x114
  have X0 := ext_trans X0 x114
  have S := Sep.nil w113
  have B := Below.refl w113.heap.size w113
  have Hb := Nat.le_refl w113.heap.size
  refine t_alloc S z_pkt rfl ?_ rfl rfl
  intro g2 w115 x116 S
  have B := bx Hb B x116
  refine t_done ?_
  refine x_seq ?_
  refine w_seq ?_
  refine w_region ?_
  refine t_lda (by assumption) ab_pkt sb_pkt B rfl ?_ rfl
  intro v4 hv4
  obtain ⟨v4_3, v4_9, rfl, hv4_3, hv4_9⟩ := pkt_va hv4
  refine t_call Try.call85 rfl (spec_l26Copy _ _ _ (by first | assumption | exact VA.below (by assumption) B | exact pkt_mkv (by first | assumption | exact SlR.below (by assumption) B) (by first | assumption | exact SlR.below (by assumption) B)) (by omega)) ?_ rfl rfl
  rintro e w117 ⟨cs5, fp5, rfl, hO5, x118⟩
  refine ⟨_, rfl, x118, ?_⟩
  have S := S.add (o := tyO pktT _ _) x118 hO5
  have B := bx Hb B x118
  obtain ⟨u5_3, u5_9, heq, S2⟩ := S.pktOpen
  subst heq
  have S := S2
  clear S2
  refine t_alloc S z_pkt rfl ?_ rfl rfl
  intro g3 w119 x120 S
  have B := bx Hb B x120
  refine t_stn S sb_pkt rfl rfl rfl rfl (by intro zz hu; have hu : zz ∈ ([I x.kind, I x.src, I x.dst, u5_3, I x.pidx, I x.hidx, I x.beta, I x.rid, I x.seq, u5_9] : List Value) := hu; simp only [List.mem_cons, List.not_mem_nil, or_false] at hu; rcases hu with rfl | rfl | rfl | rfl | rfl | rfl | rfl | rfl | rfl | rfl <;> first | rfl | exact (SlR.cells (by first | assumption | exact S.tail.sl | exact S.tail.tail.sl | exact S.tail.tail.tail.sl | exact S.tail.tail.tail.tail.sl | exact S.tail.tail.tail.tail.tail.sl | exact S.tail.tail.tail.tail.tail.tail.sl | exact S.tail.tail.tail.tail.tail.tail.tail.sl | exact S.tail.tail.tail.tail.tail.tail.tail.tail.sl)).2) ?_
  intro w121 b122 S
  have B := B.trans b122
  refine t_done ?_
  refine x_seq ?_
  refine w_seq ?_
  refine w_seq ?_
  refine w_region ?_
  refine t_lda (by assumption) ab_pkt sb_pkt B rfl ?_ rfl
  intro v6 hv6
  obtain ⟨v6_3, v6_9, rfl, hv6_3, hv6_9⟩ := pkt_va hv6
  refine t_callx Try.call86 rfl (va1 (by first | assumption | exact VA.below (by assumption) B | exact pkt_mkv (by first | assumption | exact SlR.below (by assumption) B) (by first | assumption | exact SlR.below (by assumption) B)) fun cs h => spec_CurrentAS _ cs _ h (by omega) (by assumption) (by assumption)) ?_ rfl rfl
  intro w123 x124
  have B := bx Hb B x124
  have S := S.below x124
  refine t_lss rfl rfl ?_ rfl
  refine t_move rfl ?_ rfl
  refine t_partp (t := 9) rfl ?_ ?_
  · intro h1
    refine t_off rfl rfl rfl ?_ rfl
    refine t_off rfl rfl rfl ?_ rfl
    refine t_pickt rfl rfl ?_ rfl
    refine t_done ?_
    refine x_seq ?_
    refine w_yes rfl ?_
    refine w_seq ?_
    refine w_region ?_
    refine t_bxn S.box ab_pkt sb_pkt rfl rfl ?_ rfl
    have S := S.f3
    refine t_stn S sb_pkt rfl rfl rfl rfl (by intro zz hu; have hu : zz ∈ ([I x.kind, I x.src, I x.dst, u5_3, I x.pidx, I x.hidx, I x.beta, I x.rid, I x.seq, u5_9] : List Value) := hu; simp only [List.mem_cons, List.not_mem_nil, or_false] at hu; rcases hu with rfl | rfl | rfl | rfl | rfl | rfl | rfl | rfl | rfl | rfl <;> first | rfl | exact (SlR.cells (by first | assumption | exact S.tail.sl | exact S.tail.tail.sl | exact S.tail.tail.tail.sl | exact S.tail.tail.tail.tail.sl | exact S.tail.tail.tail.tail.tail.sl | exact S.tail.tail.tail.tail.tail.tail.sl | exact S.tail.tail.tail.tail.tail.tail.tail.sl | exact S.tail.tail.tail.tail.tail.tail.tail.tail.sl)).2) ?_
    intro w125 b126 S
    have B := B.trans b126
    refine t_done ?_
    refine x_seq ?_
    refine w_ret ?_
    refine x_then_ret ?_
    refine x_retc rfl rfl S.box ab_pkt sb_pkt rfl ?_
    have S := S.f3
    have S := S.f3
    have S := S.pktShut (x := x)
    obtain ⟨fp, hO⟩ := (S.mono X0.size).head
    exact ⟨_, fp, rfl, by rw [advance, if_pos h1]; exact hO, ext_trans X0 B⟩
  intro h1
  refine t_on rfl rfl ?_
  refine t_lda (by assumption) ab_pkt sb_pkt B rfl ?_ rfl
  intro v10 hv10
  obtain ⟨v10_3, v10_9, rfl, hv10_3, hv10_9⟩ := pkt_va hv10
  refine t_on rfl rfl ?_
  refine t_callx Try.call87 rfl (va1 (by first | assumption | exact VA.below (by assumption) B | exact pkt_mkv (by first | assumption | exact SlR.below (by assumption) B) (by first | assumption | exact SlR.below (by assumption) B)) fun cs h => spec_AtLastHop _ cs _ h (by omega) (by assumption) (by assumption)) ?_ rfl rfl
  intro w127 x128
  have B := bx Hb B x128
  have S := S.below x128
  refine t_pickf rfl rfl ?_ rfl
  refine t_done ?_
  refine x_seq ?_
  refine w_ifb rfl ?_ ?_
  · intro h2
    refine w_seq ?_
    refine w_region ?_
    refine t_bxn S.box ab_pkt sb_pkt rfl rfl ?_ rfl
    have S := S.f3
    refine t_stn S sb_pkt rfl rfl rfl rfl (by intro zz hu; have hu : zz ∈ ([I x.kind, I x.src, I x.dst, u5_3, I x.pidx, I x.hidx, I x.beta, I x.rid, I x.seq, u5_9] : List Value) := hu; simp only [List.mem_cons, List.not_mem_nil, or_false] at hu; rcases hu with rfl | rfl | rfl | rfl | rfl | rfl | rfl | rfl | rfl | rfl <;> first | rfl | exact (SlR.cells (by first | assumption | exact S.tail.sl | exact S.tail.tail.sl | exact S.tail.tail.tail.sl | exact S.tail.tail.tail.tail.sl | exact S.tail.tail.tail.tail.tail.sl | exact S.tail.tail.tail.tail.tail.tail.sl | exact S.tail.tail.tail.tail.tail.tail.tail.sl | exact S.tail.tail.tail.tail.tail.tail.tail.tail.sl)).2) ?_
    intro w129 b130 S
    have B := B.trans b130
    refine t_done ?_
    refine x_seq ?_
    refine w_ret ?_
    refine x_then_ret ?_
    refine x_retc rfl rfl S.box ab_pkt sb_pkt rfl ?_
    have S := S.f3
    have S := S.f3
    have S := S.pktShut (x := x)
    obtain ⟨fp, hO⟩ := (S.mono X0.size).head
    exact ⟨_, fp, rfl, by rw [advance, if_neg h1, if_pos h2]; exact hO, ext_trans X0 B⟩
  intro h2
  have h2' : ¬ atLastHop x = true := by rw [h2]; decide
  obtain ⟨k, y, j, hk, hkl, hy, hcp, hj, hjl⟩ := stands h1
  have hyl := psz hy
  refine w_skip ?_
  refine x_seq ?_
  refine w_seq ?_
  refine w_seq ?_
  refine w_draw (.st .take 0 (.st .take 1 (.st .take 2 (.st .take 3 (.st .take 4 (.st .take 5 (.st .take 6 (.st .take 7 (.st .take 8 (.st .take 9 (.st .take 10 (.st .take 11 (.st .take 12 .done))))))))))))) mixed (by kernel_rfl) ?_
  intro w131 x132
  have B := bx Hb B x132
  have S := S.below x132
  refine t_fld ln_pkt_5 (by assumption) fb_pkt_5 rfl ?_ rfl
  intro p14 hp14
  refine t_ldi (by assumption) ab_int B rfl ?_ rfl
  refine t_fld ln_pkt_3 (by assumption) fb_pkt_3 rfl ?_ rfl
  intro p16 hp16
  refine t_fld ln_path_0 (by assumption) fb_path_0 rfl ?_ rfl
  intro p17 hp17
  refine t_lds (by assumption) ab_s_part B rfl ?_ rfl
  intro v18 hv18
  refine t_fld ln_pkt_4 (by assumption) fb_pkt_4 rfl ?_ rfl
  intro p19 hp19
  refine t_ldi (by assumption) ab_int B rfl ?_ rfl
  refine t_idx e_part (k := k) (by assumption) hy B rfl rfl (by first | rfl | omega) ?_ rfl
  intro p21 hp21
  refine t_fld ln_part_3 (by assumption) fb_part_3 rfl ?_ rfl
  intro p22 hp22
  refine t_lds (by assumption) ab_s_hop B rfl ?_ rfl
  intro v23 hv23
  refine t_len e_hop (by assumption) rfl rfl ?_ rfl
  refine t_sub rfl rfl (by omega) ?_ rfl
  refine t_lss rfl rfl ?_ rfl
  refine t_done' ?_
  refine x_seq ?_
  refine w_if rfl ?_ ?_
  · intro h3
    have h3' : ¬ x.hidx = (y.hops.length : Int) - 1 := by omega
    have ha : advance x = { x with hidx := x.hidx + 1 } := by
      rw [advance, if_neg h1, if_neg h2', hcp]
      simp only
      rw [if_neg h3']
    refine w_seq ?_
    refine w_region ?_
    refine t_fld ln_pkt_5 (by assumption) fb_pkt_5 rfl ?_ rfl
    intro p27 hp27
    refine t_ldi (by assumption) ab_int B rfl ?_ rfl
    refine t_add rfl rfl (by omega) ?_ rfl
    refine t_fldx fb_pkt_5 rfl rfl ?_ rfl
    refine t_st1 S sb_int rfl rfl rfl rfl rfl ?_
    intro w133 b134 S
    have B := B.trans b134
    refine t_done ?_
    refine x_seq ?_
    refine w_seq ?_
    refine w_region ?_
    refine t_bxn S.box ab_pkt sb_pkt rfl rfl ?_ rfl
    have S := S.f3
    refine t_stn S sb_pkt rfl rfl rfl rfl (by intro zz hu; have hu : zz ∈ ([I x.kind, I x.src, I x.dst, u5_3, I x.pidx, I (x.hidx + 1), I x.beta, I x.rid, I x.seq, u5_9] : List Value) := hu; simp only [List.mem_cons, List.not_mem_nil, or_false] at hu; rcases hu with rfl | rfl | rfl | rfl | rfl | rfl | rfl | rfl | rfl | rfl <;> first | rfl | exact (SlR.cells (by first | assumption | exact S.tail.sl | exact S.tail.tail.sl | exact S.tail.tail.tail.sl | exact S.tail.tail.tail.tail.sl | exact S.tail.tail.tail.tail.tail.sl | exact S.tail.tail.tail.tail.tail.tail.sl | exact S.tail.tail.tail.tail.tail.tail.tail.sl | exact S.tail.tail.tail.tail.tail.tail.tail.tail.sl)).2) ?_
    intro w135 b136 S
    have B := B.trans b136
    refine t_done ?_
    refine x_seq ?_
    refine w_ret ?_
    refine x_then_ret ?_
    refine x_retc rfl rfl S.box ab_pkt sb_pkt rfl ?_
    have S := S.f3
    have S := S.f3
    have S := S.pktShut (x := ({ x with hidx := x.hidx + 1 } : Pkt))
    obtain ⟨fp, hO⟩ := (S.mono X0.size).head
    rw [ha]
    exact ⟨_, fp, rfl, hO, ext_trans X0 B⟩
  · intro h3
    have h3' : x.hidx = (y.hops.length : Int) - 1 := by omega
    have hne := atLast_no h1 hcp h2' h3'
    have hkl2 : k + 1 < List.length x.path := by
      have e : List.length x.path = x.path.length := rfl
      omega
    obtain ⟨y2, hy2⟩ : ∃ e, x.path[k + 1]? = some e := getx hkl2
    have ha : advance x = { x with pidx := x.pidx + 1, hidx := 0, beta := y2.beta } := by
      rw [advance, if_neg h1, if_neg h2', hcp]
      simp only
      rw [if_pos h3', show (x.pidx + 1).toNat = k + 1 by omega, betaOf_eq hy2]
    refine w_skip ?_
    refine x_seq ?_
    refine w_seq ?_
    refine w_region ?_
    refine t_fld ln_pkt_4 (by assumption) fb_pkt_4 rfl ?_ rfl
    intro p32 hp32
    refine t_ldi (by assumption) ab_int B rfl ?_ rfl
    refine t_add rfl rfl (by omega) ?_ rfl
    refine t_fldx fb_pkt_4 rfl rfl ?_ rfl
    refine t_st1 S sb_int rfl rfl rfl rfl rfl ?_
    intro w137 b138 S
    have B := B.trans b138
    refine t_done ?_
    refine x_seq ?_
    refine w_seq ?_
    refine w_region ?_
    refine t_fldx fb_pkt_5 rfl rfl ?_ rfl
    refine t_st1 S sb_int rfl rfl rfl rfl rfl ?_
    intro w139 b140 S
    have B := B.trans b140
    refine t_done ?_
    refine x_seq ?_
    refine w_seq ?_
    refine w_region ?_
    refine t_fld ln_pkt_3 (by assumption) fb_pkt_3 rfl ?_ rfl
    intro p37 hp37
    refine t_fld ln_path_0 (by assumption) fb_path_0 rfl ?_ rfl
    intro p38 hp38
    refine t_lds (by assumption) ab_s_part B rfl ?_ rfl
    intro v39 hv39
    refine t_fldx fb_pkt_4 rfl rfl ?_ rfl
    refine t_bx1 S.box ab_int rfl rfl ?_ rfl
    refine t_idx e_part (k := (k + 1)) (by assumption) hy2 B rfl rfl (by first | rfl | omega) ?_ rfl
    intro p42 hp42
    refine t_fld ln_part_2 (by assumption) fb_part_2 rfl ?_ rfl
    intro p43 hp43
    refine t_ldi (by assumption) ab_int B rfl ?_ rfl
    refine t_fldx fb_pkt_6 rfl rfl ?_ rfl
    refine t_st1 S sb_int rfl rfl rfl rfl rfl ?_
    intro w141 b142 S
    have B := B.trans b142
    refine t_done ?_
    refine x_seq ?_
    refine w_seq ?_
    refine w_region ?_
    refine t_bxn S.box ab_pkt sb_pkt rfl rfl ?_ rfl
    have S := S.f3
    refine t_stn S sb_pkt rfl rfl rfl rfl (by intro zz hu; have hu : zz ∈ ([I x.kind, I x.src, I x.dst, u5_3, I (x.pidx + 1), I 0, I y2.beta, I x.rid, I x.seq, u5_9] : List Value) := hu; simp only [List.mem_cons, List.not_mem_nil, or_false] at hu; rcases hu with rfl | rfl | rfl | rfl | rfl | rfl | rfl | rfl | rfl | rfl <;> first | rfl | exact (SlR.cells (by first | assumption | exact S.tail.sl | exact S.tail.tail.sl | exact S.tail.tail.tail.sl | exact S.tail.tail.tail.tail.sl | exact S.tail.tail.tail.tail.tail.sl | exact S.tail.tail.tail.tail.tail.tail.sl | exact S.tail.tail.tail.tail.tail.tail.tail.sl | exact S.tail.tail.tail.tail.tail.tail.tail.tail.sl)).2) ?_
    intro w143 b144 S
    have B := B.trans b144
    refine t_done ?_
    refine x_seq ?_
    refine w_ret ?_
    refine x_retc rfl rfl S.box ab_pkt sb_pkt rfl ?_
    have S := S.f3
    have S := S.f3
    have S := S.pktShut (x := ({ x with pidx := x.pidx + 1, hidx := 0, beta := y2.beta } : Pkt))
    obtain ⟨fp, hO⟩ := (S.mono X0.size).head
    rw [ha]
    exact ⟨_, fp, rfl, hO, ext_trans X0 B⟩
end Go.Proofs.Ytfgobdejlfojiaa
