/- EqualVerdicts, of the program and of the reference. -/
import Derived.Test.YtaapaafagmbkoaaRun
import Derived.Test.YtaapaafagmbkoaaEqualPacketsB
namespace Go.Proofs.Ytaapaafagmbkoaa
open Go.RowKit
set_option linter.unusedVariables false
set_option maxRecDepth 20000

theorem vrd_eq_iff (a b : Vrd) : a = b ↔ a.code = b.code ∧ a.egress = b.egress ∧ a.pkt = b.pkt := by
  constructor
  · rintro rfl; exact ⟨rfl, rfl, rfl⟩
  · rintro ⟨h1, h2, h3⟩; cases a; cases b; simp_all
theorem impl_EqualVerdicts (a b : Vrd) (v u : Value) (w : World) (h : VA vrdT w v a) (k : VA vrdT w u b) (hz : sz_vrd a ≤ 1048576) (hl : lenOk_vrd a) (hg : rng_vrd a) (hz' : sz_vrd b ≤ 1048576) (hl' : lenOk_vrd b) (hg' : rng_vrd b) : Calls Try.prog 40 #[v, u] w fun e w' => e = .returned (.bool (decide (a = b))) ∧ Below w.heap.size w w' := by
  have z1 : sz_pkt a.pkt ≤ 1048576 := by unfold sz_vrd at hz; omega
  have z2 : sz_pkt b.pkt ≤ 1048576 := by unfold sz_vrd at hz'; omega
  have y1 : lenOk_pkt a.pkt := hl
  have y2 : lenOk_pkt b.pkt := hl'
  have q1 : rng_pkt a.pkt := hg.2.2
  have q2 : rng_pkt b.pkt := hg'.2.2
  have hd := vrd_eq_iff a b
  have X0 := Below.refl w.heap.size w
  refine enter Try.func40 rfl Try.ntmps40 rfl ?_
  refine w_seq ?_
  refine w_region ?_
  refine t_boxr (by assumption) rfl ?_ rfl rfl
  intro p2 w1 x2 hp2
  replace h := h.below x2
  replace k := k.below x2
  have X0 := ext_trans X0 x2
  refine t_boxr (by assumption) rfl ?_ rfl rfl
  intro p3 w3 x4 hp3
  replace h := h.below x4
  replace k := k.below x4
  replace hp2 := hp2.below x4
  have X0 := ext_trans X0 x4
  have S := Sep.nil w3
  have B := Below.refl w3.heap.size w3
  have Hb := Nat.le_refl w3.heap.size
  refine t_assign rfl ?_ rfl
  refine t_done ?_
  refine x_seq ?_
  refine w_seq ?_
  refine w_region ?_
  refine t_fld ln_vrd_0 (by assumption) fb_vrd_0 rfl ?_ rfl
  intro p5 hp5
  refine t_ldi (by assumption) ab_int B rfl ?_ rfl
  refine t_fld ln_vrd_0 (by assumption) fb_vrd_0 rfl ?_ rfl
  intro p7 hp7
  refine t_ldi (by assumption) ab_int B rfl ?_ rfl
  refine t_eql rfl rfl ?_ rfl
  refine t_move rfl ?_ rfl
  refine t_partp (t := 10) rfl ?_ ?_
  · intro h1
    refine t_on rfl rfl ?_
    refine t_fld ln_vrd_1 (by assumption) fb_vrd_1 rfl ?_ rfl
    intro p11 hp11
    refine t_on rfl rfl ?_
    refine t_ldi (by assumption) ab_int B rfl ?_ rfl
    refine t_on rfl rfl ?_
    refine t_fld ln_vrd_1 (by assumption) fb_vrd_1 rfl ?_ rfl
    intro p13 hp13
    refine t_on rfl rfl ?_
    refine t_ldi (by assumption) ab_int B rfl ?_ rfl
    refine t_on rfl rfl ?_
    refine t_eql rfl rfl ?_ rfl
    refine t_pickt rfl rfl ?_ rfl
    refine t_move rfl ?_ rfl
    refine t_partp (t := 17) rfl ?_ ?_
    · intro h2
      refine t_on rfl rfl ?_
      refine t_fld ln_vrd_2 (by assumption) fb_vrd_2 rfl ?_ rfl
      intro p18 hp18
      refine t_on rfl rfl ?_
      refine t_lda (by assumption) ab_pkt sb_pkt B rfl ?_ rfl
      intro v19 hv19
      obtain ⟨v19_3, v19_9, rfl, hv19_3, hv19_9⟩ := pkt_va hv19
      refine t_on rfl rfl ?_
      refine t_fld ln_vrd_2 (by assumption) fb_vrd_2 rfl ?_ rfl
      intro p20 hp20
      refine t_on rfl rfl ?_
      refine t_lda (by assumption) ab_pkt sb_pkt B rfl ?_ rfl
      intro v21 hv21
      obtain ⟨v21_3, v21_9, rfl, hv21_3, hv21_9⟩ := pkt_va hv21
      refine t_on rfl rfl ?_
      refine t_callx Try.call87 rfl (va2 (by first | assumption | exact VA.below (by assumption) B) (by first | assumption | exact VA.below (by assumption) B) fun cs ds h h2 => impl_EqualPackets _ cs _ ds _ h (by omega) (by assumption) (by assumption) h2 (by omega) (by assumption) (by assumption)) ?_ rfl rfl
      intro w5 x6
      have B := bx Hb B x6
      have S := S.below x6
      refine t_pickt rfl rfl ?_ rfl
      refine t_assign rfl ?_ rfl
      refine t_done ?_
      refine x_seq ?_
      refine w_ret ?_
      refine x_ret1 rfl rfl ?_
      exact ⟨congrArg (fun x => Ending.returned (.bool x)) (decide_eq_decide.2 ⟨fun h => hd.2 ⟨h1, h2, h⟩, fun h => (hd.1 h).2.2⟩), ext_trans X0 B⟩
    · intro h2
      refine t_off rfl rfl rfl ?_ rfl
      refine t_off rfl rfl rfl ?_ rfl
      refine t_off rfl rfl rfl ?_ rfl
      refine t_off rfl rfl rfl ?_ rfl
      refine t_off rfl rfl rfl ?_ rfl
      refine t_pickf rfl rfl ?_ rfl
      refine t_assign rfl ?_ rfl
      refine t_done ?_
      refine x_seq ?_
      refine w_ret ?_
      refine x_ret1 rfl rfl ?_
      exact ⟨congrArg (fun x => Ending.returned (.bool x)) (decide_eq_false fun h => h2 (hd.1 h).2.1).symm, ext_trans X0 B⟩
  · intro h1
    refine t_off rfl rfl rfl ?_ rfl
    refine t_off rfl rfl rfl ?_ rfl
    refine t_off rfl rfl rfl ?_ rfl
    refine t_off rfl rfl rfl ?_ rfl
    refine t_off rfl rfl rfl ?_ rfl
    refine t_pickf rfl rfl ?_ rfl
    refine t_move rfl ?_ rfl
    refine t_off rfl rfl rfl ?_ rfl
    refine t_off rfl rfl rfl ?_ rfl
    refine t_off rfl rfl rfl ?_ rfl
    refine t_off rfl rfl rfl ?_ rfl
    refine t_off rfl rfl rfl ?_ rfl
    refine t_pickf rfl rfl ?_ rfl
    refine t_assign rfl ?_ rfl
    refine t_done ?_
    refine x_seq ?_
    refine w_ret ?_
    refine x_ret1 rfl rfl ?_
    exact ⟨congrArg (fun x => Ending.returned (.bool x)) (decide_eq_false fun h => h1 (hd.1 h).1).symm, ext_trans X0 B⟩
theorem spec_EqualVerdicts (a b : Vrd) (v u : Value) (w : World) (h : VA vrdT w v a) (k : VA vrdT w u b) (hz : sz_vrd a ≤ 1048576) (hl : lenOk_vrd a) (hg : rng_vrd a) (hz' : sz_vrd b ≤ 1048576) (hl' : lenOk_vrd b) (hg' : rng_vrd b) : Calls Try.prog 38 #[v, u] w fun e w' => e = .returned (.bool (decide (a = b))) ∧ Below w.heap.size w w' := by
  have z1 : sz_pkt a.pkt ≤ 1048576 := by unfold sz_vrd at hz; omega
  have z2 : sz_pkt b.pkt ≤ 1048576 := by unfold sz_vrd at hz'; omega
  have y1 : lenOk_pkt a.pkt := hl
  have y2 : lenOk_pkt b.pkt := hl'
  have q1 : rng_pkt a.pkt := hg.2.2
  have q2 : rng_pkt b.pkt := hg'.2.2
  have hd := vrd_eq_iff a b
  have X0 := Below.refl w.heap.size w
  refine enter Try.func38 rfl Try.ntmps38 rfl ?_
  refine w_seq ?_
  refine w_region ?_
  refine t_boxr (by assumption) rfl ?_ rfl rfl
  intro p2 w7 x8 hp2
  replace h := h.below x8
  replace k := k.below x8
  have X0 := ext_trans X0 x8
  refine t_boxr (by assumption) rfl ?_ rfl rfl
  intro p3 w9 x10 hp3
  replace h := h.below x10
  replace k := k.below x10
  replace hp2 := hp2.below x10
  have X0 := ext_trans X0 x10
  have S := Sep.nil w9
  have B := Below.refl w9.heap.size w9
  have Hb := Nat.le_refl w9.heap.size
  refine t_assign rfl ?_ rfl
  refine t_done ?_
  refine x_seq ?_
  refine w_seq ?_
  refine w_region ?_
  refine t_fld ln_vrd_0 (by assumption) fb_vrd_0 rfl ?_ rfl
  intro p5 hp5
  refine t_ldi (by assumption) ab_int B rfl ?_ rfl
  refine t_fld ln_vrd_0 (by assumption) fb_vrd_0 rfl ?_ rfl
  intro p7 hp7
  refine t_ldi (by assumption) ab_int B rfl ?_ rfl
  refine t_eql rfl rfl ?_ rfl
  refine t_move rfl ?_ rfl
  refine t_partp (t := 10) rfl ?_ ?_
  · intro h1
    refine t_on rfl rfl ?_
    refine t_fld ln_vrd_1 (by assumption) fb_vrd_1 rfl ?_ rfl
    intro p11 hp11
    refine t_on rfl rfl ?_
    refine t_ldi (by assumption) ab_int B rfl ?_ rfl
    refine t_on rfl rfl ?_
    refine t_fld ln_vrd_1 (by assumption) fb_vrd_1 rfl ?_ rfl
    intro p13 hp13
    refine t_on rfl rfl ?_
    refine t_ldi (by assumption) ab_int B rfl ?_ rfl
    refine t_on rfl rfl ?_
    refine t_eql rfl rfl ?_ rfl
    refine t_pickt rfl rfl ?_ rfl
    refine t_move rfl ?_ rfl
    refine t_partp (t := 17) rfl ?_ ?_
    · intro h2
      refine t_on rfl rfl ?_
      refine t_fld ln_vrd_2 (by assumption) fb_vrd_2 rfl ?_ rfl
      intro p18 hp18
      refine t_on rfl rfl ?_
      refine t_lda (by assumption) ab_pkt sb_pkt B rfl ?_ rfl
      intro v19 hv19
      obtain ⟨v19_3, v19_9, rfl, hv19_3, hv19_9⟩ := pkt_va hv19
      refine t_on rfl rfl ?_
      refine t_fld ln_vrd_2 (by assumption) fb_vrd_2 rfl ?_ rfl
      intro p20 hp20
      refine t_on rfl rfl ?_
      refine t_lda (by assumption) ab_pkt sb_pkt B rfl ?_ rfl
      intro v21 hv21
      obtain ⟨v21_3, v21_9, rfl, hv21_3, hv21_9⟩ := pkt_va hv21
      refine t_on rfl rfl ?_
      refine t_callx Try.call85 rfl (va2 (by first | assumption | exact VA.below (by assumption) B) (by first | assumption | exact VA.below (by assumption) B) fun cs ds h h2 => spec_EqualPackets _ cs _ ds _ h (by omega) (by assumption) (by assumption) h2 (by omega) (by assumption) (by assumption)) ?_ rfl rfl
      intro w11 x12
      have B := bx Hb B x12
      have S := S.below x12
      refine t_pickt rfl rfl ?_ rfl
      refine t_assign rfl ?_ rfl
      refine t_done ?_
      refine x_seq ?_
      refine w_ret ?_
      refine x_ret1 rfl rfl ?_
      exact ⟨congrArg (fun x => Ending.returned (.bool x)) (decide_eq_decide.2 ⟨fun h => hd.2 ⟨h1, h2, h⟩, fun h => (hd.1 h).2.2⟩), ext_trans X0 B⟩
    · intro h2
      refine t_off rfl rfl rfl ?_ rfl
      refine t_off rfl rfl rfl ?_ rfl
      refine t_off rfl rfl rfl ?_ rfl
      refine t_off rfl rfl rfl ?_ rfl
      refine t_off rfl rfl rfl ?_ rfl
      refine t_pickf rfl rfl ?_ rfl
      refine t_assign rfl ?_ rfl
      refine t_done ?_
      refine x_seq ?_
      refine w_ret ?_
      refine x_ret1 rfl rfl ?_
      exact ⟨congrArg (fun x => Ending.returned (.bool x)) (decide_eq_false fun h => h2 (hd.1 h).2.1).symm, ext_trans X0 B⟩
  · intro h1
    refine t_off rfl rfl rfl ?_ rfl
    refine t_off rfl rfl rfl ?_ rfl
    refine t_off rfl rfl rfl ?_ rfl
    refine t_off rfl rfl rfl ?_ rfl
    refine t_off rfl rfl rfl ?_ rfl
    refine t_pickf rfl rfl ?_ rfl
    refine t_move rfl ?_ rfl
    refine t_off rfl rfl rfl ?_ rfl
    refine t_off rfl rfl rfl ?_ rfl
    refine t_off rfl rfl rfl ?_ rfl
    refine t_off rfl rfl rfl ?_ rfl
    refine t_off rfl rfl rfl ?_ rfl
    refine t_pickf rfl rfl ?_ rfl
    refine t_assign rfl ?_ rfl
    refine t_done ?_
    refine x_seq ?_
    refine w_ret ?_
    refine x_ret1 rfl rfl ?_
    exact ⟨congrArg (fun x => Ending.returned (.bool x)) (decide_eq_false fun h => h1 (hd.1 h).1).symm, ext_trans X0 B⟩
end Go.Proofs.Ytaapaafagmbkoaa
