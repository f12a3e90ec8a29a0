/- What LawFnPasses needs of the texts below it, part 5: contracts of functions, plain lemmas. (Put together by slim.py.) -/
import Derived.Test.YtdaecknfahgddaaSLawFnPasses4
namespace Go.Proofs.Ytdaecknfahgddaa
open Go.RowKit
set_option linter.unusedVariables false
set_option maxRecDepth 20000
theorem t_offu {P : Program} {n : Nat} {ops : Array Oper} {Q : Exit → Act → World → Prop} {L : Frm} {w : World} {m : Md} {r : IT} {d : Nat} {ty : TypeId} {pos : String} {af : Array Edge} {op : Op} {j tj : Nat} {b : Bool} (hj : (ops[j]?).bind (·.dst) = some tj) (hg : look L tj = some undef) (k : WT P n ops Q r ((d, undef) :: L) w) (hn : Nat.blt d n = true) : WT P n ops Q (.st m ⟨some d, op, ty, pos, af, some (j, b)⟩ r) L w := by
  intro a ha
  have hy : yielded ops a.tmps j = none := by
    unfold yielded
    rw [hj, Option.bind_some, ha.at_ _ _ hg]
    rfl
  have hw : Region.wanted (⟨some d, op, ty, pos, af, some (j, b)⟩ : Oper) (yielded ops a.tmps) = false := by
    simp only [Region.wanted, hy]
    cases b <;> rfl
  have hk := k _ (ha.put hn undef)
  cases m with
  | take => exact ⟨undef, .inr ⟨hw, rfl⟩, hk⟩
  | run => simp only [wpT, hw]; exact hk
  | fin => simp only [wpT, hw]; exact hk
theorem impl_StepOkE (t : Topo) (v : Value) (x : Stp) (w : World) (h : VA topoT w v t) (hz : sz_topo t ≤ 1048576) : Calls Try.prog 19 #[v, .agg #[I x.ia, I x.ing, I x.eg]] w fun e w' => e = .returned (.bool (stepOkE t x)) ∧ Below w.heap.size w w' := by
  have hx := step_mkv w x
  have X0 := Below.refl w.heap.size w
  refine enter Try.func19 rfl Try.ntmps19 rfl ?_
  refine w_seq ?_
  refine w_region ?_
  refine t_boxr (by assumption) rfl ?_ rfl rfl
  intro p2 w1 x2 hp2
  replace h := h.below x2
  replace hx := hx.below x2
  have X0 := ext_trans X0 x2
  refine t_boxr (by assumption) rfl ?_ rfl rfl
  intro p3 w3 x4 hp3
  replace h := h.below x4
  replace hx := hx.below x4
  replace hp2 := hp2.below x4
  have X0 := ext_trans X0 x4
  have S := Sep.nil w3
  have B := Below.refl w3.heap.size w3
  have Hb := Nat.le_refl w3.heap.size
  refine t_assign rfl ?_ rfl
  refine t_done ?_
  refine x_seq ?_
  refine w_seq ?_
  refine w_draw (.st .take 0 (.st .take 1 (.st .take 2 (.st .take 3 (.st .take 4 (.st .take 6 (.st .take 7 (.st .take 8 (.st .take 9 (.st .take 10 (.st .run 5 (.st .run 11 (.st .run 12 (.st .take 13 (.st .take 14 (.st .take 15 (.st .take 16 (.st .take 17 (.st .take 18 (.st .take 19 (.st .take 20 (.st .take 21 (.st .take 22 (.st .take 23 (.st .take 24 (.st .take 25 .done)))))))))))))))))))))))))) mixed (by kernel_rfl) ?_
  intro w5 x6
  have B := bx Hb B x6
  have S := S.below x6
  refine t_lda (by assumption) ab_topo sb_topo B rfl ?_ rfl
  intro v5 hv5
  obtain ⟨v5_0, v5_1, rfl, hv5_0, hv5_1⟩ := topo_va hv5
  refine t_fld ln_step_0 (by assumption) fb_step_0 rfl ?_ rfl
  intro p6 hp6
  refine t_ldi (by assumption) ab_int B rfl ?_ rfl
  refine t_fld ln_step_1 (by assumption) fb_step_1 rfl ?_ rfl
  intro p8 hp8
  refine t_ldi (by assumption) ab_int B rfl ?_ rfl
  refine t_lda (by assumption) ab_topo sb_topo B rfl ?_ rfl
  intro v11 hv11
  obtain ⟨v11_0, v11_1, rfl, hv11_0, hv11_1⟩ := topo_va hv11
  refine t_fld ln_step_0 (by assumption) fb_step_0 rfl ?_ rfl
  intro p12 hp12
  refine t_ldi (by assumption) ab_int B rfl ?_ rfl
  refine t_fld ln_step_2 (by assumption) fb_step_2 rfl ?_ rfl
  intro p14 hp14
  refine t_ldi (by assumption) ab_int B rfl ?_ rfl
  refine t_callx Try.call67 rfl (va1 (by first | assumption | exact VA.below (by assumption) B | exact topo_mkv (by first | assumption | exact SlR.below (by assumption) B) (by first | assumption | exact SlR.below (by assumption) B)) fun cs h => impl_ifKind _ cs _ _ _ h (by omega)) ?_ rfl rfl
  intro w7 x8
  have B := bx Hb B x8
  have S := S.below x8
  refine t_callx Try.call67 rfl (va1 (by first | assumption | exact VA.below (by assumption) B | exact topo_mkv (by first | assumption | exact SlR.below (by assumption) B) (by first | assumption | exact SlR.below (by assumption) B)) fun cs h => impl_ifKind _ cs _ _ _ h (by omega)) ?_ rfl rfl
  intro w9 x10
  have B := bx Hb B x10
  have S := S.below x10
  refine t_calls Try.call17 rfl (impl_transit _ _ _) ?_ rfl rfl
  refine t_move rfl ?_ rfl
  refine t_part (t := 18) rfl ?_ ?_
  · intro h1
    refine t_on rfl rfl ?_
    refine t_fld ln_step_1 (by assumption) fb_step_1 rfl ?_ rfl
    intro p19 hp19
    refine t_on rfl rfl ?_
    refine t_ldi (by assumption) ab_int B rfl ?_ rfl
    refine t_on rfl rfl ?_
    refine t_fld ln_step_2 (by assumption) fb_step_2 rfl ?_ rfl
    intro p21 hp21
    refine t_on rfl rfl ?_
    refine t_ldi (by assumption) ab_int B rfl ?_ rfl
    refine t_on rfl rfl ?_
    refine t_neq rfl rfl ?_ rfl
    refine t_on rfl rfl ?_
    refine t_move rfl ?_ rfl
    refine t_partp (t := 24) rfl ?_ ?_
    · intro h2
      refine t_off rfl rfl rfl ?_ rfl
      refine t_off rfl rfl rfl ?_ rfl
      refine t_off rfl rfl rfl ?_ rfl
      refine t_on rfl rfl ?_
      refine t_pickt rfl rfl ?_ rfl
      refine t_pickt rfl rfl ?_ rfl
      refine t_assign rfl ?_ rfl
      refine t_done' ?_
      refine x_seq ?_
      refine w_ret ?_
      refine x_ret1 rfl rfl ?_
      exact ⟨ret_bool (by unfold stepOkE; rw [h1, decide_eq_true h2]; rfl), ext_trans X0 B⟩
    · intro h2
      refine t_on rfl rfl ?_
      refine t_fld ln_step_1 (by assumption) fb_step_1 rfl ?_ rfl
      intro p25 hp25
      refine t_on rfl rfl ?_
      refine t_ldi (by assumption) ab_int B rfl ?_ rfl
      refine t_on rfl rfl ?_
      refine t_eql rfl rfl ?_ rfl
      refine t_on rfl rfl ?_
      refine t_pickf rfl rfl ?_ rfl
      refine t_pickt rfl rfl ?_ rfl
      refine t_assign rfl ?_ rfl
      refine t_done' ?_
      refine x_seq ?_
      refine w_ret ?_
      refine x_ret1 rfl rfl ?_
      exact ⟨ret_bool (by unfold stepOkE; rw [h1, decide_eq_false h2]; rfl), ext_trans X0 B⟩
  · intro h1
    refine t_off rfl rfl rfl ?_ rfl
    refine t_off rfl rfl rfl ?_ rfl
    refine t_off rfl rfl rfl ?_ rfl
    refine t_off rfl rfl rfl ?_ rfl
    refine t_off rfl rfl rfl ?_ rfl
    refine t_off rfl rfl rfl ?_ rfl
    refine t_offu rfl rfl ?_ rfl
    refine t_offu rfl rfl ?_ rfl
    refine t_offu rfl rfl ?_ rfl
    refine t_off rfl rfl rfl ?_ rfl
    refine t_pickf rfl rfl ?_ rfl
    refine t_assign rfl ?_ rfl
    refine t_done' ?_
    refine x_seq ?_
    refine w_ret ?_
    refine x_ret1 rfl rfl ?_
    exact ⟨ret_bool (by unfold stepOkE; rw [h1]; rfl), ext_trans X0 B⟩
theorem spec_StepOkE (t : Topo) (v : Value) (x : Stp) (w : World) (h : VA topoT w v t) (hz : sz_topo t ≤ 1048576) : Calls Try.prog 20 #[v, .agg #[I x.ia, I x.ing, I x.eg]] w fun e w' => e = .returned (.bool (stepOkE t x)) ∧ Below w.heap.size w w' := by
  have hx := step_mkv w x
  have X0 := Below.refl w.heap.size w
  refine enter Try.func20 rfl Try.ntmps20 rfl ?_
  refine w_seq ?_
  refine w_region ?_
  refine t_boxr (by assumption) rfl ?_ rfl rfl
  intro p2 w11 x12 hp2
  replace h := h.below x12
  replace hx := hx.below x12
  have X0 := ext_trans X0 x12
  refine t_boxr (by assumption) rfl ?_ rfl rfl
  intro p3 w13 x14 hp3
  replace h := h.below x14
  replace hx := hx.below x14
  replace hp2 := hp2.below x14
  have X0 := ext_trans X0 x14
  have S := Sep.nil w13
  have B := Below.refl w13.heap.size w13
  have Hb := Nat.le_refl w13.heap.size
  refine t_assign rfl ?_ rfl
  refine t_done ?_
  refine x_seq ?_
  refine w_seq ?_
  refine w_seq ?_
  refine w_region ?_
  refine t_fld ln_step_1 (by assumption) fb_step_1 rfl ?_ rfl
  intro p5 hp5
  refine t_ldi (by assumption) ab_int B rfl ?_ rfl
  refine t_fld ln_step_2 (by assumption) fb_step_2 rfl ?_ rfl
  intro p7 hp7
  refine t_ldi (by assumption) ab_int B rfl ?_ rfl
  refine t_eql rfl rfl ?_ rfl
  refine t_move rfl ?_ rfl
  refine t_partp (t := 10) rfl ?_ ?_
  · intro h1
    refine t_on rfl rfl ?_
    refine t_fld ln_step_1 (by assumption) fb_step_1 rfl ?_ rfl
    intro p11 hp11
    refine t_on rfl rfl ?_
    refine t_ldi (by assumption) ab_int B rfl ?_ rfl
    refine t_on rfl rfl ?_
    refine t_neq rfl rfl ?_ rfl
    refine t_pickt rfl rfl ?_ rfl
    refine t_done ?_
    refine x_seq ?_
    refine w_if rfl ?_ ?_
    · intro h2
      refine w_seq ?_
      refine w_region ?_
      refine t_assign rfl ?_ rfl
      refine t_done ?_
      refine x_seq ?_
      refine w_ret ?_
      refine x_then_ret ?_
      refine x_ret1 rfl rfl ?_
      exact ⟨ret_bool (by rw [h1] at h2; simp [stepOkE, h1, h2]), ext_trans X0 B⟩
    · intro h2
      refine w_skip ?_
      refine x_seq ?_
      refine w_seq ?_
      refine w_draw (.st .take 0 (.st .take 1 (.st .take 2 (.st .take 3 (.st .take 4 (.st .take 6 (.st .take 7 (.st .take 8 (.st .take 9 (.st .take 10 (.st .run 5 (.st .run 11 (.st .run 12 (.st .take 13 .done)))))))))))))) mixed (by kernel_rfl) ?_
      intro w15 x16
      have B := bx Hb B x16
      have S := S.below x16
      refine t_lda (by assumption) ab_topo sb_topo B rfl ?_ rfl
      intro v15 hv15
      obtain ⟨v15_0, v15_1, rfl, hv15_0, hv15_1⟩ := topo_va hv15
      refine t_fld ln_step_0 (by assumption) fb_step_0 rfl ?_ rfl
      intro p16 hp16
      refine t_ldi (by assumption) ab_int B rfl ?_ rfl
      refine t_fld ln_step_1 (by assumption) fb_step_1 rfl ?_ rfl
      intro p18 hp18
      refine t_ldi (by assumption) ab_int B rfl ?_ rfl
      refine t_lda (by assumption) ab_topo sb_topo B rfl ?_ rfl
      intro v21 hv21
      obtain ⟨v21_0, v21_1, rfl, hv21_0, hv21_1⟩ := topo_va hv21
      refine t_fld ln_step_0 (by assumption) fb_step_0 rfl ?_ rfl
      intro p22 hp22
      refine t_ldi (by assumption) ab_int B rfl ?_ rfl
      refine t_fld ln_step_2 (by assumption) fb_step_2 rfl ?_ rfl
      intro p24 hp24
      refine t_ldi (by assumption) ab_int B rfl ?_ rfl
      refine t_callx Try.call68 rfl (va1 (by first | assumption | exact VA.below (by assumption) B | exact topo_mkv (by first | assumption | exact SlR.below (by assumption) B) (by first | assumption | exact SlR.below (by assumption) B)) fun cs h => spec_ifKind _ cs _ _ _ h (by omega)) ?_ rfl rfl
      intro w17 x18
      have B := bx Hb B x18
      have S := S.below x18
      refine t_callx Try.call68 rfl (va1 (by first | assumption | exact VA.below (by assumption) B | exact topo_mkv (by first | assumption | exact SlR.below (by assumption) B) (by first | assumption | exact SlR.below (by assumption) B)) fun cs h => spec_ifKind _ cs _ _ _ h (by omega)) ?_ rfl rfl
      intro w19 x20
      have B := bx Hb B x20
      have S := S.below x20
      refine t_calls Try.call18 rfl (spec_transit _ _ _) ?_ rfl rfl
      refine t_assign rfl ?_ rfl
      refine t_done' ?_
      refine x_seq ?_
      refine w_ret ?_
      refine x_ret1 rfl rfl ?_
      exact ⟨ret_bool (by rw [h1] at h2; simp at h2; simp [stepOkE, h1, h2]), ext_trans X0 B⟩
  · intro h1
    refine t_off rfl rfl rfl ?_ rfl
    refine t_off rfl rfl rfl ?_ rfl
    refine t_off rfl rfl rfl ?_ rfl
    refine t_pickf rfl rfl ?_ rfl
    refine t_done ?_
    refine x_seq ?_
    refine w_no rfl ?_
    refine w_skip ?_
    refine x_seq ?_
    refine w_seq ?_
    refine w_draw (.st .take 0 (.st .take 1 (.st .take 2 (.st .take 3 (.st .take 4 (.st .take 6 (.st .take 7 (.st .take 8 (.st .take 9 (.st .take 10 (.st .run 5 (.st .run 11 (.st .run 12 (.st .take 13 .done)))))))))))))) mixed (by kernel_rfl) ?_
    intro w21 x22
    have B := bx Hb B x22
    have S := S.below x22
    refine t_lda (by assumption) ab_topo sb_topo B rfl ?_ rfl
    intro v15 hv15
    obtain ⟨v15_0, v15_1, rfl, hv15_0, hv15_1⟩ := topo_va hv15
    refine t_fld ln_step_0 (by assumption) fb_step_0 rfl ?_ rfl
    intro p16 hp16
    refine t_ldi (by assumption) ab_int B rfl ?_ rfl
    refine t_fld ln_step_1 (by assumption) fb_step_1 rfl ?_ rfl
    intro p18 hp18
    refine t_ldi (by assumption) ab_int B rfl ?_ rfl
    refine t_lda (by assumption) ab_topo sb_topo B rfl ?_ rfl
    intro v21 hv21
    obtain ⟨v21_0, v21_1, rfl, hv21_0, hv21_1⟩ := topo_va hv21
    refine t_fld ln_step_0 (by assumption) fb_step_0 rfl ?_ rfl
    intro p22 hp22
    refine t_ldi (by assumption) ab_int B rfl ?_ rfl
    refine t_fld ln_step_2 (by assumption) fb_step_2 rfl ?_ rfl
    intro p24 hp24
    refine t_ldi (by assumption) ab_int B rfl ?_ rfl
    refine t_callx Try.call68 rfl (va1 (by first | assumption | exact VA.below (by assumption) B | exact topo_mkv (by first | assumption | exact SlR.below (by assumption) B) (by first | assumption | exact SlR.below (by assumption) B)) fun cs h => spec_ifKind _ cs _ _ _ h (by omega)) ?_ rfl rfl
    intro w23 x24
    have B := bx Hb B x24
    have S := S.below x24
    refine t_callx Try.call68 rfl (va1 (by first | assumption | exact VA.below (by assumption) B | exact topo_mkv (by first | assumption | exact SlR.below (by assumption) B) (by first | assumption | exact SlR.below (by assumption) B)) fun cs h => spec_ifKind _ cs _ _ _ h (by omega)) ?_ rfl rfl
    intro w25 x26
    have B := bx Hb B x26
    have S := S.below x26
    refine t_calls Try.call18 rfl (spec_transit _ _ _) ?_ rfl rfl
    refine t_assign rfl ?_ rfl
    refine t_done' ?_
    refine x_seq ?_
    refine w_ret ?_
    refine x_ret1 rfl rfl ?_
    exact ⟨ret_bool (by simp [stepOkE, h1]), ext_trans X0 B⟩
theorem impl_countSteps (t : Topo) (v : Value) (p : Path) (u : Value) (kind : Int) (w : World) (h : VA topoT w v t) (hp : VA pathT w u p) (hz : sz_topo t ≤ 1048576) (hz' : sz_path p ≤ 1048576) (hl : lenOk_path p) (hg : rng_path p) : Calls Try.prog 70 #[v, u, I kind] w fun e w' => e = .returned (I (cntK t kind (pathSteps p) : Int)) ∧ Below w.heap.size w w' := by
  have hsl := pathSteps_len p
  have X0 := Below.refl w.heap.size w
  refine enter Try.func70 rfl Try.ntmps70 rfl ?_
  refine w_seq ?_
  refine w_region ?_
  refine t_boxr (by assumption) rfl ?_ rfl rfl
  intro p3 w27 x28 hp3
  replace h := h.below x28
  replace hp := hp.below x28
  have X0 := ext_trans X0 x28
  refine t_boxr (by assumption) rfl ?_ rfl rfl
  intro p4 w29 x30 hp4
  replace h := h.below x30
  replace hp := hp.below x30
  replace hp3 := hp3.below x30
  have X0 := ext_trans X0 x30
  have S := Sep.nil w29
  have B := Below.refl w29.heap.size w29
  have Hb := Nat.le_refl w29.heap.size
  refine t_assign rfl ?_ rfl
  refine t_done ?_
  refine x_seq ?_
  refine w_seq ?_
  refine w_region ?_
  refine t_assign rfl ?_ rfl
  refine t_done ?_
  refine x_seq ?_
  refine w_seq ?_
  refine w_seq ?_
  refine w_region ?_
  refine t_lda (by assumption) ab_path sb_path B rfl ?_ rfl
  intro v10 hv10
  obtain ⟨v10_0, rfl, hv10_0⟩ := path_va hv10
  refine t_call Try.call10 rfl (va1 (by first | assumption | exact VA.below (by assumption) B | exact path_mkv (by first | assumption | exact SlR.below (by assumption) B)) fun cs h => impl_PathSteps _ cs _ h (by omega) (by assumption) (by assumption)) ?_ rfl rfl
  rintro e w31 ⟨v11, fpv11, rfl, hOv11, x32⟩
  refine ⟨_, rfl, x32, ?_⟩
  have S := S.add (o := slO _ _ _ _) x32 hOv11
  have B := bx Hb B x32
  refine t_len e_step (S.sl) rfl rfl ?_ rfl
  refine t_move rfl ?_ rfl
  refine t_done ?_
  refine x_seq ?_
  refine w_block ?_
  refine w_loop (X := Nat × Nat) (fun x wq => (fun k c => k ≤ (pathSteps p).length ∧ c = cntK t kind ((pathSteps p).take k) ∧ Below w29.heap.size w29 wq ∧ Sep w29.heap.size wq [slO stepT 37 v11 (pathSteps p)]) x.1 x.2) (fun x => (fun k c => [(13, I ((k : Int))), (7, I ((c : Int))), (2, I kind), (3, p3), (6, I 0), (11, v11), (12, I (((pathSteps p).length : Int)))]) x.1 x.2) (fun x => (fun k c => (pathSteps p).length - k) x.1 x.2) (0, 0) ?_ ⟨rfl, rfl, rfl, rfl, rfl, rfl, rfl, trivial⟩ ?_
  · exact ⟨by omega, rfl, B, S⟩
  · rintro ⟨k, c⟩ w33 hI
    try dsimp only at hI ⊢
    obtain ⟨hk, hc, B, S⟩ := hI
    have hcl := cnt_le t kind ((pathSteps p).take k)
    have htl : ((pathSteps p).take k).length ≤ k := by rw [List.length_take]; omega
    refine w_seq ?_
    refine w_region ?_
    refine t_lss rfl rfl ?_ rfl
    refine t_done ?_
    refine x_seq ?_
    refine w_seq ?_
    refine w_if rfl ?_ ?_
    · intro hlt
      refine w_skip ?_
      refine x_seq ?_
      refine w_seq ?_
      refine w_block ?_
      refine w_seq ?_
      refine w_region ?_
      obtain ⟨e15, he15⟩ : ∃ e, (pathSteps p)[k]? = some e := getx (by omega)
      refine t_idx e_step (k := k) (S.sl) he15 (Below.refl _ _) rfl rfl (by first | rfl | omega) ?_ rfl
      intro p15 hp15
      refine t_lda (by assumption) ab_step sb_step (Below.refl _ _) rfl ?_ rfl
      intro v16 hv16
      obtain rfl := step_va hv16
      refine t_alloc S z_step rfl ?_ rfl rfl
      intro g9 w34 x35 S
      have B := bx Hb B x35
      refine t_stn S sb_step rfl rfl rfl rfl (by simp [Value.oneCell']) ?_
      intro w36 b37 S
      have B := B.trans b37
      refine t_done ?_
      refine x_seq ?_
      refine w_seq ?_
      refine w_region ?_
      refine t_lda (by assumption) ab_topo sb_topo B rfl ?_ rfl
      intro v17 hv17
      obtain ⟨v17_0, v17_1, rfl, hv17_0, hv17_1⟩ := topo_va hv17
      refine t_fldx fb_step_0 rfl rfl ?_ rfl
      refine t_bx1 S.box ab_int rfl rfl ?_ rfl
      refine t_fldx fb_step_2 rfl rfl ?_ rfl
      refine t_bx1 S.box ab_int rfl rfl ?_ rfl
      refine t_callx Try.call67 rfl (va1 (by first | assumption | exact VA.below (by assumption) B | exact topo_mkv (by first | assumption | exact SlR.below (by assumption) B) (by first | assumption | exact SlR.below (by assumption) B)) fun cs h => impl_ifKind _ cs _ _ _ h (by omega)) ?_ rfl rfl
      intro w38 x39
      have B := bx Hb B x39
      have S := S.below x39
      refine t_move rfl ?_ rfl
      refine t_eql rfl rfl ?_ rfl
      refine t_done ?_
      refine x_seq ?_
      have hs := cnt_succ (t := t) (kind := kind) he15
      refine w_if rfl ?_ ?_
      · intro he
        refine w_region ?_
        refine t_move rfl ?_ rfl
        refine t_add rfl rfl (by omega) ?_ rfl
        refine t_assign rfl ?_ rfl
        refine t_done ?_
        refine x_block_normal ?_
        refine x_seq ?_
        refine w_region ?_
        refine t_add rfl rfl (by omega) ?_ rfl
        refine t_move rfl ?_ rfl
        refine t_done ?_
        have S := S.tail
        refine x_round (X := Nat × Nat) (I := (fun x wq => (fun k c => k ≤ (pathSteps p).length ∧ c = cntK t kind ((pathSteps p).take k) ∧ Below w29.heap.size w29 wq ∧ Sep w29.heap.size wq [slO stepT 37 v11 (pathSteps p)]) x.1 x.2)) (F := (fun x => (fun k c => [(13, I ((k : Int))), (7, I ((c : Int))), (2, I kind), (3, p3), (6, I 0), (11, v11), (12, I (((pathSteps p).length : Int)))]) x.1 x.2)) (μ := (fun x => (fun k c => (pathSteps p).length - k) x.1 x.2)) (k + 1, c + 1) ?_ (by exact ⟨rfl, rfl, rfl, rfl, rfl, rfl, rfl, trivial⟩) (by (try dsimp only); omega)
        try dsimp only
        exact ⟨by omega, by rw [hs, if_pos he, hc], B, S⟩
      · intro he
        refine w_skip ?_
        refine x_block_normal ?_
        refine x_seq ?_
        refine w_region ?_
        refine t_add rfl rfl (by omega) ?_ rfl
        refine t_move rfl ?_ rfl
        refine t_done ?_
        have S := S.tail
        refine x_round (X := Nat × Nat) (I := (fun x wq => (fun k c => k ≤ (pathSteps p).length ∧ c = cntK t kind ((pathSteps p).take k) ∧ Below w29.heap.size w29 wq ∧ Sep w29.heap.size wq [slO stepT 37 v11 (pathSteps p)]) x.1 x.2)) (F := (fun x => (fun k c => [(13, I ((k : Int))), (7, I ((c : Int))), (2, I kind), (3, p3), (6, I 0), (11, v11), (12, I (((pathSteps p).length : Int)))]) x.1 x.2)) (μ := (fun x => (fun k c => (pathSteps p).length - k) x.1 x.2)) (k + 1, c) ?_ (by exact ⟨rfl, rfl, rfl, rfl, rfl, rfl, rfl, trivial⟩) (by (try dsimp only); omega)
        try dsimp only
        exact ⟨by omega, by rw [hs, if_neg he, hc]; rfl, B, S⟩
    · intro hge
      refine w_exit ?_
      refine x_then_exit ?_
      refine x_then_exit ?_
      refine x_block_exit ?_
      refine x_seq ?_
      refine w_seq ?_
      refine w_region ?_
      refine t_move rfl ?_ rfl
      refine t_assign rfl ?_ rfl
      refine t_done ?_
      refine x_seq ?_
      refine w_ret ?_
      refine x_ret1 rfl rfl ?_
      exact ⟨ret_int (by rw [hc, List.take_of_length_le (by omega)]), ext_trans X0 B⟩
theorem spec_l27Out (t : Topo) (v : Value) (p : Path) (u : Value) (kind : Int) (w : World) (h : VA topoT w v t) (hp : VA pathT w u p) (hz : sz_topo t ≤ 1048576) (hz' : sz_path p ≤ 1048576) (hl : lenOk_path p) (hg : rng_path p) : Calls Try.prog 71 #[v, u, I kind] w fun e w' => e = .returned (I (cntK t kind (pathSteps p) : Int)) ∧ Below w.heap.size w w' := by
  have hsl := pathSteps_len p
  have X0 := Below.refl w.heap.size w
  refine enter Try.func71 rfl Try.ntmps71 rfl ?_
  refine w_seq ?_
  refine w_region ?_
  refine t_boxr (by assumption) rfl ?_ rfl rfl
  intro p3 w40 x41 hp3
  replace h := h.below x41
  replace hp := hp.below x41
  have X0 := ext_trans X0 x41
  refine t_boxr (by assumption) rfl ?_ rfl rfl
  intro p4 w42 x43 hp4
  replace h := h.below x43
  replace hp := hp.below x43
  replace hp3 := hp3.below x43
  have X0 := ext_trans X0 x43
  have S := Sep.nil w42
  have B := Below.refl w42.heap.size w42
  have Hb := Nat.le_refl w42.heap.size
  refine t_assign rfl ?_ rfl
  refine t_done ?_
  refine x_seq ?_
  refine w_seq ?_
  refine w_region ?_
  refine t_assign rfl ?_ rfl
  refine t_done ?_
  refine x_seq ?_
  refine w_seq ?_
  refine w_region ?_
  refine t_lda (by assumption) ab_path sb_path B rfl ?_ rfl
  intro v10 hv10
  obtain ⟨v10_0, rfl, hv10_0⟩ := path_va hv10
  refine t_call Try.call69 rfl (va1 (by first | assumption | exact VA.below (by assumption) B | exact path_mkv (by first | assumption | exact SlR.below (by assumption) B)) fun cs h => spec_PathSteps _ cs _ h (by omega) (by assumption) (by assumption)) ?_ rfl rfl
  rintro e w44 ⟨v11, fpv11, rfl, hOv11, x45⟩
  refine ⟨_, rfl, x45, ?_⟩
  have S := S.add (o := slO _ _ _ _) x45 hOv11
  have B := bx Hb B x45
  refine t_assign rfl ?_ rfl
  refine t_done ?_
  refine x_seq ?_
  refine w_seq ?_
  refine w_seq ?_
  refine w_region ?_
  refine t_assign rfl ?_ rfl
  refine t_done ?_
  refine x_seq ?_
  refine w_block ?_
  refine w_loop (X := Nat × Nat) (fun x wq => (fun k c => k ≤ (pathSteps p).length ∧ c = cntK t kind ((pathSteps p).take k) ∧ Below w42.heap.size w42 wq ∧ Sep w42.heap.size wq [slO stepT 37 v11 (pathSteps p)]) x.1 x.2) (fun x => (fun k c => [(9, I ((k : Int))), (7, I ((c : Int))), (2, I kind), (3, p3), (6, I 0), (8, v11)]) x.1 x.2) (fun x => (fun k c => (pathSteps p).length - k) x.1 x.2) (0, 0) ?_ ⟨rfl, rfl, rfl, rfl, rfl, rfl, trivial⟩ ?_
  · exact ⟨by omega, rfl, B, S⟩
  · rintro ⟨k, c⟩ w46 hI
    try dsimp only at hI ⊢
    obtain ⟨hk, hc, B, S⟩ := hI
    have hcl := cnt_le t kind ((pathSteps p).take k)
    have htl : ((pathSteps p).take k).length ≤ k := by rw [List.length_take]; omega
    refine w_seq ?_
    refine w_seq ?_
    refine w_region ?_
    refine t_move rfl ?_ rfl
    refine t_move rfl ?_ rfl
    refine t_len e_step (S.sl) rfl rfl ?_ rfl
    refine t_lss rfl rfl ?_ rfl
    refine t_done ?_
    refine x_seq ?_
    refine w_if rfl ?_ ?_
    · intro hlt
      refine w_skip ?_
      refine x_seq ?_
      refine w_seq ?_
      refine w_block ?_
      refine w_seq ?_
      refine w_draw (.st .take 0 (.st .take 1 (.st .take 2 (.st .take 3 (.st .take 4 (.st .take 5 (.st .take 6 (.st .take 7 (.st .take 8 (.st .take 9 (.st .take 10 (.st .take 12 (.st .run 11 (.st .take 13 .done)))))))))))))) mixed (by kernel_rfl) ?_
      intro w47 x48
      have B := bx Hb B x48
      have S := S.below x48
      refine t_lda (by assumption) ab_topo sb_topo B rfl ?_ rfl
      intro v18 hv18
      obtain ⟨v18_0, v18_1, rfl, hv18_0, hv18_1⟩ := topo_va hv18
      refine t_move rfl ?_ rfl
      refine t_move rfl ?_ rfl
      obtain ⟨e21, he21⟩ : ∃ e, (pathSteps p)[k]? = some e := getx (by omega)
      refine t_idx e_step (k := k) (S.sl) he21 (Below.refl _ _) rfl rfl (by first | rfl | omega) ?_ rfl
      intro p21 hp21
      refine t_fld ln_step_0 (by assumption) fb_step_0 rfl ?_ rfl
      intro p22 hp22
      refine t_ldi (by assumption) ab_int (Below.refl _ _) rfl ?_ rfl
      refine t_move rfl ?_ rfl
      refine t_move rfl ?_ rfl
      refine t_idx e_step (k := k) (S.sl) he21 (Below.refl _ _) rfl rfl (by first | rfl | omega) ?_ rfl
      intro p26 hp26
      refine t_fld ln_step_2 (by assumption) fb_step_2 rfl ?_ rfl
      intro p27 hp27
      refine t_ldi (by assumption) ab_int (Below.refl _ _) rfl ?_ rfl
      refine t_move rfl ?_ rfl
      refine t_callx Try.call68 rfl (va1 (by first | assumption | exact VA.below (by assumption) B | exact topo_mkv (by first | assumption | exact SlR.below (by assumption) B) (by first | assumption | exact SlR.below (by assumption) B)) fun cs h => spec_ifKind _ cs _ _ _ h (by omega)) ?_ rfl rfl
      intro w49 x50
      have B := bx Hb B x50
      have S := S.below x50
      refine t_eql rfl rfl ?_ rfl
      refine t_done' ?_
      refine x_seq ?_
      have hs := cnt_succ (t := t) (kind := kind) he21
      refine w_if rfl ?_ ?_
      · intro he
        refine w_region ?_
        refine t_move rfl ?_ rfl
        refine t_add rfl rfl (by omega) ?_ rfl
        refine t_assign rfl ?_ rfl
        refine t_done ?_
        refine x_block_normal ?_
        refine x_seq ?_
        refine w_region ?_
        refine t_move rfl ?_ rfl
        refine t_add rfl rfl (by omega) ?_ rfl
        refine t_assign rfl ?_ rfl
        refine t_done ?_
        refine x_round (X := Nat × Nat) (I := (fun x wq => (fun k c => k ≤ (pathSteps p).length ∧ c = cntK t kind ((pathSteps p).take k) ∧ Below w42.heap.size w42 wq ∧ Sep w42.heap.size wq [slO stepT 37 v11 (pathSteps p)]) x.1 x.2)) (F := (fun x => (fun k c => [(9, I ((k : Int))), (7, I ((c : Int))), (2, I kind), (3, p3), (6, I 0), (8, v11)]) x.1 x.2)) (μ := (fun x => (fun k c => (pathSteps p).length - k) x.1 x.2)) (k + 1, c + 1) ?_ (by exact ⟨rfl, rfl, rfl, rfl, rfl, rfl, trivial⟩) (by (try dsimp only); omega)
        try dsimp only
        exact ⟨by omega, by rw [hs, if_pos he, hc], B, S⟩
      · intro he
        refine w_skip ?_
        refine x_block_normal ?_
        refine x_seq ?_
        refine w_region ?_
        refine t_move rfl ?_ rfl
        refine t_add rfl rfl (by omega) ?_ rfl
        refine t_assign rfl ?_ rfl
        refine t_done ?_
        refine x_round (X := Nat × Nat) (I := (fun x wq => (fun k c => k ≤ (pathSteps p).length ∧ c = cntK t kind ((pathSteps p).take k) ∧ Below w42.heap.size w42 wq ∧ Sep w42.heap.size wq [slO stepT 37 v11 (pathSteps p)]) x.1 x.2)) (F := (fun x => (fun k c => [(9, I ((k : Int))), (7, I ((c : Int))), (2, I kind), (3, p3), (6, I 0), (8, v11)]) x.1 x.2)) (μ := (fun x => (fun k c => (pathSteps p).length - k) x.1 x.2)) (k + 1, c) ?_ (by exact ⟨rfl, rfl, rfl, rfl, rfl, rfl, trivial⟩) (by (try dsimp only); omega)
        try dsimp only
        exact ⟨by omega, by rw [hs, if_neg he, hc]; rfl, B, S⟩
    · intro hge
      refine w_exit ?_
      refine x_then_exit ?_
      refine x_then_exit ?_
      refine x_block_exit ?_
      refine x_seq ?_
      refine w_seq ?_
      refine w_region ?_
      refine t_move rfl ?_ rfl
      refine t_assign rfl ?_ rfl
      refine t_done ?_
      refine x_seq ?_
      refine w_ret ?_
      refine x_ret1 rfl rfl ?_
      exact ⟨ret_int (by rw [hc, List.take_of_length_le (by omega)]), ext_trans X0 B⟩
theorem impl_FirstForbiddenStep (t : Topo) (v : Value) (p : Path) (u : Value) (w : World) (h : VA topoT w v t) (hp : VA pathT w u p) (hz : sz_topo t ≤ 1048576) (hz' : sz_path p ≤ 1048576) (hl : lenOk_path p) (hg : rng_path p) : Calls Try.prog 23 #[v, u] w fun e w' => e = .returned (I (forbid t (pathSteps p))) ∧ Below w.heap.size w w' := by
  have hsl := pathSteps_len p
  have X0 := Below.refl w.heap.size w
  refine enter Try.func23 rfl Try.ntmps23 rfl ?_
  refine w_seq ?_
  refine w_region ?_
  refine t_boxr (by assumption) rfl ?_ rfl rfl
  intro p2 w51 x52 hp2
  replace h := h.below x52
  replace hp := hp.below x52
  have X0 := ext_trans X0 x52
  refine t_boxr (by assumption) rfl ?_ rfl rfl
  intro p3 w53 x54 hp3
  replace h := h.below x54
  replace hp := hp.below x54
  replace hp2 := hp2.below x54
  have X0 := ext_trans X0 x54
  have S := Sep.nil w53
  have B := Below.refl w53.heap.size w53
  have Hb := Nat.le_refl w53.heap.size
  refine t_assign rfl ?_ rfl
  refine t_done ?_
  refine x_seq ?_
  refine w_seq ?_
  refine w_seq ?_
  refine w_region ?_
  refine t_lda (by assumption) ab_path sb_path B rfl ?_ rfl
  intro v7 hv7
  obtain ⟨v7_0, rfl, hv7_0⟩ := path_va hv7
  refine t_call Try.call10 rfl (va1 (by first | assumption | exact VA.below (by assumption) B | exact path_mkv (by first | assumption | exact SlR.below (by assumption) B)) fun cs h => impl_PathSteps _ cs _ h (by omega) (by assumption) (by assumption)) ?_ rfl rfl
  rintro e w55 ⟨v8, fpv8, rfl, hOv8, x56⟩
  refine ⟨_, rfl, x56, ?_⟩
  have S := S.add (o := slO _ _ _ _) x56 hOv8
  have B := bx Hb B x56
  refine t_len e_step (S.sl) rfl rfl ?_ rfl
  refine t_move rfl ?_ rfl
  refine t_done ?_
  refine x_seq ?_
  refine w_block ?_
  refine w_loop (X := Nat) (fun k wq => k ≤ (pathSteps p).length ∧ ((pathSteps p).take k).all (stepOkE t) = true ∧ Below w53.heap.size w53 wq ∧ Sep w53.heap.size wq [slO stepT 37 v8 (pathSteps p)]) (fun k => [(10, I ((k : Int))), (2, p2), (8, v8), (9, I (((pathSteps p).length : Int)))]) (fun k => (pathSteps p).length - k) (0) ?_ ⟨rfl, rfl, rfl, rfl, trivial⟩ ?_
  · exact ⟨by omega, rfl, B, S⟩
  · rintro k w57 hI
    try dsimp only at hI ⊢
    obtain ⟨hk, ha, B, S⟩ := hI
    refine w_seq ?_
    refine w_region ?_
    refine t_lss rfl rfl ?_ rfl
    refine t_done ?_
    refine x_seq ?_
    refine w_seq ?_
    refine w_if rfl ?_ ?_
    · intro hlt
      refine w_skip ?_
      refine x_seq ?_
      refine w_seq ?_
      refine w_block ?_
      refine w_seq ?_
      refine w_region ?_
      refine t_move rfl ?_ rfl
      obtain ⟨e13, he13⟩ : ∃ e, (pathSteps p)[k]? = some e := getx (by omega)
      refine t_idx e_step (k := k) (S.sl) he13 (Below.refl _ _) rfl rfl (by first | rfl | omega) ?_ rfl
      intro p13 hp13
      refine t_lda (by assumption) ab_step sb_step (Below.refl _ _) rfl ?_ rfl
      intro v14 hv14
      obtain rfl := step_va hv14
      refine t_alloc S z_step rfl ?_ rfl rfl
      intro g6 w58 x59 S
      have B := bx Hb B x59
      refine t_assign rfl ?_ rfl
      refine t_stn S sb_step rfl rfl rfl rfl (by simp [Value.oneCell']) ?_
      intro w60 b61 S
      have B := B.trans b61
      refine t_done ?_
      refine x_seq ?_
      refine w_seq ?_
      refine w_region ?_
      refine t_lda (by assumption) ab_topo sb_topo B rfl ?_ rfl
      intro v15 hv15
      obtain ⟨v15_0, v15_1, rfl, hv15_0, hv15_1⟩ := topo_va hv15
      refine t_bxn S.box ab_step sb_step rfl rfl ?_ rfl
      refine t_callx Try.call19 rfl (impl_StepOkE _ _ _ _ (by first | assumption | exact VA.below (by assumption) B | exact topo_mkv (by first | assumption | exact SlR.below (by assumption) B) (by first | assumption | exact SlR.below (by assumption) B)) (by omega)) ?_ rfl rfl
      intro w62 x63
      have B := bx Hb B x63
      have S := S.below x63
      refine t_notb rfl ?_ rfl
      refine t_done ?_
      refine x_seq ?_
      refine w_ifb rfl ?_ ?_
      · intro he
        refine w_seq ?_
        refine w_region ?_
        refine t_move rfl ?_ rfl
        refine t_assign rfl ?_ rfl
        refine t_done ?_
        refine x_seq ?_
        refine w_ret ?_
        refine x_block_ret ?_
        refine x_then_ret ?_
        refine x_then_ret ?_
        refine x_block_ret ?_
        refine x_then_ret ?_
        refine x_ret1 rfl rfl ?_
        exact ⟨ret_int (forbid_at he13 ha (by simpa using he)).symm, ext_trans X0 B⟩
      · intro he
        refine w_skip ?_
        refine x_block_normal ?_
        refine x_seq ?_
        refine w_region ?_
        refine t_add rfl rfl (by omega) ?_ rfl
        refine t_move rfl ?_ rfl
        refine t_done ?_
        have S := S.tail
        refine x_round (X := Nat) (I := (fun k wq => k ≤ (pathSteps p).length ∧ ((pathSteps p).take k).all (stepOkE t) = true ∧ Below w53.heap.size w53 wq ∧ Sep w53.heap.size wq [slO stepT 37 v8 (pathSteps p)])) (F := (fun k => [(10, I ((k : Int))), (2, p2), (8, v8), (9, I (((pathSteps p).length : Int)))])) (μ := (fun k => (pathSteps p).length - k)) (k + 1) ?_ (by exact ⟨rfl, rfl, rfl, rfl, trivial⟩) (by (try dsimp only); omega)
        try dsimp only
        exact ⟨by omega, allF_succ he13 ha (by simpa using he), B, S⟩
    · intro hge
      refine w_exit ?_
      refine x_then_exit ?_
      refine x_then_exit ?_
      refine x_block_exit ?_
      refine x_seq ?_
      refine w_seq ?_
      refine w_region ?_
      refine t_assign rfl ?_ rfl
      refine t_done ?_
      refine x_seq ?_
      refine w_ret ?_
      refine x_ret1 rfl rfl ?_
      exact ⟨ret_int (forbid_none (allF_end (by omega) ha)).symm, ext_trans X0 B⟩
theorem spec_FirstForbiddenStep (t : Topo) (v : Value) (p : Path) (u : Value) (w : World) (h : VA topoT w v t) (hp : VA pathT w u p) (hz : sz_topo t ≤ 1048576) (hz' : sz_path p ≤ 1048576) (hl : lenOk_path p) (hg : rng_path p) : Calls Try.prog 24 #[v, u] w fun e w' => e = .returned (I (forbid t (pathSteps p))) ∧ Below w.heap.size w w' := by
  have hsl := pathSteps_len p
  have X0 := Below.refl w.heap.size w
  refine enter Try.func24 rfl Try.ntmps24 rfl ?_
  refine w_seq ?_
  refine w_region ?_
  refine t_boxr (by assumption) rfl ?_ rfl rfl
  intro p2 w64 x65 hp2
  replace h := h.below x65
  replace hp := hp.below x65
  have X0 := ext_trans X0 x65
  refine t_boxr (by assumption) rfl ?_ rfl rfl
  intro p3 w66 x67 hp3
  replace h := h.below x67
  replace hp := hp.below x67
  replace hp2 := hp2.below x67
  have X0 := ext_trans X0 x67
  have S := Sep.nil w66
  have B := Below.refl w66.heap.size w66
  have Hb := Nat.le_refl w66.heap.size
  refine t_assign rfl ?_ rfl
  refine t_done ?_
  refine x_seq ?_
  refine w_seq ?_
  refine w_region ?_
  refine t_lda (by assumption) ab_path sb_path B rfl ?_ rfl
  intro v7 hv7
  obtain ⟨v7_0, rfl, hv7_0⟩ := path_va hv7
  refine t_call Try.call69 rfl (va1 (by first | assumption | exact VA.below (by assumption) B | exact path_mkv (by first | assumption | exact SlR.below (by assumption) B)) fun cs h => spec_PathSteps _ cs _ h (by omega) (by assumption) (by assumption)) ?_ rfl rfl
  rintro e w68 ⟨v8, fpv8, rfl, hOv8, x69⟩
  refine ⟨_, rfl, x69, ?_⟩
  have S := S.add (o := slO _ _ _ _) x69 hOv8
  have B := bx Hb B x69
  refine t_assign rfl ?_ rfl
  refine t_done ?_
  refine x_seq ?_
  refine w_seq ?_
  refine w_seq ?_
  refine w_region ?_
  refine t_assign rfl ?_ rfl
  refine t_done ?_
  refine x_seq ?_
  refine w_block ?_
  refine w_loop (X := Nat) (fun k wq => k ≤ (pathSteps p).length ∧ ((pathSteps p).take k).all (stepOkE t) = true ∧ Below w66.heap.size w66 wq ∧ Sep w66.heap.size wq [slO stepT 37 v8 (pathSteps p)]) (fun k => [(6, I ((k : Int))), (2, p2), (5, v8)]) (fun k => (pathSteps p).length - k) (0) ?_ ⟨rfl, rfl, rfl, trivial⟩ ?_
  · exact ⟨by omega, rfl, B, S⟩
  · rintro k w70 hI
    try dsimp only at hI ⊢
    obtain ⟨hk, ha, B, S⟩ := hI
    refine w_seq ?_
    refine w_seq ?_
    refine w_region ?_
    refine t_move rfl ?_ rfl
    refine t_move rfl ?_ rfl
    refine t_len e_step (S.sl) rfl rfl ?_ rfl
    refine t_lss rfl rfl ?_ rfl
    refine t_done ?_
    refine x_seq ?_
    refine w_if rfl ?_ ?_
    · intro hlt
      refine w_skip ?_
      refine x_seq ?_
      refine w_seq ?_
      refine w_block ?_
      refine w_seq ?_
      refine w_draw (.st .take 0 (.st .take 1 (.st .take 2 (.st .take 3 (.st .take 4 (.st .run 5 (.st .take 6 .done))))))) mixed (by kernel_rfl) ?_
      intro w71 x72
      have B := bx Hb B x72
      have S := S.below x72
      refine t_lda (by assumption) ab_topo sb_topo B rfl ?_ rfl
      intro v15 hv15
      obtain ⟨v15_0, v15_1, rfl, hv15_0, hv15_1⟩ := topo_va hv15
      refine t_move rfl ?_ rfl
      refine t_move rfl ?_ rfl
      obtain ⟨e18, he18⟩ : ∃ e, (pathSteps p)[k]? = some e := getx (by omega)
      refine t_idx e_step (k := k) (S.sl) he18 (Below.refl _ _) rfl rfl (by first | rfl | omega) ?_ rfl
      intro p18 hp18
      refine t_lda (by assumption) ab_step sb_step (Below.refl _ _) rfl ?_ rfl
      intro v19 hv19
      obtain rfl := step_va hv19
      refine t_callx Try.call20 rfl (spec_StepOkE _ _ _ _ (by first | assumption | exact VA.below (by assumption) B | exact topo_mkv (by first | assumption | exact SlR.below (by assumption) B) (by first | assumption | exact SlR.below (by assumption) B)) (by omega)) ?_ rfl rfl
      intro w73 x74
      have B := bx Hb B x74
      have S := S.below x74
      refine t_notb rfl ?_ rfl
      refine t_done' ?_
      refine x_seq ?_
      refine w_ifb rfl ?_ ?_
      · intro he
        refine w_seq ?_
        refine w_region ?_
        refine t_move rfl ?_ rfl
        refine t_assign rfl ?_ rfl
        refine t_done ?_
        refine x_seq ?_
        refine w_ret ?_
        refine x_block_ret ?_
        refine x_then_ret ?_
        refine x_then_ret ?_
        refine x_block_ret ?_
        refine x_then_ret ?_
        refine x_ret1 rfl rfl ?_
        exact ⟨ret_int (forbid_at he18 ha (by simpa using he)).symm, ext_trans X0 B⟩
      · intro he
        refine w_skip ?_
        refine x_block_normal ?_
        refine x_seq ?_
        refine w_region ?_
        refine t_move rfl ?_ rfl
        refine t_add rfl rfl (by omega) ?_ rfl
        refine t_assign rfl ?_ rfl
        refine t_done ?_
        refine x_round (X := Nat) (I := (fun k wq => k ≤ (pathSteps p).length ∧ ((pathSteps p).take k).all (stepOkE t) = true ∧ Below w66.heap.size w66 wq ∧ Sep w66.heap.size wq [slO stepT 37 v8 (pathSteps p)])) (F := (fun k => [(6, I ((k : Int))), (2, p2), (5, v8)])) (μ := (fun k => (pathSteps p).length - k)) (k + 1) ?_ (by exact ⟨rfl, rfl, rfl, trivial⟩) (by (try dsimp only); omega)
        try dsimp only
        exact ⟨by omega, allF_succ he18 ha (by simpa using he), B, S⟩
    · intro hge
      refine w_exit ?_
      refine x_then_exit ?_
      refine x_then_exit ?_
      refine x_block_exit ?_
      refine x_seq ?_
      refine w_seq ?_
      refine w_region ?_
      refine t_assign rfl ?_ rfl
      refine t_done ?_
      refine x_seq ?_
      refine w_ret ?_
      refine x_ret1 rfl rfl ?_
      exact ⟨ret_int (forbid_none (allF_end (by omega) ha)).symm, ext_trans X0 B⟩
theorem impl_UpSteps (t : Topo) (v : Value) (p : Path) (u : Value) (w : World) (h : VA topoT w v t) (hp : VA pathT w u p) (hz : sz_topo t ≤ 1048576) (hz' : sz_path p ≤ 1048576) (hl : lenOk_path p) (hg : rng_path p) : Calls Try.prog 25 #[v, u] w fun e w' => e = .returned (I (cntK t 3 (pathSteps p) : Int)) ∧ Below w.heap.size w w' := by
  have X0 := Below.refl w.heap.size w
  refine enter Try.func25 rfl Try.ntmps25 rfl ?_
  refine w_seq ?_
  refine w_region ?_
  refine t_boxr (by assumption) rfl ?_ rfl rfl
  intro p2 w75 x76 hp2
  replace h := h.below x76
  replace hp := hp.below x76
  have X0 := ext_trans X0 x76
  refine t_boxr (by assumption) rfl ?_ rfl rfl
  intro p3 w77 x78 hp3
  replace h := h.below x78
  replace hp := hp.below x78
  replace hp2 := hp2.below x78
  have X0 := ext_trans X0 x78
  have S := Sep.nil w77
  have B := Below.refl w77.heap.size w77
  have Hb := Nat.le_refl w77.heap.size
  refine t_assign rfl ?_ rfl
  refine t_done ?_
  refine x_seq ?_
  refine w_seq ?_
  refine w_region ?_
  refine t_lda (by assumption) ab_topo sb_topo B rfl ?_ rfl
  intro v5 hv5
  obtain ⟨v5_0, v5_1, rfl, hv5_0, hv5_1⟩ := topo_va hv5
  refine t_lda (by assumption) ab_path sb_path B rfl ?_ rfl
  intro v6 hv6
  obtain ⟨v6_0, rfl, hv6_0⟩ := path_va hv6
  refine t_callx Try.call70 rfl (impl_countSteps _ _ _ _ _ _ (by first | assumption | exact VA.below (by assumption) B | exact topo_mkv (by first | assumption | exact SlR.below (by assumption) B) (by first | assumption | exact SlR.below (by assumption) B)) (by first | assumption | exact VA.below (by assumption) B | exact path_mkv (by first | assumption | exact SlR.below (by assumption) B)) (by omega) (by omega) (by assumption) (by assumption)) ?_ rfl rfl
  intro w79 x80
  have B := bx Hb B x80
  have S := S.below x80
  refine t_assign rfl ?_ rfl
  refine t_done ?_
  refine x_seq ?_
  refine w_ret ?_
  refine x_ret1 rfl rfl ?_
  exact ⟨rfl, ext_trans X0 B⟩
theorem impl_DownSteps (t : Topo) (v : Value) (p : Path) (u : Value) (w : World) (h : VA topoT w v t) (hp : VA pathT w u p) (hz : sz_topo t ≤ 1048576) (hz' : sz_path p ≤ 1048576) (hl : lenOk_path p) (hg : rng_path p) : Calls Try.prog 27 #[v, u] w fun e w' => e = .returned (I (cntK t 2 (pathSteps p) : Int)) ∧ Below w.heap.size w w' := by
  have X0 := Below.refl w.heap.size w
  refine enter Try.func27 rfl Try.ntmps27 rfl ?_
  refine w_seq ?_
  refine w_region ?_
  refine t_boxr (by assumption) rfl ?_ rfl rfl
  intro p2 w81 x82 hp2
  replace h := h.below x82
  replace hp := hp.below x82
  have X0 := ext_trans X0 x82
  refine t_boxr (by assumption) rfl ?_ rfl rfl
  intro p3 w83 x84 hp3
  replace h := h.below x84
  replace hp := hp.below x84
  replace hp2 := hp2.below x84
  have X0 := ext_trans X0 x84
  have S := Sep.nil w83
  have B := Below.refl w83.heap.size w83
  have Hb := Nat.le_refl w83.heap.size
  refine t_assign rfl ?_ rfl
  refine t_done ?_
  refine x_seq ?_
  refine w_seq ?_
  refine w_region ?_
  refine t_lda (by assumption) ab_topo sb_topo B rfl ?_ rfl
  intro v5 hv5
  obtain ⟨v5_0, v5_1, rfl, hv5_0, hv5_1⟩ := topo_va hv5
  refine t_lda (by assumption) ab_path sb_path B rfl ?_ rfl
  intro v6 hv6
  obtain ⟨v6_0, rfl, hv6_0⟩ := path_va hv6
  refine t_callx Try.call70 rfl (impl_countSteps _ _ _ _ _ _ (by first | assumption | exact VA.below (by assumption) B | exact topo_mkv (by first | assumption | exact SlR.below (by assumption) B) (by first | assumption | exact SlR.below (by assumption) B)) (by first | assumption | exact VA.below (by assumption) B | exact path_mkv (by first | assumption | exact SlR.below (by assumption) B)) (by omega) (by omega) (by assumption) (by assumption)) ?_ rfl rfl
  intro w85 x86
  have B := bx Hb B x86
  have S := S.below x86
  refine t_assign rfl ?_ rfl
  refine t_done ?_
  refine x_seq ?_
  refine w_ret ?_
  refine x_ret1 rfl rfl ?_
  exact ⟨rfl, ext_trans X0 B⟩
theorem impl_CoreSteps (t : Topo) (v : Value) (p : Path) (u : Value) (w : World) (h : VA topoT w v t) (hp : VA pathT w u p) (hz : sz_topo t ≤ 1048576) (hz' : sz_path p ≤ 1048576) (hl : lenOk_path p) (hg : rng_path p) : Calls Try.prog 29 #[v, u] w fun e w' => e = .returned (I (cntK t 1 (pathSteps p) : Int)) ∧ Below w.heap.size w w' := by
  have X0 := Below.refl w.heap.size w
  refine enter Try.func29 rfl Try.ntmps29 rfl ?_
  refine w_seq ?_
  refine w_region ?_
  refine t_boxr (by assumption) rfl ?_ rfl rfl
  intro p2 w87 x88 hp2
  replace h := h.below x88
  replace hp := hp.below x88
  have X0 := ext_trans X0 x88
  refine t_boxr (by assumption) rfl ?_ rfl rfl
  intro p3 w89 x90 hp3
  replace h := h.below x90
  replace hp := hp.below x90
  replace hp2 := hp2.below x90
  have X0 := ext_trans X0 x90
  have S := Sep.nil w89
  have B := Below.refl w89.heap.size w89
  have Hb := Nat.le_refl w89.heap.size
  refine t_assign rfl ?_ rfl
  refine t_done ?_
  refine x_seq ?_
  refine w_seq ?_
  refine w_region ?_
  refine t_lda (by assumption) ab_topo sb_topo B rfl ?_ rfl
  intro v5 hv5
  obtain ⟨v5_0, v5_1, rfl, hv5_0, hv5_1⟩ := topo_va hv5
  refine t_lda (by assumption) ab_path sb_path B rfl ?_ rfl
  intro v6 hv6
  obtain ⟨v6_0, rfl, hv6_0⟩ := path_va hv6
  refine t_callx Try.call70 rfl (impl_countSteps _ _ _ _ _ _ (by first | assumption | exact VA.below (by assumption) B | exact topo_mkv (by first | assumption | exact SlR.below (by assumption) B) (by first | assumption | exact SlR.below (by assumption) B)) (by first | assumption | exact VA.below (by assumption) B | exact path_mkv (by first | assumption | exact SlR.below (by assumption) B)) (by omega) (by omega) (by assumption) (by assumption)) ?_ rfl rfl
  intro w91 x92
  have B := bx Hb B x92
  have S := S.below x92
  refine t_assign rfl ?_ rfl
  refine t_done ?_
  refine x_seq ?_
  refine w_ret ?_
  refine x_ret1 rfl rfl ?_
  exact ⟨rfl, ext_trans X0 B⟩
theorem spec_UpSteps (t : Topo) (v : Value) (p : Path) (u : Value) (w : World) (h : VA topoT w v t) (hp : VA pathT w u p) (hz : sz_topo t ≤ 1048576) (hz' : sz_path p ≤ 1048576) (hl : lenOk_path p) (hg : rng_path p) : Calls Try.prog 26 #[v, u] w fun e w' => e = .returned (I (cntK t 3 (pathSteps p) : Int)) ∧ Below w.heap.size w w' := by
  have X0 := Below.refl w.heap.size w
  refine enter Try.func26 rfl Try.ntmps26 rfl ?_
  refine w_seq ?_
  refine w_region ?_
  refine t_boxr (by assumption) rfl ?_ rfl rfl
  intro p2 w93 x94 hp2
  replace h := h.below x94
  replace hp := hp.below x94
  have X0 := ext_trans X0 x94
  refine t_boxr (by assumption) rfl ?_ rfl rfl
  intro p3 w95 x96 hp3
  replace h := h.below x96
  replace hp := hp.below x96
  replace hp2 := hp2.below x96
  have X0 := ext_trans X0 x96
  have S := Sep.nil w95
  have B := Below.refl w95.heap.size w95
  have Hb := Nat.le_refl w95.heap.size
  refine t_assign rfl ?_ rfl
  refine t_done ?_
  refine x_seq ?_
  refine w_seq ?_
  refine w_region ?_
  refine t_lda (by assumption) ab_topo sb_topo B rfl ?_ rfl
  intro v5 hv5
  obtain ⟨v5_0, v5_1, rfl, hv5_0, hv5_1⟩ := topo_va hv5
  refine t_lda (by assumption) ab_path sb_path B rfl ?_ rfl
  intro v6 hv6
  obtain ⟨v6_0, rfl, hv6_0⟩ := path_va hv6
  refine t_callx Try.call71 rfl (spec_l27Out _ _ _ _ _ _ (by first | assumption | exact VA.below (by assumption) B | exact topo_mkv (by first | assumption | exact SlR.below (by assumption) B) (by first | assumption | exact SlR.below (by assumption) B)) (by first | assumption | exact VA.below (by assumption) B | exact path_mkv (by first | assumption | exact SlR.below (by assumption) B)) (by omega) (by omega) (by assumption) (by assumption)) ?_ rfl rfl
  intro w97 x98
  have B := bx Hb B x98
  have S := S.below x98
  refine t_assign rfl ?_ rfl
  refine t_done ?_
  refine x_seq ?_
  refine w_ret ?_
  refine x_ret1 rfl rfl ?_
  exact ⟨rfl, ext_trans X0 B⟩
theorem spec_DownSteps (t : Topo) (v : Value) (p : Path) (u : Value) (w : World) (h : VA topoT w v t) (hp : VA pathT w u p) (hz : sz_topo t ≤ 1048576) (hz' : sz_path p ≤ 1048576) (hl : lenOk_path p) (hg : rng_path p) : Calls Try.prog 28 #[v, u] w fun e w' => e = .returned (I (cntK t 2 (pathSteps p) : Int)) ∧ Below w.heap.size w w' := by
  have X0 := Below.refl w.heap.size w
  refine enter Try.func28 rfl Try.ntmps28 rfl ?_
  refine w_seq ?_
  refine w_region ?_
  refine t_boxr (by assumption) rfl ?_ rfl rfl
  intro p2 w99 x100 hp2
  replace h := h.below x100
  replace hp := hp.below x100
  have X0 := ext_trans X0 x100
  refine t_boxr (by assumption) rfl ?_ rfl rfl
  intro p3 w101 x102 hp3
  replace h := h.below x102
  replace hp := hp.below x102
  replace hp2 := hp2.below x102
  have X0 := ext_trans X0 x102
  have S := Sep.nil w101
  have B := Below.refl w101.heap.size w101
  have Hb := Nat.le_refl w101.heap.size
  refine t_assign rfl ?_ rfl
  refine t_done ?_
  refine x_seq ?_
  refine w_seq ?_
  refine w_region ?_
  refine t_lda (by assumption) ab_topo sb_topo B rfl ?_ rfl
  intro v5 hv5
  obtain ⟨v5_0, v5_1, rfl, hv5_0, hv5_1⟩ := topo_va hv5
  refine t_lda (by assumption) ab_path sb_path B rfl ?_ rfl
  intro v6 hv6
  obtain ⟨v6_0, rfl, hv6_0⟩ := path_va hv6
  refine t_callx Try.call71 rfl (spec_l27Out _ _ _ _ _ _ (by first | assumption | exact VA.below (by assumption) B | exact topo_mkv (by first | assumption | exact SlR.below (by assumption) B) (by first | assumption | exact SlR.below (by assumption) B)) (by first | assumption | exact VA.below (by assumption) B | exact path_mkv (by first | assumption | exact SlR.below (by assumption) B)) (by omega) (by omega) (by assumption) (by assumption)) ?_ rfl rfl
  intro w103 x104
  have B := bx Hb B x104
  have S := S.below x104
  refine t_assign rfl ?_ rfl
  refine t_done ?_
  refine x_seq ?_
  refine w_ret ?_
  refine x_ret1 rfl rfl ?_
  exact ⟨rfl, ext_trans X0 B⟩
theorem spec_CoreSteps (t : Topo) (v : Value) (p : Path) (u : Value) (w : World) (h : VA topoT w v t) (hp : VA pathT w u p) (hz : sz_topo t ≤ 1048576) (hz' : sz_path p ≤ 1048576) (hl : lenOk_path p) (hg : rng_path p) : Calls Try.prog 30 #[v, u] w fun e w' => e = .returned (I (cntK t 1 (pathSteps p) : Int)) ∧ Below w.heap.size w w' := by
  have X0 := Below.refl w.heap.size w
  refine enter Try.func30 rfl Try.ntmps30 rfl ?_
  refine w_seq ?_
  refine w_region ?_
  refine t_boxr (by assumption) rfl ?_ rfl rfl
  intro p2 w105 x106 hp2
  replace h := h.below x106
  replace hp := hp.below x106
  have X0 := ext_trans X0 x106
  refine t_boxr (by assumption) rfl ?_ rfl rfl
  intro p3 w107 x108 hp3
  replace h := h.below x108
  replace hp := hp.below x108
  replace hp2 := hp2.below x108
  have X0 := ext_trans X0 x108
  have S := Sep.nil w107
  have B := Below.refl w107.heap.size w107
  have Hb := Nat.le_refl w107.heap.size
  refine t_assign rfl ?_ rfl
  refine t_done ?_
  refine x_seq ?_
  refine w_seq ?_
  refine w_region ?_
  refine t_lda (by assumption) ab_topo sb_topo B rfl ?_ rfl
  intro v5 hv5
  obtain ⟨v5_0, v5_1, rfl, hv5_0, hv5_1⟩ := topo_va hv5
  refine t_lda (by assumption) ab_path sb_path B rfl ?_ rfl
  intro v6 hv6
  obtain ⟨v6_0, rfl, hv6_0⟩ := path_va hv6
  refine t_callx Try.call71 rfl (spec_l27Out _ _ _ _ _ _ (by first | assumption | exact VA.below (by assumption) B | exact topo_mkv (by first | assumption | exact SlR.below (by assumption) B) (by first | assumption | exact SlR.below (by assumption) B)) (by first | assumption | exact VA.below (by assumption) B | exact path_mkv (by first | assumption | exact SlR.below (by assumption) B)) (by omega) (by omega) (by assumption) (by assumption)) ?_ rfl rfl
  intro w109 x110
  have B := bx Hb B x110
  have S := S.below x110
  refine t_assign rfl ?_ rfl
  refine t_done ?_
  refine x_seq ?_
  refine w_ret ?_
  refine x_ret1 rfl rfl ?_
  exact ⟨rfl, ext_trans X0 B⟩
theorem impl_PathAllowed (t : Topo) (v : Value) (p : Path) (u : Value) (w : World) (h : VA topoT w v t) (hp : VA pathT w u p) (hz : sz_topo t ≤ 1048576) (hz' : sz_path p ≤ 1048576) (hl : lenOk_path p) (hg : rng_path p) : Calls Try.prog 21 #[v, u] w fun e w' => e = .returned (.bool (decide (forbid t (pathSteps p) < 0))) ∧ Below w.heap.size w w' := by
  have X0 := Below.refl w.heap.size w
  refine enter Try.func21 rfl Try.ntmps21 rfl ?_
  refine w_seq ?_
  refine w_region ?_
  refine t_boxr (by assumption) rfl ?_ rfl rfl
  intro p2 w111 x112 hp2
  replace h := h.below x112
  replace hp := hp.below x112
  have X0 := ext_trans X0 x112
  refine t_boxr (by assumption) rfl ?_ rfl rfl
  intro p3 w113 x114 hp3
  replace h := h.below x114
  replace hp := hp.below x114
  replace hp2 := hp2.below x114
  have X0 := ext_trans X0 x114
  have S := Sep.nil w113
  have B := Below.refl w113.heap.size w113
  have Hb := Nat.le_refl w113.heap.size
  refine t_assign rfl ?_ rfl
  refine t_done ?_
  refine x_seq ?_
  refine w_seq ?_
  refine w_region ?_
  refine t_lda (by assumption) ab_topo sb_topo B rfl ?_ rfl
  intro v5 hv5
  obtain ⟨v5_0, v5_1, rfl, hv5_0, hv5_1⟩ := topo_va hv5
  refine t_lda (by assumption) ab_path sb_path B rfl ?_ rfl
  intro v6 hv6
  obtain ⟨v6_0, rfl, hv6_0⟩ := path_va hv6
  refine t_callx Try.call23 rfl (impl_FirstForbiddenStep _ _ _ _ _ (by first | assumption | exact VA.below (by assumption) B | exact topo_mkv (by first | assumption | exact SlR.below (by assumption) B) (by first | assumption | exact SlR.below (by assumption) B)) (by first | assumption | exact VA.below (by assumption) B | exact path_mkv (by first | assumption | exact SlR.below (by assumption) B)) (by omega) (by omega) (by assumption) (by assumption)) ?_ rfl rfl
  intro w115 x116
  have B := bx Hb B x116
  have S := S.below x116
  refine t_lss rfl rfl ?_ rfl
  refine t_assign rfl ?_ rfl
  refine t_done ?_
  refine x_seq ?_
  refine w_ret ?_
  refine x_ret1 rfl rfl ?_
  exact ⟨rfl, ext_trans X0 B⟩
theorem spec_PathAllowed (t : Topo) (v : Value) (p : Path) (u : Value) (w : World) (h : VA topoT w v t) (hp : VA pathT w u p) (hz : sz_topo t ≤ 1048576) (hz' : sz_path p ≤ 1048576) (hl : lenOk_path p) (hg : rng_path p) : Calls Try.prog 22 #[v, u] w fun e w' => e = .returned (.bool (decide (forbid t (pathSteps p) < 0))) ∧ Below w.heap.size w w' := by
  have X0 := Below.refl w.heap.size w
  refine enter Try.func22 rfl Try.ntmps22 rfl ?_
  refine w_seq ?_
  refine w_region ?_
  refine t_boxr (by assumption) rfl ?_ rfl rfl
  intro p2 w117 x118 hp2
  replace h := h.below x118
  replace hp := hp.below x118
  have X0 := ext_trans X0 x118
  refine t_boxr (by assumption) rfl ?_ rfl rfl
  intro p3 w119 x120 hp3
  replace h := h.below x120
  replace hp := hp.below x120
  replace hp2 := hp2.below x120
  have X0 := ext_trans X0 x120
  have S := Sep.nil w119
  have B := Below.refl w119.heap.size w119
  have Hb := Nat.le_refl w119.heap.size
  refine t_assign rfl ?_ rfl
  refine t_done ?_
  refine x_seq ?_
  refine w_seq ?_
  refine w_region ?_
  refine t_lda (by assumption) ab_topo sb_topo B rfl ?_ rfl
  intro v5 hv5
  obtain ⟨v5_0, v5_1, rfl, hv5_0, hv5_1⟩ := topo_va hv5
  refine t_lda (by assumption) ab_path sb_path B rfl ?_ rfl
  intro v6 hv6
  obtain ⟨v6_0, rfl, hv6_0⟩ := path_va hv6
  refine t_callx Try.call24 rfl (spec_FirstForbiddenStep _ _ _ _ _ (by first | assumption | exact VA.below (by assumption) B | exact topo_mkv (by first | assumption | exact SlR.below (by assumption) B) (by first | assumption | exact SlR.below (by assumption) B)) (by first | assumption | exact VA.below (by assumption) B | exact path_mkv (by first | assumption | exact SlR.below (by assumption) B)) (by omega) (by omega) (by assumption) (by assumption)) ?_ rfl rfl
  intro w121 x122
  have B := bx Hb B x122
  have S := S.below x122
  refine t_lss rfl rfl ?_ rfl
  refine t_assign rfl ?_ rfl
  refine t_done ?_
  refine x_seq ?_
  refine w_ret ?_
  refine x_ret1 rfl rfl ?_
  exact ⟨rfl, ext_trans X0 B⟩
end Go.Proofs.Ytdaecknfahgddaa
namespace Go.Proofs.Ytdaecknfahgddaa
open Go.RowKit
set_option linter.unusedVariables false
set_option maxRecDepth 20000
theorem b_seg2 (a b : Int) (w : World) : (Instr.build 107 #[(0, I a), (1, I b)]).run Try.prog w = .ok (.agg #[I a, I b, .slice none 0 0]) w := by kernel_rfl
theorem b_hop4 (a b c d : Int) (w : World) : (Instr.build 74 #[(0, I a), (1, I b), (2, I c), (3, I d)]).run Try.prog w = .ok (.agg #[I a, I b, I c, I d, I 0]) w := by kernel_rfl
def authHop (key ts beta : Int) (h : Hop) : Hop := { h with mac := hopMac key ts beta h }
theorem spec_AuthenticateHop (key ts beta : Int) (x : Hop) (w : World) : Calls Try.prog 124 #[I key, I ts, I beta, .agg #[I x.ia, I x.ing, I x.eg, I x.exp, I x.mac]] w fun e w' => e = .returned (.agg #[I (authHop key ts beta x).ia, I (authHop key ts beta x).ing, I (authHop key ts beta x).eg, I (authHop key ts beta x).exp, I (authHop key ts beta x).mac]) ∧ Below w.heap.size w w' := by
  have X0 := Below.refl w.heap.size w
  refine enter Try.func124 rfl Try.ntmps124 rfl ?_
  have S := Sep.nil w
  have B := Below.refl w.heap.size w
  have Hb := Nat.le_refl w.heap.size
  refine w_seq ?_
  refine w_region ?_
  refine t_boxo S rfl rfl ?_ rfl rfl
  intro g7 w1 x2 S
  have B := bx Hb B x2
  refine t_alloc S z_hop rfl ?_ rfl rfl
  intro g8 w3 x4 S
  have B := bx Hb B x4
  refine t_done ?_
  refine x_seq ?_
  refine w_seq ?_
  refine w_region ?_
  refine t_bxn S.tail.box ab_hop sb_hop rfl rfl ?_ rfl
  refine t_alloc S z_hop rfl ?_ rfl rfl
  intro g9 w5 x6 S
  have B := bx Hb B x6
  refine t_stn S sb_hop rfl rfl rfl rfl (by intro zz hu; have hu : zz ∈ ([I x.ia, I x.ing, I x.eg, I x.exp, I x.mac] : List Value) := hu; simp only [List.mem_cons, List.not_mem_nil, or_false] at hu; rcases hu with rfl | rfl | rfl | rfl | rfl <;> rfl) ?_
  intro w7 b8 S
  have B := B.trans b8
  refine t_done ?_
  refine x_seq ?_
  refine w_seq ?_
  refine w_region ?_
  refine t_move rfl ?_ rfl
  refine t_move rfl ?_ rfl
  refine t_move rfl ?_ rfl
  refine t_bxn S.tail.tail.box ab_hop sb_hop rfl rfl ?_ rfl
  refine t_callx Try.call133 rfl (spec_HopMAC _ _ _ _ _) ?_ rfl rfl
  intro w9 x10
  have B := bx Hb B x10
  have S := S.below x10
  refine t_fldx fb_hop_4 rfl rfl ?_ rfl
  refine t_st1 S sb_int rfl rfl rfl rfl rfl ?_
  intro w11 b12 S
  have B := B.trans b12
  refine t_done ?_
  refine x_seq ?_
  refine w_seq ?_
  refine w_region ?_
  refine t_bxn S.box ab_hop sb_hop rfl rfl ?_ rfl
  have S := S.f1
  refine t_stn S sb_hop rfl rfl rfl rfl (by intro zz hu; have hu : zz ∈ ([I x.ia, I x.ing, I x.eg, I x.exp, I (hopMac key ts beta x)] : List Value) := hu; simp only [List.mem_cons, List.not_mem_nil, or_false] at hu; rcases hu with rfl | rfl | rfl | rfl | rfl <;> rfl) ?_
  intro w13 b14 S
  have B := B.trans b14
  refine t_done ?_
  refine x_seq ?_
  refine w_ret ?_
  refine x_retc rfl rfl S.box ab_hop sb_hop rfl ?_
  exact ⟨rfl, ext_trans X0 B⟩
set_option maxHeartbeats 8000000 in
theorem spec_l9Grow {b n c : Nat} {w : World} {v va vl : Value} {A : List ASd} {L : List Lnk} {os : List Ow} (kd : Int) (T : TopK A L) (S : Sep b w (curO v n c 109 :: slO asnT 121 va A :: slO linkT 78 vl L :: os)) (K : CodeK b w v n) : Calls Try.prog 95 #[.pointer (some ⟨c, 0, none⟩), .agg #[va, vl], I kd] w fun e w' =>
    ∃ (vh : Value) (s : Seg), e = .returned (.agg #[I s.ts, I s.beta, vh]) ∧ SegK ⟨A, L⟩ s ∧ Sep b w' (slO hopT 74 vh s.hops :: curO v n c 109 :: slO asnT 121 va A :: slO linkT 78 vl L :: os) ∧ Below b w w' := by
  have hA1 := T.1.1
  have hA8 := T.1.2.1
  have hL := T.len
  have hK := T.lnk
  have hst : sz_topo (⟨A, L⟩ : Topo) ≤ 500000 := by simp only [sz_topo]; omega
  have X0 := Below.refl w.heap.size w
  refine enter Try.func95 rfl Try.ntmps95 rfl ?_
  have B := Below.refl b w
  have Hb := S.base
  refine w_seq ?_
  refine w_region ?_
  refine t_boxo S rfl rfl ?_ rfl rfl
  intro g4 w15 x16 S
  have B := bx Hb B x16
  refine t_alloc S z_seg rfl ?_ rfl rfl
  intro g6 w17 x18 S
  have B := bx Hb B x18
  refine t_done ?_
  refine x_seq ?_
  refine w_seq ?_
  refine w_region ?_
  refine t_lit (T := intT) (css := []) (l := []) int_flat S bs_int0 rfl rfl rfl rfl (Nat.zero_le _) litR_nil ?_ rfl rfl
  intro u18 w19 x20 S
  have B := bx Hb B x20
  refine t_assign rfl ?_ rfl
  refine t_done ?_
  refine x_seq ?_
  refine w_seq ?_
  refine w_seq ?_
  refine w_region ?_
  refine t_assign rfl ?_ rfl
  refine t_done ?_
  refine x_seq ?_
  refine w_block ?_
  refine w_loop (X := Nat × List Int × Value) (fun x wq => (fun k q vq => k ≤ A.length ∧ (∀ x : Int, x ∈ q → 0 ≤ x ∧ x < A.length) ∧ q.length ≤ k ∧ Below b w wq ∧ Sep b wq (slO intT 3 vq q :: bxO g6 107 #[I 0, I 0, .slice none 0 0] :: bxO g4 27 #[va, vl] :: curO v n c 109 :: slO asnT 121 va A :: slO linkT 78 vl L :: os)) x.1 x.2.1 x.2.2) (fun x => (fun k q vq => [(8, I ((k : Int))), (7, vq), (0, .pointer (some ⟨c, 0, none⟩)), (2, I kd), (4, .pointer (some ⟨g4, 0, none⟩)), (6, .pointer (some ⟨g6, 0, none⟩))]) x.1 x.2.1 x.2.2) (fun x => (fun k q vq => A.length - k) x.1 x.2.1 x.2.2) (0, [], _) ?_ ⟨rfl, rfl, rfl, rfl, rfl, rfl, trivial⟩ ?_
  · exact ⟨by omega, by simp, by simp, B, S⟩
  rintro ⟨k, q, vq⟩ w21 hI
  try dsimp only at hI ⊢
  obtain ⟨hk, hq, hql, B, S⟩ := hI
  refine w_seq ?_
  refine w_seq ?_
  refine w_region ?_
  refine t_move rfl ?_ rfl
  refine t_fldx fb_topo_0 rfl rfl ?_ rfl
  refine t_bx1 S.tail.tail.box ab_s_asn rfl rfl ?_ rfl
  refine t_len e_asn (S.tail.tail.tail.tail.sl) rfl rfl ?_ rfl
  refine t_lss rfl rfl ?_ rfl
  refine t_done ?_
  refine x_seq ?_
  refine w_if rfl ?_ ?_
  · intro hlt
    refine w_skip ?_
    refine x_seq ?_
    refine w_seq ?_
    refine w_block ?_
    refine w_seq ?_
    refine w_region ?_
    refine t_fldx fb_topo_0 rfl rfl ?_ rfl
    refine t_bx1 S.tail.tail.box ab_s_asn rfl rfl ?_ rfl
    refine t_move rfl ?_ rfl
    obtain ⟨e29, he29⟩ : ∃ e, (A)[k]? = some e := getx (by omega)
    refine t_idx e_asn (k := k) (S.tail.tail.tail.tail.sl) he29 (Below.refl _ _) rfl rfl (by first | rfl | omega) ?_ rfl
    intro p29 hp29
    refine t_fld ln_asn_1 (by assumption) fb_asn_1 rfl ?_ rfl
    intro p30 hp30
    refine t_ldb (by assumption) ab_bool (Below.refl _ _) rfl ?_ rfl
    refine t_done ?_
    refine x_seq ?_
    refine w_ifb rfl ?_ ?_
    · intro hc
      refine w_region ?_
      refine t_move rfl ?_ rfl
      refine t_move rfl ?_ rfl
      refine t_lit (T := intT) (l := [(k : Int)]) (css := ([(k : Int)]).map fun a => [I a]) int_flat S (fun w => bs_int1 _ w) rfl rfl rfl rfl (by simp [maxLen]) (litR_int _) ?_ rfl rfl
      intro u34 w22 x23 S
      have B := bx Hb B x23
      have hR := S.sl
      have S := S.f1
      refine t_cat int_flat e_int S hR rfl rfl rfl (by first | omega | (simp [-List.length_flatMap]; omega)) (by (simp [maxLen, -List.length_flatMap]; try omega)) ?_ rfl
      intro v35 w24 x25 S
      have B := B.trans x25
      clear hR
      have S := S.f1
      have S := S.tail
      refine t_assign rfl ?_ rfl
      refine t_done ?_
      refine x_block_normal ?_
      refine x_seq ?_
      refine w_region ?_
      refine t_move rfl ?_ rfl
      refine t_add rfl rfl (by omega) ?_ rfl
      refine t_assign rfl ?_ rfl
      refine t_done ?_
      refine x_round (X := Nat × List Int × Value) (I := (fun x wq => (fun k q vq => k ≤ A.length ∧ (∀ x : Int, x ∈ q → 0 ≤ x ∧ x < A.length) ∧ q.length ≤ k ∧ Below b w wq ∧ Sep b wq (slO intT 3 vq q :: bxO g6 107 #[I 0, I 0, .slice none 0 0] :: bxO g4 27 #[va, vl] :: curO v n c 109 :: slO asnT 121 va A :: slO linkT 78 vl L :: os)) x.1 x.2.1 x.2.2)) (F := (fun x => (fun k q vq => [(8, I ((k : Int))), (7, vq), (0, .pointer (some ⟨c, 0, none⟩)), (2, I kd), (4, .pointer (some ⟨g4, 0, none⟩)), (6, .pointer (some ⟨g6, 0, none⟩))]) x.1 x.2.1 x.2.2)) (μ := (fun x => (fun k q vq => A.length - k) x.1 x.2.1 x.2.2)) (k + 1, q ++ [(k : Int)], v35) ?_ (by exact ⟨rfl, rfl, rfl, rfl, rfl, rfl, trivial⟩) (by (try dsimp only); omega)
      try dsimp only
      refine ⟨by omega, fun x hx => ?_, by rw [List.length_append, List.length_singleton]; omega, B, S⟩
      rw [List.mem_append, List.mem_singleton] at hx
      rcases hx with hx | rfl
      · exact hq x hx
      · omega
    · intro hc
      refine w_skip ?_
      refine x_block_normal ?_
      refine x_seq ?_
      refine w_region ?_
      refine t_move rfl ?_ rfl
      refine t_add rfl rfl (by omega) ?_ rfl
      refine t_assign rfl ?_ rfl
      refine t_done ?_
      refine x_round (X := Nat × List Int × Value) (I := (fun x wq => (fun k q vq => k ≤ A.length ∧ (∀ x : Int, x ∈ q → 0 ≤ x ∧ x < A.length) ∧ q.length ≤ k ∧ Below b w wq ∧ Sep b wq (slO intT 3 vq q :: bxO g6 107 #[I 0, I 0, .slice none 0 0] :: bxO g4 27 #[va, vl] :: curO v n c 109 :: slO asnT 121 va A :: slO linkT 78 vl L :: os)) x.1 x.2.1 x.2.2)) (F := (fun x => (fun k q vq => [(8, I ((k : Int))), (7, vq), (0, .pointer (some ⟨c, 0, none⟩)), (2, I kd), (4, .pointer (some ⟨g4, 0, none⟩)), (6, .pointer (some ⟨g6, 0, none⟩))]) x.1 x.2.1 x.2.2)) (μ := (fun x => (fun k q vq => A.length - k) x.1 x.2.1 x.2.2)) (k + 1, q, vq) ?_ (by exact ⟨rfl, rfl, rfl, rfl, rfl, rfl, trivial⟩) (by (try dsimp only); omega)
      try dsimp only
      exact ⟨by omega, hq, by omega, B, S⟩
  · intro hge
    refine w_exit ?_
    refine x_then_exit ?_
    refine x_then_exit ?_
    refine x_block_exit ?_
    refine x_seq ?_
    refine w_seq ?_
    refine w_region ?_
    refine t_move rfl ?_ rfl
    have S := S.f3
    refine t_callf Try.call64 rfl (spec_l1Below 50 S (K.below B)) ?_ rfl
    rintro e w26 ⟨y37, rfl, hf37, S, x27⟩
    refine ⟨_, rfl, ?_⟩
    have B := B.trans x27
    refine t_move rfl ?_ rfl
    refine t_callf Try.call64 rfl (spec_l1Below 1000000 S (K.below B)) ?_ rfl
    rintro e w28 ⟨y39, rfl, hf39, S, x29⟩
    refine ⟨_, rfl, ?_⟩
    have B := B.trans x29
    refine t_build (fun w => b_seg2 _ _ w) rfl ?_ rfl
    refine t_alloc S z_seg rfl ?_ rfl rfl
    intro g9 w30 x31 S
    have B := bx Hb B x31
    refine t_stn S sb_seg rfl rfl rfl rfl (by simp [Value.oneCell']) ?_
    intro w32 b33 S
    have B := B.trans b33
    refine t_done ?_
    refine x_seq ?_
    refine w_seq ?_
    refine w_seq ?_
    refine w_region ?_
    refine t_move rfl ?_ rfl
    refine t_len e_int (S.tail.tail.sl) rfl rfl ?_ rfl
    refine t_eql rfl rfl ?_ rfl
    refine t_done ?_
    refine x_seq ?_
    refine w_if rfl ?_ ?_
    · intro h0
      refine w_seq ?_
      refine w_region ?_
      refine t_bxn S.box ab_seg sb_seg rfl rfl ?_ rfl
      have S := S.f3
      refine t_stn S sb_seg rfl rfl rfl rfl (by simp [Value.oneCell']) ?_
      intro w34 b35 S
      have B := B.trans b35
      refine t_done ?_
      refine x_seq ?_
      refine w_ret ?_
      refine x_then_ret ?_
      refine x_retc rfl rfl S.box ab_seg sb_seg rfl ?_
      have S := S.tail
      have S := S.tail
      have S := S.f1
      have S := S.tail
      have S := S.f1
      have S := S.tail
      have S := S.f2
      have S := S.f2
      have S := S.f2
      have S := Sep.addNil (T := hopT) (e := 74) S
      exact ⟨_, ⟨y37, y39, []⟩, rfl, SealK.nil.seg (by omega) (by omega) (by omega) (by omega) (by simp), S, B⟩
    · intro h0
      refine w_skip ?_
      refine x_seq ?_
      refine w_seq ?_
      refine w_region ?_
      refine t_move rfl ?_ rfl
      refine t_move rfl ?_ rfl
      refine t_move rfl ?_ rfl
      refine t_len e_int (S.tail.tail.sl) rfl rfl ?_ rfl
      have S := S.f1
      refine t_callf Try.call64 rfl (spec_l1Below (q.length : Int) S (K.below B)) ?_ rfl
      rintro e w36 ⟨y49, rfl, hf49, S, x37⟩
      refine ⟨_, rfl, ?_⟩
      have B := B.trans x37
      obtain ⟨e50, he50⟩ : ∃ e, (q)[y49.toNat]? = some e := getx (by omega)
      refine t_idx e_int (k := y49.toNat) (S.tail.tail.sl) he50 (Below.refl _ _) rfl rfl (by first | rfl | omega) ?_ rfl
      intro p50 hp50
      refine t_ldi (by assumption) ab_int (Below.refl _ _) rfl ?_ rfl
      refine t_assign rfl ?_ rfl
      refine t_done ?_
      refine x_seq ?_
      refine w_seq ?_
      refine w_region ?_
      refine t_assign rfl ?_ rfl
      refine t_done ?_
      refine x_seq ?_
      refine w_seq ?_
      refine w_seq ?_
      refine w_region ?_
      refine t_assign rfl ?_ rfl
      refine t_done ?_
      refine x_seq ?_
      refine w_block ?_
      have hr0 := hq e50 (List.mem_of_getElem? he50)
      clear hge hk h0
      have S := Sep.addNil (T := hopT) (e := 74) S
      have S := S.f7
      have S := S.f7
      have S := S.f3
      have S := S.f7
      have S := S.f7
      have S := S.f7
      have S := S.f7
      have S := S.f7
      refine w_loop (X := Nat × Int × Int × List Hop × Value) (fun x wq => (fun k r i hs vh => k ≤ 5 ∧ (0 ≤ r ∧ r < (A.length : Int)) ∧ (0 ≤ i ∧ i ≤ 6) ∧ List.length hs ≤ k ∧ SealK ⟨A, L⟩ y37 y39 hs ∧ Below b w wq ∧ Sep b wq (slO hopT 74 vh hs :: bxO g9 107 #[I y37, I y39, vh] :: slO intT 3 vq q :: bxO g6 107 #[I 0, I 0, .slice none 0 0] :: bxO g4 27 #[va, vl] :: curO v n c 109 :: slO asnT 121 va A :: slO linkT 78 vl L :: os)) x.1 x.2.1 x.2.2.1 x.2.2.2.1 x.2.2.2.2) (fun x => (fun k r i hs vh => [(12, I ((k : Int))), (10, I r), (11, I i), (0, .pointer (some ⟨c, 0, none⟩)), (2, I kd), (4, .pointer (some ⟨g4, 0, none⟩)), (6, .pointer (some ⟨g6, 0, none⟩)), (9, .pointer (some ⟨g9, 0, none⟩))]) x.1 x.2.1 x.2.2.1 x.2.2.2.1 x.2.2.2.2) (fun x => (fun k r i hs vh => 5 - k) x.1 x.2.1 x.2.2.1 x.2.2.2.1 x.2.2.2.2) (0, e50, 0, [], .slice none 0 0) ?_ ⟨rfl, rfl, rfl, rfl, rfl, rfl, rfl, rfl, trivial⟩ ?_
      · exact ⟨by omega, hr0, by dsimp only; omega, by simp, .nil, B, S⟩
      rintro ⟨k, r, i, hs, vh⟩ w38 hI
      try dsimp only at hI ⊢
      obtain ⟨hk, hr, hi, hhl, hS, B, S⟩ := hI
      refine w_seq ?_
      refine w_seq ?_
      refine w_region ?_
      refine t_move rfl ?_ rfl
      refine t_lss rfl rfl ?_ rfl
      refine t_done ?_
      refine x_seq ?_
      refine w_if rfl ?_ ?_
      · intro hlt
        have hsl : (⟨y37, y39, hs⟩ : Seg).hops.length ≤ 5 := (show hs.length ≤ 5 by omega)
        refine w_skip ?_
        refine x_seq ?_
        refine w_seq ?_
        refine w_block ?_
        refine w_seq ?_
        refine w_region ?_
        refine t_assign rfl ?_ rfl
        refine t_done ?_
        refine x_seq ?_
        refine w_seq ?_
        refine w_region ?_
        refine t_bxn S.tail.tail.tail.tail.box ab_topo sb_topo rfl rfl ?_ rfl
        refine t_move rfl ?_ rfl
        refine t_move rfl ?_ rfl
        refine t_call Try.call122 rfl (spec_InterfacesOfKind _ _ _ _ _ (topo_mkv (S.tail.tail.tail.tail.tail.tail.sl) (S.tail.tail.tail.tail.tail.tail.tail.sl)) (by assumption)) ?_ rfl rfl
        rintro e w39 ⟨v59, fpv59, rfl, hOv59, x40⟩
        refine ⟨_, rfl, x40, ?_⟩
        have S := S.add (o := slO _ _ _ _) x40 hOv59
        have B := bx Hb B x40
        refine t_assign rfl ?_ rfl
        refine t_done ?_
        refine x_seq ?_
        refine w_seq ?_
        refine w_cut (X := Int) (fun o wq => (o = 0 ∨ o ∈ ifsK ⟨A, L⟩ r kd) ∧ Below b w wq ∧ Sep b wq (slO intT 3 v59 (ifsK ⟨A, L⟩ r kd) :: slO hopT 74 vh hs :: bxO g9 107 #[I y37, I y39, vh] :: slO intT 3 vq q :: bxO g6 107 #[I 0, I 0, .slice none 0 0] :: bxO g4 27 #[va, vl] :: curO v n c 109 :: slO asnT 121 va A :: slO linkT 78 vl L :: os)) (fun o => [(13, I o), (12, I ((k : Int))), (10, I r), (11, I i), (0, .pointer (some ⟨c, 0, none⟩)), (2, I kd), (4, .pointer (some ⟨g4, 0, none⟩)), (6, .pointer (some ⟨g6, 0, none⟩)), (9, .pointer (some ⟨g9, 0, none⟩))]) ?_ ?_
        · refine w_seq ?_
          refine w_region ?_
          refine t_move rfl ?_ rfl
          refine t_len e_int (S.sl) rfl rfl ?_ rfl
          refine t_gtr rfl rfl ?_ rfl
          refine t_move rfl ?_ rfl
          refine t_partp (t := 63) rfl ?_ ?_
          · intro hp1
            refine t_on rfl rfl ?_
            refine t_move rfl ?_ rfl
            refine t_on rfl rfl ?_
            have S := S.f6
            refine t_callf Try.call116 rfl (spec_l1Once 5 S (K.below B)) ?_ rfl
            rintro e w41 ⟨y65, rfl, hf65, S, x42⟩
            refine ⟨_, rfl, ?_⟩
            have B := B.trans x42
            refine t_on rfl rfl ?_
            refine t_not rfl ?_ rfl
            refine t_pickt rfl rfl ?_ rfl
            refine t_done ?_
            refine x_seq ?_
            refine w_if rfl ?_ ?_
            · intro ho
              refine w_region ?_
              refine t_move rfl ?_ rfl
              refine t_move rfl ?_ rfl
              refine t_move rfl ?_ rfl
              refine t_len e_int (S.tail.sl) rfl rfl ?_ rfl
              refine t_callf Try.call64 rfl (spec_l1Below ((((ifsK (⟨A, L⟩ : Topo) r kd)).length : Int)) S (K.below B)) ?_ rfl
              rintro e w43 ⟨y72, rfl, hf72, S, x44⟩
              refine ⟨_, rfl, ?_⟩
              have B := B.trans x44
              obtain ⟨e73, he73⟩ : ∃ e, ((ifsK (⟨A, L⟩ : Topo) r kd))[y72.toNat]? = some e := getx (by omega)
              refine t_idx e_int (k := y72.toNat) (S.tail.sl) he73 (Below.refl _ _) rfl rfl (by first | rfl | omega) ?_ rfl
              intro p73 hp73
              refine t_ldi (by assumption) ab_int (Below.refl _ _) rfl ?_ rfl
              refine t_assign rfl ?_ rfl
              refine t_done ?_
              have S := S.f8
              have S := S.f8
              have S := S.f2
              have S := S.f8
              have S := S.f8
              have S := S.f8
              have S := S.f8
              have S := S.f8
              have S := S.f8
              refine x_cut (X := Int) (I := (fun o wq => (o = 0 ∨ o ∈ ifsK ⟨A, L⟩ r kd) ∧ Below b w wq ∧ Sep b wq (slO intT 3 v59 (ifsK ⟨A, L⟩ r kd) :: slO hopT 74 vh hs :: bxO g9 107 #[I y37, I y39, vh] :: slO intT 3 vq q :: bxO g6 107 #[I 0, I 0, .slice none 0 0] :: bxO g4 27 #[va, vl] :: curO v n c 109 :: slO asnT 121 va A :: slO linkT 78 vl L :: os))) (F := (fun o => [(13, I o), (12, I ((k : Int))), (10, I r), (11, I i), (0, .pointer (some ⟨c, 0, none⟩)), (2, I kd), (4, .pointer (some ⟨g4, 0, none⟩)), (6, .pointer (some ⟨g6, 0, none⟩)), (9, .pointer (some ⟨g9, 0, none⟩))])) (e73) ?_ (by exact ⟨rfl, rfl, rfl, rfl, rfl, rfl, rfl, rfl, rfl, trivial⟩)
              try dsimp only
              exact ⟨.inr (List.mem_of_getElem? he73), B, S⟩
            · intro ho
              refine w_skip ?_
              have S := S.f8
              have S := S.f8
              have S := S.f2
              have S := S.f8
              have S := S.f8
              have S := S.f8
              have S := S.f8
              have S := S.f8
              have S := S.f8
              refine x_cut (X := Int) (I := (fun o wq => (o = 0 ∨ o ∈ ifsK ⟨A, L⟩ r kd) ∧ Below b w wq ∧ Sep b wq (slO intT 3 v59 (ifsK ⟨A, L⟩ r kd) :: slO hopT 74 vh hs :: bxO g9 107 #[I y37, I y39, vh] :: slO intT 3 vq q :: bxO g6 107 #[I 0, I 0, .slice none 0 0] :: bxO g4 27 #[va, vl] :: curO v n c 109 :: slO asnT 121 va A :: slO linkT 78 vl L :: os))) (F := (fun o => [(13, I o), (12, I ((k : Int))), (10, I r), (11, I i), (0, .pointer (some ⟨c, 0, none⟩)), (2, I kd), (4, .pointer (some ⟨g4, 0, none⟩)), (6, .pointer (some ⟨g6, 0, none⟩)), (9, .pointer (some ⟨g9, 0, none⟩))])) (0) ?_ (by exact ⟨rfl, rfl, rfl, rfl, rfl, rfl, rfl, rfl, rfl, trivial⟩)
              try dsimp only
              exact ⟨.inl rfl, B, S⟩
          · intro hp1
            refine t_off rfl rfl rfl ?_ rfl
            refine t_off rfl rfl rfl ?_ rfl
            refine t_off rfl rfl rfl ?_ rfl
            refine t_pickf rfl rfl ?_ rfl
            refine t_done ?_
            refine x_seq ?_
            refine w_no rfl ?_
            refine w_skip ?_
            refine x_cut (X := Int) (I := (fun o wq => (o = 0 ∨ o ∈ ifsK ⟨A, L⟩ r kd) ∧ Below b w wq ∧ Sep b wq (slO intT 3 v59 (ifsK ⟨A, L⟩ r kd) :: slO hopT 74 vh hs :: bxO g9 107 #[I y37, I y39, vh] :: slO intT 3 vq q :: bxO g6 107 #[I 0, I 0, .slice none 0 0] :: bxO g4 27 #[va, vl] :: curO v n c 109 :: slO asnT 121 va A :: slO linkT 78 vl L :: os))) (F := (fun o => [(13, I o), (12, I ((k : Int))), (10, I r), (11, I i), (0, .pointer (some ⟨c, 0, none⟩)), (2, I kd), (4, .pointer (some ⟨g4, 0, none⟩)), (6, .pointer (some ⟨g6, 0, none⟩)), (9, .pointer (some ⟨g9, 0, none⟩))])) (0) ?_ (by exact ⟨rfl, rfl, rfl, rfl, rfl, rfl, rfl, rfl, rfl, trivial⟩)
            try dsimp only
            exact ⟨.inl rfl, B, S⟩
        rintro o w45 hI
        try dsimp only at hI ⊢
        obtain ⟨ho, B, S⟩ := hI
        have hor : 0 ≤ o ∧ o ≤ 6 := by
          rcases ho with rfl | ho
          · omega
          · have := (ifsK_in hK ho).2; omega
        have hrem : o ≠ 0 → (0 ≤ (remote ⟨A, L⟩ r o).1 ∧ (remote ⟨A, L⟩ r o).1 < A.length) ∧ 1 ≤ (remote ⟨A, L⟩ r o).2 ∧ (remote ⟨A, L⟩ r o).2 ≤ 6 := fun hz => by
          rcases ho with rfl | ho
          · omega
          · exact remote_in hK (ifsK_in hK ho).1
        refine w_seq ?_
        refine w_region ?_
        refine t_bxn S.tail.tail.tail.tail.tail.box ab_topo sb_topo rfl rfl ?_ rfl
        refine t_move rfl ?_ rfl
        refine t_move rfl ?_ rfl
        refine t_callx Try.call105 rfl (spec_RemoteEnd (⟨A, L⟩ : Topo) _ _ _ _ (topo_mkv (S.tail.tail.tail.tail.tail.tail.tail.sl) (S.tail.tail.tail.tail.tail.tail.tail.tail.sl)) (by omega)) ?_ rfl rfl
        intro w46 x47
        have B := bx Hb B x47
        have S := S.below x47
        refine t_move rfl ?_ rfl
        refine t_extract rfl rfl ?_ rfl
        refine t_extract rfl rfl ?_ rfl
        refine t_assign rfl ?_ rfl
        refine t_assign rfl ?_ rfl
        refine t_done ?_
        refine x_seq ?_
        refine w_seq ?_
        refine w_cut (X := Int) (fun z wq => (z = 0 ∨ z = o) ∧ i ≠ z ∧ Below b w wq ∧ Sep b wq (slO hopT 74 vh hs :: bxO g9 107 #[I y37, I y39, vh] :: slO intT 3 vq q :: bxO g6 107 #[I 0, I 0, .slice none 0 0] :: bxO g4 27 #[va, vl] :: curO v n c 109 :: slO asnT 121 va A :: slO linkT 78 vl L :: os)) (fun z => [(13, I z), (12, I ((k : Int))), (10, I r), (11, I i), (0, .pointer (some ⟨c, 0, none⟩)), (2, I kd), (4, .pointer (some ⟨g4, 0, none⟩)), (6, .pointer (some ⟨g6, 0, none⟩)), (9, .pointer (some ⟨g9, 0, none⟩)), (15, I ((remote (⟨A, L⟩ : Topo) r o).1)), (16, I ((remote (⟨A, L⟩ : Topo) r o).2))]) ?_ ?_
        · refine w_seq ?_
          refine w_region ?_
          refine t_move rfl ?_ rfl
          refine t_neq rfl rfl ?_ rfl
          refine t_move rfl ?_ rfl
          refine t_partp (t := 84) rfl ?_ ?_
          · intro hc1
            refine t_on rfl rfl ?_
            refine t_bxn S.tail.tail.box ab_seg sb_seg rfl rfl ?_ rfl
            refine t_on rfl rfl ?_
            refine t_call Try.call123 rfl (spec_SegmentASes (⟨y37, y39, hs⟩ : Seg) _ _ (seg_mkv (x := (⟨y37, y39, hs⟩ : Seg)) (S.tail.sl)) (by (try dsimp only); omega)) ?_ rfl rfl
            rintro e w48 ⟨v86, fpv86, rfl, hOv86, x49⟩
            refine ⟨_, rfl, x49, ?_⟩
            have S := S.add (o := slO _ _ _ _) x49 hOv86
            have B := bx Hb B x49
            refine t_on rfl rfl ?_
            refine t_move rfl ?_ rfl
            refine t_on rfl rfl ?_
            refine t_calls Try.call104 rfl (spec_l9Has _ _ _ _ (S.sl) (by (try rw [List.length_take]); (try rw [List.length_map]); omega)) ?_ rfl rfl
            refine t_on rfl rfl ?_
            refine t_move rfl ?_ rfl
            refine t_part (t := 89) rfl ?_ ?_
            · intro hc2
              refine t_off rfl rfl rfl ?_ rfl
              refine t_off rfl rfl rfl ?_ rfl
              refine t_off rfl rfl rfl ?_ rfl
              refine t_on rfl rfl ?_
              refine t_pickt rfl rfl ?_ rfl
              refine t_pickt rfl rfl ?_ rfl
              refine t_move rfl ?_ rfl
              refine t_off rfl rfl rfl ?_ rfl
              refine t_off rfl rfl rfl ?_ rfl
              refine t_off rfl rfl rfl ?_ rfl
              refine t_pickt rfl rfl ?_ rfl
              refine t_done ?_
              refine x_seq ?_
              refine w_yes rfl ?_
              refine w_seq ?_
              refine w_seq ?_
              refine w_region ?_
              refine t_move rfl ?_ rfl
              refine t_eql rfl rfl ?_ rfl
              refine t_done ?_
              refine x_seq ?_
              refine w_if rfl ?_ ?_
              · intro hc3
                refine w_seq ?_
                refine w_region ?_
                refine t_bxn S.tail.tail.tail.box ab_seg sb_seg rfl rfl ?_ rfl
                have S := S.f5
                refine t_stn S sb_seg rfl rfl rfl rfl (by intro zz hu; have hu : zz ∈ ([I y37, I y39, vh] : List Value) := hu; simp only [List.mem_cons, List.not_mem_nil, or_false] at hu; rcases hu with rfl | rfl | rfl <;> first | rfl | exact (SlR.cells (by first | assumption | exact S.tail.sl | exact S.tail.tail.sl | exact S.tail.tail.tail.sl | exact S.tail.tail.tail.tail.sl | exact S.tail.tail.tail.tail.tail.sl | exact S.tail.tail.tail.tail.tail.tail.sl | exact S.tail.tail.tail.tail.tail.tail.tail.sl | exact S.tail.tail.tail.tail.tail.tail.tail.tail.sl)).2) ?_
                intro w50 b51 S
                have B := B.trans b51
                refine t_done ?_
                refine x_seq ?_
                refine w_ret ?_
                refine x_then_ret ?_
                refine x_then_ret ?_
                refine x_block_ret ?_
                refine x_then_ret ?_
                refine x_then_ret ?_
                refine x_block_ret ?_
                refine x_then_ret ?_
                refine x_retc rfl rfl S.box ab_seg sb_seg rfl ?_
                have S := S.tail
                have S := S.tail
                have S := S.tail
                have S := S.f1
                have S := S.tail
                have S := S.f1
                have S := S.tail
                have S := S.f1
                have S := S.tail
                have S := S.f3
                have S := S.f3
                have S := S.f3
                have S := S.f3
                exact ⟨_, ⟨y37, y39, hs⟩, rfl, hS.seg (by omega) (by omega) (by omega) (by omega) (by omega), S, B⟩
              · intro hc4
                refine w_skip ?_
                refine x_seq ?_
                refine w_region ?_
                refine t_assign rfl ?_ rfl
                refine t_done ?_
                have S := S.tail
                have S := S.tail
                refine x_cut (X := Int) (I := (fun z wq => (z = 0 ∨ z = o) ∧ i ≠ z ∧ Below b w wq ∧ Sep b wq (slO hopT 74 vh hs :: bxO g9 107 #[I y37, I y39, vh] :: slO intT 3 vq q :: bxO g6 107 #[I 0, I 0, .slice none 0 0] :: bxO g4 27 #[va, vl] :: curO v n c 109 :: slO asnT 121 va A :: slO linkT 78 vl L :: os))) (F := (fun z => [(13, I z), (12, I ((k : Int))), (10, I r), (11, I i), (0, .pointer (some ⟨c, 0, none⟩)), (2, I kd), (4, .pointer (some ⟨g4, 0, none⟩)), (6, .pointer (some ⟨g6, 0, none⟩)), (9, .pointer (some ⟨g9, 0, none⟩)), (15, I ((remote (⟨A, L⟩ : Topo) r o).1)), (16, I ((remote (⟨A, L⟩ : Topo) r o).2))])) (0) ?_ (by exact ⟨rfl, rfl, rfl, rfl, rfl, rfl, rfl, rfl, rfl, rfl, rfl, trivial⟩)
                try dsimp only
                exact ⟨by omega, by omega, B, S⟩
            · intro hc5
              refine t_on rfl rfl ?_
              refine t_move rfl ?_ rfl
              refine t_on rfl rfl ?_
              refine t_move rfl ?_ rfl
              refine t_on rfl rfl ?_
              refine t_eql rfl rfl ?_ rfl
              refine t_on rfl rfl ?_
              refine t_pickf rfl rfl ?_ rfl
              refine t_pickt rfl rfl ?_ rfl
              refine t_move rfl ?_ rfl
              refine t_partp (t := 95) rfl ?_ ?_
              · intro hc6
                refine t_off rfl rfl rfl ?_ rfl
                refine t_off rfl rfl rfl ?_ rfl
                refine t_off rfl rfl rfl ?_ rfl
                refine t_pickt rfl rfl ?_ rfl
                refine t_done ?_
                refine x_seq ?_
                refine w_yes rfl ?_
                refine w_seq ?_
                refine w_seq ?_
                refine w_region ?_
                refine t_move rfl ?_ rfl
                refine t_eql rfl rfl ?_ rfl
                refine t_done ?_
                refine x_seq ?_
                refine w_if rfl ?_ ?_
                · intro hc7
                  refine w_seq ?_
                  refine w_region ?_
                  refine t_bxn S.tail.tail.tail.box ab_seg sb_seg rfl rfl ?_ rfl
                  have S := S.f5
                  refine t_stn S sb_seg rfl rfl rfl rfl (by intro zz hu; have hu : zz ∈ ([I y37, I y39, vh] : List Value) := hu; simp only [List.mem_cons, List.not_mem_nil, or_false] at hu; rcases hu with rfl | rfl | rfl <;> first | rfl | exact (SlR.cells (by first | assumption | exact S.tail.sl | exact S.tail.tail.sl | exact S.tail.tail.tail.sl | exact S.tail.tail.tail.tail.sl | exact S.tail.tail.tail.tail.tail.sl | exact S.tail.tail.tail.tail.tail.tail.sl | exact S.tail.tail.tail.tail.tail.tail.tail.sl | exact S.tail.tail.tail.tail.tail.tail.tail.tail.sl)).2) ?_
                  intro w52 b53 S
                  have B := B.trans b53
                  refine t_done ?_
                  refine x_seq ?_
                  refine w_ret ?_
                  refine x_then_ret ?_
                  refine x_then_ret ?_
                  refine x_block_ret ?_
                  refine x_then_ret ?_
                  refine x_then_ret ?_
                  refine x_block_ret ?_
                  refine x_then_ret ?_
                  refine x_retc rfl rfl S.box ab_seg sb_seg rfl ?_
                  have S := S.tail
                  have S := S.tail
                  have S := S.tail
                  have S := S.f1
                  have S := S.tail
                  have S := S.f1
                  have S := S.tail
                  have S := S.f1
                  have S := S.tail
                  have S := S.f3
                  have S := S.f3
                  have S := S.f3
                  have S := S.f3
                  exact ⟨_, ⟨y37, y39, hs⟩, rfl, hS.seg (by omega) (by omega) (by omega) (by omega) (by omega), S, B⟩
                · intro hc8
                  refine w_skip ?_
                  refine x_seq ?_
                  refine w_region ?_
                  refine t_assign rfl ?_ rfl
                  refine t_done ?_
                  have S := S.tail
                  have S := S.tail
                  refine x_cut (X := Int) (I := (fun z wq => (z = 0 ∨ z = o) ∧ i ≠ z ∧ Below b w wq ∧ Sep b wq (slO hopT 74 vh hs :: bxO g9 107 #[I y37, I y39, vh] :: slO intT 3 vq q :: bxO g6 107 #[I 0, I 0, .slice none 0 0] :: bxO g4 27 #[va, vl] :: curO v n c 109 :: slO asnT 121 va A :: slO linkT 78 vl L :: os))) (F := (fun z => [(13, I z), (12, I ((k : Int))), (10, I r), (11, I i), (0, .pointer (some ⟨c, 0, none⟩)), (2, I kd), (4, .pointer (some ⟨g4, 0, none⟩)), (6, .pointer (some ⟨g6, 0, none⟩)), (9, .pointer (some ⟨g9, 0, none⟩)), (15, I ((remote (⟨A, L⟩ : Topo) r o).1)), (16, I ((remote (⟨A, L⟩ : Topo) r o).2))])) (0) ?_ (by exact ⟨rfl, rfl, rfl, rfl, rfl, rfl, rfl, rfl, rfl, rfl, rfl, trivial⟩)
                  try dsimp only
                  exact ⟨by omega, by omega, B, S⟩
              · intro hc9
                refine t_on rfl rfl ?_
                refine t_move rfl ?_ rfl
                refine t_on rfl rfl ?_
                refine t_move rfl ?_ rfl
                refine t_on rfl rfl ?_
                refine t_eql rfl rfl ?_ rfl
                refine t_pickf rfl rfl ?_ rfl
                refine t_done ?_
                refine x_seq ?_
                refine w_if rfl ?_ ?_
                · intro hc10
                  refine w_seq ?_
                  refine w_seq ?_
                  refine w_region ?_
                  refine t_move rfl ?_ rfl
                  refine t_eql rfl rfl ?_ rfl
                  refine t_done ?_
                  refine x_seq ?_
                  refine w_if rfl ?_ ?_
                  · intro hc11
                    refine w_seq ?_
                    refine w_region ?_
                    refine t_bxn S.tail.tail.tail.box ab_seg sb_seg rfl rfl ?_ rfl
                    have S := S.f5
                    refine t_stn S sb_seg rfl rfl rfl rfl (by intro zz hu; have hu : zz ∈ ([I y37, I y39, vh] : List Value) := hu; simp only [List.mem_cons, List.not_mem_nil, or_false] at hu; rcases hu with rfl | rfl | rfl <;> first | rfl | exact (SlR.cells (by first | assumption | exact S.tail.sl | exact S.tail.tail.sl | exact S.tail.tail.tail.sl | exact S.tail.tail.tail.tail.sl | exact S.tail.tail.tail.tail.tail.sl | exact S.tail.tail.tail.tail.tail.tail.sl | exact S.tail.tail.tail.tail.tail.tail.tail.sl | exact S.tail.tail.tail.tail.tail.tail.tail.tail.sl)).2) ?_
                    intro w54 b55 S
                    have B := B.trans b55
                    refine t_done ?_
                    refine x_seq ?_
                    refine w_ret ?_
                    refine x_then_ret ?_
                    refine x_then_ret ?_
                    refine x_block_ret ?_
                    refine x_then_ret ?_
                    refine x_then_ret ?_
                    refine x_block_ret ?_
                    refine x_then_ret ?_
                    refine x_retc rfl rfl S.box ab_seg sb_seg rfl ?_
                    have S := S.tail
                    have S := S.tail
                    have S := S.tail
                    have S := S.f1
                    have S := S.tail
                    have S := S.f1
                    have S := S.tail
                    have S := S.f1
                    have S := S.tail
                    have S := S.f3
                    have S := S.f3
                    have S := S.f3
                    have S := S.f3
                    exact ⟨_, ⟨y37, y39, hs⟩, rfl, hS.seg (by omega) (by omega) (by omega) (by omega) (by omega), S, B⟩
                  · intro hc12
                    refine w_skip ?_
                    refine x_seq ?_
                    refine w_region ?_
                    refine t_assign rfl ?_ rfl
                    refine t_done ?_
                    have S := S.tail
                    have S := S.tail
                    refine x_cut (X := Int) (I := (fun z wq => (z = 0 ∨ z = o) ∧ i ≠ z ∧ Below b w wq ∧ Sep b wq (slO hopT 74 vh hs :: bxO g9 107 #[I y37, I y39, vh] :: slO intT 3 vq q :: bxO g6 107 #[I 0, I 0, .slice none 0 0] :: bxO g4 27 #[va, vl] :: curO v n c 109 :: slO asnT 121 va A :: slO linkT 78 vl L :: os))) (F := (fun z => [(13, I z), (12, I ((k : Int))), (10, I r), (11, I i), (0, .pointer (some ⟨c, 0, none⟩)), (2, I kd), (4, .pointer (some ⟨g4, 0, none⟩)), (6, .pointer (some ⟨g6, 0, none⟩)), (9, .pointer (some ⟨g9, 0, none⟩)), (15, I ((remote (⟨A, L⟩ : Topo) r o).1)), (16, I ((remote (⟨A, L⟩ : Topo) r o).2))])) (0) ?_ (by exact ⟨rfl, rfl, rfl, rfl, rfl, rfl, rfl, rfl, rfl, rfl, rfl, trivial⟩)
                    try dsimp only
                    exact ⟨by omega, by omega, B, S⟩
                · intro hc13
                  refine w_skip ?_
                  have S := S.tail
                  have S := S.tail
                  refine x_cut (X := Int) (I := (fun z wq => (z = 0 ∨ z = o) ∧ i ≠ z ∧ Below b w wq ∧ Sep b wq (slO hopT 74 vh hs :: bxO g9 107 #[I y37, I y39, vh] :: slO intT 3 vq q :: bxO g6 107 #[I 0, I 0, .slice none 0 0] :: bxO g4 27 #[va, vl] :: curO v n c 109 :: slO asnT 121 va A :: slO linkT 78 vl L :: os))) (F := (fun z => [(13, I z), (12, I ((k : Int))), (10, I r), (11, I i), (0, .pointer (some ⟨c, 0, none⟩)), (2, I kd), (4, .pointer (some ⟨g4, 0, none⟩)), (6, .pointer (some ⟨g6, 0, none⟩)), (9, .pointer (some ⟨g9, 0, none⟩)), (15, I ((remote (⟨A, L⟩ : Topo) r o).1)), (16, I ((remote (⟨A, L⟩ : Topo) r o).2))])) (o) ?_ (by exact ⟨rfl, rfl, rfl, rfl, rfl, rfl, rfl, rfl, rfl, rfl, rfl, trivial⟩)
                  try dsimp only
                  exact ⟨by omega, by omega, B, S⟩
          · intro hc14
            refine t_off rfl rfl rfl ?_ rfl
            refine t_off rfl rfl rfl ?_ rfl
            refine t_off rfl rfl rfl ?_ rfl
            refine t_off rfl rfl rfl ?_ rfl
            refine t_off rfl rfl rfl ?_ rfl
            refine t_offu rfl rfl ?_ rfl
            refine t_offu rfl rfl ?_ rfl
            refine t_offu rfl rfl ?_ rfl
            refine t_off rfl rfl rfl ?_ rfl
            refine t_pickf rfl rfl ?_ rfl
            refine t_move rfl ?_ rfl
            refine t_on rfl rfl ?_
            refine t_move rfl ?_ rfl
            refine t_on rfl rfl ?_
            refine t_move rfl ?_ rfl
            refine t_on rfl rfl ?_
            refine t_eql rfl rfl ?_ rfl
            refine t_pickf rfl rfl ?_ rfl
            refine t_done ?_
            refine x_seq ?_
            refine w_if rfl ?_ ?_
            · intro hc15
              refine w_seq ?_
              refine w_seq ?_
              refine w_region ?_
              refine t_move rfl ?_ rfl
              refine t_eql rfl rfl ?_ rfl
              refine t_done ?_
              refine x_seq ?_
              refine w_if rfl ?_ ?_
              · intro hc16
                refine w_seq ?_
                refine w_region ?_
                refine t_bxn S.tail.tail.box ab_seg sb_seg rfl rfl ?_ rfl
                have S := S.f4
                refine t_stn S sb_seg rfl rfl rfl rfl (by intro zz hu; have hu : zz ∈ ([I y37, I y39, vh] : List Value) := hu; simp only [List.mem_cons, List.not_mem_nil, or_false] at hu; rcases hu with rfl | rfl | rfl <;> first | rfl | exact (SlR.cells (by first | assumption | exact S.tail.sl | exact S.tail.tail.sl | exact S.tail.tail.tail.sl | exact S.tail.tail.tail.tail.sl | exact S.tail.tail.tail.tail.tail.sl | exact S.tail.tail.tail.tail.tail.tail.sl | exact S.tail.tail.tail.tail.tail.tail.tail.sl | exact S.tail.tail.tail.tail.tail.tail.tail.tail.sl)).2) ?_
                intro w56 b57 S
                have B := B.trans b57
                refine t_done ?_
                refine x_seq ?_
                refine w_ret ?_
                refine x_then_ret ?_
                refine x_then_ret ?_
                refine x_block_ret ?_
                refine x_then_ret ?_
                refine x_then_ret ?_
                refine x_block_ret ?_
                refine x_then_ret ?_
                refine x_retc rfl rfl S.box ab_seg sb_seg rfl ?_
                have S := S.tail
                have S := S.tail
                have S := S.f1
                have S := S.tail
                have S := S.f1
                have S := S.tail
                have S := S.f1
                have S := S.tail
                have S := S.f3
                have S := S.f3
                have S := S.f3
                have S := S.f3
                exact ⟨_, ⟨y37, y39, hs⟩, rfl, hS.seg (by omega) (by omega) (by omega) (by omega) (by omega), S, B⟩
              · intro hc17
                refine w_skip ?_
                refine x_seq ?_
                refine w_region ?_
                refine t_assign rfl ?_ rfl
                refine t_done ?_
                have S := S.tail
                refine x_cut (X := Int) (I := (fun z wq => (z = 0 ∨ z = o) ∧ i ≠ z ∧ Below b w wq ∧ Sep b wq (slO hopT 74 vh hs :: bxO g9 107 #[I y37, I y39, vh] :: slO intT 3 vq q :: bxO g6 107 #[I 0, I 0, .slice none 0 0] :: bxO g4 27 #[va, vl] :: curO v n c 109 :: slO asnT 121 va A :: slO linkT 78 vl L :: os))) (F := (fun z => [(13, I z), (12, I ((k : Int))), (10, I r), (11, I i), (0, .pointer (some ⟨c, 0, none⟩)), (2, I kd), (4, .pointer (some ⟨g4, 0, none⟩)), (6, .pointer (some ⟨g6, 0, none⟩)), (9, .pointer (some ⟨g9, 0, none⟩)), (15, I ((remote (⟨A, L⟩ : Topo) r o).1)), (16, I ((remote (⟨A, L⟩ : Topo) r o).2))])) (0) ?_ (by exact ⟨rfl, rfl, rfl, rfl, rfl, rfl, rfl, rfl, rfl, rfl, rfl, trivial⟩)
                try dsimp only
                exact ⟨by omega, by omega, B, S⟩
            · intro hc18
              refine w_skip ?_
              have S := S.tail
              refine x_cut (X := Int) (I := (fun z wq => (z = 0 ∨ z = o) ∧ i ≠ z ∧ Below b w wq ∧ Sep b wq (slO hopT 74 vh hs :: bxO g9 107 #[I y37, I y39, vh] :: slO intT 3 vq q :: bxO g6 107 #[I 0, I 0, .slice none 0 0] :: bxO g4 27 #[va, vl] :: curO v n c 109 :: slO asnT 121 va A :: slO linkT 78 vl L :: os))) (F := (fun z => [(13, I z), (12, I ((k : Int))), (10, I r), (11, I i), (0, .pointer (some ⟨c, 0, none⟩)), (2, I kd), (4, .pointer (some ⟨g4, 0, none⟩)), (6, .pointer (some ⟨g6, 0, none⟩)), (9, .pointer (some ⟨g9, 0, none⟩)), (15, I ((remote (⟨A, L⟩ : Topo) r o).1)), (16, I ((remote (⟨A, L⟩ : Topo) r o).2))])) (o) ?_ (by exact ⟨rfl, rfl, rfl, rfl, rfl, rfl, rfl, rfl, rfl, rfl, rfl, trivial⟩)
              try dsimp only
              exact ⟨by omega, by omega, B, S⟩
        rintro z w58 hI
        try dsimp only at hI ⊢
        obtain ⟨hz, hiz, B, S⟩ := hI
        have hzr : 0 ≤ z ∧ z ≤ 6 := by omega
        refine w_seq ?_
        refine w_cut (X := Int × Nat) (fun x wq => (fun x g => (0 ≤ x ∧ x ≤ 1000) ∧ Below b w wq ∧ Sep b wq (bxO g 74 #[I r, I i, I z, I x, I 0] :: slO hopT 74 vh hs :: bxO g9 107 #[I y37, I y39, vh] :: slO intT 3 vq q :: bxO g6 107 #[I 0, I 0, .slice none 0 0] :: bxO g4 27 #[va, vl] :: curO v n c 109 :: slO asnT 121 va A :: slO linkT 78 vl L :: os)) x.1 x.2) (fun x => (fun x g => [(17, .pointer (some ⟨g, 0, none⟩)), (13, I z), (12, I ((k : Int))), (10, I r), (11, I i), (0, .pointer (some ⟨c, 0, none⟩)), (2, I kd), (4, .pointer (some ⟨g4, 0, none⟩)), (6, .pointer (some ⟨g6, 0, none⟩)), (9, .pointer (some ⟨g9, 0, none⟩)), (15, I ((remote (⟨A, L⟩ : Topo) r o).1)), (16, I ((remote (⟨A, L⟩ : Topo) r o).2))]) x.1 x.2) ?_ ?_
        · refine w_drawP [0, 1, 2, 3, 6] (.alt (.st .fin 4 (.alt (.st .fin 5 (.alt (.st .fin 7 (.alt (.st .fin 8 (.alt (.st .fin 9 (.st .fin 10 (.st .fin 11 .done))) (.st .fin 10 (.st .fin 9 (.st .fin 11 .done))))) (.st .fin 10 (.st .fin 8 (.st .fin 9 (.st .fin 11 .done)))))) (.st .fin 10 (.st .fin 7 (.st .fin 8 (.st .fin 9 (.st .fin 11 .done))))))) (.alt (.st .fin 7 (.alt (.st .fin 5 (.alt (.st .fin 8 (.alt (.st .fin 9 (.st .fin 10 (.st .fin 11 .done))) (.st .fin 10 (.st .fin 9 (.st .fin 11 .done))))) (.st .fin 10 (.st .fin 8 (.st .fin 9 (.st .fin 11 .done)))))) (.st .fin 10 (.st .fin 5 (.st .fin 8 (.st .fin 9 (.st .fin 11 .done))))))) (.st .fin 10 (.alt (.st .fin 5 (.st .fin 7 (.st .fin 8 (.st .fin 9 (.st .fin 11 .done))))) (.st .fin 7 (.st .fin 5 (.st .fin 8 (.st .fin 9 (.st .fin 11 .done)))))))))) (.alt (.st .fin 7 (.alt (.st .fin 4 (.alt (.st .fin 5 (.alt (.st .fin 8 (.alt (.st .fin 9 (.st .fin 10 (.st .fin 11 .done))) (.st .fin 10 (.st .fin 9 (.st .fin 11 .done))))) (.st .fin 10 (.st .fin 8 (.st .fin 9 (.st .fin 11 .done)))))) (.st .fin 10 (.st .fin 5 (.st .fin 8 (.st .fin 9 (.st .fin 11 .done))))))) (.st .fin 10 (.st .fin 4 (.st .fin 5 (.st .fin 8 (.st .fin 9 (.st .fin 11 .done)))))))) (.st .fin 10 (.alt (.st .fin 4 (.alt (.st .fin 5 (.st .fin 7 (.st .fin 8 (.st .fin 9 (.st .fin 11 .done))))) (.st .fin 7 (.st .fin 5 (.st .fin 8 (.st .fin 9 (.st .fin 11 .done))))))) (.st .fin 7 (.st .fin 4 (.st .fin 5 (.st .fin 8 (.st .fin 9 (.st .fin 11 .done)))))))))) mixed (by kernel_rfl) ?_
          intro w59 x60
          have B := bx Hb B x60
          have S := S.below x60
          refine p_move rfl ?_ rfl
          refine p_move rfl ?_ rfl
          refine p_move rfl ?_ rfl
          refine p_fldx fb_seg_0 rfl rfl ?_ rfl
          refine p_move rfl ?_ rfl
          refine p_done ?_
          refine t_alt ?_ (t_alt ?_ ?_)
          · refine t_bx1 S.tail.box ab_int rfl rfl ?_ rfl
            refine t_alt ?_ (t_alt ?_ ?_)
            · refine t_add rfl rfl (by omega) ?_ rfl
              refine t_alt ?_ ?_
              · have S := S.f5
                refine t_callf Try.call64 rfl (spec_l1Below 50 S (K.below B)) ?_ rfl
                rintro e w61 ⟨y110, rfl, hf110, S, x62⟩
                refine ⟨_, rfl, ?_⟩
                have B := B.trans x62
                refine t_alt ?_ ?_
                · refine t_add rfl rfl (by omega) ?_ rfl
                  refine t_alt ?_ ?_
                  · refine t_build (fun w => b_hop4 _ _ _ _ w) rfl ?_ rfl
                    refine t_alloc S z_hop rfl ?_ rfl rfl
                    intro g17 w63 x64 S
                    have B := bx Hb B x64
                    refine t_stn S sb_hop rfl rfl rfl rfl (by intro zz hu; have hu : zz ∈ ([I r, I i, I z, I ((y37 + 50) + y110), I 0] : List Value) := hu; simp only [List.mem_cons, List.not_mem_nil, or_false] at hu; rcases hu with rfl | rfl | rfl | rfl | rfl <;> rfl) ?_
                    intro w65 b66 S
                    have B := B.trans b66
                    refine t_done' ?_
                    have S := S.f8
                    have S := S.f8
                    have S := S.f3
                    have S := S.f8
                    have S := S.f8
                    have S := S.f8
                    have S := S.f8
                    have S := S.f8
                    have S := S.f8
                    refine x_cut (X := Int × Nat) (I := (fun x wq => (fun x g => (0 ≤ x ∧ x ≤ 1000) ∧ Below b w wq ∧ Sep b wq (bxO g 74 #[I r, I i, I z, I x, I 0] :: slO hopT 74 vh hs :: bxO g9 107 #[I y37, I y39, vh] :: slO intT 3 vq q :: bxO g6 107 #[I 0, I 0, .slice none 0 0] :: bxO g4 27 #[va, vl] :: curO v n c 109 :: slO asnT 121 va A :: slO linkT 78 vl L :: os)) x.1 x.2)) (F := (fun x => (fun x g => [(17, .pointer (some ⟨g, 0, none⟩)), (13, I z), (12, I ((k : Int))), (10, I r), (11, I i), (0, .pointer (some ⟨c, 0, none⟩)), (2, I kd), (4, .pointer (some ⟨g4, 0, none⟩)), (6, .pointer (some ⟨g6, 0, none⟩)), (9, .pointer (some ⟨g9, 0, none⟩)), (15, I ((remote (⟨A, L⟩ : Topo) r o).1)), (16, I ((remote (⟨A, L⟩ : Topo) r o).2))]) x.1 x.2)) ((y37 + 50) + y110, g17) ?_ (by exact ⟨rfl, rfl, rfl, rfl, rfl, rfl, rfl, rfl, rfl, rfl, rfl, rfl, trivial⟩)
                    try dsimp only
                    exact ⟨by omega, B, S⟩
                  · refine t_alloc S z_hop rfl ?_ rfl rfl
                    intro g17 w67 x68 S
                    have B := bx Hb B x68
                    refine t_build (fun w => b_hop4 _ _ _ _ w) rfl ?_ rfl
                    refine t_stn S sb_hop rfl rfl rfl rfl (by intro zz hu; have hu : zz ∈ ([I r, I i, I z, I ((y37 + 50) + y110), I 0] : List Value) := hu; simp only [List.mem_cons, List.not_mem_nil, or_false] at hu; rcases hu with rfl | rfl | rfl | rfl | rfl <;> rfl) ?_
                    intro w69 b70 S
                    have B := B.trans b70
                    refine t_done' ?_
                    have S := S.f8
                    have S := S.f8
                    have S := S.f3
                    have S := S.f8
                    have S := S.f8
                    have S := S.f8
                    have S := S.f8
                    have S := S.f8
                    have S := S.f8
                    refine x_cut (X := Int × Nat) (I := (fun x wq => (fun x g => (0 ≤ x ∧ x ≤ 1000) ∧ Below b w wq ∧ Sep b wq (bxO g 74 #[I r, I i, I z, I x, I 0] :: slO hopT 74 vh hs :: bxO g9 107 #[I y37, I y39, vh] :: slO intT 3 vq q :: bxO g6 107 #[I 0, I 0, .slice none 0 0] :: bxO g4 27 #[va, vl] :: curO v n c 109 :: slO asnT 121 va A :: slO linkT 78 vl L :: os)) x.1 x.2)) (F := (fun x => (fun x g => [(17, .pointer (some ⟨g, 0, none⟩)), (13, I z), (12, I ((k : Int))), (10, I r), (11, I i), (0, .pointer (some ⟨c, 0, none⟩)), (2, I kd), (4, .pointer (some ⟨g4, 0, none⟩)), (6, .pointer (some ⟨g6, 0, none⟩)), (9, .pointer (some ⟨g9, 0, none⟩)), (15, I ((remote (⟨A, L⟩ : Topo) r o).1)), (16, I ((remote (⟨A, L⟩ : Topo) r o).2))]) x.1 x.2)) ((y37 + 50) + y110, g17) ?_ (by exact ⟨rfl, rfl, rfl, rfl, rfl, rfl, rfl, rfl, rfl, rfl, rfl, rfl, trivial⟩)
                    try dsimp only
                    exact ⟨by omega, B, S⟩
                · refine t_alloc S z_hop rfl ?_ rfl rfl
                  intro g17 w71 x72 S
                  have B := bx Hb B x72
                  refine t_add rfl rfl (by omega) ?_ rfl
                  refine t_build (fun w => b_hop4 _ _ _ _ w) rfl ?_ rfl
                  refine t_stn S sb_hop rfl rfl rfl rfl (by intro zz hu; have hu : zz ∈ ([I r, I i, I z, I ((y37 + 50) + y110), I 0] : List Value) := hu; simp only [List.mem_cons, List.not_mem_nil, or_false] at hu; rcases hu with rfl | rfl | rfl | rfl | rfl <;> rfl) ?_
                  intro w73 b74 S
                  have B := B.trans b74
                  refine t_done' ?_
                  have S := S.f8
                  have S := S.f8
                  have S := S.f3
                  have S := S.f8
                  have S := S.f8
                  have S := S.f8
                  have S := S.f8
                  have S := S.f8
                  have S := S.f8
                  refine x_cut (X := Int × Nat) (I := (fun x wq => (fun x g => (0 ≤ x ∧ x ≤ 1000) ∧ Below b w wq ∧ Sep b wq (bxO g 74 #[I r, I i, I z, I x, I 0] :: slO hopT 74 vh hs :: bxO g9 107 #[I y37, I y39, vh] :: slO intT 3 vq q :: bxO g6 107 #[I 0, I 0, .slice none 0 0] :: bxO g4 27 #[va, vl] :: curO v n c 109 :: slO asnT 121 va A :: slO linkT 78 vl L :: os)) x.1 x.2)) (F := (fun x => (fun x g => [(17, .pointer (some ⟨g, 0, none⟩)), (13, I z), (12, I ((k : Int))), (10, I r), (11, I i), (0, .pointer (some ⟨c, 0, none⟩)), (2, I kd), (4, .pointer (some ⟨g4, 0, none⟩)), (6, .pointer (some ⟨g6, 0, none⟩)), (9, .pointer (some ⟨g9, 0, none⟩)), (15, I ((remote (⟨A, L⟩ : Topo) r o).1)), (16, I ((remote (⟨A, L⟩ : Topo) r o).2))]) x.1 x.2)) ((y37 + 50) + y110, g17) ?_ (by exact ⟨rfl, rfl, rfl, rfl, rfl, rfl, rfl, rfl, rfl, rfl, rfl, rfl, trivial⟩)
                  try dsimp only
                  exact ⟨by omega, B, S⟩
              · refine t_alloc S z_hop rfl ?_ rfl rfl
                intro g17 w75 x76 S
                have B := bx Hb B x76
                have S := S.f6
                refine t_callf Try.call64 rfl (spec_l1Below 50 S (K.below B)) ?_ rfl
                rintro e w77 ⟨y110, rfl, hf110, S, x78⟩
                refine ⟨_, rfl, ?_⟩
                have B := B.trans x78
                refine t_add rfl rfl (by omega) ?_ rfl
                refine t_build (fun w => b_hop4 _ _ _ _ w) rfl ?_ rfl
                have S := S.f1
                refine t_stn S sb_hop rfl rfl rfl rfl (by intro zz hu; have hu : zz ∈ ([I r, I i, I z, I ((y37 + 50) + y110), I 0] : List Value) := hu; simp only [List.mem_cons, List.not_mem_nil, or_false] at hu; rcases hu with rfl | rfl | rfl | rfl | rfl <;> rfl) ?_
                intro w79 b80 S
                have B := B.trans b80
                refine t_done' ?_
                have S := S.f8
                have S := S.f8
                have S := S.f3
                have S := S.f8
                have S := S.f8
                have S := S.f8
                have S := S.f8
                have S := S.f8
                have S := S.f8
                refine x_cut (X := Int × Nat) (I := (fun x wq => (fun x g => (0 ≤ x ∧ x ≤ 1000) ∧ Below b w wq ∧ Sep b wq (bxO g 74 #[I r, I i, I z, I x, I 0] :: slO hopT 74 vh hs :: bxO g9 107 #[I y37, I y39, vh] :: slO intT 3 vq q :: bxO g6 107 #[I 0, I 0, .slice none 0 0] :: bxO g4 27 #[va, vl] :: curO v n c 109 :: slO asnT 121 va A :: slO linkT 78 vl L :: os)) x.1 x.2)) (F := (fun x => (fun x g => [(17, .pointer (some ⟨g, 0, none⟩)), (13, I z), (12, I ((k : Int))), (10, I r), (11, I i), (0, .pointer (some ⟨c, 0, none⟩)), (2, I kd), (4, .pointer (some ⟨g4, 0, none⟩)), (6, .pointer (some ⟨g6, 0, none⟩)), (9, .pointer (some ⟨g9, 0, none⟩)), (15, I ((remote (⟨A, L⟩ : Topo) r o).1)), (16, I ((remote (⟨A, L⟩ : Topo) r o).2))]) x.1 x.2)) ((y37 + 50) + y110, g17) ?_ (by exact ⟨rfl, rfl, rfl, rfl, rfl, rfl, rfl, rfl, rfl, rfl, rfl, rfl, trivial⟩)
                try dsimp only
                exact ⟨by omega, B, S⟩
            · have S := S.f5
              refine t_callf Try.call64 rfl (spec_l1Below 50 S (K.below B)) ?_ rfl
              rintro e w81 ⟨y110, rfl, hf110, S, x82⟩
              refine ⟨_, rfl, ?_⟩
              have B := B.trans x82
              refine t_alt ?_ ?_
              · refine t_add rfl rfl (by omega) ?_ rfl
                refine t_alt ?_ ?_
                · refine t_add rfl rfl (by omega) ?_ rfl
                  refine t_alt ?_ ?_
                  · refine t_build (fun w => b_hop4 _ _ _ _ w) rfl ?_ rfl
                    refine t_alloc S z_hop rfl ?_ rfl rfl
                    intro g17 w83 x84 S
                    have B := bx Hb B x84
                    refine t_stn S sb_hop rfl rfl rfl rfl (by intro zz hu; have hu : zz ∈ ([I r, I i, I z, I ((y37 + 50) + y110), I 0] : List Value) := hu; simp only [List.mem_cons, List.not_mem_nil, or_false] at hu; rcases hu with rfl | rfl | rfl | rfl | rfl <;> rfl) ?_
                    intro w85 b86 S
                    have B := B.trans b86
                    refine t_done' ?_
                    have S := S.f8
                    have S := S.f8
                    have S := S.f3
                    have S := S.f8
                    have S := S.f8
                    have S := S.f8
                    have S := S.f8
                    have S := S.f8
                    have S := S.f8
                    refine x_cut (X := Int × Nat) (I := (fun x wq => (fun x g => (0 ≤ x ∧ x ≤ 1000) ∧ Below b w wq ∧ Sep b wq (bxO g 74 #[I r, I i, I z, I x, I 0] :: slO hopT 74 vh hs :: bxO g9 107 #[I y37, I y39, vh] :: slO intT 3 vq q :: bxO g6 107 #[I 0, I 0, .slice none 0 0] :: bxO g4 27 #[va, vl] :: curO v n c 109 :: slO asnT 121 va A :: slO linkT 78 vl L :: os)) x.1 x.2)) (F := (fun x => (fun x g => [(17, .pointer (some ⟨g, 0, none⟩)), (13, I z), (12, I ((k : Int))), (10, I r), (11, I i), (0, .pointer (some ⟨c, 0, none⟩)), (2, I kd), (4, .pointer (some ⟨g4, 0, none⟩)), (6, .pointer (some ⟨g6, 0, none⟩)), (9, .pointer (some ⟨g9, 0, none⟩)), (15, I ((remote (⟨A, L⟩ : Topo) r o).1)), (16, I ((remote (⟨A, L⟩ : Topo) r o).2))]) x.1 x.2)) ((y37 + 50) + y110, g17) ?_ (by exact ⟨rfl, rfl, rfl, rfl, rfl, rfl, rfl, rfl, rfl, rfl, rfl, rfl, trivial⟩)
                    try dsimp only
                    exact ⟨by omega, B, S⟩
                  · refine t_alloc S z_hop rfl ?_ rfl rfl
                    intro g17 w87 x88 S
                    have B := bx Hb B x88
                    refine t_build (fun w => b_hop4 _ _ _ _ w) rfl ?_ rfl
                    refine t_stn S sb_hop rfl rfl rfl rfl (by intro zz hu; have hu : zz ∈ ([I r, I i, I z, I ((y37 + 50) + y110), I 0] : List Value) := hu; simp only [List.mem_cons, List.not_mem_nil, or_false] at hu; rcases hu with rfl | rfl | rfl | rfl | rfl <;> rfl) ?_
                    intro w89 b90 S
                    have B := B.trans b90
                    refine t_done' ?_
                    have S := S.f8
                    have S := S.f8
                    have S := S.f3
                    have S := S.f8
                    have S := S.f8
                    have S := S.f8
                    have S := S.f8
                    have S := S.f8
                    have S := S.f8
                    refine x_cut (X := Int × Nat) (I := (fun x wq => (fun x g => (0 ≤ x ∧ x ≤ 1000) ∧ Below b w wq ∧ Sep b wq (bxO g 74 #[I r, I i, I z, I x, I 0] :: slO hopT 74 vh hs :: bxO g9 107 #[I y37, I y39, vh] :: slO intT 3 vq q :: bxO g6 107 #[I 0, I 0, .slice none 0 0] :: bxO g4 27 #[va, vl] :: curO v n c 109 :: slO asnT 121 va A :: slO linkT 78 vl L :: os)) x.1 x.2)) (F := (fun x => (fun x g => [(17, .pointer (some ⟨g, 0, none⟩)), (13, I z), (12, I ((k : Int))), (10, I r), (11, I i), (0, .pointer (some ⟨c, 0, none⟩)), (2, I kd), (4, .pointer (some ⟨g4, 0, none⟩)), (6, .pointer (some ⟨g6, 0, none⟩)), (9, .pointer (some ⟨g9, 0, none⟩)), (15, I ((remote (⟨A, L⟩ : Topo) r o).1)), (16, I ((remote (⟨A, L⟩ : Topo) r o).2))]) x.1 x.2)) ((y37 + 50) + y110, g17) ?_ (by exact ⟨rfl, rfl, rfl, rfl, rfl, rfl, rfl, rfl, rfl, rfl, rfl, rfl, trivial⟩)
                    try dsimp only
                    exact ⟨by omega, B, S⟩
                · refine t_alloc S z_hop rfl ?_ rfl rfl
                  intro g17 w91 x92 S
                  have B := bx Hb B x92
                  refine t_add rfl rfl (by omega) ?_ rfl
                  refine t_build (fun w => b_hop4 _ _ _ _ w) rfl ?_ rfl
                  refine t_stn S sb_hop rfl rfl rfl rfl (by intro zz hu; have hu : zz ∈ ([I r, I i, I z, I ((y37 + 50) + y110), I 0] : List Value) := hu; simp only [List.mem_cons, List.not_mem_nil, or_false] at hu; rcases hu with rfl | rfl | rfl | rfl | rfl <;> rfl) ?_
                  intro w93 b94 S
                  have B := B.trans b94
                  refine t_done' ?_
                  have S := S.f8
                  have S := S.f8
                  have S := S.f3
                  have S := S.f8
                  have S := S.f8
                  have S := S.f8
                  have S := S.f8
                  have S := S.f8
                  have S := S.f8
                  refine x_cut (X := Int × Nat) (I := (fun x wq => (fun x g => (0 ≤ x ∧ x ≤ 1000) ∧ Below b w wq ∧ Sep b wq (bxO g 74 #[I r, I i, I z, I x, I 0] :: slO hopT 74 vh hs :: bxO g9 107 #[I y37, I y39, vh] :: slO intT 3 vq q :: bxO g6 107 #[I 0, I 0, .slice none 0 0] :: bxO g4 27 #[va, vl] :: curO v n c 109 :: slO asnT 121 va A :: slO linkT 78 vl L :: os)) x.1 x.2)) (F := (fun x => (fun x g => [(17, .pointer (some ⟨g, 0, none⟩)), (13, I z), (12, I ((k : Int))), (10, I r), (11, I i), (0, .pointer (some ⟨c, 0, none⟩)), (2, I kd), (4, .pointer (some ⟨g4, 0, none⟩)), (6, .pointer (some ⟨g6, 0, none⟩)), (9, .pointer (some ⟨g9, 0, none⟩)), (15, I ((remote (⟨A, L⟩ : Topo) r o).1)), (16, I ((remote (⟨A, L⟩ : Topo) r o).2))]) x.1 x.2)) ((y37 + 50) + y110, g17) ?_ (by exact ⟨rfl, rfl, rfl, rfl, rfl, rfl, rfl, rfl, rfl, rfl, rfl, rfl, trivial⟩)
                  try dsimp only
                  exact ⟨by omega, B, S⟩
              · refine t_alloc S z_hop rfl ?_ rfl rfl
                intro g17 w95 x96 S
                have B := bx Hb B x96
                refine t_add rfl rfl (by omega) ?_ rfl
                refine t_add rfl rfl (by omega) ?_ rfl
                refine t_build (fun w => b_hop4 _ _ _ _ w) rfl ?_ rfl
                refine t_stn S sb_hop rfl rfl rfl rfl (by intro zz hu; have hu : zz ∈ ([I r, I i, I z, I ((y37 + 50) + y110), I 0] : List Value) := hu; simp only [List.mem_cons, List.not_mem_nil, or_false] at hu; rcases hu with rfl | rfl | rfl | rfl | rfl <;> rfl) ?_
                intro w97 b98 S
                have B := B.trans b98
                refine t_done' ?_
                have S := S.f8
                have S := S.f8
                have S := S.f3
                have S := S.f8
                have S := S.f8
                have S := S.f8
                have S := S.f8
                have S := S.f8
                have S := S.f8
                refine x_cut (X := Int × Nat) (I := (fun x wq => (fun x g => (0 ≤ x ∧ x ≤ 1000) ∧ Below b w wq ∧ Sep b wq (bxO g 74 #[I r, I i, I z, I x, I 0] :: slO hopT 74 vh hs :: bxO g9 107 #[I y37, I y39, vh] :: slO intT 3 vq q :: bxO g6 107 #[I 0, I 0, .slice none 0 0] :: bxO g4 27 #[va, vl] :: curO v n c 109 :: slO asnT 121 va A :: slO linkT 78 vl L :: os)) x.1 x.2)) (F := (fun x => (fun x g => [(17, .pointer (some ⟨g, 0, none⟩)), (13, I z), (12, I ((k : Int))), (10, I r), (11, I i), (0, .pointer (some ⟨c, 0, none⟩)), (2, I kd), (4, .pointer (some ⟨g4, 0, none⟩)), (6, .pointer (some ⟨g6, 0, none⟩)), (9, .pointer (some ⟨g9, 0, none⟩)), (15, I ((remote (⟨A, L⟩ : Topo) r o).1)), (16, I ((remote (⟨A, L⟩ : Topo) r o).2))]) x.1 x.2)) ((y37 + 50) + y110, g17) ?_ (by exact ⟨rfl, rfl, rfl, rfl, rfl, rfl, rfl, rfl, rfl, rfl, rfl, rfl, trivial⟩)
                try dsimp only
                exact ⟨by omega, B, S⟩
            · refine t_alloc S z_hop rfl ?_ rfl rfl
              intro g17 w99 x100 S
              have B := bx Hb B x100
              refine t_alt ?_ ?_
              · refine t_add rfl rfl (by omega) ?_ rfl
                have S := S.f6
                refine t_callf Try.call64 rfl (spec_l1Below 50 S (K.below B)) ?_ rfl
                rintro e w101 ⟨y110, rfl, hf110, S, x102⟩
                refine ⟨_, rfl, ?_⟩
                have B := B.trans x102
                refine t_add rfl rfl (by omega) ?_ rfl
                refine t_build (fun w => b_hop4 _ _ _ _ w) rfl ?_ rfl
                have S := S.f1
                refine t_stn S sb_hop rfl rfl rfl rfl (by intro zz hu; have hu : zz ∈ ([I r, I i, I z, I ((y37 + 50) + y110), I 0] : List Value) := hu; simp only [List.mem_cons, List.not_mem_nil, or_false] at hu; rcases hu with rfl | rfl | rfl | rfl | rfl <;> rfl) ?_
                intro w103 b104 S
                have B := B.trans b104
                refine t_done' ?_
                have S := S.f8
                have S := S.f8
                have S := S.f3
                have S := S.f8
                have S := S.f8
                have S := S.f8
                have S := S.f8
                have S := S.f8
                have S := S.f8
                refine x_cut (X := Int × Nat) (I := (fun x wq => (fun x g => (0 ≤ x ∧ x ≤ 1000) ∧ Below b w wq ∧ Sep b wq (bxO g 74 #[I r, I i, I z, I x, I 0] :: slO hopT 74 vh hs :: bxO g9 107 #[I y37, I y39, vh] :: slO intT 3 vq q :: bxO g6 107 #[I 0, I 0, .slice none 0 0] :: bxO g4 27 #[va, vl] :: curO v n c 109 :: slO asnT 121 va A :: slO linkT 78 vl L :: os)) x.1 x.2)) (F := (fun x => (fun x g => [(17, .pointer (some ⟨g, 0, none⟩)), (13, I z), (12, I ((k : Int))), (10, I r), (11, I i), (0, .pointer (some ⟨c, 0, none⟩)), (2, I kd), (4, .pointer (some ⟨g4, 0, none⟩)), (6, .pointer (some ⟨g6, 0, none⟩)), (9, .pointer (some ⟨g9, 0, none⟩)), (15, I ((remote (⟨A, L⟩ : Topo) r o).1)), (16, I ((remote (⟨A, L⟩ : Topo) r o).2))]) x.1 x.2)) ((y37 + 50) + y110, g17) ?_ (by exact ⟨rfl, rfl, rfl, rfl, rfl, rfl, rfl, rfl, rfl, rfl, rfl, rfl, trivial⟩)
                try dsimp only
                exact ⟨by omega, B, S⟩
              · have S := S.f6
                refine t_callf Try.call64 rfl (spec_l1Below 50 S (K.below B)) ?_ rfl
                rintro e w105 ⟨y110, rfl, hf110, S, x106⟩
                refine ⟨_, rfl, ?_⟩
                have B := B.trans x106
                refine t_add rfl rfl (by omega) ?_ rfl
                refine t_add rfl rfl (by omega) ?_ rfl
                refine t_build (fun w => b_hop4 _ _ _ _ w) rfl ?_ rfl
                have S := S.f1
                refine t_stn S sb_hop rfl rfl rfl rfl (by intro zz hu; have hu : zz ∈ ([I r, I i, I z, I ((y37 + 50) + y110), I 0] : List Value) := hu; simp only [List.mem_cons, List.not_mem_nil, or_false] at hu; rcases hu with rfl | rfl | rfl | rfl | rfl <;> rfl) ?_
                intro w107 b108 S
                have B := B.trans b108
                refine t_done' ?_
                have S := S.f8
                have S := S.f8
                have S := S.f3
                have S := S.f8
                have S := S.f8
                have S := S.f8
                have S := S.f8
                have S := S.f8
                have S := S.f8
                refine x_cut (X := Int × Nat) (I := (fun x wq => (fun x g => (0 ≤ x ∧ x ≤ 1000) ∧ Below b w wq ∧ Sep b wq (bxO g 74 #[I r, I i, I z, I x, I 0] :: slO hopT 74 vh hs :: bxO g9 107 #[I y37, I y39, vh] :: slO intT 3 vq q :: bxO g6 107 #[I 0, I 0, .slice none 0 0] :: bxO g4 27 #[va, vl] :: curO v n c 109 :: slO asnT 121 va A :: slO linkT 78 vl L :: os)) x.1 x.2)) (F := (fun x => (fun x g => [(17, .pointer (some ⟨g, 0, none⟩)), (13, I z), (12, I ((k : Int))), (10, I r), (11, I i), (0, .pointer (some ⟨c, 0, none⟩)), (2, I kd), (4, .pointer (some ⟨g4, 0, none⟩)), (6, .pointer (some ⟨g6, 0, none⟩)), (9, .pointer (some ⟨g9, 0, none⟩)), (15, I ((remote (⟨A, L⟩ : Topo) r o).1)), (16, I ((remote (⟨A, L⟩ : Topo) r o).2))]) x.1 x.2)) ((y37 + 50) + y110, g17) ?_ (by exact ⟨rfl, rfl, rfl, rfl, rfl, rfl, rfl, rfl, rfl, rfl, rfl, rfl, trivial⟩)
                try dsimp only
                exact ⟨by omega, B, S⟩
          · have S := S.f5
            refine t_callf Try.call64 rfl (spec_l1Below 50 S (K.below B)) ?_ rfl
            rintro e w109 ⟨y110, rfl, hf110, S, x110⟩
            refine ⟨_, rfl, ?_⟩
            have B := B.trans x110
            refine t_alt ?_ ?_
            · refine t_bx1 S.tail.tail.box ab_int rfl rfl ?_ rfl
              refine t_alt ?_ ?_
              · refine t_add rfl rfl (by omega) ?_ rfl
                refine t_alt ?_ ?_
                · refine t_add rfl rfl (by omega) ?_ rfl
                  refine t_alt ?_ ?_
                  · refine t_build (fun w => b_hop4 _ _ _ _ w) rfl ?_ rfl
                    refine t_alloc S z_hop rfl ?_ rfl rfl
                    intro g17 w111 x112 S
                    have B := bx Hb B x112
                    refine t_stn S sb_hop rfl rfl rfl rfl (by intro zz hu; have hu : zz ∈ ([I r, I i, I z, I ((y37 + 50) + y110), I 0] : List Value) := hu; simp only [List.mem_cons, List.not_mem_nil, or_false] at hu; rcases hu with rfl | rfl | rfl | rfl | rfl <;> rfl) ?_
                    intro w113 b114 S
                    have B := B.trans b114
                    refine t_done' ?_
                    have S := S.f8
                    have S := S.f8
                    have S := S.f3
                    have S := S.f8
                    have S := S.f8
                    have S := S.f8
                    have S := S.f8
                    have S := S.f8
                    have S := S.f8
                    refine x_cut (X := Int × Nat) (I := (fun x wq => (fun x g => (0 ≤ x ∧ x ≤ 1000) ∧ Below b w wq ∧ Sep b wq (bxO g 74 #[I r, I i, I z, I x, I 0] :: slO hopT 74 vh hs :: bxO g9 107 #[I y37, I y39, vh] :: slO intT 3 vq q :: bxO g6 107 #[I 0, I 0, .slice none 0 0] :: bxO g4 27 #[va, vl] :: curO v n c 109 :: slO asnT 121 va A :: slO linkT 78 vl L :: os)) x.1 x.2)) (F := (fun x => (fun x g => [(17, .pointer (some ⟨g, 0, none⟩)), (13, I z), (12, I ((k : Int))), (10, I r), (11, I i), (0, .pointer (some ⟨c, 0, none⟩)), (2, I kd), (4, .pointer (some ⟨g4, 0, none⟩)), (6, .pointer (some ⟨g6, 0, none⟩)), (9, .pointer (some ⟨g9, 0, none⟩)), (15, I ((remote (⟨A, L⟩ : Topo) r o).1)), (16, I ((remote (⟨A, L⟩ : Topo) r o).2))]) x.1 x.2)) ((y37 + 50) + y110, g17) ?_ (by exact ⟨rfl, rfl, rfl, rfl, rfl, rfl, rfl, rfl, rfl, rfl, rfl, rfl, trivial⟩)
                    try dsimp only
                    exact ⟨by omega, B, S⟩
                  · refine t_alloc S z_hop rfl ?_ rfl rfl
                    intro g17 w115 x116 S
                    have B := bx Hb B x116
                    refine t_build (fun w => b_hop4 _ _ _ _ w) rfl ?_ rfl
                    refine t_stn S sb_hop rfl rfl rfl rfl (by intro zz hu; have hu : zz ∈ ([I r, I i, I z, I ((y37 + 50) + y110), I 0] : List Value) := hu; simp only [List.mem_cons, List.not_mem_nil, or_false] at hu; rcases hu with rfl | rfl | rfl | rfl | rfl <;> rfl) ?_
                    intro w117 b118 S
                    have B := B.trans b118
                    refine t_done' ?_
                    have S := S.f8
                    have S := S.f8
                    have S := S.f3
                    have S := S.f8
                    have S := S.f8
                    have S := S.f8
                    have S := S.f8
                    have S := S.f8
                    have S := S.f8
                    refine x_cut (X := Int × Nat) (I := (fun x wq => (fun x g => (0 ≤ x ∧ x ≤ 1000) ∧ Below b w wq ∧ Sep b wq (bxO g 74 #[I r, I i, I z, I x, I 0] :: slO hopT 74 vh hs :: bxO g9 107 #[I y37, I y39, vh] :: slO intT 3 vq q :: bxO g6 107 #[I 0, I 0, .slice none 0 0] :: bxO g4 27 #[va, vl] :: curO v n c 109 :: slO asnT 121 va A :: slO linkT 78 vl L :: os)) x.1 x.2)) (F := (fun x => (fun x g => [(17, .pointer (some ⟨g, 0, none⟩)), (13, I z), (12, I ((k : Int))), (10, I r), (11, I i), (0, .pointer (some ⟨c, 0, none⟩)), (2, I kd), (4, .pointer (some ⟨g4, 0, none⟩)), (6, .pointer (some ⟨g6, 0, none⟩)), (9, .pointer (some ⟨g9, 0, none⟩)), (15, I ((remote (⟨A, L⟩ : Topo) r o).1)), (16, I ((remote (⟨A, L⟩ : Topo) r o).2))]) x.1 x.2)) ((y37 + 50) + y110, g17) ?_ (by exact ⟨rfl, rfl, rfl, rfl, rfl, rfl, rfl, rfl, rfl, rfl, rfl, rfl, trivial⟩)
                    try dsimp only
                    exact ⟨by omega, B, S⟩
                · refine t_alloc S z_hop rfl ?_ rfl rfl
                  intro g17 w119 x120 S
                  have B := bx Hb B x120
                  refine t_add rfl rfl (by omega) ?_ rfl
                  refine t_build (fun w => b_hop4 _ _ _ _ w) rfl ?_ rfl
                  refine t_stn S sb_hop rfl rfl rfl rfl (by intro zz hu; have hu : zz ∈ ([I r, I i, I z, I ((y37 + 50) + y110), I 0] : List Value) := hu; simp only [List.mem_cons, List.not_mem_nil, or_false] at hu; rcases hu with rfl | rfl | rfl | rfl | rfl <;> rfl) ?_
                  intro w121 b122 S
                  have B := B.trans b122
                  refine t_done' ?_
                  have S := S.f8
                  have S := S.f8
                  have S := S.f3
                  have S := S.f8
                  have S := S.f8
                  have S := S.f8
                  have S := S.f8
                  have S := S.f8
                  have S := S.f8
                  refine x_cut (X := Int × Nat) (I := (fun x wq => (fun x g => (0 ≤ x ∧ x ≤ 1000) ∧ Below b w wq ∧ Sep b wq (bxO g 74 #[I r, I i, I z, I x, I 0] :: slO hopT 74 vh hs :: bxO g9 107 #[I y37, I y39, vh] :: slO intT 3 vq q :: bxO g6 107 #[I 0, I 0, .slice none 0 0] :: bxO g4 27 #[va, vl] :: curO v n c 109 :: slO asnT 121 va A :: slO linkT 78 vl L :: os)) x.1 x.2)) (F := (fun x => (fun x g => [(17, .pointer (some ⟨g, 0, none⟩)), (13, I z), (12, I ((k : Int))), (10, I r), (11, I i), (0, .pointer (some ⟨c, 0, none⟩)), (2, I kd), (4, .pointer (some ⟨g4, 0, none⟩)), (6, .pointer (some ⟨g6, 0, none⟩)), (9, .pointer (some ⟨g9, 0, none⟩)), (15, I ((remote (⟨A, L⟩ : Topo) r o).1)), (16, I ((remote (⟨A, L⟩ : Topo) r o).2))]) x.1 x.2)) ((y37 + 50) + y110, g17) ?_ (by exact ⟨rfl, rfl, rfl, rfl, rfl, rfl, rfl, rfl, rfl, rfl, rfl, rfl, trivial⟩)
                  try dsimp only
                  exact ⟨by omega, B, S⟩
              · refine t_alloc S z_hop rfl ?_ rfl rfl
                intro g17 w123 x124 S
                have B := bx Hb B x124
                refine t_add rfl rfl (by omega) ?_ rfl
                refine t_add rfl rfl (by omega) ?_ rfl
                refine t_build (fun w => b_hop4 _ _ _ _ w) rfl ?_ rfl
                refine t_stn S sb_hop rfl rfl rfl rfl (by intro zz hu; have hu : zz ∈ ([I r, I i, I z, I ((y37 + 50) + y110), I 0] : List Value) := hu; simp only [List.mem_cons, List.not_mem_nil, or_false] at hu; rcases hu with rfl | rfl | rfl | rfl | rfl <;> rfl) ?_
                intro w125 b126 S
                have B := B.trans b126
                refine t_done' ?_
                have S := S.f8
                have S := S.f8
                have S := S.f3
                have S := S.f8
                have S := S.f8
                have S := S.f8
                have S := S.f8
                have S := S.f8
                have S := S.f8
                refine x_cut (X := Int × Nat) (I := (fun x wq => (fun x g => (0 ≤ x ∧ x ≤ 1000) ∧ Below b w wq ∧ Sep b wq (bxO g 74 #[I r, I i, I z, I x, I 0] :: slO hopT 74 vh hs :: bxO g9 107 #[I y37, I y39, vh] :: slO intT 3 vq q :: bxO g6 107 #[I 0, I 0, .slice none 0 0] :: bxO g4 27 #[va, vl] :: curO v n c 109 :: slO asnT 121 va A :: slO linkT 78 vl L :: os)) x.1 x.2)) (F := (fun x => (fun x g => [(17, .pointer (some ⟨g, 0, none⟩)), (13, I z), (12, I ((k : Int))), (10, I r), (11, I i), (0, .pointer (some ⟨c, 0, none⟩)), (2, I kd), (4, .pointer (some ⟨g4, 0, none⟩)), (6, .pointer (some ⟨g6, 0, none⟩)), (9, .pointer (some ⟨g9, 0, none⟩)), (15, I ((remote (⟨A, L⟩ : Topo) r o).1)), (16, I ((remote (⟨A, L⟩ : Topo) r o).2))]) x.1 x.2)) ((y37 + 50) + y110, g17) ?_ (by exact ⟨rfl, rfl, rfl, rfl, rfl, rfl, rfl, rfl, rfl, rfl, rfl, rfl, trivial⟩)
                try dsimp only
                exact ⟨by omega, B, S⟩
            · refine t_alloc S z_hop rfl ?_ rfl rfl
              intro g17 w127 x128 S
              have B := bx Hb B x128
              refine t_bx1 S.tail.tail.tail.box ab_int rfl rfl ?_ rfl
              refine t_add rfl rfl (by omega) ?_ rfl
              refine t_add rfl rfl (by omega) ?_ rfl
              refine t_build (fun w => b_hop4 _ _ _ _ w) rfl ?_ rfl
              refine t_stn S sb_hop rfl rfl rfl rfl (by intro zz hu; have hu : zz ∈ ([I r, I i, I z, I ((y37 + 50) + y110), I 0] : List Value) := hu; simp only [List.mem_cons, List.not_mem_nil, or_false] at hu; rcases hu with rfl | rfl | rfl | rfl | rfl <;> rfl) ?_
              intro w129 b130 S
              have B := B.trans b130
              refine t_done' ?_
              have S := S.f8
              have S := S.f8
              have S := S.f3
              have S := S.f8
              have S := S.f8
              have S := S.f8
              have S := S.f8
              have S := S.f8
              have S := S.f8
              refine x_cut (X := Int × Nat) (I := (fun x wq => (fun x g => (0 ≤ x ∧ x ≤ 1000) ∧ Below b w wq ∧ Sep b wq (bxO g 74 #[I r, I i, I z, I x, I 0] :: slO hopT 74 vh hs :: bxO g9 107 #[I y37, I y39, vh] :: slO intT 3 vq q :: bxO g6 107 #[I 0, I 0, .slice none 0 0] :: bxO g4 27 #[va, vl] :: curO v n c 109 :: slO asnT 121 va A :: slO linkT 78 vl L :: os)) x.1 x.2)) (F := (fun x => (fun x g => [(17, .pointer (some ⟨g, 0, none⟩)), (13, I z), (12, I ((k : Int))), (10, I r), (11, I i), (0, .pointer (some ⟨c, 0, none⟩)), (2, I kd), (4, .pointer (some ⟨g4, 0, none⟩)), (6, .pointer (some ⟨g6, 0, none⟩)), (9, .pointer (some ⟨g9, 0, none⟩)), (15, I ((remote (⟨A, L⟩ : Topo) r o).1)), (16, I ((remote (⟨A, L⟩ : Topo) r o).2))]) x.1 x.2)) ((y37 + 50) + y110, g17) ?_ (by exact ⟨rfl, rfl, rfl, rfl, rfl, rfl, rfl, rfl, rfl, rfl, rfl, rfl, trivial⟩)
              try dsimp only
              exact ⟨by omega, B, S⟩
          · refine t_alloc S z_hop rfl ?_ rfl rfl
            intro g17 w131 x132 S
            have B := bx Hb B x132
            refine t_alt ?_ ?_
            · refine t_bx1 S.tail.tail.box ab_int rfl rfl ?_ rfl
              refine t_alt ?_ ?_
              · refine t_add rfl rfl (by omega) ?_ rfl
                have S := S.f6
                refine t_callf Try.call64 rfl (spec_l1Below 50 S (K.below B)) ?_ rfl
                rintro e w133 ⟨y110, rfl, hf110, S, x134⟩
                refine ⟨_, rfl, ?_⟩
                have B := B.trans x134
                refine t_add rfl rfl (by omega) ?_ rfl
                refine t_build (fun w => b_hop4 _ _ _ _ w) rfl ?_ rfl
                have S := S.f1
                refine t_stn S sb_hop rfl rfl rfl rfl (by intro zz hu; have hu : zz ∈ ([I r, I i, I z, I ((y37 + 50) + y110), I 0] : List Value) := hu; simp only [List.mem_cons, List.not_mem_nil, or_false] at hu; rcases hu with rfl | rfl | rfl | rfl | rfl <;> rfl) ?_
                intro w135 b136 S
                have B := B.trans b136
                refine t_done' ?_
                have S := S.f8
                have S := S.f8
                have S := S.f3
                have S := S.f8
                have S := S.f8
                have S := S.f8
                have S := S.f8
                have S := S.f8
                have S := S.f8
                refine x_cut (X := Int × Nat) (I := (fun x wq => (fun x g => (0 ≤ x ∧ x ≤ 1000) ∧ Below b w wq ∧ Sep b wq (bxO g 74 #[I r, I i, I z, I x, I 0] :: slO hopT 74 vh hs :: bxO g9 107 #[I y37, I y39, vh] :: slO intT 3 vq q :: bxO g6 107 #[I 0, I 0, .slice none 0 0] :: bxO g4 27 #[va, vl] :: curO v n c 109 :: slO asnT 121 va A :: slO linkT 78 vl L :: os)) x.1 x.2)) (F := (fun x => (fun x g => [(17, .pointer (some ⟨g, 0, none⟩)), (13, I z), (12, I ((k : Int))), (10, I r), (11, I i), (0, .pointer (some ⟨c, 0, none⟩)), (2, I kd), (4, .pointer (some ⟨g4, 0, none⟩)), (6, .pointer (some ⟨g6, 0, none⟩)), (9, .pointer (some ⟨g9, 0, none⟩)), (15, I ((remote (⟨A, L⟩ : Topo) r o).1)), (16, I ((remote (⟨A, L⟩ : Topo) r o).2))]) x.1 x.2)) ((y37 + 50) + y110, g17) ?_ (by exact ⟨rfl, rfl, rfl, rfl, rfl, rfl, rfl, rfl, rfl, rfl, rfl, rfl, trivial⟩)
                try dsimp only
                exact ⟨by omega, B, S⟩
              · have S := S.f6
                refine t_callf Try.call64 rfl (spec_l1Below 50 S (K.below B)) ?_ rfl
                rintro e w137 ⟨y110, rfl, hf110, S, x138⟩
                refine ⟨_, rfl, ?_⟩
                have B := B.trans x138
                refine t_add rfl rfl (by omega) ?_ rfl
                refine t_add rfl rfl (by omega) ?_ rfl
                refine t_build (fun w => b_hop4 _ _ _ _ w) rfl ?_ rfl
                have S := S.f1
                refine t_stn S sb_hop rfl rfl rfl rfl (by intro zz hu; have hu : zz ∈ ([I r, I i, I z, I ((y37 + 50) + y110), I 0] : List Value) := hu; simp only [List.mem_cons, List.not_mem_nil, or_false] at hu; rcases hu with rfl | rfl | rfl | rfl | rfl <;> rfl) ?_
                intro w139 b140 S
                have B := B.trans b140
                refine t_done' ?_
                have S := S.f8
                have S := S.f8
                have S := S.f3
                have S := S.f8
                have S := S.f8
                have S := S.f8
                have S := S.f8
                have S := S.f8
                have S := S.f8
                refine x_cut (X := Int × Nat) (I := (fun x wq => (fun x g => (0 ≤ x ∧ x ≤ 1000) ∧ Below b w wq ∧ Sep b wq (bxO g 74 #[I r, I i, I z, I x, I 0] :: slO hopT 74 vh hs :: bxO g9 107 #[I y37, I y39, vh] :: slO intT 3 vq q :: bxO g6 107 #[I 0, I 0, .slice none 0 0] :: bxO g4 27 #[va, vl] :: curO v n c 109 :: slO asnT 121 va A :: slO linkT 78 vl L :: os)) x.1 x.2)) (F := (fun x => (fun x g => [(17, .pointer (some ⟨g, 0, none⟩)), (13, I z), (12, I ((k : Int))), (10, I r), (11, I i), (0, .pointer (some ⟨c, 0, none⟩)), (2, I kd), (4, .pointer (some ⟨g4, 0, none⟩)), (6, .pointer (some ⟨g6, 0, none⟩)), (9, .pointer (some ⟨g9, 0, none⟩)), (15, I ((remote (⟨A, L⟩ : Topo) r o).1)), (16, I ((remote (⟨A, L⟩ : Topo) r o).2))]) x.1 x.2)) ((y37 + 50) + y110, g17) ?_ (by exact ⟨rfl, rfl, rfl, rfl, rfl, rfl, rfl, rfl, rfl, rfl, rfl, rfl, trivial⟩)
                try dsimp only
                exact ⟨by omega, B, S⟩
            · have S := S.f6
              refine t_callf Try.call64 rfl (spec_l1Below 50 S (K.below B)) ?_ rfl
              rintro e w141 ⟨y110, rfl, hf110, S, x142⟩
              refine ⟨_, rfl, ?_⟩
              have B := B.trans x142
              refine t_bx1 S.tail.tail.tail.box ab_int rfl rfl ?_ rfl
              refine t_add rfl rfl (by omega) ?_ rfl
              refine t_add rfl rfl (by omega) ?_ rfl
              refine t_build (fun w => b_hop4 _ _ _ _ w) rfl ?_ rfl
              have S := S.f1
              refine t_stn S sb_hop rfl rfl rfl rfl (by intro zz hu; have hu : zz ∈ ([I r, I i, I z, I ((y37 + 50) + y110), I 0] : List Value) := hu; simp only [List.mem_cons, List.not_mem_nil, or_false] at hu; rcases hu with rfl | rfl | rfl | rfl | rfl <;> rfl) ?_
              intro w143 b144 S
              have B := B.trans b144
              refine t_done' ?_
              have S := S.f8
              have S := S.f8
              have S := S.f3
              have S := S.f8
              have S := S.f8
              have S := S.f8
              have S := S.f8
              have S := S.f8
              have S := S.f8
              refine x_cut (X := Int × Nat) (I := (fun x wq => (fun x g => (0 ≤ x ∧ x ≤ 1000) ∧ Below b w wq ∧ Sep b wq (bxO g 74 #[I r, I i, I z, I x, I 0] :: slO hopT 74 vh hs :: bxO g9 107 #[I y37, I y39, vh] :: slO intT 3 vq q :: bxO g6 107 #[I 0, I 0, .slice none 0 0] :: bxO g4 27 #[va, vl] :: curO v n c 109 :: slO asnT 121 va A :: slO linkT 78 vl L :: os)) x.1 x.2)) (F := (fun x => (fun x g => [(17, .pointer (some ⟨g, 0, none⟩)), (13, I z), (12, I ((k : Int))), (10, I r), (11, I i), (0, .pointer (some ⟨c, 0, none⟩)), (2, I kd), (4, .pointer (some ⟨g4, 0, none⟩)), (6, .pointer (some ⟨g6, 0, none⟩)), (9, .pointer (some ⟨g9, 0, none⟩)), (15, I ((remote (⟨A, L⟩ : Topo) r o).1)), (16, I ((remote (⟨A, L⟩ : Topo) r o).2))]) x.1 x.2)) ((y37 + 50) + y110, g17) ?_ (by exact ⟨rfl, rfl, rfl, rfl, rfl, rfl, rfl, rfl, rfl, rfl, rfl, rfl, trivial⟩)
              try dsimp only
              exact ⟨by omega, B, S⟩
        rintro ⟨x, g⟩ w145 hI
        try dsimp only at hI ⊢
        obtain ⟨hx, B, S⟩ := hI
        obtain ⟨ea, hea⟩ := getx (l := A) (k := r.toNat) (by omega)
        refine w_seq ?_
        refine w_cut (X := List Hop × Value) (fun x wq => (fun hs2 vh2 => hs2.length ≤ k + 1 ∧ SealK ⟨A, L⟩ y37 y39 hs2 ∧ Below b w wq ∧ Sep b wq (slO hopT 74 vh2 hs2 :: bxO g9 107 #[I y37, I y39, vh2] :: slO intT 3 vq q :: bxO g6 107 #[I 0, I 0, .slice none 0 0] :: bxO g4 27 #[va, vl] :: curO v n c 109 :: slO asnT 121 va A :: slO linkT 78 vl L :: os)) x.1 x.2) (fun x => (fun hs2 vh2 => [(13, I z), (12, I ((k : Int))), (10, I r), (11, I i), (0, .pointer (some ⟨c, 0, none⟩)), (2, I kd), (4, .pointer (some ⟨g4, 0, none⟩)), (6, .pointer (some ⟨g6, 0, none⟩)), (9, .pointer (some ⟨g9, 0, none⟩)), (15, I ((remote (⟨A, L⟩ : Topo) r o).1)), (16, I ((remote (⟨A, L⟩ : Topo) r o).2))]) x.1 x.2) ?_ ?_
        · refine w_draw (.st .take 0 (.st .take 1 (.st .take 2 (.st .take 3 (.st .take 4 (.st .take 5 (.st .take 6 (.st .take 7 (.st .take 8 (.st .take 9 (.st .take 10 (.st .take 11 (.st .take 12 (.st .take 13 (.st .take 15 (.st .run 14 (.st .run 16 (.st .run 17 (.st .fin 18 (.st .fin 19 (.st .fin 20 .done))))))))))))))))))))) mixed (by kernel_rfl) ?_
          intro w146 x147
          have B := bx Hb B x147
          have S := S.below x147
          refine t_fldx fb_seg_2 rfl rfl ?_ rfl
          refine t_bx1 S.tail.tail.box ab_s_hop rfl rfl ?_ rfl
          refine t_fldx fb_topo_0 rfl rfl ?_ rfl
          refine t_bx1 S.tail.tail.tail.tail.tail.box ab_s_asn rfl rfl ?_ rfl
          refine t_move rfl ?_ rfl
          refine t_idx e_asn (k := r.toNat) (S.tail.tail.tail.tail.tail.tail.tail.sl) hea (Below.refl _ _) rfl rfl (by first | rfl | omega) ?_ rfl
          intro p118 hp118
          refine t_fld ln_asn_2 (by assumption) fb_asn_2 rfl ?_ rfl
          intro p119 hp119
          refine t_ldi (by assumption) ab_int (Below.refl _ _) rfl ?_ rfl
          refine t_fldx fb_seg_0 rfl rfl ?_ rfl
          refine t_bx1 S.tail.tail.box ab_int rfl rfl ?_ rfl
          refine t_bxn S.tail.tail.box ab_seg sb_seg rfl rfl ?_ rfl
          refine t_fldx fb_seg_2 rfl rfl ?_ rfl
          refine t_bx1 S.tail.tail.box ab_s_hop rfl rfl ?_ rfl
          refine t_len e_hop (S.tail.sl) rfl rfl ?_ rfl
          refine t_bxn S.box ab_hop sb_hop rfl rfl ?_ rfl
          refine t_callx Try.call125 rfl (spec_BetaAt (⟨y37, y39, hs⟩ : Seg) _ _ _ (seg_mkv (x := (⟨y37, y39, hs⟩ : Seg)) (S.tail.sl)) (by (try dsimp only); omega)) ?_ rfl rfl
          intro w148 x149
          have B := bx Hb B x149
          have S := S.below x149
          replace hp118 := hp118.below x149
          replace hp119 := hp119.below x149
          refine t_callx Try.call124 rfl (spec_AuthenticateHop _ _ _ (⟨r, i, z, x, 0⟩) _) ?_ rfl rfl
          intro w150 x151
          have B := bx Hb B x151
          have S := S.below x151
          replace hp118 := hp118.below x151
          replace hp119 := hp119.below x151
          refine t_lit (T := hopT) (l := [((authHop ea.key y37 (segBeta (⟨y37, y39, hs⟩ : Seg) (hs.length : Int)) (⟨r, i, z, x, 0⟩)) : Hop)]) (css := [[I (((authHop ea.key y37 (segBeta (⟨y37, y39, hs⟩ : Seg) (hs.length : Int)) (⟨r, i, z, x, 0⟩))).ia), I (((authHop ea.key y37 (segBeta (⟨y37, y39, hs⟩ : Seg) (hs.length : Int)) (⟨r, i, z, x, 0⟩))).ing), I (((authHop ea.key y37 (segBeta (⟨y37, y39, hs⟩ : Seg) (hs.length : Int)) (⟨r, i, z, x, 0⟩))).eg), I (((authHop ea.key y37 (segBeta (⟨y37, y39, hs⟩ : Seg) (hs.length : Int)) (⟨r, i, z, x, 0⟩))).exp), I (((authHop ea.key y37 (segBeta (⟨y37, y39, hs⟩ : Seg) (hs.length : Int)) (⟨r, i, z, x, 0⟩))).mac)]]) hop_flat S (fun w => bs_hop1 _ _ _ _ _ w) rfl rfl rfl rfl (by simp [maxLen]) (litR_one fun _ => rfl) ?_ rfl rfl
          intro u130 w152 x153 S
          have B := bx Hb B x153
          have hR := S.sl
          have S := S.f2
          refine t_cat hop_flat e_hop S hR rfl rfl rfl (by first | omega | (simp [-List.length_flatMap]; omega)) (by (simp [maxLen, -List.length_flatMap]; try omega)) ?_ rfl
          intro v131 w154 x155 S
          have B := B.trans x155
          clear hR
          have S := S.f1
          have S := S.tail
          refine t_fldx fb_seg_2 rfl rfl ?_ rfl
          obtain ⟨Av131, cv131, rfl, _⟩ := S.sl.form
          have S := S.f2
          refine t_st1 S sb_s_hop rfl rfl rfl rfl rfl ?_
          intro w156 b157 S
          have B := B.trans b157
          refine t_done' ?_
          have S := S.f2
          have S := S.tail
          have S := S.f7
          have S := S.f7
          have S := S.f7
          have S := S.f7
          have S := S.f7
          have S := S.f7
          have S := S.f6
          have S := S.f7
          refine x_cut (X := List Hop × Value) (I := (fun x wq => (fun hs2 vh2 => hs2.length ≤ k + 1 ∧ SealK ⟨A, L⟩ y37 y39 hs2 ∧ Below b w wq ∧ Sep b wq (slO hopT 74 vh2 hs2 :: bxO g9 107 #[I y37, I y39, vh2] :: slO intT 3 vq q :: bxO g6 107 #[I 0, I 0, .slice none 0 0] :: bxO g4 27 #[va, vl] :: curO v n c 109 :: slO asnT 121 va A :: slO linkT 78 vl L :: os)) x.1 x.2)) (F := (fun x => (fun hs2 vh2 => [(13, I z), (12, I ((k : Int))), (10, I r), (11, I i), (0, .pointer (some ⟨c, 0, none⟩)), (2, I kd), (4, .pointer (some ⟨g4, 0, none⟩)), (6, .pointer (some ⟨g6, 0, none⟩)), (9, .pointer (some ⟨g9, 0, none⟩)), (15, I ((remote (⟨A, L⟩ : Topo) r o).1)), (16, I ((remote (⟨A, L⟩ : Topo) r o).2))]) x.1 x.2)) (hs ++ [authHop ea.key y37 (segBeta ⟨y37, y39, hs⟩ hs.length) ⟨r, i, z, x, 0⟩], .slice Av131 (hs ++ ([((authHop ea.key y37 (segBeta (⟨y37, y39, hs⟩ : Seg) (hs.length : Int)) (⟨r, i, z, x, 0⟩)) : Hop)])).length cv131) ?_ (by exact ⟨rfl, rfl, rfl, rfl, rfl, rfl, rfl, rfl, rfl, rfl, rfl, trivial⟩)
          try dsimp only
          exact ⟨by rw [List.length_append, List.length_singleton]; omega, seal_next (r := r) (i := i) (e := z) (x := x) hS hA8 hr hea hi hzr hiz (by omega) rfl, B, S⟩
        rintro ⟨hs2, vh2⟩ w158 hI
        try dsimp only at hI ⊢
        obtain ⟨hl2, hS2, B, S⟩ := hI
        refine w_seq ?_
        refine w_seq ?_
        refine w_region ?_
        refine t_move rfl ?_ rfl
        refine t_eql rfl rfl ?_ rfl
        refine t_done ?_
        refine x_seq ?_
        refine w_if rfl ?_ ?_
        · intro hz0
          refine w_seq ?_
          refine w_region ?_
          refine t_bxn S.tail.box ab_seg sb_seg rfl rfl ?_ rfl
          have S := S.f3
          refine t_stn S sb_seg rfl rfl rfl rfl (by intro zz hu; have hu : zz ∈ ([I y37, I y39, vh2] : List Value) := hu; simp only [List.mem_cons, List.not_mem_nil, or_false] at hu; rcases hu with rfl | rfl | rfl <;> first | rfl | exact (SlR.cells (by first | assumption | exact S.tail.sl | exact S.tail.tail.sl | exact S.tail.tail.tail.sl | exact S.tail.tail.tail.tail.sl | exact S.tail.tail.tail.tail.tail.sl | exact S.tail.tail.tail.tail.tail.tail.sl | exact S.tail.tail.tail.tail.tail.tail.tail.sl | exact S.tail.tail.tail.tail.tail.tail.tail.tail.sl)).2) ?_
          intro w159 b160 S
          have B := B.trans b160
          refine t_done ?_
          refine x_seq ?_
          refine w_ret ?_
          refine x_then_ret ?_
          refine x_block_ret ?_
          refine x_then_ret ?_
          refine x_then_ret ?_
          refine x_block_ret ?_
          refine x_then_ret ?_
          refine x_retc rfl rfl S.box ab_seg sb_seg rfl ?_
          have S := S.tail
          have S := S.f1
          have S := S.tail
          have S := S.f1
          have S := S.tail
          have S := S.f1
          have S := S.tail
          have S := S.f3
          have S := S.f3
          have S := S.f3
          have S := S.f3
          exact ⟨_, ⟨y37, y39, hs2⟩, rfl, hS2.seg (by omega) (by omega) (by omega) (by omega) (by omega), S, B⟩
        · intro hz0
          refine w_skip ?_
          refine x_seq ?_
          refine w_seq ?_
          refine w_region ?_
          refine t_move rfl ?_ rfl
          refine t_assign rfl ?_ rfl
          refine t_done ?_
          refine x_seq ?_
          refine w_region ?_
          refine t_move rfl ?_ rfl
          refine t_assign rfl ?_ rfl
          refine t_done ?_
          refine x_block_normal ?_
          refine x_seq ?_
          refine w_region ?_
          refine t_move rfl ?_ rfl
          refine t_add rfl rfl (by omega) ?_ rfl
          refine t_assign rfl ?_ rfl
          refine t_done ?_
          have hzo : z = o := by omega
          have hrem2 := hrem (by omega)
          refine x_round (X := Nat × Int × Int × List Hop × Value) (I := (fun x wq => (fun k r i hs vh => k ≤ 5 ∧ (0 ≤ r ∧ r < (A.length : Int)) ∧ (0 ≤ i ∧ i ≤ 6) ∧ List.length hs ≤ k ∧ SealK ⟨A, L⟩ y37 y39 hs ∧ Below b w wq ∧ Sep b wq (slO hopT 74 vh hs :: bxO g9 107 #[I y37, I y39, vh] :: slO intT 3 vq q :: bxO g6 107 #[I 0, I 0, .slice none 0 0] :: bxO g4 27 #[va, vl] :: curO v n c 109 :: slO asnT 121 va A :: slO linkT 78 vl L :: os)) x.1 x.2.1 x.2.2.1 x.2.2.2.1 x.2.2.2.2)) (F := (fun x => (fun k r i hs vh => [(12, I ((k : Int))), (10, I r), (11, I i), (0, .pointer (some ⟨c, 0, none⟩)), (2, I kd), (4, .pointer (some ⟨g4, 0, none⟩)), (6, .pointer (some ⟨g6, 0, none⟩)), (9, .pointer (some ⟨g9, 0, none⟩))]) x.1 x.2.1 x.2.2.1 x.2.2.2.1 x.2.2.2.2)) (μ := (fun x => (fun k r i hs vh => 5 - k) x.1 x.2.1 x.2.2.1 x.2.2.2.1 x.2.2.2.2)) (k + 1, (remote ⟨A, L⟩ r o).1, (remote ⟨A, L⟩ r o).2, hs2, vh2) ?_ (by exact ⟨rfl, rfl, rfl, rfl, rfl, rfl, rfl, rfl, trivial⟩) (by (try dsimp only); omega)
          try dsimp only
          exact ⟨by omega, hrem2.1, by omega, hl2, hS2, B, S⟩
      · intro hge
        refine w_exit ?_
        refine x_then_exit ?_
        refine x_then_exit ?_
        refine x_block_exit ?_
        refine x_seq ?_
        refine w_seq ?_
        refine w_region ?_
        refine t_bxn S.tail.box ab_seg sb_seg rfl rfl ?_ rfl
        have S := S.f3
        refine t_stn S sb_seg rfl rfl rfl rfl (by intro zz hu; have hu : zz ∈ ([I y37, I y39, vh] : List Value) := hu; simp only [List.mem_cons, List.not_mem_nil, or_false] at hu; rcases hu with rfl | rfl | rfl <;> first | rfl | exact (SlR.cells (by first | assumption | exact S.tail.sl | exact S.tail.tail.sl | exact S.tail.tail.tail.sl | exact S.tail.tail.tail.tail.sl | exact S.tail.tail.tail.tail.tail.sl | exact S.tail.tail.tail.tail.tail.tail.sl | exact S.tail.tail.tail.tail.tail.tail.tail.sl | exact S.tail.tail.tail.tail.tail.tail.tail.tail.sl)).2) ?_
        intro w161 b162 S
        have B := B.trans b162
        refine t_done ?_
        refine x_seq ?_
        refine w_ret ?_
        refine x_retc rfl rfl S.box ab_seg sb_seg rfl ?_
        have S := S.tail
        have S := S.f1
        have S := S.tail
        have S := S.f1
        have S := S.tail
        have S := S.f1
        have S := S.tail
        have S := S.f3
        have S := S.f3
        have S := S.f3
        have S := S.f3
        exact ⟨_, ⟨y37, y39, hs⟩, rfl, hS.seg (by omega) (by omega) (by omega) (by omega) (by omega), S, B⟩
end Go.Proofs.Ytdaecknfahgddaa
namespace Go.Proofs.Ytdaecknfahgddaa
open Go.RowKit
set_option linter.unusedVariables false
section
variable {P : Program} {n : Nat} {L : Frm} {w : World}
theorem x_retcc {fn : Func} {R : Ending → World → Prop} {t0 g0 sz0 : Nat} {tt0 tb0 : TypeId} {C0 : Array Value} {t1 g1 sz1 : Nat} {tt1 tb1 : TypeId} {C1 : Array Value} (hr : fn.results = #[.cell t0 tt0, .cell t1 tt1]) (h0 : look L t0 = some (.pointer (some ⟨g0, 0, none⟩))) (hb0 : w.heap[g0]? = some (.cells C0 tb0 (0, 0))) (ha0 : aggB P tt0 = some true) (hs0 : sizeB P tt0 = some sz0) (hz0 : C0.size = sz0) (h1 : look L t1 = some (.pointer (some ⟨g1, 0, none⟩))) (hb1 : w.heap[g1]? = some (.cells C1 tb1 (0, 0))) (ha1 : aggB P tt1 = some true) (hs1 : sizeB P tt1 = some sz1) (hz1 : C1.size = sz1) (h : R (.returned (.tuple #[.agg C0, .agg C1])) w) : WX n (bodyPost P fn R) .ret L w := by
  intro a hE
  subst hz0
  subst hz1
  have k0 := hE.at_ _ _ h0
  have k1 := hE.at_ _ _ h1
  refine bodyPost_ret ?_ hE.defers h
  simp [results, hr, k0, asAddr, run_loadBox hb0 ha0 hs0, k1, run_loadBox hb1 ha1 hs1]
theorem x_rettcc {fn : Func} {R : Ending → World → Prop} {t0 : Nat} {v0 : Value} {t1 g1 sz1 : Nat} {tt1 tb1 : TypeId} {C1 : Array Value} {t2 g2 sz2 : Nat} {tt2 tb2 : TypeId} {C2 : Array Value} (hr : fn.results = #[.tmp t0, .cell t1 tt1, .cell t2 tt2]) (h0 : look L t0 = some v0) (h1 : look L t1 = some (.pointer (some ⟨g1, 0, none⟩))) (hb1 : w.heap[g1]? = some (.cells C1 tb1 (0, 0))) (ha1 : aggB P tt1 = some true) (hs1 : sizeB P tt1 = some sz1) (hz1 : C1.size = sz1) (h2 : look L t2 = some (.pointer (some ⟨g2, 0, none⟩))) (hb2 : w.heap[g2]? = some (.cells C2 tb2 (0, 0))) (ha2 : aggB P tt2 = some true) (hs2 : sizeB P tt2 = some sz2) (hz2 : C2.size = sz2) (h : R (.returned (.tuple #[v0, .agg C1, .agg C2])) w) : WX n (bodyPost P fn R) .ret L w := by
  intro a hE
  subst hz1
  subst hz2
  have k0 := hE.at_ _ _ h0
  have k1 := hE.at_ _ _ h1
  have k2 := hE.at_ _ _ h2
  refine bodyPost_ret ?_ hE.defers h
  simp [results, hr, k0, k1, asAddr, run_loadBox hb1 ha1 hs1, k2, run_loadBox hb2 ha2 hs2]
end
end Go.Proofs.Ytdaecknfahgddaa
