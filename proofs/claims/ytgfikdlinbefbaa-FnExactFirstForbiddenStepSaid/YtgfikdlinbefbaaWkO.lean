/- Steps of paths: StepAllowed, counted steps, FirstForbiddenStep, PathAllowed, of the program and of the reference. -/
import Derived.Test.YtgfikdlinbefbaaWkM
namespace Go.Proofs.Ytgfikdlinbefbaa
open Go.RowKit
set_option linter.unusedVariables false
set_option maxRecDepth 20000

theorem t_offu {P : Program} {n : Nat} {ops : Array Oper} {Q : Exit → Act → World → Prop} {L : Frm} {w : World} {m : Md} {r : IT} {d : Nat} {ty : TypeId} {pos : String} {af : Array Edge} {op : Op} {j tj : Nat} {b : Bool} (hj : (ops[j]?).bind (·.dst) = some tj) (hg : look L tj = some undef) (k : WT P n ops Q r ((d, undef) :: L) w) (hn : Nat.blt d n = true) : WT P n ops Q (.st m ⟨some d, op, ty, pos, af, some (j, b)⟩ r) L w := by
  intro a ha
  have hy : yielded ops a.tmps j = none := by
    unfold yielded
    rw [hj, Option.bind_some, ha.at_ _ _ hg]
    rfl
  have hw : Region.wanted (⟨some d, op, ty, pos, af, some (j, b)⟩ : Oper) (yielded ops a.tmps) = false := by
    simp only [Region.wanted, hy]
    cases b <;> rfl
  have hk := k _ (ha.put hn undef)
  cases m with
  | take => exact ⟨undef, .inr ⟨hw, rfl⟩, hk⟩
  | run => simp only [wpT, hw]; exact hk
  | fin => simp only [wpT, hw]; exact hk
theorem impl_StepOkE (t : Topo) (v : Value) (x : Stp) (w : World) (h : VA topoT w v t) (hz : sz_topo t ≤ 1048576) : Calls Try.prog 94 #[v, .agg #[I x.ia, I x.ing, I x.eg]] w fun e w' => e = .returned (.bool (stepOkE t x)) ∧ Below w.heap.size w w' := by
  have hx := step_mkv w x
  have X0 := Below.refl w.heap.size w
  refine enter Try.func94 rfl Try.ntmps94 rfl ?_
  refine w_seq ?_
  refine w_region ?_
  refine t_boxr (by assumption) rfl ?_ rfl rfl
  intro p2 w1 x2 hp2
  replace h := h.below x2
  replace hx := hx.below x2
  have X0 := ext_trans X0 x2
  refine t_boxr (by assumption) rfl ?_ rfl rfl
  intro p3 w3 x4 hp3
  replace h := h.below x4
  replace hx := hx.below x4
  replace hp2 := hp2.below x4
  have X0 := ext_trans X0 x4
  have S := Sep.nil w3
  have B := Below.refl w3.heap.size w3
  have Hb := Nat.le_refl w3.heap.size
  refine t_assign rfl ?_ rfl
  refine t_done ?_
  refine x_seq ?_
  refine w_seq ?_
  refine w_draw (.st .take 0 (.st .take 1 (.st .take 2 (.st .take 3 (.st .take 4 (.st .take 6 (.st .take 7 (.st .take 8 (.st .take 9 (.st .take 10 (.st .run 5 (.st .run 11 (.st .run 12 (.st .take 13 (.st .take 14 (.st .take 15 (.st .take 16 (.st .take 17 (.st .take 18 (.st .take 19 (.st .take 20 (.st .take 21 (.st .take 22 (.st .take 23 (.st .take 24 (.st .take 25 .done)))))))))))))))))))))))))) mixed (by kernel_rfl) ?_
  intro w5 x6
  have B := bx Hb B x6
  have S := S.below x6
  refine t_lda (by assumption) ab_topo sb_topo B rfl ?_ rfl
  intro v5 hv5
  obtain ⟨v5_0, v5_1, rfl, hv5_0, hv5_1⟩ := topo_va hv5
  refine t_fld ln_step_0 (by assumption) fb_step_0 rfl ?_ rfl
  intro p6 hp6
  refine t_ldi (by assumption) ab_int B rfl ?_ rfl
  refine t_fld ln_step_1 (by assumption) fb_step_1 rfl ?_ rfl
  intro p8 hp8
  refine t_ldi (by assumption) ab_int B rfl ?_ rfl
  refine t_lda (by assumption) ab_topo sb_topo B rfl ?_ rfl
  intro v11 hv11
  obtain ⟨v11_0, v11_1, rfl, hv11_0, hv11_1⟩ := topo_va hv11
  refine t_fld ln_step_0 (by assumption) fb_step_0 rfl ?_ rfl
  intro p12 hp12
  refine t_ldi (by assumption) ab_int B rfl ?_ rfl
  refine t_fld ln_step_2 (by assumption) fb_step_2 rfl ?_ rfl
  intro p14 hp14
  refine t_ldi (by assumption) ab_int B rfl ?_ rfl
  refine t_callx Try.call121 rfl (va1 (by first | assumption | exact VA.below (by assumption) B) fun cs h => impl_ifKind _ cs _ _ _ h (by omega)) ?_ rfl rfl
  intro w7 x8
  have B := bx Hb B x8
  have S := S.below x8
  refine t_callx Try.call121 rfl (va1 (by first | assumption | exact VA.below (by assumption) B) fun cs h => impl_ifKind _ cs _ _ _ h (by omega)) ?_ rfl rfl
  intro w9 x10
  have B := bx Hb B x10
  have S := S.below x10
  refine t_calls Try.call135 rfl (impl_transit _ _ _) ?_ rfl rfl
  refine t_move rfl ?_ rfl
  refine t_part (t := 18) rfl ?_ ?_
  · intro h1
    refine t_on rfl rfl ?_
    refine t_fld ln_step_1 (by assumption) fb_step_1 rfl ?_ rfl
    intro p19 hp19
    refine t_on rfl rfl ?_
    refine t_ldi (by assumption) ab_int B rfl ?_ rfl
    refine t_on rfl rfl ?_
    refine t_fld ln_step_2 (by assumption) fb_step_2 rfl ?_ rfl
    intro p21 hp21
    refine t_on rfl rfl ?_
    refine t_ldi (by assumption) ab_int B rfl ?_ rfl
    refine t_on rfl rfl ?_
    refine t_neq rfl rfl ?_ rfl
    refine t_on rfl rfl ?_
    refine t_move rfl ?_ rfl
    refine t_partp (t := 24) rfl ?_ ?_
    · intro h2
      refine t_off rfl rfl rfl ?_ rfl
      refine t_off rfl rfl rfl ?_ rfl
      refine t_off rfl rfl rfl ?_ rfl
      refine t_on rfl rfl ?_
      refine t_pickt rfl rfl ?_ rfl
      refine t_pickt rfl rfl ?_ rfl
      refine t_assign rfl ?_ rfl
      refine t_done' ?_
      refine x_seq ?_
      refine w_ret ?_
      refine x_ret1 rfl rfl ?_
      exact ⟨ret_bool (by unfold stepOkE; rw [h1, decide_eq_true h2]; rfl), ext_trans X0 B⟩
    · intro h2
      refine t_on rfl rfl ?_
      refine t_fld ln_step_1 (by assumption) fb_step_1 rfl ?_ rfl
      intro p25 hp25
      refine t_on rfl rfl ?_
      refine t_ldi (by assumption) ab_int B rfl ?_ rfl
      refine t_on rfl rfl ?_
      refine t_eql rfl rfl ?_ rfl
      refine t_on rfl rfl ?_
      refine t_pickf rfl rfl ?_ rfl
      refine t_pickt rfl rfl ?_ rfl
      refine t_assign rfl ?_ rfl
      refine t_done' ?_
      refine x_seq ?_
      refine w_ret ?_
      refine x_ret1 rfl rfl ?_
      exact ⟨ret_bool (by unfold stepOkE; rw [h1, decide_eq_false h2]; rfl), ext_trans X0 B⟩
  · intro h1
    refine t_off rfl rfl rfl ?_ rfl
    refine t_off rfl rfl rfl ?_ rfl
    refine t_off rfl rfl rfl ?_ rfl
    refine t_off rfl rfl rfl ?_ rfl
    refine t_off rfl rfl rfl ?_ rfl
    refine t_off rfl rfl rfl ?_ rfl
    refine t_offu rfl rfl ?_ rfl
    refine t_offu rfl rfl ?_ rfl
    refine t_offu rfl rfl ?_ rfl
    refine t_off rfl rfl rfl ?_ rfl
    refine t_pickf rfl rfl ?_ rfl
    refine t_assign rfl ?_ rfl
    refine t_done' ?_
    refine x_seq ?_
    refine w_ret ?_
    refine x_ret1 rfl rfl ?_
    exact ⟨ret_bool (by unfold stepOkE; rw [h1]; rfl), ext_trans X0 B⟩
theorem spec_StepOkE (t : Topo) (v : Value) (x : Stp) (w : World) (h : VA topoT w v t) (hz : sz_topo t ≤ 1048576) : Calls Try.prog 92 #[v, .agg #[I x.ia, I x.ing, I x.eg]] w fun e w' => e = .returned (.bool (stepOkE t x)) ∧ Below w.heap.size w w' := by
  have hx := step_mkv w x
  have X0 := Below.refl w.heap.size w
  refine enter Try.func92 rfl Try.ntmps92 rfl ?_
  refine w_seq ?_
  refine w_region ?_
  refine t_boxr (by assumption) rfl ?_ rfl rfl
  intro p2 w11 x12 hp2
  replace h := h.below x12
  replace hx := hx.below x12
  have X0 := ext_trans X0 x12
  refine t_boxr (by assumption) rfl ?_ rfl rfl
  intro p3 w13 x14 hp3
  replace h := h.below x14
  replace hx := hx.below x14
  replace hp2 := hp2.below x14
  have X0 := ext_trans X0 x14
  have S := Sep.nil w13
  have B := Below.refl w13.heap.size w13
  have Hb := Nat.le_refl w13.heap.size
  refine t_assign rfl ?_ rfl
  refine t_done ?_
  refine x_seq ?_
  refine w_seq ?_
  refine w_seq ?_
  refine w_region ?_
  refine t_fld ln_step_1 (by assumption) fb_step_1 rfl ?_ rfl
  intro p5 hp5
  refine t_ldi (by assumption) ab_int B rfl ?_ rfl
  refine t_fld ln_step_2 (by assumption) fb_step_2 rfl ?_ rfl
  intro p7 hp7
  refine t_ldi (by assumption) ab_int B rfl ?_ rfl
  refine t_eql rfl rfl ?_ rfl
  refine t_move rfl ?_ rfl
  refine t_partp (t := 10) rfl ?_ ?_
  · intro h1
    refine t_on rfl rfl ?_
    refine t_fld ln_step_1 (by assumption) fb_step_1 rfl ?_ rfl
    intro p11 hp11
    refine t_on rfl rfl ?_
    refine t_ldi (by assumption) ab_int B rfl ?_ rfl
    refine t_on rfl rfl ?_
    refine t_neq rfl rfl ?_ rfl
    refine t_pickt rfl rfl ?_ rfl
    refine t_done ?_
    refine x_seq ?_
    refine w_if rfl ?_ ?_
    · intro h2
      refine w_seq ?_
      refine w_region ?_
      refine t_assign rfl ?_ rfl
      refine t_done ?_
      refine x_seq ?_
      refine w_ret ?_
      refine x_then_ret ?_
      refine x_ret1 rfl rfl ?_
      exact ⟨ret_bool (by rw [h1] at h2; simp [stepOkE, h1, h2]), ext_trans X0 B⟩
    · intro h2
      refine w_skip ?_
      refine x_seq ?_
      refine w_seq ?_
      refine w_draw (.st .take 0 (.st .take 1 (.st .take 2 (.st .take 3 (.st .take 4 (.st .take 6 (.st .take 7 (.st .take 8 (.st .take 9 (.st .take 10 (.st .run 5 (.st .run 11 (.st .run 12 (.st .take 13 .done)))))))))))))) mixed (by kernel_rfl) ?_
      intro w15 x16
      have B := bx Hb B x16
      have S := S.below x16
      refine t_lda (by assumption) ab_topo sb_topo B rfl ?_ rfl
      intro v15 hv15
      obtain ⟨v15_0, v15_1, rfl, hv15_0, hv15_1⟩ := topo_va hv15
      refine t_fld ln_step_0 (by assumption) fb_step_0 rfl ?_ rfl
      intro p16 hp16
      refine t_ldi (by assumption) ab_int B rfl ?_ rfl
      refine t_fld ln_step_1 (by assumption) fb_step_1 rfl ?_ rfl
      intro p18 hp18
      refine t_ldi (by assumption) ab_int B rfl ?_ rfl
      refine t_lda (by assumption) ab_topo sb_topo B rfl ?_ rfl
      intro v21 hv21
      obtain ⟨v21_0, v21_1, rfl, hv21_0, hv21_1⟩ := topo_va hv21
      refine t_fld ln_step_0 (by assumption) fb_step_0 rfl ?_ rfl
      intro p22 hp22
      refine t_ldi (by assumption) ab_int B rfl ?_ rfl
      refine t_fld ln_step_2 (by assumption) fb_step_2 rfl ?_ rfl
      intro p24 hp24
      refine t_ldi (by assumption) ab_int B rfl ?_ rfl
      refine t_callx Try.call120 rfl (va1 (by first | assumption | exact VA.below (by assumption) B) fun cs h => spec_ifKind _ cs _ _ _ h (by omega)) ?_ rfl rfl
      intro w17 x18
      have B := bx Hb B x18
      have S := S.below x18
      refine t_callx Try.call120 rfl (va1 (by first | assumption | exact VA.below (by assumption) B) fun cs h => spec_ifKind _ cs _ _ _ h (by omega)) ?_ rfl rfl
      intro w19 x20
      have B := bx Hb B x20
      have S := S.below x20
      refine t_calls Try.call132 rfl (spec_transit _ _ _) ?_ rfl rfl
      refine t_assign rfl ?_ rfl
      refine t_done' ?_
      refine x_seq ?_
      refine w_ret ?_
      refine x_ret1 rfl rfl ?_
      exact ⟨ret_bool (by rw [h1] at h2; simp at h2; simp [stepOkE, h1, h2]), ext_trans X0 B⟩
  · intro h1
    refine t_off rfl rfl rfl ?_ rfl
    refine t_off rfl rfl rfl ?_ rfl
    refine t_off rfl rfl rfl ?_ rfl
    refine t_pickf rfl rfl ?_ rfl
    refine t_done ?_
    refine x_seq ?_
    refine w_no rfl ?_
    refine w_skip ?_
    refine x_seq ?_
    refine w_seq ?_
    refine w_draw (.st .take 0 (.st .take 1 (.st .take 2 (.st .take 3 (.st .take 4 (.st .take 6 (.st .take 7 (.st .take 8 (.st .take 9 (.st .take 10 (.st .run 5 (.st .run 11 (.st .run 12 (.st .take 13 .done)))))))))))))) mixed (by kernel_rfl) ?_
    intro w21 x22
    have B := bx Hb B x22
    have S := S.below x22
    refine t_lda (by assumption) ab_topo sb_topo B rfl ?_ rfl
    intro v15 hv15
    obtain ⟨v15_0, v15_1, rfl, hv15_0, hv15_1⟩ := topo_va hv15
    refine t_fld ln_step_0 (by assumption) fb_step_0 rfl ?_ rfl
    intro p16 hp16
    refine t_ldi (by assumption) ab_int B rfl ?_ rfl
    refine t_fld ln_step_1 (by assumption) fb_step_1 rfl ?_ rfl
    intro p18 hp18
    refine t_ldi (by assumption) ab_int B rfl ?_ rfl
    refine t_lda (by assumption) ab_topo sb_topo B rfl ?_ rfl
    intro v21 hv21
    obtain ⟨v21_0, v21_1, rfl, hv21_0, hv21_1⟩ := topo_va hv21
    refine t_fld ln_step_0 (by assumption) fb_step_0 rfl ?_ rfl
    intro p22 hp22
    refine t_ldi (by assumption) ab_int B rfl ?_ rfl
    refine t_fld ln_step_2 (by assumption) fb_step_2 rfl ?_ rfl
    intro p24 hp24
    refine t_ldi (by assumption) ab_int B rfl ?_ rfl
    refine t_callx Try.call120 rfl (va1 (by first | assumption | exact VA.below (by assumption) B) fun cs h => spec_ifKind _ cs _ _ _ h (by omega)) ?_ rfl rfl
    intro w23 x24
    have B := bx Hb B x24
    have S := S.below x24
    refine t_callx Try.call120 rfl (va1 (by first | assumption | exact VA.below (by assumption) B) fun cs h => spec_ifKind _ cs _ _ _ h (by omega)) ?_ rfl rfl
    intro w25 x26
    have B := bx Hb B x26
    have S := S.below x26
    refine t_calls Try.call132 rfl (spec_transit _ _ _) ?_ rfl rfl
    refine t_assign rfl ?_ rfl
    refine t_done' ?_
    refine x_seq ?_
    refine w_ret ?_
    refine x_ret1 rfl rfl ?_
    exact ⟨ret_bool (by simp [stepOkE, h1]), ext_trans X0 B⟩
theorem impl_countSteps (t : Topo) (v : Value) (p : Path) (u : Value) (kind : Int) (w : World) (h : VA topoT w v t) (hp : VA pathT w u p) (hz : sz_topo t ≤ 1048576) (hz' : sz_path p ≤ 1048576) (hl : lenOk_path p) (hg : rng_path p) : Calls Try.prog 76 #[v, u, I kind] w fun e w' => e = .returned (I (cntK t kind (pathSteps p) : Int)) ∧ Below w.heap.size w w' := by
  have hsl := pathSteps_len p
  have X0 := Below.refl w.heap.size w
  refine enter Try.func76 rfl Try.ntmps76 rfl ?_
  refine w_seq ?_
  refine w_region ?_
  refine t_boxr (by assumption) rfl ?_ rfl rfl
  intro p3 w27 x28 hp3
  replace h := h.below x28
  replace hp := hp.below x28
  have X0 := ext_trans X0 x28
  refine t_boxr (by assumption) rfl ?_ rfl rfl
  intro p4 w29 x30 hp4
  replace h := h.below x30
  replace hp := hp.below x30
  replace hp3 := hp3.below x30
  have X0 := ext_trans X0 x30
  have S := Sep.nil w29
  have B := Below.refl w29.heap.size w29
  have Hb := Nat.le_refl w29.heap.size
  refine t_assign rfl ?_ rfl
  refine t_done ?_
  refine x_seq ?_
  refine w_seq ?_
  refine w_region ?_
  refine t_assign rfl ?_ rfl
  refine t_done ?_
  refine x_seq ?_
  refine w_seq ?_
  refine w_seq ?_
  refine w_region ?_
  refine t_lda (by assumption) ab_path sb_path B rfl ?_ rfl
  intro v10 hv10
  obtain ⟨v10_0, rfl, hv10_0⟩ := path_va hv10
  refine t_call Try.call93 rfl (va1 (by first | assumption | exact VA.below (by assumption) B) fun cs h => impl_PathSteps _ cs _ h (by omega) (by assumption) (by assumption)) ?_ rfl rfl
  rintro e w31 ⟨v11, fpv11, rfl, hOv11, x32⟩
  refine ⟨_, rfl, x32, ?_⟩
  have S := S.add (o := slO _ _ _ _) x32 hOv11
  have B := bx Hb B x32
  refine t_len e_step (S.sl) rfl rfl ?_ rfl
  refine t_move rfl ?_ rfl
  refine t_done ?_
  refine x_seq ?_
  refine w_block ?_
  refine w_loop (X := Nat × Nat) (fun x wq => (fun k c => k ≤ (pathSteps p).length ∧ c = cntK t kind ((pathSteps p).take k) ∧ Below w29.heap.size w29 wq ∧ Sep w29.heap.size wq [slO stepT 101 v11 (pathSteps p)]) x.1 x.2) (fun x => (fun k c => [(13, I ((k : Int))), (7, I ((c : Int))), (2, I kind), (3, p3), (6, I 0), (11, v11), (12, I (((pathSteps p).length : Int)))]) x.1 x.2) (fun x => (fun k c => (pathSteps p).length - k) x.1 x.2) (0, 0) ?_ ⟨rfl, rfl, rfl, rfl, rfl, rfl, rfl, trivial⟩ ?_
  · exact ⟨by omega, rfl, B, S⟩
  · rintro ⟨k, c⟩ w33 hI
    try dsimp only at hI ⊢
    obtain ⟨hk, hc, B, S⟩ := hI
    have hcl := cnt_le t kind ((pathSteps p).take k)
    have htl : ((pathSteps p).take k).length ≤ k := by rw [List.length_take]; omega
    refine w_seq ?_
    refine w_region ?_
    refine t_lss rfl rfl ?_ rfl
    refine t_done ?_
    refine x_seq ?_
    refine w_seq ?_
    refine w_if rfl ?_ ?_
    · intro hlt
      refine w_skip ?_
      refine x_seq ?_
      refine w_seq ?_
      refine w_block ?_
      refine w_seq ?_
      refine w_region ?_
      obtain ⟨e15, he15⟩ : ∃ e, (pathSteps p)[k]? = some e := getx (by omega)
      refine t_idx e_step (k := k) (S.sl) he15 (Below.refl _ _) rfl rfl (by first | rfl | omega) ?_ rfl
      intro p15 hp15
      refine t_lda (by assumption) ab_step sb_step (Below.refl _ _) rfl ?_ rfl
      intro v16 hv16
      obtain rfl := step_va hv16
      refine t_alloc S z_step rfl ?_ rfl rfl
      intro g9 w34 x35 S
      have B := bx Hb B x35
      refine t_stn S sb_step rfl rfl rfl rfl (by simp [Value.oneCell']) ?_
      intro w36 b37 S
      have B := B.trans b37
      refine t_done ?_
      refine x_seq ?_
      refine w_seq ?_
      refine w_region ?_
      refine t_lda (by assumption) ab_topo sb_topo B rfl ?_ rfl
      intro v17 hv17
      obtain ⟨v17_0, v17_1, rfl, hv17_0, hv17_1⟩ := topo_va hv17
      refine t_fldx fb_step_0 rfl rfl ?_ rfl
      refine t_bx1 S.box ab_int rfl rfl ?_ rfl
      refine t_fldx fb_step_2 rfl rfl ?_ rfl
      refine t_bx1 S.box ab_int rfl rfl ?_ rfl
      refine t_callx Try.call121 rfl (va1 (by first | assumption | exact VA.below (by assumption) B) fun cs h => impl_ifKind _ cs _ _ _ h (by omega)) ?_ rfl rfl
      intro w38 x39
      have B := bx Hb B x39
      have S := S.below x39
      refine t_move rfl ?_ rfl
      refine t_eql rfl rfl ?_ rfl
      refine t_done ?_
      refine x_seq ?_
      have hs := cnt_succ (t := t) (kind := kind) he15
      refine w_if rfl ?_ ?_
      · intro he
        refine w_region ?_
        refine t_move rfl ?_ rfl
        refine t_add rfl rfl (by omega) ?_ rfl
        refine t_assign rfl ?_ rfl
        refine t_done ?_
        refine x_block_normal ?_
        refine x_seq ?_
        refine w_region ?_
        refine t_add rfl rfl (by omega) ?_ rfl
        refine t_move rfl ?_ rfl
        refine t_done ?_
        have S := S.tail
        refine x_round (I := (fun x wq => (fun k c => k ≤ (pathSteps p).length ∧ c = cntK t kind ((pathSteps p).take k) ∧ Below w29.heap.size w29 wq ∧ Sep w29.heap.size wq [slO stepT 101 v11 (pathSteps p)]) x.1 x.2)) (F := (fun x => (fun k c => [(13, I ((k : Int))), (7, I ((c : Int))), (2, I kind), (3, p3), (6, I 0), (11, v11), (12, I (((pathSteps p).length : Int)))]) x.1 x.2)) (μ := (fun x => (fun k c => (pathSteps p).length - k) x.1 x.2)) (k + 1, c + 1) ?_ (by exact ⟨rfl, rfl, rfl, rfl, rfl, rfl, rfl, trivial⟩) (by (try dsimp only); omega)
        try dsimp only
        exact ⟨by omega, by rw [hs, if_pos he, hc], B, S⟩
      · intro he
        refine w_skip ?_
        refine x_block_normal ?_
        refine x_seq ?_
        refine w_region ?_
        refine t_add rfl rfl (by omega) ?_ rfl
        refine t_move rfl ?_ rfl
        refine t_done ?_
        have S := S.tail
        refine x_round (I := (fun x wq => (fun k c => k ≤ (pathSteps p).length ∧ c = cntK t kind ((pathSteps p).take k) ∧ Below w29.heap.size w29 wq ∧ Sep w29.heap.size wq [slO stepT 101 v11 (pathSteps p)]) x.1 x.2)) (F := (fun x => (fun k c => [(13, I ((k : Int))), (7, I ((c : Int))), (2, I kind), (3, p3), (6, I 0), (11, v11), (12, I (((pathSteps p).length : Int)))]) x.1 x.2)) (μ := (fun x => (fun k c => (pathSteps p).length - k) x.1 x.2)) (k + 1, c) ?_ (by exact ⟨rfl, rfl, rfl, rfl, rfl, rfl, rfl, trivial⟩) (by (try dsimp only); omega)
        try dsimp only
        exact ⟨by omega, by rw [hs, if_neg he, hc]; rfl, B, S⟩
    · intro hge
      refine w_exit ?_
      refine x_then_exit ?_
      refine x_then_exit ?_
      refine x_block_exit ?_
      refine x_seq ?_
      refine w_seq ?_
      refine w_region ?_
      refine t_move rfl ?_ rfl
      refine t_assign rfl ?_ rfl
      refine t_done ?_
      refine x_seq ?_
      refine w_ret ?_
      refine x_ret1 rfl rfl ?_
      exact ⟨ret_int (by rw [hc, List.take_of_length_le (by omega)]), ext_trans X0 B⟩
theorem spec_l27Out (t : Topo) (v : Value) (p : Path) (u : Value) (kind : Int) (w : World) (h : VA topoT w v t) (hp : VA pathT w u p) (hz : sz_topo t ≤ 1048576) (hz' : sz_path p ≤ 1048576) (hl : lenOk_path p) (hg : rng_path p) : Calls Try.prog 75 #[v, u, I kind] w fun e w' => e = .returned (I (cntK t kind (pathSteps p) : Int)) ∧ Below w.heap.size w w' := by
  have hsl := pathSteps_len p
  have X0 := Below.refl w.heap.size w
  refine enter Try.func75 rfl Try.ntmps75 rfl ?_
  refine w_seq ?_
  refine w_region ?_
  refine t_boxr (by assumption) rfl ?_ rfl rfl
  intro p3 w40 x41 hp3
  replace h := h.below x41
  replace hp := hp.below x41
  have X0 := ext_trans X0 x41
  refine t_boxr (by assumption) rfl ?_ rfl rfl
  intro p4 w42 x43 hp4
  replace h := h.below x43
  replace hp := hp.below x43
  replace hp3 := hp3.below x43
  have X0 := ext_trans X0 x43
  have S := Sep.nil w42
  have B := Below.refl w42.heap.size w42
  have Hb := Nat.le_refl w42.heap.size
  refine t_assign rfl ?_ rfl
  refine t_done ?_
  refine x_seq ?_
  refine w_seq ?_
  refine w_region ?_
  refine t_assign rfl ?_ rfl
  refine t_done ?_
  refine x_seq ?_
  refine w_seq ?_
  refine w_region ?_
  refine t_lda (by assumption) ab_path sb_path B rfl ?_ rfl
  intro v10 hv10
  obtain ⟨v10_0, rfl, hv10_0⟩ := path_va hv10
  refine t_call Try.call91 rfl (va1 (by first | assumption | exact VA.below (by assumption) B) fun cs h => spec_PathSteps _ cs _ h (by omega) (by assumption) (by assumption)) ?_ rfl rfl
  rintro e w44 ⟨v11, fpv11, rfl, hOv11, x45⟩
  refine ⟨_, rfl, x45, ?_⟩
  have S := S.add (o := slO _ _ _ _) x45 hOv11
  have B := bx Hb B x45
  refine t_assign rfl ?_ rfl
  refine t_done ?_
  refine x_seq ?_
  refine w_seq ?_
  refine w_seq ?_
  refine w_region ?_
  refine t_assign rfl ?_ rfl
  refine t_done ?_
  refine x_seq ?_
  refine w_block ?_
  refine w_loop (X := Nat × Nat) (fun x wq => (fun k c => k ≤ (pathSteps p).length ∧ c = cntK t kind ((pathSteps p).take k) ∧ Below w42.heap.size w42 wq ∧ Sep w42.heap.size wq [slO stepT 101 v11 (pathSteps p)]) x.1 x.2) (fun x => (fun k c => [(9, I ((k : Int))), (7, I ((c : Int))), (2, I kind), (3, p3), (6, I 0), (8, v11)]) x.1 x.2) (fun x => (fun k c => (pathSteps p).length - k) x.1 x.2) (0, 0) ?_ ⟨rfl, rfl, rfl, rfl, rfl, rfl, trivial⟩ ?_
  · exact ⟨by omega, rfl, B, S⟩
  · rintro ⟨k, c⟩ w46 hI
    try dsimp only at hI ⊢
    obtain ⟨hk, hc, B, S⟩ := hI
    have hcl := cnt_le t kind ((pathSteps p).take k)
    have htl : ((pathSteps p).take k).length ≤ k := by rw [List.length_take]; omega
    refine w_seq ?_
    refine w_seq ?_
    refine w_region ?_
    refine t_move rfl ?_ rfl
    refine t_move rfl ?_ rfl
    refine t_len e_step (S.sl) rfl rfl ?_ rfl
    refine t_lss rfl rfl ?_ rfl
    refine t_done ?_
    refine x_seq ?_
    refine w_if rfl ?_ ?_
    · intro hlt
      refine w_skip ?_
      refine x_seq ?_
      refine w_seq ?_
      refine w_block ?_
      refine w_seq ?_
      refine w_draw (.st .take 0 (.st .take 1 (.st .take 2 (.st .take 3 (.st .take 4 (.st .take 5 (.st .take 6 (.st .take 7 (.st .take 8 (.st .take 9 (.st .take 10 (.st .take 12 (.st .run 11 (.st .take 13 .done)))))))))))))) mixed (by kernel_rfl) ?_
      intro w47 x48
      have B := bx Hb B x48
      have S := S.below x48
      refine t_lda (by assumption) ab_topo sb_topo B rfl ?_ rfl
      intro v18 hv18
      obtain ⟨v18_0, v18_1, rfl, hv18_0, hv18_1⟩ := topo_va hv18
      refine t_move rfl ?_ rfl
      refine t_move rfl ?_ rfl
      obtain ⟨e21, he21⟩ : ∃ e, (pathSteps p)[k]? = some e := getx (by omega)
      refine t_idx e_step (k := k) (S.sl) he21 (Below.refl _ _) rfl rfl (by first | rfl | omega) ?_ rfl
      intro p21 hp21
      refine t_fld ln_step_0 (by assumption) fb_step_0 rfl ?_ rfl
      intro p22 hp22
      refine t_ldi (by assumption) ab_int (Below.refl _ _) rfl ?_ rfl
      refine t_move rfl ?_ rfl
      refine t_move rfl ?_ rfl
      refine t_idx e_step (k := k) (S.sl) he21 (Below.refl _ _) rfl rfl (by first | rfl | omega) ?_ rfl
      intro p26 hp26
      refine t_fld ln_step_2 (by assumption) fb_step_2 rfl ?_ rfl
      intro p27 hp27
      refine t_ldi (by assumption) ab_int (Below.refl _ _) rfl ?_ rfl
      refine t_move rfl ?_ rfl
      refine t_callx Try.call120 rfl (va1 (by first | assumption | exact VA.below (by assumption) B) fun cs h => spec_ifKind _ cs _ _ _ h (by omega)) ?_ rfl rfl
      intro w49 x50
      have B := bx Hb B x50
      have S := S.below x50
      refine t_eql rfl rfl ?_ rfl
      refine t_done' ?_
      refine x_seq ?_
      have hs := cnt_succ (t := t) (kind := kind) he21
      refine w_if rfl ?_ ?_
      · intro he
        refine w_region ?_
        refine t_move rfl ?_ rfl
        refine t_add rfl rfl (by omega) ?_ rfl
        refine t_assign rfl ?_ rfl
        refine t_done ?_
        refine x_block_normal ?_
        refine x_seq ?_
        refine w_region ?_
        refine t_move rfl ?_ rfl
        refine t_add rfl rfl (by omega) ?_ rfl
        refine t_assign rfl ?_ rfl
        refine t_done ?_
        refine x_round (I := (fun x wq => (fun k c => k ≤ (pathSteps p).length ∧ c = cntK t kind ((pathSteps p).take k) ∧ Below w42.heap.size w42 wq ∧ Sep w42.heap.size wq [slO stepT 101 v11 (pathSteps p)]) x.1 x.2)) (F := (fun x => (fun k c => [(9, I ((k : Int))), (7, I ((c : Int))), (2, I kind), (3, p3), (6, I 0), (8, v11)]) x.1 x.2)) (μ := (fun x => (fun k c => (pathSteps p).length - k) x.1 x.2)) (k + 1, c + 1) ?_ (by exact ⟨rfl, rfl, rfl, rfl, rfl, rfl, trivial⟩) (by (try dsimp only); omega)
        try dsimp only
        exact ⟨by omega, by rw [hs, if_pos he, hc], B, S⟩
      · intro he
        refine w_skip ?_
        refine x_block_normal ?_
        refine x_seq ?_
        refine w_region ?_
        refine t_move rfl ?_ rfl
        refine t_add rfl rfl (by omega) ?_ rfl
        refine t_assign rfl ?_ rfl
        refine t_done ?_
        refine x_round (I := (fun x wq => (fun k c => k ≤ (pathSteps p).length ∧ c = cntK t kind ((pathSteps p).take k) ∧ Below w42.heap.size w42 wq ∧ Sep w42.heap.size wq [slO stepT 101 v11 (pathSteps p)]) x.1 x.2)) (F := (fun x => (fun k c => [(9, I ((k : Int))), (7, I ((c : Int))), (2, I kind), (3, p3), (6, I 0), (8, v11)]) x.1 x.2)) (μ := (fun x => (fun k c => (pathSteps p).length - k) x.1 x.2)) (k + 1, c) ?_ (by exact ⟨rfl, rfl, rfl, rfl, rfl, rfl, trivial⟩) (by (try dsimp only); omega)
        try dsimp only
        exact ⟨by omega, by rw [hs, if_neg he, hc]; rfl, B, S⟩
    · intro hge
      refine w_exit ?_
      refine x_then_exit ?_
      refine x_then_exit ?_
      refine x_block_exit ?_
      refine x_seq ?_
      refine w_seq ?_
      refine w_region ?_
      refine t_move rfl ?_ rfl
      refine t_assign rfl ?_ rfl
      refine t_done ?_
      refine x_seq ?_
      refine w_ret ?_
      refine x_ret1 rfl rfl ?_
      exact ⟨ret_int (by rw [hc, List.take_of_length_le (by omega)]), ext_trans X0 B⟩
theorem impl_FirstForbiddenStep (t : Topo) (v : Value) (p : Path) (u : Value) (w : World) (h : VA topoT w v t) (hp : VA pathT w u p) (hz : sz_topo t ≤ 1048576) (hz' : sz_path p ≤ 1048576) (hl : lenOk_path p) (hg : rng_path p) : Calls Try.prog 46 #[v, u] w fun e w' => e = .returned (I (forbid t (pathSteps p))) ∧ Below w.heap.size w w' := by
  have hsl := pathSteps_len p
  have X0 := Below.refl w.heap.size w
  refine enter Try.func46 rfl Try.ntmps46 rfl ?_
  refine w_seq ?_
  refine w_region ?_
  refine t_boxr (by assumption) rfl ?_ rfl rfl
  intro p2 w51 x52 hp2
  replace h := h.below x52
  replace hp := hp.below x52
  have X0 := ext_trans X0 x52
  refine t_boxr (by assumption) rfl ?_ rfl rfl
  intro p3 w53 x54 hp3
  replace h := h.below x54
  replace hp := hp.below x54
  replace hp2 := hp2.below x54
  have X0 := ext_trans X0 x54
  have S := Sep.nil w53
  have B := Below.refl w53.heap.size w53
  have Hb := Nat.le_refl w53.heap.size
  refine t_assign rfl ?_ rfl
  refine t_done ?_
  refine x_seq ?_
  refine w_seq ?_
  refine w_seq ?_
  refine w_region ?_
  refine t_lda (by assumption) ab_path sb_path B rfl ?_ rfl
  intro v7 hv7
  obtain ⟨v7_0, rfl, hv7_0⟩ := path_va hv7
  refine t_call Try.call93 rfl (va1 (by first | assumption | exact VA.below (by assumption) B) fun cs h => impl_PathSteps _ cs _ h (by omega) (by assumption) (by assumption)) ?_ rfl rfl
  rintro e w55 ⟨v8, fpv8, rfl, hOv8, x56⟩
  refine ⟨_, rfl, x56, ?_⟩
  have S := S.add (o := slO _ _ _ _) x56 hOv8
  have B := bx Hb B x56
  refine t_len e_step (S.sl) rfl rfl ?_ rfl
  refine t_move rfl ?_ rfl
  refine t_done ?_
  refine x_seq ?_
  refine w_block ?_
  refine w_loop (X := Nat) (fun k wq => k ≤ (pathSteps p).length ∧ ((pathSteps p).take k).all (stepOkE t) = true ∧ Below w53.heap.size w53 wq ∧ Sep w53.heap.size wq [slO stepT 101 v8 (pathSteps p)]) (fun k => [(10, I ((k : Int))), (2, p2), (8, v8), (9, I (((pathSteps p).length : Int)))]) (fun k => (pathSteps p).length - k) (0) ?_ ⟨rfl, rfl, rfl, rfl, trivial⟩ ?_
  · exact ⟨by omega, rfl, B, S⟩
  · rintro k w57 hI
    try dsimp only at hI ⊢
    obtain ⟨hk, ha, B, S⟩ := hI
    refine w_seq ?_
    refine w_region ?_
    refine t_lss rfl rfl ?_ rfl
    refine t_done ?_
    refine x_seq ?_
    refine w_seq ?_
    refine w_if rfl ?_ ?_
    · intro hlt
      refine w_skip ?_
      refine x_seq ?_
      refine w_seq ?_
      refine w_block ?_
      refine w_seq ?_
      refine w_region ?_
      refine t_move rfl ?_ rfl
      obtain ⟨e13, he13⟩ : ∃ e, (pathSteps p)[k]? = some e := getx (by omega)
      refine t_idx e_step (k := k) (S.sl) he13 (Below.refl _ _) rfl rfl (by first | rfl | omega) ?_ rfl
      intro p13 hp13
      refine t_lda (by assumption) ab_step sb_step (Below.refl _ _) rfl ?_ rfl
      intro v14 hv14
      obtain rfl := step_va hv14
      refine t_alloc S z_step rfl ?_ rfl rfl
      intro g6 w58 x59 S
      have B := bx Hb B x59
      refine t_assign rfl ?_ rfl
      refine t_stn S sb_step rfl rfl rfl rfl (by simp [Value.oneCell']) ?_
      intro w60 b61 S
      have B := B.trans b61
      refine t_done ?_
      refine x_seq ?_
      refine w_seq ?_
      refine w_region ?_
      refine t_lda (by assumption) ab_topo sb_topo B rfl ?_ rfl
      intro v15 hv15
      obtain ⟨v15_0, v15_1, rfl, hv15_0, hv15_1⟩ := topo_va hv15
      refine t_bxn S.box ab_step sb_step rfl rfl ?_ rfl
      refine t_callx Try.call94 rfl (impl_StepOkE _ _ _ _ (by first | assumption | exact VA.below (by assumption) B) (by omega)) ?_ rfl rfl
      intro w62 x63
      have B := bx Hb B x63
      have S := S.below x63
      refine t_notb rfl ?_ rfl
      refine t_done ?_
      refine x_seq ?_
      refine w_ifb rfl ?_ ?_
      · intro he
        refine w_seq ?_
        refine w_region ?_
        refine t_move rfl ?_ rfl
        refine t_assign rfl ?_ rfl
        refine t_done ?_
        refine x_seq ?_
        refine w_ret ?_
        refine x_block_ret ?_
        refine x_then_ret ?_
        refine x_then_ret ?_
        refine x_block_ret ?_
        refine x_then_ret ?_
        refine x_ret1 rfl rfl ?_
        exact ⟨ret_int (forbid_at he13 ha (by simpa using he)).symm, ext_trans X0 B⟩
      · intro he
        refine w_skip ?_
        refine x_block_normal ?_
        refine x_seq ?_
        refine w_region ?_
        refine t_add rfl rfl (by omega) ?_ rfl
        refine t_move rfl ?_ rfl
        refine t_done ?_
        have S := S.tail
        refine x_round (I := (fun k wq => k ≤ (pathSteps p).length ∧ ((pathSteps p).take k).all (stepOkE t) = true ∧ Below w53.heap.size w53 wq ∧ Sep w53.heap.size wq [slO stepT 101 v8 (pathSteps p)])) (F := (fun k => [(10, I ((k : Int))), (2, p2), (8, v8), (9, I (((pathSteps p).length : Int)))])) (μ := (fun k => (pathSteps p).length - k)) (k + 1) ?_ (by exact ⟨rfl, rfl, rfl, rfl, trivial⟩) (by (try dsimp only); omega)
        try dsimp only
        exact ⟨by omega, allF_succ he13 ha (by simpa using he), B, S⟩
    · intro hge
      refine w_exit ?_
      refine x_then_exit ?_
      refine x_then_exit ?_
      refine x_block_exit ?_
      refine x_seq ?_
      refine w_seq ?_
      refine w_region ?_
      refine t_assign rfl ?_ rfl
      refine t_done ?_
      refine x_seq ?_
      refine w_ret ?_
      refine x_ret1 rfl rfl ?_
      exact ⟨ret_int (forbid_none (allF_end (by omega) ha)).symm, ext_trans X0 B⟩
theorem spec_FirstForbiddenStep (t : Topo) (v : Value) (p : Path) (u : Value) (w : World) (h : VA topoT w v t) (hp : VA pathT w u p) (hz : sz_topo t ≤ 1048576) (hz' : sz_path p ≤ 1048576) (hl : lenOk_path p) (hg : rng_path p) : Calls Try.prog 45 #[v, u] w fun e w' => e = .returned (I (forbid t (pathSteps p))) ∧ Below w.heap.size w w' := by
  have hsl := pathSteps_len p
  have X0 := Below.refl w.heap.size w
  refine enter Try.func45 rfl Try.ntmps45 rfl ?_
  refine w_seq ?_
  refine w_region ?_
  refine t_boxr (by assumption) rfl ?_ rfl rfl
  intro p2 w64 x65 hp2
  replace h := h.below x65
  replace hp := hp.below x65
  have X0 := ext_trans X0 x65
  refine t_boxr (by assumption) rfl ?_ rfl rfl
  intro p3 w66 x67 hp3
  replace h := h.below x67
  replace hp := hp.below x67
  replace hp2 := hp2.below x67
  have X0 := ext_trans X0 x67
  have S := Sep.nil w66
  have B := Below.refl w66.heap.size w66
  have Hb := Nat.le_refl w66.heap.size
  refine t_assign rfl ?_ rfl
  refine t_done ?_
  refine x_seq ?_
  refine w_seq ?_
  refine w_region ?_
  refine t_lda (by assumption) ab_path sb_path B rfl ?_ rfl
  intro v7 hv7
  obtain ⟨v7_0, rfl, hv7_0⟩ := path_va hv7
  refine t_call Try.call91 rfl (va1 (by first | assumption | exact VA.below (by assumption) B) fun cs h => spec_PathSteps _ cs _ h (by omega) (by assumption) (by assumption)) ?_ rfl rfl
  rintro e w68 ⟨v8, fpv8, rfl, hOv8, x69⟩
  refine ⟨_, rfl, x69, ?_⟩
  have S := S.add (o := slO _ _ _ _) x69 hOv8
  have B := bx Hb B x69
  refine t_assign rfl ?_ rfl
  refine t_done ?_
  refine x_seq ?_
  refine w_seq ?_
  refine w_seq ?_
  refine w_region ?_
  refine t_assign rfl ?_ rfl
  refine t_done ?_
  refine x_seq ?_
  refine w_block ?_
  refine w_loop (X := Nat) (fun k wq => k ≤ (pathSteps p).length ∧ ((pathSteps p).take k).all (stepOkE t) = true ∧ Below w66.heap.size w66 wq ∧ Sep w66.heap.size wq [slO stepT 101 v8 (pathSteps p)]) (fun k => [(6, I ((k : Int))), (2, p2), (5, v8)]) (fun k => (pathSteps p).length - k) (0) ?_ ⟨rfl, rfl, rfl, trivial⟩ ?_
  · exact ⟨by omega, rfl, B, S⟩
  · rintro k w70 hI
    try dsimp only at hI ⊢
    obtain ⟨hk, ha, B, S⟩ := hI
    refine w_seq ?_
    refine w_seq ?_
    refine w_region ?_
    refine t_move rfl ?_ rfl
    refine t_move rfl ?_ rfl
    refine t_len e_step (S.sl) rfl rfl ?_ rfl
    refine t_lss rfl rfl ?_ rfl
    refine t_done ?_
    refine x_seq ?_
    refine w_if rfl ?_ ?_
    · intro hlt
      refine w_skip ?_
      refine x_seq ?_
      refine w_seq ?_
      refine w_block ?_
      refine w_seq ?_
      refine w_draw (.st .take 0 (.st .take 1 (.st .take 2 (.st .take 3 (.st .take 4 (.st .run 5 (.st .take 6 .done))))))) mixed (by kernel_rfl) ?_
      intro w71 x72
      have B := bx Hb B x72
      have S := S.below x72
      refine t_lda (by assumption) ab_topo sb_topo B rfl ?_ rfl
      intro v15 hv15
      obtain ⟨v15_0, v15_1, rfl, hv15_0, hv15_1⟩ := topo_va hv15
      refine t_move rfl ?_ rfl
      refine t_move rfl ?_ rfl
      obtain ⟨e18, he18⟩ : ∃ e, (pathSteps p)[k]? = some e := getx (by omega)
      refine t_idx e_step (k := k) (S.sl) he18 (Below.refl _ _) rfl rfl (by first | rfl | omega) ?_ rfl
      intro p18 hp18
      refine t_lda (by assumption) ab_step sb_step (Below.refl _ _) rfl ?_ rfl
      intro v19 hv19
      obtain rfl := step_va hv19
      refine t_callx Try.call92 rfl (spec_StepOkE _ _ _ _ (by first | assumption | exact VA.below (by assumption) B) (by omega)) ?_ rfl rfl
      intro w73 x74
      have B := bx Hb B x74
      have S := S.below x74
      refine t_notb rfl ?_ rfl
      refine t_done' ?_
      refine x_seq ?_
      refine w_ifb rfl ?_ ?_
      · intro he
        refine w_seq ?_
        refine w_region ?_
        refine t_move rfl ?_ rfl
        refine t_assign rfl ?_ rfl
        refine t_done ?_
        refine x_seq ?_
        refine w_ret ?_
        refine x_block_ret ?_
        refine x_then_ret ?_
        refine x_then_ret ?_
        refine x_block_ret ?_
        refine x_then_ret ?_
        refine x_ret1 rfl rfl ?_
        exact ⟨ret_int (forbid_at he18 ha (by simpa using he)).symm, ext_trans X0 B⟩
      · intro he
        refine w_skip ?_
        refine x_block_normal ?_
        refine x_seq ?_
        refine w_region ?_
        refine t_move rfl ?_ rfl
        refine t_add rfl rfl (by omega) ?_ rfl
        refine t_assign rfl ?_ rfl
        refine t_done ?_
        refine x_round (I := (fun k wq => k ≤ (pathSteps p).length ∧ ((pathSteps p).take k).all (stepOkE t) = true ∧ Below w66.heap.size w66 wq ∧ Sep w66.heap.size wq [slO stepT 101 v8 (pathSteps p)])) (F := (fun k => [(6, I ((k : Int))), (2, p2), (5, v8)])) (μ := (fun k => (pathSteps p).length - k)) (k + 1) ?_ (by exact ⟨rfl, rfl, rfl, trivial⟩) (by (try dsimp only); omega)
        try dsimp only
        exact ⟨by omega, allF_succ he18 ha (by simpa using he), B, S⟩
    · intro hge
      refine w_exit ?_
      refine x_then_exit ?_
      refine x_then_exit ?_
      refine x_block_exit ?_
      refine x_seq ?_
      refine w_seq ?_
      refine w_region ?_
      refine t_assign rfl ?_ rfl
      refine t_done ?_
      refine x_seq ?_
      refine w_ret ?_
      refine x_ret1 rfl rfl ?_
      exact ⟨ret_int (forbid_none (allF_end (by omega) ha)).symm, ext_trans X0 B⟩
theorem impl_UpSteps (t : Topo) (v : Value) (p : Path) (u : Value) (w : World) (h : VA topoT w v t) (hp : VA pathT w u p) (hz : sz_topo t ≤ 1048576) (hz' : sz_path p ≤ 1048576) (hl : lenOk_path p) (hg : rng_path p) : Calls Try.prog 35 #[v, u] w fun e w' => e = .returned (I (cntK t 3 (pathSteps p) : Int)) ∧ Below w.heap.size w w' := by
  have X0 := Below.refl w.heap.size w
  refine enter Try.func35 rfl Try.ntmps35 rfl ?_
  refine w_seq ?_
  refine w_region ?_
  refine t_boxr (by assumption) rfl ?_ rfl rfl
  intro p2 w75 x76 hp2
  replace h := h.below x76
  replace hp := hp.below x76
  have X0 := ext_trans X0 x76
  refine t_boxr (by assumption) rfl ?_ rfl rfl
  intro p3 w77 x78 hp3
  replace h := h.below x78
  replace hp := hp.below x78
  replace hp2 := hp2.below x78
  have X0 := ext_trans X0 x78
  have S := Sep.nil w77
  have B := Below.refl w77.heap.size w77
  have Hb := Nat.le_refl w77.heap.size
  refine t_assign rfl ?_ rfl
  refine t_done ?_
  refine x_seq ?_
  refine w_seq ?_
  refine w_region ?_
  refine t_lda (by assumption) ab_topo sb_topo B rfl ?_ rfl
  intro v5 hv5
  obtain ⟨v5_0, v5_1, rfl, hv5_0, hv5_1⟩ := topo_va hv5
  refine t_lda (by assumption) ab_path sb_path B rfl ?_ rfl
  intro v6 hv6
  obtain ⟨v6_0, rfl, hv6_0⟩ := path_va hv6
  refine t_callx Try.call76 rfl (impl_countSteps _ _ _ _ _ _ (by first | assumption | exact VA.below (by assumption) B) (by first | assumption | exact VA.below (by assumption) B) (by omega) (by omega) (by assumption) (by assumption)) ?_ rfl rfl
  intro w79 x80
  have B := bx Hb B x80
  have S := S.below x80
  refine t_assign rfl ?_ rfl
  refine t_done ?_
  refine x_seq ?_
  refine w_ret ?_
  refine x_ret1 rfl rfl ?_
  exact ⟨rfl, ext_trans X0 B⟩
theorem impl_DownSteps (t : Topo) (v : Value) (p : Path) (u : Value) (w : World) (h : VA topoT w v t) (hp : VA pathT w u p) (hz : sz_topo t ≤ 1048576) (hz' : sz_path p ≤ 1048576) (hl : lenOk_path p) (hg : rng_path p) : Calls Try.prog 33 #[v, u] w fun e w' => e = .returned (I (cntK t 2 (pathSteps p) : Int)) ∧ Below w.heap.size w w' := by
  have X0 := Below.refl w.heap.size w
  refine enter Try.func33 rfl Try.ntmps33 rfl ?_
  refine w_seq ?_
  refine w_region ?_
  refine t_boxr (by assumption) rfl ?_ rfl rfl
  intro p2 w81 x82 hp2
  replace h := h.below x82
  replace hp := hp.below x82
  have X0 := ext_trans X0 x82
  refine t_boxr (by assumption) rfl ?_ rfl rfl
  intro p3 w83 x84 hp3
  replace h := h.below x84
  replace hp := hp.below x84
  replace hp2 := hp2.below x84
  have X0 := ext_trans X0 x84
  have S := Sep.nil w83
  have B := Below.refl w83.heap.size w83
  have Hb := Nat.le_refl w83.heap.size
  refine t_assign rfl ?_ rfl
  refine t_done ?_
  refine x_seq ?_
  refine w_seq ?_
  refine w_region ?_
  refine t_lda (by assumption) ab_topo sb_topo B rfl ?_ rfl
  intro v5 hv5
  obtain ⟨v5_0, v5_1, rfl, hv5_0, hv5_1⟩ := topo_va hv5
  refine t_lda (by assumption) ab_path sb_path B rfl ?_ rfl
  intro v6 hv6
  obtain ⟨v6_0, rfl, hv6_0⟩ := path_va hv6
  refine t_callx Try.call76 rfl (impl_countSteps _ _ _ _ _ _ (by first | assumption | exact VA.below (by assumption) B) (by first | assumption | exact VA.below (by assumption) B) (by omega) (by omega) (by assumption) (by assumption)) ?_ rfl rfl
  intro w85 x86
  have B := bx Hb B x86
  have S := S.below x86
  refine t_assign rfl ?_ rfl
  refine t_done ?_
  refine x_seq ?_
  refine w_ret ?_
  refine x_ret1 rfl rfl ?_
  exact ⟨rfl, ext_trans X0 B⟩
theorem impl_CoreSteps (t : Topo) (v : Value) (p : Path) (u : Value) (w : World) (h : VA topoT w v t) (hp : VA pathT w u p) (hz : sz_topo t ≤ 1048576) (hz' : sz_path p ≤ 1048576) (hl : lenOk_path p) (hg : rng_path p) : Calls Try.prog 31 #[v, u] w fun e w' => e = .returned (I (cntK t 1 (pathSteps p) : Int)) ∧ Below w.heap.size w w' := by
  have X0 := Below.refl w.heap.size w
  refine enter Try.func31 rfl Try.ntmps31 rfl ?_
  refine w_seq ?_
  refine w_region ?_
  refine t_boxr (by assumption) rfl ?_ rfl rfl
  intro p2 w87 x88 hp2
  replace h := h.below x88
  replace hp := hp.below x88
  have X0 := ext_trans X0 x88
  refine t_boxr (by assumption) rfl ?_ rfl rfl
  intro p3 w89 x90 hp3
  replace h := h.below x90
  replace hp := hp.below x90
  replace hp2 := hp2.below x90
  have X0 := ext_trans X0 x90
  have S := Sep.nil w89
  have B := Below.refl w89.heap.size w89
  have Hb := Nat.le_refl w89.heap.size
  refine t_assign rfl ?_ rfl
  refine t_done ?_
  refine x_seq ?_
  refine w_seq ?_
  refine w_region ?_
  refine t_lda (by assumption) ab_topo sb_topo B rfl ?_ rfl
  intro v5 hv5
  obtain ⟨v5_0, v5_1, rfl, hv5_0, hv5_1⟩ := topo_va hv5
  refine t_lda (by assumption) ab_path sb_path B rfl ?_ rfl
  intro v6 hv6
  obtain ⟨v6_0, rfl, hv6_0⟩ := path_va hv6
  refine t_callx Try.call76 rfl (impl_countSteps _ _ _ _ _ _ (by first | assumption | exact VA.below (by assumption) B) (by first | assumption | exact VA.below (by assumption) B) (by omega) (by omega) (by assumption) (by assumption)) ?_ rfl rfl
  intro w91 x92
  have B := bx Hb B x92
  have S := S.below x92
  refine t_assign rfl ?_ rfl
  refine t_done ?_
  refine x_seq ?_
  refine w_ret ?_
  refine x_ret1 rfl rfl ?_
  exact ⟨rfl, ext_trans X0 B⟩
theorem spec_UpSteps (t : Topo) (v : Value) (p : Path) (u : Value) (w : World) (h : VA topoT w v t) (hp : VA pathT w u p) (hz : sz_topo t ≤ 1048576) (hz' : sz_path p ≤ 1048576) (hl : lenOk_path p) (hg : rng_path p) : Calls Try.prog 34 #[v, u] w fun e w' => e = .returned (I (cntK t 3 (pathSteps p) : Int)) ∧ Below w.heap.size w w' := by
  have X0 := Below.refl w.heap.size w
  refine enter Try.func34 rfl Try.ntmps34 rfl ?_
  refine w_seq ?_
  refine w_region ?_
  refine t_boxr (by assumption) rfl ?_ rfl rfl
  intro p2 w93 x94 hp2
  replace h := h.below x94
  replace hp := hp.below x94
  have X0 := ext_trans X0 x94
  refine t_boxr (by assumption) rfl ?_ rfl rfl
  intro p3 w95 x96 hp3
  replace h := h.below x96
  replace hp := hp.below x96
  replace hp2 := hp2.below x96
  have X0 := ext_trans X0 x96
  have S := Sep.nil w95
  have B := Below.refl w95.heap.size w95
  have Hb := Nat.le_refl w95.heap.size
  refine t_assign rfl ?_ rfl
  refine t_done ?_
  refine x_seq ?_
  refine w_seq ?_
  refine w_region ?_
  refine t_lda (by assumption) ab_topo sb_topo B rfl ?_ rfl
  intro v5 hv5
  obtain ⟨v5_0, v5_1, rfl, hv5_0, hv5_1⟩ := topo_va hv5
  refine t_lda (by assumption) ab_path sb_path B rfl ?_ rfl
  intro v6 hv6
  obtain ⟨v6_0, rfl, hv6_0⟩ := path_va hv6
  refine t_callx Try.call75 rfl (spec_l27Out _ _ _ _ _ _ (by first | assumption | exact VA.below (by assumption) B) (by first | assumption | exact VA.below (by assumption) B) (by omega) (by omega) (by assumption) (by assumption)) ?_ rfl rfl
  intro w97 x98
  have B := bx Hb B x98
  have S := S.below x98
  refine t_assign rfl ?_ rfl
  refine t_done ?_
  refine x_seq ?_
  refine w_ret ?_
  refine x_ret1 rfl rfl ?_
  exact ⟨rfl, ext_trans X0 B⟩
theorem spec_DownSteps (t : Topo) (v : Value) (p : Path) (u : Value) (w : World) (h : VA topoT w v t) (hp : VA pathT w u p) (hz : sz_topo t ≤ 1048576) (hz' : sz_path p ≤ 1048576) (hl : lenOk_path p) (hg : rng_path p) : Calls Try.prog 32 #[v, u] w fun e w' => e = .returned (I (cntK t 2 (pathSteps p) : Int)) ∧ Below w.heap.size w w' := by
  have X0 := Below.refl w.heap.size w
  refine enter Try.func32 rfl Try.ntmps32 rfl ?_
  refine w_seq ?_
  refine w_region ?_
  refine t_boxr (by assumption) rfl ?_ rfl rfl
  intro p2 w99 x100 hp2
  replace h := h.below x100
  replace hp := hp.below x100
  have X0 := ext_trans X0 x100
  refine t_boxr (by assumption) rfl ?_ rfl rfl
  intro p3 w101 x102 hp3
  replace h := h.below x102
  replace hp := hp.below x102
  replace hp2 := hp2.below x102
  have X0 := ext_trans X0 x102
  have S := Sep.nil w101
  have B := Below.refl w101.heap.size w101
  have Hb := Nat.le_refl w101.heap.size
  refine t_assign rfl ?_ rfl
  refine t_done ?_
  refine x_seq ?_
  refine w_seq ?_
  refine w_region ?_
  refine t_lda (by assumption) ab_topo sb_topo B rfl ?_ rfl
  intro v5 hv5
  obtain ⟨v5_0, v5_1, rfl, hv5_0, hv5_1⟩ := topo_va hv5
  refine t_lda (by assumption) ab_path sb_path B rfl ?_ rfl
  intro v6 hv6
  obtain ⟨v6_0, rfl, hv6_0⟩ := path_va hv6
  refine t_callx Try.call75 rfl (spec_l27Out _ _ _ _ _ _ (by first | assumption | exact VA.below (by assumption) B) (by first | assumption | exact VA.below (by assumption) B) (by omega) (by omega) (by assumption) (by assumption)) ?_ rfl rfl
  intro w103 x104
  have B := bx Hb B x104
  have S := S.below x104
  refine t_assign rfl ?_ rfl
  refine t_done ?_
  refine x_seq ?_
  refine w_ret ?_
  refine x_ret1 rfl rfl ?_
  exact ⟨rfl, ext_trans X0 B⟩
theorem spec_CoreSteps (t : Topo) (v : Value) (p : Path) (u : Value) (w : World) (h : VA topoT w v t) (hp : VA pathT w u p) (hz : sz_topo t ≤ 1048576) (hz' : sz_path p ≤ 1048576) (hl : lenOk_path p) (hg : rng_path p) : Calls Try.prog 30 #[v, u] w fun e w' => e = .returned (I (cntK t 1 (pathSteps p) : Int)) ∧ Below w.heap.size w w' := by
  have X0 := Below.refl w.heap.size w
  refine enter Try.func30 rfl Try.ntmps30 rfl ?_
  refine w_seq ?_
  refine w_region ?_
  refine t_boxr (by assumption) rfl ?_ rfl rfl
  intro p2 w105 x106 hp2
  replace h := h.below x106
  replace hp := hp.below x106
  have X0 := ext_trans X0 x106
  refine t_boxr (by assumption) rfl ?_ rfl rfl
  intro p3 w107 x108 hp3
  replace h := h.below x108
  replace hp := hp.below x108
  replace hp2 := hp2.below x108
  have X0 := ext_trans X0 x108
  have S := Sep.nil w107
  have B := Below.refl w107.heap.size w107
  have Hb := Nat.le_refl w107.heap.size
  refine t_assign rfl ?_ rfl
  refine t_done ?_
  refine x_seq ?_
  refine w_seq ?_
  refine w_region ?_
  refine t_lda (by assumption) ab_topo sb_topo B rfl ?_ rfl
  intro v5 hv5
  obtain ⟨v5_0, v5_1, rfl, hv5_0, hv5_1⟩ := topo_va hv5
  refine t_lda (by assumption) ab_path sb_path B rfl ?_ rfl
  intro v6 hv6
  obtain ⟨v6_0, rfl, hv6_0⟩ := path_va hv6
  refine t_callx Try.call75 rfl (spec_l27Out _ _ _ _ _ _ (by first | assumption | exact VA.below (by assumption) B) (by first | assumption | exact VA.below (by assumption) B) (by omega) (by omega) (by assumption) (by assumption)) ?_ rfl rfl
  intro w109 x110
  have B := bx Hb B x110
  have S := S.below x110
  refine t_assign rfl ?_ rfl
  refine t_done ?_
  refine x_seq ?_
  refine w_ret ?_
  refine x_ret1 rfl rfl ?_
  exact ⟨rfl, ext_trans X0 B⟩
theorem impl_PathAllowed (t : Topo) (v : Value) (p : Path) (u : Value) (w : World) (h : VA topoT w v t) (hp : VA pathT w u p) (hz : sz_topo t ≤ 1048576) (hz' : sz_path p ≤ 1048576) (hl : lenOk_path p) (hg : rng_path p) : Calls Try.prog 48 #[v, u] w fun e w' => e = .returned (.bool (decide (forbid t (pathSteps p) < 0))) ∧ Below w.heap.size w w' := by
  have X0 := Below.refl w.heap.size w
  refine enter Try.func48 rfl Try.ntmps48 rfl ?_
  refine w_seq ?_
  refine w_region ?_
  refine t_boxr (by assumption) rfl ?_ rfl rfl
  intro p2 w111 x112 hp2
  replace h := h.below x112
  replace hp := hp.below x112
  have X0 := ext_trans X0 x112
  refine t_boxr (by assumption) rfl ?_ rfl rfl
  intro p3 w113 x114 hp3
  replace h := h.below x114
  replace hp := hp.below x114
  replace hp2 := hp2.below x114
  have X0 := ext_trans X0 x114
  have S := Sep.nil w113
  have B := Below.refl w113.heap.size w113
  have Hb := Nat.le_refl w113.heap.size
  refine t_assign rfl ?_ rfl
  refine t_done ?_
  refine x_seq ?_
  refine w_seq ?_
  refine w_region ?_
  refine t_lda (by assumption) ab_topo sb_topo B rfl ?_ rfl
  intro v5 hv5
  obtain ⟨v5_0, v5_1, rfl, hv5_0, hv5_1⟩ := topo_va hv5
  refine t_lda (by assumption) ab_path sb_path B rfl ?_ rfl
  intro v6 hv6
  obtain ⟨v6_0, rfl, hv6_0⟩ := path_va hv6
  refine t_callx Try.call46 rfl (impl_FirstForbiddenStep _ _ _ _ _ (by first | assumption | exact VA.below (by assumption) B) (by first | assumption | exact VA.below (by assumption) B) (by omega) (by omega) (by assumption) (by assumption)) ?_ rfl rfl
  intro w115 x116
  have B := bx Hb B x116
  have S := S.below x116
  refine t_lss rfl rfl ?_ rfl
  refine t_assign rfl ?_ rfl
  refine t_done ?_
  refine x_seq ?_
  refine w_ret ?_
  refine x_ret1 rfl rfl ?_
  exact ⟨rfl, ext_trans X0 B⟩
theorem spec_PathAllowed (t : Topo) (v : Value) (p : Path) (u : Value) (w : World) (h : VA topoT w v t) (hp : VA pathT w u p) (hz : sz_topo t ≤ 1048576) (hz' : sz_path p ≤ 1048576) (hl : lenOk_path p) (hg : rng_path p) : Calls Try.prog 47 #[v, u] w fun e w' => e = .returned (.bool (decide (forbid t (pathSteps p) < 0))) ∧ Below w.heap.size w w' := by
  have X0 := Below.refl w.heap.size w
  refine enter Try.func47 rfl Try.ntmps47 rfl ?_
  refine w_seq ?_
  refine w_region ?_
  refine t_boxr (by assumption) rfl ?_ rfl rfl
  intro p2 w117 x118 hp2
  replace h := h.below x118
  replace hp := hp.below x118
  have X0 := ext_trans X0 x118
  refine t_boxr (by assumption) rfl ?_ rfl rfl
  intro p3 w119 x120 hp3
  replace h := h.below x120
  replace hp := hp.below x120
  replace hp2 := hp2.below x120
  have X0 := ext_trans X0 x120
  have S := Sep.nil w119
  have B := Below.refl w119.heap.size w119
  have Hb := Nat.le_refl w119.heap.size
  refine t_assign rfl ?_ rfl
  refine t_done ?_
  refine x_seq ?_
  refine w_seq ?_
  refine w_region ?_
  refine t_lda (by assumption) ab_topo sb_topo B rfl ?_ rfl
  intro v5 hv5
  obtain ⟨v5_0, v5_1, rfl, hv5_0, hv5_1⟩ := topo_va hv5
  refine t_lda (by assumption) ab_path sb_path B rfl ?_ rfl
  intro v6 hv6
  obtain ⟨v6_0, rfl, hv6_0⟩ := path_va hv6
  refine t_callx Try.call45 rfl (spec_FirstForbiddenStep _ _ _ _ _ (by first | assumption | exact VA.below (by assumption) B) (by first | assumption | exact VA.below (by assumption) B) (by omega) (by omega) (by assumption) (by assumption)) ?_ rfl rfl
  intro w121 x122
  have B := bx Hb B x122
  have S := S.below x122
  refine t_lss rfl rfl ?_ rfl
  refine t_assign rfl ?_ rfl
  refine t_done ?_
  refine x_seq ?_
  refine w_ret ?_
  refine x_ret1 rfl rfl ?_
  exact ⟨rfl, ext_trans X0 B⟩
end Go.Proofs.Ytgfikdlinbefbaa
