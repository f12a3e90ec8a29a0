/- JoinThree, of the program (by a closure) and of the reference. -/
import Derived.Test.YtaapaafagmbkoaaWkK
namespace Go.Proofs.Ytaapaafagmbkoaa
open Go.RowKit
set_option linter.unusedVariables false
set_option maxRecDepth 20000

section
variable {P : Program} {n : Nat} {ops : Array Oper} {Q : Exit → Act → World → Prop} {L : Frm} {w : World} {m : Md} {r : IT} {d : Nat} {ty : TypeId} {pos : String} {af : Array Edge}
theorem x_ret0 {fn : Func} {R : Ending → World → Prop} (hr : fn.results = #[]) (h : R (.returned (.tuple #[])) w) : WX n (bodyPost P fn R) .ret L w := by
  intro a ha
  exact bodyPost_ret (by simp [results, hr]) ha.defers h
theorem t_makeFunc {f : FuncId} {x : Operand} {v : Value} (hx : ev L x = some v) (k : WT P n ops Q r ((d, .func (.func f) #[] #[v]) :: L) w) (hn : Nat.blt d n = true) : WT P n ops Q (.st m ⟨some d, .makeFunc (.func f) #[] #[x], ty, pos, af, none⟩ r) L w :=
  t_read (fun e ha _ _ _ w' _ => by simp [execOp, ha.ev hx, Instr.makeFunc]) k hn
theorem exec_callv {a : Act} {f : FuncId} {xs : List Operand} {at_ : Array TypeId} {dst : Option Nat} {gd : Option (Nat × Bool)} {t : Operand} {c : Value} (h : a.eval t = .func (.func f) #[] #[c]) : execOp a.eval ⟨dst, .call ⟨.value t, xs.toArray, at_⟩, ty, pos, af, gd⟩ = callFunc f (xs.map a.eval ++ [c]).toArray := by
  simp [execOp, resolve, Deferred.ofValue, invoke, h]
/-- A call of a closure that writes. -/
theorem t_callv {f : FuncId} {xs : List Operand} {at_ : Array TypeId} {vs : List Value} {R : Ending → World → Prop} {t : Operand} {c : Value} (hcall : ∀ ar wr, (callFunc f ar).run P wr = .ok (.enter f ar) wr) (ht : ev L t = some (.func (.func f) #[] #[c])) (hv : evs L xs = some vs) (hc : Calls P f (vs ++ [c]).toArray w R)
    (k : ∀ e w', R e w' → ∃ v, e = .returned v ∧ WT P n ops Q r ((d, v) :: L) w') (hn : Nat.blt d n = true) : WT P n ops Q (.st .fin ⟨some d, .call ⟨.value t, xs.toArray, at_⟩, ty, pos, af, none⟩ r) L w := by
  intro a ha
  simp only [wpT, Region.wanted, if_true]
  unfold Oper.wp
  rw [exec_callv (ha.ev ht), ha.evs hv, hcall]
  refine hc.mono fun e w' he => ?_
  obtain ⟨v, rfl, hk⟩ := k e w' he
  exact hk _ (ha.put hn v)
end

def addP (s : Seg) (k : Int) : Path := if 0 < (s.hops.length : Int) then [makePart s k 0] else []
def joinT (up core : Seg) (rev : Bool) (down : Seg) : Path := addP up 1 ++ addP core (if rev then 3 else 2) ++ addP down 4

theorem impl_JoinThree1 (s : Seg) (v : Value) (kind : Int) (g : Nat) (q : Value) (acc : Path) (b : Nat) (os : List Ow) (w : World) (S : Sep b w (bxO g 30 #[q] :: slO partT 94 q acc :: os)) (h : VA segT w v s) (hz : s.hops.length ≤ 1048576) (ha : List.length acc ≤ 1048576) : Calls Try.prog 98 #[v, I kind, .pointer (some ⟨g, 0, none⟩)] w fun e w' => e = .returned (.tuple #[]) ∧ ∃ q', Sep b w' (bxO g 30 #[q'] :: slO partT 94 q' (acc ++ addP s kind) :: os) ∧ Below b w w' := by
  have X0 := Below.refl w.heap.size w
  refine enter Try.func98 rfl Try.ntmps98 rfl ?_
  have B := Below.refl b w
  have Hb := S.base
  refine w_seq ?_
  refine w_region ?_
  refine t_boxr (by first | assumption | exact VA.below (by assumption) B) rfl ?_ rfl rfl
  intro p3 w1 x2 hp3
  have B := bx Hb B x2
  have S := S.below x2
  refine t_done ?_
  refine x_seq ?_
  refine w_seq ?_
  refine w_region ?_
  refine t_fld ln_seg_2 (by assumption) fb_seg_2 rfl ?_ rfl
  intro p5 hp5
  refine t_lds (by assumption) ab_s_hop (Below.refl _ _) rfl ?_ rfl
  intro v6 hv6
  refine t_len e_hop (by assumption) rfl rfl ?_ rfl
  refine t_gtr rfl rfl ?_ rfl
  refine t_done ?_
  refine x_seq ?_
  refine w_if rfl ?_ ?_
  · intro h1
    refine w_draw (.st .take 0 (.st .take 1 (.st .take 2 (.st .take 3 (.st .run 4 (.st .run 5 (.st .fin 6 (.st .fin 7 (.st .fin 8 .done))))))))) mixed (by kernel_rfl) ?_
    intro w3 x4
    have B := bx Hb B x4
    have S := S.below x4
    replace hp3 := hp3.below x4
    replace hp5 := hp5.below x4
    refine t_fldx fb_path_0 rfl rfl ?_ rfl
    refine t_bx1 S.box ab_s_part rfl rfl ?_ rfl
    refine t_lda (by assumption) ab_seg sb_seg (Below.refl _ _) rfl ?_ rfl
    intro v11 hv11
    obtain ⟨v11_2, rfl, hv11_2⟩ := seg_va hv11
    refine t_move rfl ?_ rfl
    refine t_call Try.call99 rfl (impl_MakePart _ _ _ _ _ (by first | assumption | exact VA.below (by assumption) B) (by omega)) ?_ rfl rfl
    rintro e w5 ⟨cs13, fp13, rfl, hO13, x6⟩
    refine ⟨_, rfl, x6, ?_⟩
    have S := S.add (o := tyO partT _ _) x6 hO13
    have B := bx Hb B x6
    obtain ⟨u13_3, heq, S2⟩ := S.partOpen
    subst heq
    have S := S2
    clear S2
    refine t_lit1 (fun w => bs_part1 _ _ _ _ w) rfl ?_ rfl rfl
    intro A14 w7 x8 hA14
    have B := bx Hb B x8
    have S := S.below x8
    have S := S.partShut (x := makePart s kind 0)
    have S := S.f2
    refine t_snoc e_part S hA14 rfl rfl rfl (by first | omega | (simp; done)) (by (simp only [maxLen]); first | omega | (simp; done)) ?_ rfl
    intro v15 w9 x10 S
    have B := B.trans x10
    refine t_fldx fb_path_0 rfl rfl ?_ rfl
    obtain ⟨Av15, cv15, rfl, _⟩ := S.sl.form
    have S := S.f1
    refine t_st1 S sb_s_part rfl rfl rfl rfl rfl ?_
    intro w11 b12 S
    have B := B.trans b12
    refine t_done' ?_
    refine x_end1 ?_
    refine x_ret0 rfl ?_
    exact ⟨rfl, _, by rw [addP, if_pos h1]; exact S, B⟩
  · intro h1
    refine w_skip ?_
    refine x_end1 ?_
    refine x_ret0 rfl ?_
    exact ⟨rfl, _, by rw [addP, if_neg h1, List.append_nil]; exact S, B⟩
theorem spec_JoinThree_true (up core down : Seg) (v1 v2 v3 : Value) (w : World) (h1 : VA segT w v1 up) (h2 : VA segT w v2 core) (h3 : VA segT w v3 down) (hz1 : up.hops.length ≤ 1048576) (hz2 : core.hops.length ≤ 1048576) (hz3 : down.hops.length ≤ 1048576) : Calls Try.prog 45 #[v1, v2, .bool true, v3] w fun e w' => ∃ cs fp, e = .returned (.agg cs.toArray) ∧ pathT.O w.heap.size w' cs (joinT up core true down) fp ∧ Below w.heap.size w w' := by
  have X0 := Below.refl w.heap.size w
  refine enter Try.func45 rfl Try.ntmps45 rfl ?_
  refine w_seq ?_
  refine w_region ?_
  refine t_boxr (by assumption) rfl ?_ rfl rfl
  intro p4 w13 x14 hp4
  replace h1 := h1.below x14
  replace h2 := h2.below x14
  replace h3 := h3.below x14
  have X0 := ext_trans X0 x14
  refine t_boxr (by assumption) rfl ?_ rfl rfl
  intro p5 w15 x16 hp5
  replace h1 := h1.below x16
  replace h2 := h2.below x16
  replace h3 := h3.below x16
  replace hp4 := hp4.below x16
  have X0 := ext_trans X0 x16
  refine t_boxr (by assumption) rfl ?_ rfl rfl
  intro p7 w17 x18 hp7
  replace h1 := h1.below x18
  replace h2 := h2.below x18
  replace h3 := h3.below x18
  replace hp4 := hp4.below x18
  replace hp5 := hp5.below x18
  have X0 := ext_trans X0 x18
  have S := Sep.nil w17
  have B := Below.refl w17.heap.size w17
  have Hb := Nat.le_refl w17.heap.size
  refine t_alloc S z_path rfl ?_ rfl rfl
  intro g8 w19 x20 S
  have B := bx Hb B x20
  refine t_done ?_
  refine x_seq ?_
  refine w_seq ?_
  refine w_region ?_
  refine t_build (fun w => b_path0 w) rfl ?_ rfl
  refine t_alloc S z_path rfl ?_ rfl rfl
  intro g9 w21 x22 S
  have B := bx Hb B x22
  refine t_stn S sb_path rfl rfl rfl rfl (by simp [Value.oneCell']) ?_
  intro w23 b24 S
  have B := B.trans b24
  refine t_done ?_
  refine x_seq ?_
  refine w_seq ?_
  refine w_seq ?_
  refine w_region ?_
  refine t_fld ln_seg_2 (by assumption) fb_seg_2 rfl ?_ rfl
  intro p12 hp12
  refine t_lds (by assumption) ab_s_hop B rfl ?_ rfl
  intro v13 hv13
  refine t_len e_hop (by assumption) rfl rfl ?_ rfl
  refine t_gtr rfl rfl ?_ rfl
  refine t_done ?_
  refine x_seq ?_
  refine w_if rfl ?_ ?_
  · intro hc1
    refine w_draw (.st .take 0 (.st .take 1 (.st .take 2 (.st .run 3 (.st .run 4 (.st .fin 5 (.st .fin 6 (.st .fin 7 .done)))))))) mixed (by kernel_rfl) ?_
    intro w25 x26
    have B := bx Hb B x26
    have S := S.below x26
    refine t_fldx fb_path_0 rfl rfl ?_ rfl
    refine t_bx1 S.box ab_s_part rfl rfl ?_ rfl
    refine t_lda (by assumption) ab_seg sb_seg B rfl ?_ rfl
    intro v18 hv18
    obtain ⟨v18_2, rfl, hv18_2⟩ := seg_va hv18
    refine t_call Try.call96 rfl (spec_MakePart _ _ _ _ _ (by first | assumption | exact VA.below (by assumption) B) (by omega)) ?_ rfl rfl
    rintro e w27 ⟨cs19, fp19, rfl, hO19, x28⟩
    refine ⟨_, rfl, x28, ?_⟩
    have S := S.add (o := tyO partT _ _) x28 hO19
    have B := bx Hb B x28
    obtain ⟨u19_3, heq, S2⟩ := S.partOpen
    subst heq
    have S := S2
    clear S2
    refine t_lit1 (fun w => bs_part1 _ _ _ _ w) rfl ?_ rfl rfl
    intro A20 w29 x30 hA20
    have B := bx Hb B x30
    have S := S.below x30
    have S := Sep.addNil (T := partT) (e := 94) S
    have S := S.f1
    have S := S.partShut (x := makePart up 1 0)
    have S := S.f1
    refine t_snoc e_part S hA20 rfl rfl rfl (by first | omega | (simp; done)) (by (simp only [maxLen]); first | omega | (simp; done)) ?_ rfl
    intro v21 w31 x32 S
    have B := B.trans x32
    refine t_fldx fb_path_0 rfl rfl ?_ rfl
    obtain ⟨Av21, cv21, rfl, _⟩ := S.sl.form
    have S := S.f1
    refine t_st1 S sb_s_part rfl rfl rfl rfl rfl ?_
    intro w33 b34 S
    have B := B.trans b34
    refine t_done' ?_
    refine x_seq ?_
    refine w_seq ?_
    refine w_seq ?_
    refine w_region ?_
    refine t_fld ln_seg_2 (by assumption) fb_seg_2 rfl ?_ rfl
    intro p23 hp23
    refine t_lds (by assumption) ab_s_hop B rfl ?_ rfl
    intro v24 hv24
    refine t_len e_hop (by assumption) rfl rfl ?_ rfl
    refine t_gtr rfl rfl ?_ rfl
    refine t_done ?_
    refine x_seq ?_
    refine w_if rfl ?_ ?_
    · intro hc2
      refine w_seq ?_
      refine w_region ?_
      refine t_assign rfl ?_ rfl
      refine t_done ?_
      refine x_seq ?_
      refine w_seq ?_
      refine w_seq ?_
      refine w_region ?_
      refine t_move rfl ?_ rfl
      refine t_done ?_
      refine x_seq ?_
      refine w_yes rfl ?_
      refine w_region ?_
      refine t_assign rfl ?_ rfl
      refine t_done ?_
      refine x_seq ?_
      refine w_draw (.st .take 0 (.st .take 1 (.st .take 2 (.st .take 3 (.st .run 4 (.st .run 5 (.st .fin 6 (.st .fin 7 (.st .fin 8 .done))))))))) mixed (by kernel_rfl) ?_
      intro w35 x36
      have B := bx Hb B x36
      have S := S.below x36
      refine t_fldx fb_path_0 rfl rfl ?_ rfl
      refine t_bx1 S.box ab_s_part rfl rfl ?_ rfl
      refine t_lda (by assumption) ab_seg sb_seg B rfl ?_ rfl
      intro v30 hv30
      obtain ⟨v30_2, rfl, hv30_2⟩ := seg_va hv30
      refine t_move rfl ?_ rfl
      refine t_call Try.call96 rfl (spec_MakePart _ _ _ _ _ (by first | assumption | exact VA.below (by assumption) B) (by omega)) ?_ rfl rfl
      rintro e w37 ⟨cs32, fp32, rfl, hO32, x38⟩
      refine ⟨_, rfl, x38, ?_⟩
      have S := S.add (o := tyO partT _ _) x38 hO32
      have B := bx Hb B x38
      obtain ⟨u32_3, heq, S2⟩ := S.partOpen
      subst heq
      have S := S2
      clear S2
      refine t_lit1 (fun w => bs_part1 _ _ _ _ w) rfl ?_ rfl rfl
      intro A33 w39 x40 hA33
      have B := bx Hb B x40
      have S := S.below x40
      have S := S.partShut (x := makePart core 3 0)
      have S := S.f2
      refine t_snoc e_part S hA33 rfl rfl rfl (by first | omega | (simp; done)) (by (simp only [maxLen]); first | omega | (simp; done)) ?_ rfl
      intro v34 w41 x42 S
      have B := B.trans x42
      refine t_fldx fb_path_0 rfl rfl ?_ rfl
      obtain ⟨Av34, cv34, rfl, _⟩ := S.sl.form
      have S := S.f1
      refine t_st1 S sb_s_part rfl rfl rfl rfl rfl ?_
      intro w43 b44 S
      have B := B.trans b44
      refine t_done' ?_
      refine x_seq ?_
      refine w_seq ?_
      refine w_seq ?_
      refine w_region ?_
      refine t_fld ln_seg_2 (by assumption) fb_seg_2 rfl ?_ rfl
      intro p36 hp36
      refine t_lds (by assumption) ab_s_hop B rfl ?_ rfl
      intro v37 hv37
      refine t_len e_hop (by assumption) rfl rfl ?_ rfl
      refine t_gtr rfl rfl ?_ rfl
      refine t_done ?_
      refine x_seq ?_
      refine w_if rfl ?_ ?_
      · intro hc3
        refine w_draw (.st .take 0 (.st .take 1 (.st .take 2 (.st .run 3 (.st .run 4 (.st .fin 5 (.st .fin 6 (.st .fin 7 .done)))))))) mixed (by kernel_rfl) ?_
        intro w45 x46
        have B := bx Hb B x46
        have S := S.below x46
        refine t_fldx fb_path_0 rfl rfl ?_ rfl
        refine t_bx1 S.box ab_s_part rfl rfl ?_ rfl
        refine t_lda (by assumption) ab_seg sb_seg B rfl ?_ rfl
        intro v42 hv42
        obtain ⟨v42_2, rfl, hv42_2⟩ := seg_va hv42
        refine t_call Try.call96 rfl (spec_MakePart _ _ _ _ _ (by first | assumption | exact VA.below (by assumption) B) (by omega)) ?_ rfl rfl
        rintro e w47 ⟨cs43, fp43, rfl, hO43, x48⟩
        refine ⟨_, rfl, x48, ?_⟩
        have S := S.add (o := tyO partT _ _) x48 hO43
        have B := bx Hb B x48
        obtain ⟨u43_3, heq, S2⟩ := S.partOpen
        subst heq
        have S := S2
        clear S2
        refine t_lit1 (fun w => bs_part1 _ _ _ _ w) rfl ?_ rfl rfl
        intro A44 w49 x50 hA44
        have B := bx Hb B x50
        have S := S.below x50
        have S := S.partShut (x := makePart down 4 0)
        have S := S.f2
        refine t_snoc e_part S hA44 rfl rfl rfl (by first | omega | (simp; done)) (by (simp only [maxLen]); first | omega | (simp; done)) ?_ rfl
        intro v45 w51 x52 S
        have B := B.trans x52
        refine t_fldx fb_path_0 rfl rfl ?_ rfl
        obtain ⟨Av45, cv45, rfl, _⟩ := S.sl.form
        have S := S.f1
        refine t_st1 S sb_s_part rfl rfl rfl rfl rfl ?_
        intro w53 b54 S
        have B := B.trans b54
        refine t_done' ?_
        refine x_seq ?_
        refine w_seq ?_
        refine w_region ?_
        refine t_bxn S.box ab_path sb_path rfl rfl ?_ rfl
        have S := S.f2
        refine t_stn S sb_path rfl rfl rfl rfl (by intro zz hu; have hu : zz ∈ ([.slice Av45 (((([]) ++ [makePart up 1 0]) ++ [makePart core 3 0]) ++ [makePart down 4 0]).length cv45] : List Value) := hu; simp only [List.mem_cons, List.not_mem_nil, or_false] at hu; rcases hu with rfl <;> first | rfl | exact (SlR.cells (by first | assumption | exact S.tail.sl | exact S.tail.tail.sl | exact S.tail.tail.tail.sl | exact S.tail.tail.tail.tail.sl | exact S.tail.tail.tail.tail.tail.sl | exact S.tail.tail.tail.tail.tail.tail.sl | exact S.tail.tail.tail.tail.tail.tail.tail.sl | exact S.tail.tail.tail.tail.tail.tail.tail.tail.sl)).2) ?_
        intro w55 b56 S
        have B := B.trans b56
        refine t_done ?_
        refine x_seq ?_
        refine w_ret ?_
        refine x_retc rfl rfl S.box ab_path sb_path rfl ?_
        have S := S.f2
        have S := S.pathShut (x := (((([]) ++ [makePart up 1 0]) ++ [makePart core 3 0]) ++ [makePart down 4 0]))
        obtain ⟨fp, hO⟩ := (S.mono X0.size).head
        exact ⟨_, fp, rfl, (by rw [show joinT up core true down = ((([]) ++ [makePart up 1 0]) ++ [makePart core 3 0]) ++ [makePart down 4 0] by unfold joinT addP; (first | rw [if_pos hc1] | rw [if_neg hc1]); (first | rw [if_pos hc2] | rw [if_neg hc2]); (first | rw [if_pos hc3] | rw [if_neg hc3]); rfl]; exact hO), ext_trans X0 B⟩
      intro hc3
      refine w_skip ?_
      refine x_seq ?_
      refine w_seq ?_
      refine w_region ?_
      refine t_bxn S.box ab_path sb_path rfl rfl ?_ rfl
      have S := S.f2
      refine t_stn S sb_path rfl rfl rfl rfl (by intro zz hu; have hu : zz ∈ ([.slice Av34 ((([]) ++ [makePart up 1 0]) ++ [makePart core 3 0]).length cv34] : List Value) := hu; simp only [List.mem_cons, List.not_mem_nil, or_false] at hu; rcases hu with rfl <;> first | rfl | exact (SlR.cells (by first | assumption | exact S.tail.sl | exact S.tail.tail.sl | exact S.tail.tail.tail.sl | exact S.tail.tail.tail.tail.sl | exact S.tail.tail.tail.tail.tail.sl | exact S.tail.tail.tail.tail.tail.tail.sl | exact S.tail.tail.tail.tail.tail.tail.tail.sl | exact S.tail.tail.tail.tail.tail.tail.tail.tail.sl)).2) ?_
      intro w57 b58 S
      have B := B.trans b58
      refine t_done ?_
      refine x_seq ?_
      refine w_ret ?_
      refine x_retc rfl rfl S.box ab_path sb_path rfl ?_
      have S := S.f2
      have S := S.pathShut (x := ((([]) ++ [makePart up 1 0]) ++ [makePart core 3 0]))
      obtain ⟨fp, hO⟩ := (S.mono X0.size).head
      exact ⟨_, fp, rfl, (by rw [show joinT up core true down = (([]) ++ [makePart up 1 0]) ++ [makePart core 3 0] by unfold joinT addP; (first | rw [if_pos hc1] | rw [if_neg hc1]); (first | rw [if_pos hc2] | rw [if_neg hc2]); (first | rw [if_pos hc3] | rw [if_neg hc3]); rfl]; exact hO), ext_trans X0 B⟩
    intro hc2
    refine w_skip ?_
    refine x_seq ?_
    refine w_seq ?_
    refine w_seq ?_
    refine w_region ?_
    refine t_fld ln_seg_2 (by assumption) fb_seg_2 rfl ?_ rfl
    intro p36 hp36
    refine t_lds (by assumption) ab_s_hop B rfl ?_ rfl
    intro v37 hv37
    refine t_len e_hop (by assumption) rfl rfl ?_ rfl
    refine t_gtr rfl rfl ?_ rfl
    refine t_done ?_
    refine x_seq ?_
    refine w_if rfl ?_ ?_
    · intro hc3
      refine w_draw (.st .take 0 (.st .take 1 (.st .take 2 (.st .run 3 (.st .run 4 (.st .fin 5 (.st .fin 6 (.st .fin 7 .done)))))))) mixed (by kernel_rfl) ?_
      intro w59 x60
      have B := bx Hb B x60
      have S := S.below x60
      refine t_fldx fb_path_0 rfl rfl ?_ rfl
      refine t_bx1 S.box ab_s_part rfl rfl ?_ rfl
      refine t_lda (by assumption) ab_seg sb_seg B rfl ?_ rfl
      intro v42 hv42
      obtain ⟨v42_2, rfl, hv42_2⟩ := seg_va hv42
      refine t_call Try.call96 rfl (spec_MakePart _ _ _ _ _ (by first | assumption | exact VA.below (by assumption) B) (by omega)) ?_ rfl rfl
      rintro e w61 ⟨cs43, fp43, rfl, hO43, x62⟩
      refine ⟨_, rfl, x62, ?_⟩
      have S := S.add (o := tyO partT _ _) x62 hO43
      have B := bx Hb B x62
      obtain ⟨u43_3, heq, S2⟩ := S.partOpen
      subst heq
      have S := S2
      clear S2
      refine t_lit1 (fun w => bs_part1 _ _ _ _ w) rfl ?_ rfl rfl
      intro A44 w63 x64 hA44
      have B := bx Hb B x64
      have S := S.below x64
      have S := S.partShut (x := makePart down 4 0)
      have S := S.f2
      refine t_snoc e_part S hA44 rfl rfl rfl (by first | omega | (simp; done)) (by (simp only [maxLen]); first | omega | (simp; done)) ?_ rfl
      intro v45 w65 x66 S
      have B := B.trans x66
      refine t_fldx fb_path_0 rfl rfl ?_ rfl
      obtain ⟨Av45, cv45, rfl, _⟩ := S.sl.form
      have S := S.f1
      refine t_st1 S sb_s_part rfl rfl rfl rfl rfl ?_
      intro w67 b68 S
      have B := B.trans b68
      refine t_done' ?_
      refine x_seq ?_
      refine w_seq ?_
      refine w_region ?_
      refine t_bxn S.box ab_path sb_path rfl rfl ?_ rfl
      have S := S.f2
      refine t_stn S sb_path rfl rfl rfl rfl (by intro zz hu; have hu : zz ∈ ([.slice Av45 ((([]) ++ [makePart up 1 0]) ++ [makePart down 4 0]).length cv45] : List Value) := hu; simp only [List.mem_cons, List.not_mem_nil, or_false] at hu; rcases hu with rfl <;> first | rfl | exact (SlR.cells (by first | assumption | exact S.tail.sl | exact S.tail.tail.sl | exact S.tail.tail.tail.sl | exact S.tail.tail.tail.tail.sl | exact S.tail.tail.tail.tail.tail.sl | exact S.tail.tail.tail.tail.tail.tail.sl | exact S.tail.tail.tail.tail.tail.tail.tail.sl | exact S.tail.tail.tail.tail.tail.tail.tail.tail.sl)).2) ?_
      intro w69 b70 S
      have B := B.trans b70
      refine t_done ?_
      refine x_seq ?_
      refine w_ret ?_
      refine x_retc rfl rfl S.box ab_path sb_path rfl ?_
      have S := S.f2
      have S := S.pathShut (x := ((([]) ++ [makePart up 1 0]) ++ [makePart down 4 0]))
      obtain ⟨fp, hO⟩ := (S.mono X0.size).head
      exact ⟨_, fp, rfl, (by rw [show joinT up core true down = (([]) ++ [makePart up 1 0]) ++ [makePart down 4 0] by unfold joinT addP; (first | rw [if_pos hc1] | rw [if_neg hc1]); (first | rw [if_pos hc2] | rw [if_neg hc2]); (first | rw [if_pos hc3] | rw [if_neg hc3]); rfl]; exact hO), ext_trans X0 B⟩
    intro hc3
    refine w_skip ?_
    refine x_seq ?_
    refine w_seq ?_
    refine w_region ?_
    refine t_bxn S.box ab_path sb_path rfl rfl ?_ rfl
    have S := S.f2
    refine t_stn S sb_path rfl rfl rfl rfl (by intro zz hu; have hu : zz ∈ ([.slice Av21 (([]) ++ [makePart up 1 0]).length cv21] : List Value) := hu; simp only [List.mem_cons, List.not_mem_nil, or_false] at hu; rcases hu with rfl <;> first | rfl | exact (SlR.cells (by first | assumption | exact S.tail.sl | exact S.tail.tail.sl | exact S.tail.tail.tail.sl | exact S.tail.tail.tail.tail.sl | exact S.tail.tail.tail.tail.tail.sl | exact S.tail.tail.tail.tail.tail.tail.sl | exact S.tail.tail.tail.tail.tail.tail.tail.sl | exact S.tail.tail.tail.tail.tail.tail.tail.tail.sl)).2) ?_
    intro w71 b72 S
    have B := B.trans b72
    refine t_done ?_
    refine x_seq ?_
    refine w_ret ?_
    refine x_retc rfl rfl S.box ab_path sb_path rfl ?_
    have S := S.f2
    have S := S.pathShut (x := (([]) ++ [makePart up 1 0]))
    obtain ⟨fp, hO⟩ := (S.mono X0.size).head
    exact ⟨_, fp, rfl, (by rw [show joinT up core true down = ([]) ++ [makePart up 1 0] by unfold joinT addP; (first | rw [if_pos hc1] | rw [if_neg hc1]); (first | rw [if_pos hc2] | rw [if_neg hc2]); (first | rw [if_pos hc3] | rw [if_neg hc3]); rfl]; exact hO), ext_trans X0 B⟩
  intro hc1
  refine w_skip ?_
  refine x_seq ?_
  refine w_seq ?_
  refine w_seq ?_
  refine w_region ?_
  refine t_fld ln_seg_2 (by assumption) fb_seg_2 rfl ?_ rfl
  intro p23 hp23
  refine t_lds (by assumption) ab_s_hop B rfl ?_ rfl
  intro v24 hv24
  refine t_len e_hop (by assumption) rfl rfl ?_ rfl
  refine t_gtr rfl rfl ?_ rfl
  refine t_done ?_
  refine x_seq ?_
  refine w_if rfl ?_ ?_
  · intro hc2
    refine w_seq ?_
    refine w_region ?_
    refine t_assign rfl ?_ rfl
    refine t_done ?_
    refine x_seq ?_
    refine w_seq ?_
    refine w_seq ?_
    refine w_region ?_
    refine t_move rfl ?_ rfl
    refine t_done ?_
    refine x_seq ?_
    refine w_yes rfl ?_
    refine w_region ?_
    refine t_assign rfl ?_ rfl
    refine t_done ?_
    refine x_seq ?_
    refine w_draw (.st .take 0 (.st .take 1 (.st .take 2 (.st .take 3 (.st .run 4 (.st .run 5 (.st .fin 6 (.st .fin 7 (.st .fin 8 .done))))))))) mixed (by kernel_rfl) ?_
    intro w73 x74
    have B := bx Hb B x74
    have S := S.below x74
    refine t_fldx fb_path_0 rfl rfl ?_ rfl
    refine t_bx1 S.box ab_s_part rfl rfl ?_ rfl
    refine t_lda (by assumption) ab_seg sb_seg B rfl ?_ rfl
    intro v30 hv30
    obtain ⟨v30_2, rfl, hv30_2⟩ := seg_va hv30
    refine t_move rfl ?_ rfl
    refine t_call Try.call96 rfl (spec_MakePart _ _ _ _ _ (by first | assumption | exact VA.below (by assumption) B) (by omega)) ?_ rfl rfl
    rintro e w75 ⟨cs32, fp32, rfl, hO32, x76⟩
    refine ⟨_, rfl, x76, ?_⟩
    have S := S.add (o := tyO partT _ _) x76 hO32
    have B := bx Hb B x76
    obtain ⟨u32_3, heq, S2⟩ := S.partOpen
    subst heq
    have S := S2
    clear S2
    refine t_lit1 (fun w => bs_part1 _ _ _ _ w) rfl ?_ rfl rfl
    intro A33 w77 x78 hA33
    have B := bx Hb B x78
    have S := S.below x78
    have S := Sep.addNil (T := partT) (e := 94) S
    have S := S.f1
    have S := S.partShut (x := makePart core 3 0)
    have S := S.f1
    refine t_snoc e_part S hA33 rfl rfl rfl (by first | omega | (simp; done)) (by (simp only [maxLen]); first | omega | (simp; done)) ?_ rfl
    intro v34 w79 x80 S
    have B := B.trans x80
    refine t_fldx fb_path_0 rfl rfl ?_ rfl
    obtain ⟨Av34, cv34, rfl, _⟩ := S.sl.form
    have S := S.f1
    refine t_st1 S sb_s_part rfl rfl rfl rfl rfl ?_
    intro w81 b82 S
    have B := B.trans b82
    refine t_done' ?_
    refine x_seq ?_
    refine w_seq ?_
    refine w_seq ?_
    refine w_region ?_
    refine t_fld ln_seg_2 (by assumption) fb_seg_2 rfl ?_ rfl
    intro p36 hp36
    refine t_lds (by assumption) ab_s_hop B rfl ?_ rfl
    intro v37 hv37
    refine t_len e_hop (by assumption) rfl rfl ?_ rfl
    refine t_gtr rfl rfl ?_ rfl
    refine t_done ?_
    refine x_seq ?_
    refine w_if rfl ?_ ?_
    · intro hc3
      refine w_draw (.st .take 0 (.st .take 1 (.st .take 2 (.st .run 3 (.st .run 4 (.st .fin 5 (.st .fin 6 (.st .fin 7 .done)))))))) mixed (by kernel_rfl) ?_
      intro w83 x84
      have B := bx Hb B x84
      have S := S.below x84
      refine t_fldx fb_path_0 rfl rfl ?_ rfl
      refine t_bx1 S.box ab_s_part rfl rfl ?_ rfl
      refine t_lda (by assumption) ab_seg sb_seg B rfl ?_ rfl
      intro v42 hv42
      obtain ⟨v42_2, rfl, hv42_2⟩ := seg_va hv42
      refine t_call Try.call96 rfl (spec_MakePart _ _ _ _ _ (by first | assumption | exact VA.below (by assumption) B) (by omega)) ?_ rfl rfl
      rintro e w85 ⟨cs43, fp43, rfl, hO43, x86⟩
      refine ⟨_, rfl, x86, ?_⟩
      have S := S.add (o := tyO partT _ _) x86 hO43
      have B := bx Hb B x86
      obtain ⟨u43_3, heq, S2⟩ := S.partOpen
      subst heq
      have S := S2
      clear S2
      refine t_lit1 (fun w => bs_part1 _ _ _ _ w) rfl ?_ rfl rfl
      intro A44 w87 x88 hA44
      have B := bx Hb B x88
      have S := S.below x88
      have S := S.partShut (x := makePart down 4 0)
      have S := S.f2
      refine t_snoc e_part S hA44 rfl rfl rfl (by first | omega | (simp; done)) (by (simp only [maxLen]); first | omega | (simp; done)) ?_ rfl
      intro v45 w89 x90 S
      have B := B.trans x90
      refine t_fldx fb_path_0 rfl rfl ?_ rfl
      obtain ⟨Av45, cv45, rfl, _⟩ := S.sl.form
      have S := S.f1
      refine t_st1 S sb_s_part rfl rfl rfl rfl rfl ?_
      intro w91 b92 S
      have B := B.trans b92
      refine t_done' ?_
      refine x_seq ?_
      refine w_seq ?_
      refine w_region ?_
      refine t_bxn S.box ab_path sb_path rfl rfl ?_ rfl
      have S := S.f2
      refine t_stn S sb_path rfl rfl rfl rfl (by intro zz hu; have hu : zz ∈ ([.slice Av45 ((([]) ++ [makePart core 3 0]) ++ [makePart down 4 0]).length cv45] : List Value) := hu; simp only [List.mem_cons, List.not_mem_nil, or_false] at hu; rcases hu with rfl <;> first | rfl | exact (SlR.cells (by first | assumption | exact S.tail.sl | exact S.tail.tail.sl | exact S.tail.tail.tail.sl | exact S.tail.tail.tail.tail.sl | exact S.tail.tail.tail.tail.tail.sl | exact S.tail.tail.tail.tail.tail.tail.sl | exact S.tail.tail.tail.tail.tail.tail.tail.sl | exact S.tail.tail.tail.tail.tail.tail.tail.tail.sl)).2) ?_
      intro w93 b94 S
      have B := B.trans b94
      refine t_done ?_
      refine x_seq ?_
      refine w_ret ?_
      refine x_retc rfl rfl S.box ab_path sb_path rfl ?_
      have S := S.f2
      have S := S.pathShut (x := ((([]) ++ [makePart core 3 0]) ++ [makePart down 4 0]))
      obtain ⟨fp, hO⟩ := (S.mono X0.size).head
      exact ⟨_, fp, rfl, (by rw [show joinT up core true down = (([]) ++ [makePart core 3 0]) ++ [makePart down 4 0] by unfold joinT addP; (first | rw [if_pos hc1] | rw [if_neg hc1]); (first | rw [if_pos hc2] | rw [if_neg hc2]); (first | rw [if_pos hc3] | rw [if_neg hc3]); rfl]; exact hO), ext_trans X0 B⟩
    intro hc3
    refine w_skip ?_
    refine x_seq ?_
    refine w_seq ?_
    refine w_region ?_
    refine t_bxn S.box ab_path sb_path rfl rfl ?_ rfl
    have S := S.f2
    refine t_stn S sb_path rfl rfl rfl rfl (by intro zz hu; have hu : zz ∈ ([.slice Av34 (([]) ++ [makePart core 3 0]).length cv34] : List Value) := hu; simp only [List.mem_cons, List.not_mem_nil, or_false] at hu; rcases hu with rfl <;> first | rfl | exact (SlR.cells (by first | assumption | exact S.tail.sl | exact S.tail.tail.sl | exact S.tail.tail.tail.sl | exact S.tail.tail.tail.tail.sl | exact S.tail.tail.tail.tail.tail.sl | exact S.tail.tail.tail.tail.tail.tail.sl | exact S.tail.tail.tail.tail.tail.tail.tail.sl | exact S.tail.tail.tail.tail.tail.tail.tail.tail.sl)).2) ?_
    intro w95 b96 S
    have B := B.trans b96
    refine t_done ?_
    refine x_seq ?_
    refine w_ret ?_
    refine x_retc rfl rfl S.box ab_path sb_path rfl ?_
    have S := S.f2
    have S := S.pathShut (x := (([]) ++ [makePart core 3 0]))
    obtain ⟨fp, hO⟩ := (S.mono X0.size).head
    exact ⟨_, fp, rfl, (by rw [show joinT up core true down = ([]) ++ [makePart core 3 0] by unfold joinT addP; (first | rw [if_pos hc1] | rw [if_neg hc1]); (first | rw [if_pos hc2] | rw [if_neg hc2]); (first | rw [if_pos hc3] | rw [if_neg hc3]); rfl]; exact hO), ext_trans X0 B⟩
  intro hc2
  refine w_skip ?_
  refine x_seq ?_
  refine w_seq ?_
  refine w_seq ?_
  refine w_region ?_
  refine t_fld ln_seg_2 (by assumption) fb_seg_2 rfl ?_ rfl
  intro p36 hp36
  refine t_lds (by assumption) ab_s_hop B rfl ?_ rfl
  intro v37 hv37
  refine t_len e_hop (by assumption) rfl rfl ?_ rfl
  refine t_gtr rfl rfl ?_ rfl
  refine t_done ?_
  refine x_seq ?_
  refine w_if rfl ?_ ?_
  · intro hc3
    refine w_draw (.st .take 0 (.st .take 1 (.st .take 2 (.st .run 3 (.st .run 4 (.st .fin 5 (.st .fin 6 (.st .fin 7 .done)))))))) mixed (by kernel_rfl) ?_
    intro w97 x98
    have B := bx Hb B x98
    have S := S.below x98
    refine t_fldx fb_path_0 rfl rfl ?_ rfl
    refine t_bx1 S.box ab_s_part rfl rfl ?_ rfl
    refine t_lda (by assumption) ab_seg sb_seg B rfl ?_ rfl
    intro v42 hv42
    obtain ⟨v42_2, rfl, hv42_2⟩ := seg_va hv42
    refine t_call Try.call96 rfl (spec_MakePart _ _ _ _ _ (by first | assumption | exact VA.below (by assumption) B) (by omega)) ?_ rfl rfl
    rintro e w99 ⟨cs43, fp43, rfl, hO43, x100⟩
    refine ⟨_, rfl, x100, ?_⟩
    have S := S.add (o := tyO partT _ _) x100 hO43
    have B := bx Hb B x100
    obtain ⟨u43_3, heq, S2⟩ := S.partOpen
    subst heq
    have S := S2
    clear S2
    refine t_lit1 (fun w => bs_part1 _ _ _ _ w) rfl ?_ rfl rfl
    intro A44 w101 x102 hA44
    have B := bx Hb B x102
    have S := S.below x102
    have S := Sep.addNil (T := partT) (e := 94) S
    have S := S.f1
    have S := S.partShut (x := makePart down 4 0)
    have S := S.f1
    refine t_snoc e_part S hA44 rfl rfl rfl (by first | omega | (simp; done)) (by (simp only [maxLen]); first | omega | (simp; done)) ?_ rfl
    intro v45 w103 x104 S
    have B := B.trans x104
    refine t_fldx fb_path_0 rfl rfl ?_ rfl
    obtain ⟨Av45, cv45, rfl, _⟩ := S.sl.form
    have S := S.f1
    refine t_st1 S sb_s_part rfl rfl rfl rfl rfl ?_
    intro w105 b106 S
    have B := B.trans b106
    refine t_done' ?_
    refine x_seq ?_
    refine w_seq ?_
    refine w_region ?_
    refine t_bxn S.box ab_path sb_path rfl rfl ?_ rfl
    have S := S.f2
    refine t_stn S sb_path rfl rfl rfl rfl (by intro zz hu; have hu : zz ∈ ([.slice Av45 (([]) ++ [makePart down 4 0]).length cv45] : List Value) := hu; simp only [List.mem_cons, List.not_mem_nil, or_false] at hu; rcases hu with rfl <;> first | rfl | exact (SlR.cells (by first | assumption | exact S.tail.sl | exact S.tail.tail.sl | exact S.tail.tail.tail.sl | exact S.tail.tail.tail.tail.sl | exact S.tail.tail.tail.tail.tail.sl | exact S.tail.tail.tail.tail.tail.tail.sl | exact S.tail.tail.tail.tail.tail.tail.tail.sl | exact S.tail.tail.tail.tail.tail.tail.tail.tail.sl)).2) ?_
    intro w107 b108 S
    have B := B.trans b108
    refine t_done ?_
    refine x_seq ?_
    refine w_ret ?_
    refine x_retc rfl rfl S.box ab_path sb_path rfl ?_
    have S := S.f2
    have S := S.pathShut (x := (([]) ++ [makePart down 4 0]))
    obtain ⟨fp, hO⟩ := (S.mono X0.size).head
    exact ⟨_, fp, rfl, (by rw [show joinT up core true down = ([]) ++ [makePart down 4 0] by unfold joinT addP; (first | rw [if_pos hc1] | rw [if_neg hc1]); (first | rw [if_pos hc2] | rw [if_neg hc2]); (first | rw [if_pos hc3] | rw [if_neg hc3]); rfl]; exact hO), ext_trans X0 B⟩
  intro hc3
  refine w_skip ?_
  refine x_seq ?_
  refine w_seq ?_
  refine w_region ?_
  refine t_bxn S.box ab_path sb_path rfl rfl ?_ rfl
  have S := S.f1
  refine t_stn S sb_path rfl rfl rfl rfl (by simp [Value.oneCell']) ?_
  intro w109 b110 S
  have B := B.trans b110
  refine t_done ?_
  refine x_seq ?_
  refine w_ret ?_
  refine x_retc rfl rfl S.box ab_path sb_path rfl ?_
  have S := Sep.addNil (T := partT) (e := 94) S
  have S := S.pathShut (x := ([]))
  obtain ⟨fp, hO⟩ := (S.mono X0.size).head
  exact ⟨_, fp, rfl, (by rw [show joinT up core true down = [] by unfold joinT addP; (first | rw [if_pos hc1] | rw [if_neg hc1]); (first | rw [if_pos hc2] | rw [if_neg hc2]); (first | rw [if_pos hc3] | rw [if_neg hc3]); rfl]; exact hO), ext_trans X0 B⟩
theorem impl_JoinThree_true (up core down : Seg) (v1 v2 v3 : Value) (w : World) (h1 : VA segT w v1 up) (h2 : VA segT w v2 core) (h3 : VA segT w v3 down) (hz1 : up.hops.length ≤ 1048576) (hz2 : core.hops.length ≤ 1048576) (hz3 : down.hops.length ≤ 1048576) : Calls Try.prog 47 #[v1, v2, .bool true, v3] w fun e w' => ∃ cs fp, e = .returned (.agg cs.toArray) ∧ pathT.O w.heap.size w' cs (joinT up core true down) fp ∧ Below w.heap.size w w' := by
  have ha1 : List.length (addP up 1) ≤ 1 := by unfold addP; split <;> simp
  have ha2 : List.length (addP core 3) ≤ 1 := by unfold addP; split <;> simp
  have X0 := Below.refl w.heap.size w
  refine enter Try.func47 rfl Try.ntmps47 rfl ?_
  refine w_seq ?_
  refine w_region ?_
  refine t_boxr (by assumption) rfl ?_ rfl rfl
  intro p4 w111 x112 hp4
  replace h1 := h1.below x112
  replace h2 := h2.below x112
  replace h3 := h3.below x112
  have X0 := ext_trans X0 x112
  refine t_boxr (by assumption) rfl ?_ rfl rfl
  intro p5 w113 x114 hp5
  replace h1 := h1.below x114
  replace h2 := h2.below x114
  replace h3 := h3.below x114
  replace hp4 := hp4.below x114
  have X0 := ext_trans X0 x114
  refine t_boxr (by assumption) rfl ?_ rfl rfl
  intro p7 w115 x116 hp7
  replace h1 := h1.below x116
  replace h2 := h2.below x116
  replace h3 := h3.below x116
  replace hp4 := hp4.below x116
  replace hp5 := hp5.below x116
  have X0 := ext_trans X0 x116
  have S := Sep.nil w115
  have B := Below.refl w115.heap.size w115
  have Hb := Nat.le_refl w115.heap.size
  refine t_alloc S z_path rfl ?_ rfl rfl
  intro g8 w117 x118 S
  have B := bx Hb B x118
  refine t_done ?_
  refine x_seq ?_
  refine w_seq ?_
  refine w_region ?_
  refine t_assign rfl ?_ rfl
  refine t_done ?_
  refine x_seq ?_
  refine w_seq ?_
  refine w_seq ?_
  refine w_region ?_
  refine t_move rfl ?_ rfl
  refine t_done ?_
  refine x_seq ?_
  refine w_yes rfl ?_
  refine w_region ?_
  refine t_assign rfl ?_ rfl
  refine t_done ?_
  refine x_seq ?_
  refine w_seq ?_
  refine w_region ?_
  refine t_alloc S z_path rfl ?_ rfl rfl
  intro g10 w119 x120 S
  have B := bx Hb B x120
  refine t_done ?_
  refine x_seq ?_
  refine w_seq ?_
  refine w_region ?_
  refine t_makeFunc rfl ?_ rfl
  refine t_assign rfl ?_ rfl
  refine t_done ?_
  refine x_seq ?_
  refine w_seq ?_
  refine w_region ?_
  refine t_move rfl ?_ rfl
  refine t_lda (by assumption) ab_seg sb_seg B rfl ?_ rfl
  intro v15 hv15
  obtain ⟨v15_2, rfl, hv15_2⟩ := seg_va hv15
  have S := (S.addNil (T := partT) (e := 94)).f1
  refine t_callv Try.call98 rfl rfl (impl_JoinThree1 up _ 1 g10 _ [] _ _ _ S (by first | assumption | exact VA.below (by assumption) B) (by omega) (by simp)) ?_ rfl
  rintro e wa ⟨rfl, qa, S, xa⟩
  refine ⟨_, rfl, ?_⟩
  have B := B.trans xa
  refine t_done ?_
  refine x_seq ?_
  refine w_seq ?_
  refine w_region ?_
  refine t_move rfl ?_ rfl
  refine t_lda (by assumption) ab_seg sb_seg B rfl ?_ rfl
  intro v18 hv18
  obtain ⟨v18_2, rfl, hv18_2⟩ := seg_va hv18
  refine t_move rfl ?_ rfl
  refine t_callv Try.call98 rfl rfl (impl_JoinThree1 core _ 3 g10 _ _ _ _ _ S (by first | assumption | exact VA.below (by assumption) B) (by omega) (by rw [List.length_append, List.length_nil]; omega)) ?_ rfl
  rintro e wb ⟨rfl, qb, S, xb⟩
  refine ⟨_, rfl, ?_⟩
  have B := B.trans xb
  refine t_done ?_
  refine x_seq ?_
  refine w_seq ?_
  refine w_region ?_
  refine t_move rfl ?_ rfl
  refine t_lda (by assumption) ab_seg sb_seg B rfl ?_ rfl
  intro v22 hv22
  obtain ⟨v22_2, rfl, hv22_2⟩ := seg_va hv22
  refine t_callv Try.call98 rfl rfl (impl_JoinThree1 down _ 4 g10 _ _ _ _ _ S (by first | assumption | exact VA.below (by assumption) B) (by omega) (by rw [List.length_append, List.length_append, List.length_nil]; omega)) ?_ rfl
  rintro e wc ⟨rfl, qc, S, xc⟩
  refine ⟨_, rfl, ?_⟩
  have B := B.trans xc
  refine t_done ?_
  refine x_seq ?_
  refine w_seq ?_
  refine w_region ?_
  refine t_bxn S.box ab_path sb_path rfl rfl ?_ rfl
  have S := S.f2
  refine t_stn S sb_path rfl rfl rfl rfl (by intro zz hu; have hu : zz ∈ ([qc] : List Value) := hu; simp only [List.mem_cons, List.not_mem_nil, or_false] at hu; rcases hu with rfl <;> first | rfl | exact (SlR.cells (by first | assumption | exact S.tail.sl | exact S.tail.tail.sl | exact S.tail.tail.tail.sl | exact S.tail.tail.tail.tail.sl | exact S.tail.tail.tail.tail.tail.sl | exact S.tail.tail.tail.tail.tail.tail.sl | exact S.tail.tail.tail.tail.tail.tail.tail.sl | exact S.tail.tail.tail.tail.tail.tail.tail.tail.sl)).2) ?_
  intro w121 b122 S
  have B := B.trans b122
  refine t_done ?_
  refine x_seq ?_
  refine w_ret ?_
  refine x_retc rfl rfl S.box ab_path sb_path rfl ?_
  have S := S.f2
  have S := S.pathShut (x := ([] ++ addP up 1 ++ addP core 3 ++ addP down 4))
  obtain ⟨fp, hO⟩ := (S.mono X0.size).head
  exact ⟨_, fp, rfl, hO, ext_trans X0 B⟩
theorem spec_JoinThree_false (up core down : Seg) (v1 v2 v3 : Value) (w : World) (h1 : VA segT w v1 up) (h2 : VA segT w v2 core) (h3 : VA segT w v3 down) (hz1 : up.hops.length ≤ 1048576) (hz2 : core.hops.length ≤ 1048576) (hz3 : down.hops.length ≤ 1048576) : Calls Try.prog 45 #[v1, v2, .bool false, v3] w fun e w' => ∃ cs fp, e = .returned (.agg cs.toArray) ∧ pathT.O w.heap.size w' cs (joinT up core false down) fp ∧ Below w.heap.size w w' := by
  have X0 := Below.refl w.heap.size w
  refine enter Try.func45 rfl Try.ntmps45 rfl ?_
  refine w_seq ?_
  refine w_region ?_
  refine t_boxr (by assumption) rfl ?_ rfl rfl
  intro p4 w123 x124 hp4
  replace h1 := h1.below x124
  replace h2 := h2.below x124
  replace h3 := h3.below x124
  have X0 := ext_trans X0 x124
  refine t_boxr (by assumption) rfl ?_ rfl rfl
  intro p5 w125 x126 hp5
  replace h1 := h1.below x126
  replace h2 := h2.below x126
  replace h3 := h3.below x126
  replace hp4 := hp4.below x126
  have X0 := ext_trans X0 x126
  refine t_boxr (by assumption) rfl ?_ rfl rfl
  intro p7 w127 x128 hp7
  replace h1 := h1.below x128
  replace h2 := h2.below x128
  replace h3 := h3.below x128
  replace hp4 := hp4.below x128
  replace hp5 := hp5.below x128
  have X0 := ext_trans X0 x128
  have S := Sep.nil w127
  have B := Below.refl w127.heap.size w127
  have Hb := Nat.le_refl w127.heap.size
  refine t_alloc S z_path rfl ?_ rfl rfl
  intro g8 w129 x130 S
  have B := bx Hb B x130
  refine t_done ?_
  refine x_seq ?_
  refine w_seq ?_
  refine w_region ?_
  refine t_build (fun w => b_path0 w) rfl ?_ rfl
  refine t_alloc S z_path rfl ?_ rfl rfl
  intro g9 w131 x132 S
  have B := bx Hb B x132
  refine t_stn S sb_path rfl rfl rfl rfl (by simp [Value.oneCell']) ?_
  intro w133 b134 S
  have B := B.trans b134
  refine t_done ?_
  refine x_seq ?_
  refine w_seq ?_
  refine w_seq ?_
  refine w_region ?_
  refine t_fld ln_seg_2 (by assumption) fb_seg_2 rfl ?_ rfl
  intro p12 hp12
  refine t_lds (by assumption) ab_s_hop B rfl ?_ rfl
  intro v13 hv13
  refine t_len e_hop (by assumption) rfl rfl ?_ rfl
  refine t_gtr rfl rfl ?_ rfl
  refine t_done ?_
  refine x_seq ?_
  refine w_if rfl ?_ ?_
  · intro hc1
    refine w_draw (.st .take 0 (.st .take 1 (.st .take 2 (.st .run 3 (.st .run 4 (.st .fin 5 (.st .fin 6 (.st .fin 7 .done)))))))) mixed (by kernel_rfl) ?_
    intro w135 x136
    have B := bx Hb B x136
    have S := S.below x136
    refine t_fldx fb_path_0 rfl rfl ?_ rfl
    refine t_bx1 S.box ab_s_part rfl rfl ?_ rfl
    refine t_lda (by assumption) ab_seg sb_seg B rfl ?_ rfl
    intro v18 hv18
    obtain ⟨v18_2, rfl, hv18_2⟩ := seg_va hv18
    refine t_call Try.call96 rfl (spec_MakePart _ _ _ _ _ (by first | assumption | exact VA.below (by assumption) B) (by omega)) ?_ rfl rfl
    rintro e w137 ⟨cs19, fp19, rfl, hO19, x138⟩
    refine ⟨_, rfl, x138, ?_⟩
    have S := S.add (o := tyO partT _ _) x138 hO19
    have B := bx Hb B x138
    obtain ⟨u19_3, heq, S2⟩ := S.partOpen
    subst heq
    have S := S2
    clear S2
    refine t_lit1 (fun w => bs_part1 _ _ _ _ w) rfl ?_ rfl rfl
    intro A20 w139 x140 hA20
    have B := bx Hb B x140
    have S := S.below x140
    have S := Sep.addNil (T := partT) (e := 94) S
    have S := S.f1
    have S := S.partShut (x := makePart up 1 0)
    have S := S.f1
    refine t_snoc e_part S hA20 rfl rfl rfl (by first | omega | (simp; done)) (by (simp only [maxLen]); first | omega | (simp; done)) ?_ rfl
    intro v21 w141 x142 S
    have B := B.trans x142
    refine t_fldx fb_path_0 rfl rfl ?_ rfl
    obtain ⟨Av21, cv21, rfl, _⟩ := S.sl.form
    have S := S.f1
    refine t_st1 S sb_s_part rfl rfl rfl rfl rfl ?_
    intro w143 b144 S
    have B := B.trans b144
    refine t_done' ?_
    refine x_seq ?_
    refine w_seq ?_
    refine w_seq ?_
    refine w_region ?_
    refine t_fld ln_seg_2 (by assumption) fb_seg_2 rfl ?_ rfl
    intro p23 hp23
    refine t_lds (by assumption) ab_s_hop B rfl ?_ rfl
    intro v24 hv24
    refine t_len e_hop (by assumption) rfl rfl ?_ rfl
    refine t_gtr rfl rfl ?_ rfl
    refine t_done ?_
    refine x_seq ?_
    refine w_if rfl ?_ ?_
    · intro hc2
      refine w_seq ?_
      refine w_region ?_
      refine t_assign rfl ?_ rfl
      refine t_done ?_
      refine x_seq ?_
      refine w_seq ?_
      refine w_seq ?_
      refine w_region ?_
      refine t_move rfl ?_ rfl
      refine t_done ?_
      refine x_seq ?_
      refine w_no rfl ?_
      refine w_skip ?_
      refine x_seq ?_
      refine w_draw (.st .take 0 (.st .take 1 (.st .take 2 (.st .take 3 (.st .run 4 (.st .run 5 (.st .fin 6 (.st .fin 7 (.st .fin 8 .done))))))))) mixed (by kernel_rfl) ?_
      intro w145 x146
      have B := bx Hb B x146
      have S := S.below x146
      refine t_fldx fb_path_0 rfl rfl ?_ rfl
      refine t_bx1 S.box ab_s_part rfl rfl ?_ rfl
      refine t_lda (by assumption) ab_seg sb_seg B rfl ?_ rfl
      intro v30 hv30
      obtain ⟨v30_2, rfl, hv30_2⟩ := seg_va hv30
      refine t_move rfl ?_ rfl
      refine t_call Try.call96 rfl (spec_MakePart _ _ _ _ _ (by first | assumption | exact VA.below (by assumption) B) (by omega)) ?_ rfl rfl
      rintro e w147 ⟨cs32, fp32, rfl, hO32, x148⟩
      refine ⟨_, rfl, x148, ?_⟩
      have S := S.add (o := tyO partT _ _) x148 hO32
      have B := bx Hb B x148
      obtain ⟨u32_3, heq, S2⟩ := S.partOpen
      subst heq
      have S := S2
      clear S2
      refine t_lit1 (fun w => bs_part1 _ _ _ _ w) rfl ?_ rfl rfl
      intro A33 w149 x150 hA33
      have B := bx Hb B x150
      have S := S.below x150
      have S := S.partShut (x := makePart core 2 0)
      have S := S.f2
      refine t_snoc e_part S hA33 rfl rfl rfl (by first | omega | (simp; done)) (by (simp only [maxLen]); first | omega | (simp; done)) ?_ rfl
      intro v34 w151 x152 S
      have B := B.trans x152
      refine t_fldx fb_path_0 rfl rfl ?_ rfl
      obtain ⟨Av34, cv34, rfl, _⟩ := S.sl.form
      have S := S.f1
      refine t_st1 S sb_s_part rfl rfl rfl rfl rfl ?_
      intro w153 b154 S
      have B := B.trans b154
      refine t_done' ?_
      refine x_seq ?_
      refine w_seq ?_
      refine w_seq ?_
      refine w_region ?_
      refine t_fld ln_seg_2 (by assumption) fb_seg_2 rfl ?_ rfl
      intro p36 hp36
      refine t_lds (by assumption) ab_s_hop B rfl ?_ rfl
      intro v37 hv37
      refine t_len e_hop (by assumption) rfl rfl ?_ rfl
      refine t_gtr rfl rfl ?_ rfl
      refine t_done ?_
      refine x_seq ?_
      refine w_if rfl ?_ ?_
      · intro hc3
        refine w_draw (.st .take 0 (.st .take 1 (.st .take 2 (.st .run 3 (.st .run 4 (.st .fin 5 (.st .fin 6 (.st .fin 7 .done)))))))) mixed (by kernel_rfl) ?_
        intro w155 x156
        have B := bx Hb B x156
        have S := S.below x156
        refine t_fldx fb_path_0 rfl rfl ?_ rfl
        refine t_bx1 S.box ab_s_part rfl rfl ?_ rfl
        refine t_lda (by assumption) ab_seg sb_seg B rfl ?_ rfl
        intro v42 hv42
        obtain ⟨v42_2, rfl, hv42_2⟩ := seg_va hv42
        refine t_call Try.call96 rfl (spec_MakePart _ _ _ _ _ (by first | assumption | exact VA.below (by assumption) B) (by omega)) ?_ rfl rfl
        rintro e w157 ⟨cs43, fp43, rfl, hO43, x158⟩
        refine ⟨_, rfl, x158, ?_⟩
        have S := S.add (o := tyO partT _ _) x158 hO43
        have B := bx Hb B x158
        obtain ⟨u43_3, heq, S2⟩ := S.partOpen
        subst heq
        have S := S2
        clear S2
        refine t_lit1 (fun w => bs_part1 _ _ _ _ w) rfl ?_ rfl rfl
        intro A44 w159 x160 hA44
        have B := bx Hb B x160
        have S := S.below x160
        have S := S.partShut (x := makePart down 4 0)
        have S := S.f2
        refine t_snoc e_part S hA44 rfl rfl rfl (by first | omega | (simp; done)) (by (simp only [maxLen]); first | omega | (simp; done)) ?_ rfl
        intro v45 w161 x162 S
        have B := B.trans x162
        refine t_fldx fb_path_0 rfl rfl ?_ rfl
        obtain ⟨Av45, cv45, rfl, _⟩ := S.sl.form
        have S := S.f1
        refine t_st1 S sb_s_part rfl rfl rfl rfl rfl ?_
        intro w163 b164 S
        have B := B.trans b164
        refine t_done' ?_
        refine x_seq ?_
        refine w_seq ?_
        refine w_region ?_
        refine t_bxn S.box ab_path sb_path rfl rfl ?_ rfl
        have S := S.f2
        refine t_stn S sb_path rfl rfl rfl rfl (by intro zz hu; have hu : zz ∈ ([.slice Av45 (((([]) ++ [makePart up 1 0]) ++ [makePart core 2 0]) ++ [makePart down 4 0]).length cv45] : List Value) := hu; simp only [List.mem_cons, List.not_mem_nil, or_false] at hu; rcases hu with rfl <;> first | rfl | exact (SlR.cells (by first | assumption | exact S.tail.sl | exact S.tail.tail.sl | exact S.tail.tail.tail.sl | exact S.tail.tail.tail.tail.sl | exact S.tail.tail.tail.tail.tail.sl | exact S.tail.tail.tail.tail.tail.tail.sl | exact S.tail.tail.tail.tail.tail.tail.tail.sl | exact S.tail.tail.tail.tail.tail.tail.tail.tail.sl)).2) ?_
        intro w165 b166 S
        have B := B.trans b166
        refine t_done ?_
        refine x_seq ?_
        refine w_ret ?_
        refine x_retc rfl rfl S.box ab_path sb_path rfl ?_
        have S := S.f2
        have S := S.pathShut (x := (((([]) ++ [makePart up 1 0]) ++ [makePart core 2 0]) ++ [makePart down 4 0]))
        obtain ⟨fp, hO⟩ := (S.mono X0.size).head
        exact ⟨_, fp, rfl, (by rw [show joinT up core false down = ((([]) ++ [makePart up 1 0]) ++ [makePart core 2 0]) ++ [makePart down 4 0] by unfold joinT addP; (first | rw [if_pos hc1] | rw [if_neg hc1]); (first | rw [if_pos hc2] | rw [if_neg hc2]); (first | rw [if_pos hc3] | rw [if_neg hc3]); rfl]; exact hO), ext_trans X0 B⟩
      intro hc3
      refine w_skip ?_
      refine x_seq ?_
      refine w_seq ?_
      refine w_region ?_
      refine t_bxn S.box ab_path sb_path rfl rfl ?_ rfl
      have S := S.f2
      refine t_stn S sb_path rfl rfl rfl rfl (by intro zz hu; have hu : zz ∈ ([.slice Av34 ((([]) ++ [makePart up 1 0]) ++ [makePart core 2 0]).length cv34] : List Value) := hu; simp only [List.mem_cons, List.not_mem_nil, or_false] at hu; rcases hu with rfl <;> first | rfl | exact (SlR.cells (by first | assumption | exact S.tail.sl | exact S.tail.tail.sl | exact S.tail.tail.tail.sl | exact S.tail.tail.tail.tail.sl | exact S.tail.tail.tail.tail.tail.sl | exact S.tail.tail.tail.tail.tail.tail.sl | exact S.tail.tail.tail.tail.tail.tail.tail.sl | exact S.tail.tail.tail.tail.tail.tail.tail.tail.sl)).2) ?_
      intro w167 b168 S
      have B := B.trans b168
      refine t_done ?_
      refine x_seq ?_
      refine w_ret ?_
      refine x_retc rfl rfl S.box ab_path sb_path rfl ?_
      have S := S.f2
      have S := S.pathShut (x := ((([]) ++ [makePart up 1 0]) ++ [makePart core 2 0]))
      obtain ⟨fp, hO⟩ := (S.mono X0.size).head
      exact ⟨_, fp, rfl, (by rw [show joinT up core false down = (([]) ++ [makePart up 1 0]) ++ [makePart core 2 0] by unfold joinT addP; (first | rw [if_pos hc1] | rw [if_neg hc1]); (first | rw [if_pos hc2] | rw [if_neg hc2]); (first | rw [if_pos hc3] | rw [if_neg hc3]); rfl]; exact hO), ext_trans X0 B⟩
    intro hc2
    refine w_skip ?_
    refine x_seq ?_
    refine w_seq ?_
    refine w_seq ?_
    refine w_region ?_
    refine t_fld ln_seg_2 (by assumption) fb_seg_2 rfl ?_ rfl
    intro p36 hp36
    refine t_lds (by assumption) ab_s_hop B rfl ?_ rfl
    intro v37 hv37
    refine t_len e_hop (by assumption) rfl rfl ?_ rfl
    refine t_gtr rfl rfl ?_ rfl
    refine t_done ?_
    refine x_seq ?_
    refine w_if rfl ?_ ?_
    · intro hc3
      refine w_draw (.st .take 0 (.st .take 1 (.st .take 2 (.st .run 3 (.st .run 4 (.st .fin 5 (.st .fin 6 (.st .fin 7 .done)))))))) mixed (by kernel_rfl) ?_
      intro w169 x170
      have B := bx Hb B x170
      have S := S.below x170
      refine t_fldx fb_path_0 rfl rfl ?_ rfl
      refine t_bx1 S.box ab_s_part rfl rfl ?_ rfl
      refine t_lda (by assumption) ab_seg sb_seg B rfl ?_ rfl
      intro v42 hv42
      obtain ⟨v42_2, rfl, hv42_2⟩ := seg_va hv42
      refine t_call Try.call96 rfl (spec_MakePart _ _ _ _ _ (by first | assumption | exact VA.below (by assumption) B) (by omega)) ?_ rfl rfl
      rintro e w171 ⟨cs43, fp43, rfl, hO43, x172⟩
      refine ⟨_, rfl, x172, ?_⟩
      have S := S.add (o := tyO partT _ _) x172 hO43
      have B := bx Hb B x172
      obtain ⟨u43_3, heq, S2⟩ := S.partOpen
      subst heq
      have S := S2
      clear S2
      refine t_lit1 (fun w => bs_part1 _ _ _ _ w) rfl ?_ rfl rfl
      intro A44 w173 x174 hA44
      have B := bx Hb B x174
      have S := S.below x174
      have S := S.partShut (x := makePart down 4 0)
      have S := S.f2
      refine t_snoc e_part S hA44 rfl rfl rfl (by first | omega | (simp; done)) (by (simp only [maxLen]); first | omega | (simp; done)) ?_ rfl
      intro v45 w175 x176 S
      have B := B.trans x176
      refine t_fldx fb_path_0 rfl rfl ?_ rfl
      obtain ⟨Av45, cv45, rfl, _⟩ := S.sl.form
      have S := S.f1
      refine t_st1 S sb_s_part rfl rfl rfl rfl rfl ?_
      intro w177 b178 S
      have B := B.trans b178
      refine t_done' ?_
      refine x_seq ?_
      refine w_seq ?_
      refine w_region ?_
      refine t_bxn S.box ab_path sb_path rfl rfl ?_ rfl
      have S := S.f2
      refine t_stn S sb_path rfl rfl rfl rfl (by intro zz hu; have hu : zz ∈ ([.slice Av45 ((([]) ++ [makePart up 1 0]) ++ [makePart down 4 0]).length cv45] : List Value) := hu; simp only [List.mem_cons, List.not_mem_nil, or_false] at hu; rcases hu with rfl <;> first | rfl | exact (SlR.cells (by first | assumption | exact S.tail.sl | exact S.tail.tail.sl | exact S.tail.tail.tail.sl | exact S.tail.tail.tail.tail.sl | exact S.tail.tail.tail.tail.tail.sl | exact S.tail.tail.tail.tail.tail.tail.sl | exact S.tail.tail.tail.tail.tail.tail.tail.sl | exact S.tail.tail.tail.tail.tail.tail.tail.tail.sl)).2) ?_
      intro w179 b180 S
      have B := B.trans b180
      refine t_done ?_
      refine x_seq ?_
      refine w_ret ?_
      refine x_retc rfl rfl S.box ab_path sb_path rfl ?_
      have S := S.f2
      have S := S.pathShut (x := ((([]) ++ [makePart up 1 0]) ++ [makePart down 4 0]))
      obtain ⟨fp, hO⟩ := (S.mono X0.size).head
      exact ⟨_, fp, rfl, (by rw [show joinT up core false down = (([]) ++ [makePart up 1 0]) ++ [makePart down 4 0] by unfold joinT addP; (first | rw [if_pos hc1] | rw [if_neg hc1]); (first | rw [if_pos hc2] | rw [if_neg hc2]); (first | rw [if_pos hc3] | rw [if_neg hc3]); rfl]; exact hO), ext_trans X0 B⟩
    intro hc3
    refine w_skip ?_
    refine x_seq ?_
    refine w_seq ?_
    refine w_region ?_
    refine t_bxn S.box ab_path sb_path rfl rfl ?_ rfl
    have S := S.f2
    refine t_stn S sb_path rfl rfl rfl rfl (by intro zz hu; have hu : zz ∈ ([.slice Av21 (([]) ++ [makePart up 1 0]).length cv21] : List Value) := hu; simp only [List.mem_cons, List.not_mem_nil, or_false] at hu; rcases hu with rfl <;> first | rfl | exact (SlR.cells (by first | assumption | exact S.tail.sl | exact S.tail.tail.sl | exact S.tail.tail.tail.sl | exact S.tail.tail.tail.tail.sl | exact S.tail.tail.tail.tail.tail.sl | exact S.tail.tail.tail.tail.tail.tail.sl | exact S.tail.tail.tail.tail.tail.tail.tail.sl | exact S.tail.tail.tail.tail.tail.tail.tail.tail.sl)).2) ?_
    intro w181 b182 S
    have B := B.trans b182
    refine t_done ?_
    refine x_seq ?_
    refine w_ret ?_
    refine x_retc rfl rfl S.box ab_path sb_path rfl ?_
    have S := S.f2
    have S := S.pathShut (x := (([]) ++ [makePart up 1 0]))
    obtain ⟨fp, hO⟩ := (S.mono X0.size).head
    exact ⟨_, fp, rfl, (by rw [show joinT up core false down = ([]) ++ [makePart up 1 0] by unfold joinT addP; (first | rw [if_pos hc1] | rw [if_neg hc1]); (first | rw [if_pos hc2] | rw [if_neg hc2]); (first | rw [if_pos hc3] | rw [if_neg hc3]); rfl]; exact hO), ext_trans X0 B⟩
  intro hc1
  refine w_skip ?_
  refine x_seq ?_
  refine w_seq ?_
  refine w_seq ?_
  refine w_region ?_
  refine t_fld ln_seg_2 (by assumption) fb_seg_2 rfl ?_ rfl
  intro p23 hp23
  refine t_lds (by assumption) ab_s_hop B rfl ?_ rfl
  intro v24 hv24
  refine t_len e_hop (by assumption) rfl rfl ?_ rfl
  refine t_gtr rfl rfl ?_ rfl
  refine t_done ?_
  refine x_seq ?_
  refine w_if rfl ?_ ?_
  · intro hc2
    refine w_seq ?_
    refine w_region ?_
    refine t_assign rfl ?_ rfl
    refine t_done ?_
    refine x_seq ?_
    refine w_seq ?_
    refine w_seq ?_
    refine w_region ?_
    refine t_move rfl ?_ rfl
    refine t_done ?_
    refine x_seq ?_
    refine w_no rfl ?_
    refine w_skip ?_
    refine x_seq ?_
    refine w_draw (.st .take 0 (.st .take 1 (.st .take 2 (.st .take 3 (.st .run 4 (.st .run 5 (.st .fin 6 (.st .fin 7 (.st .fin 8 .done))))))))) mixed (by kernel_rfl) ?_
    intro w183 x184
    have B := bx Hb B x184
    have S := S.below x184
    refine t_fldx fb_path_0 rfl rfl ?_ rfl
    refine t_bx1 S.box ab_s_part rfl rfl ?_ rfl
    refine t_lda (by assumption) ab_seg sb_seg B rfl ?_ rfl
    intro v30 hv30
    obtain ⟨v30_2, rfl, hv30_2⟩ := seg_va hv30
    refine t_move rfl ?_ rfl
    refine t_call Try.call96 rfl (spec_MakePart _ _ _ _ _ (by first | assumption | exact VA.below (by assumption) B) (by omega)) ?_ rfl rfl
    rintro e w185 ⟨cs32, fp32, rfl, hO32, x186⟩
    refine ⟨_, rfl, x186, ?_⟩
    have S := S.add (o := tyO partT _ _) x186 hO32
    have B := bx Hb B x186
    obtain ⟨u32_3, heq, S2⟩ := S.partOpen
    subst heq
    have S := S2
    clear S2
    refine t_lit1 (fun w => bs_part1 _ _ _ _ w) rfl ?_ rfl rfl
    intro A33 w187 x188 hA33
    have B := bx Hb B x188
    have S := S.below x188
    have S := Sep.addNil (T := partT) (e := 94) S
    have S := S.f1
    have S := S.partShut (x := makePart core 2 0)
    have S := S.f1
    refine t_snoc e_part S hA33 rfl rfl rfl (by first | omega | (simp; done)) (by (simp only [maxLen]); first | omega | (simp; done)) ?_ rfl
    intro v34 w189 x190 S
    have B := B.trans x190
    refine t_fldx fb_path_0 rfl rfl ?_ rfl
    obtain ⟨Av34, cv34, rfl, _⟩ := S.sl.form
    have S := S.f1
    refine t_st1 S sb_s_part rfl rfl rfl rfl rfl ?_
    intro w191 b192 S
    have B := B.trans b192
    refine t_done' ?_
    refine x_seq ?_
    refine w_seq ?_
    refine w_seq ?_
    refine w_region ?_
    refine t_fld ln_seg_2 (by assumption) fb_seg_2 rfl ?_ rfl
    intro p36 hp36
    refine t_lds (by assumption) ab_s_hop B rfl ?_ rfl
    intro v37 hv37
    refine t_len e_hop (by assumption) rfl rfl ?_ rfl
    refine t_gtr rfl rfl ?_ rfl
    refine t_done ?_
    refine x_seq ?_
    refine w_if rfl ?_ ?_
    · intro hc3
      refine w_draw (.st .take 0 (.st .take 1 (.st .take 2 (.st .run 3 (.st .run 4 (.st .fin 5 (.st .fin 6 (.st .fin 7 .done)))))))) mixed (by kernel_rfl) ?_
      intro w193 x194
      have B := bx Hb B x194
      have S := S.below x194
      refine t_fldx fb_path_0 rfl rfl ?_ rfl
      refine t_bx1 S.box ab_s_part rfl rfl ?_ rfl
      refine t_lda (by assumption) ab_seg sb_seg B rfl ?_ rfl
      intro v42 hv42
      obtain ⟨v42_2, rfl, hv42_2⟩ := seg_va hv42
      refine t_call Try.call96 rfl (spec_MakePart _ _ _ _ _ (by first | assumption | exact VA.below (by assumption) B) (by omega)) ?_ rfl rfl
      rintro e w195 ⟨cs43, fp43, rfl, hO43, x196⟩
      refine ⟨_, rfl, x196, ?_⟩
      have S := S.add (o := tyO partT _ _) x196 hO43
      have B := bx Hb B x196
      obtain ⟨u43_3, heq, S2⟩ := S.partOpen
      subst heq
      have S := S2
      clear S2
      refine t_lit1 (fun w => bs_part1 _ _ _ _ w) rfl ?_ rfl rfl
      intro A44 w197 x198 hA44
      have B := bx Hb B x198
      have S := S.below x198
      have S := S.partShut (x := makePart down 4 0)
      have S := S.f2
      refine t_snoc e_part S hA44 rfl rfl rfl (by first | omega | (simp; done)) (by (simp only [maxLen]); first | omega | (simp; done)) ?_ rfl
      intro v45 w199 x200 S
      have B := B.trans x200
      refine t_fldx fb_path_0 rfl rfl ?_ rfl
      obtain ⟨Av45, cv45, rfl, _⟩ := S.sl.form
      have S := S.f1
      refine t_st1 S sb_s_part rfl rfl rfl rfl rfl ?_
      intro w201 b202 S
      have B := B.trans b202
      refine t_done' ?_
      refine x_seq ?_
      refine w_seq ?_
      refine w_region ?_
      refine t_bxn S.box ab_path sb_path rfl rfl ?_ rfl
      have S := S.f2
      refine t_stn S sb_path rfl rfl rfl rfl (by intro zz hu; have hu : zz ∈ ([.slice Av45 ((([]) ++ [makePart core 2 0]) ++ [makePart down 4 0]).length cv45] : List Value) := hu; simp only [List.mem_cons, List.not_mem_nil, or_false] at hu; rcases hu with rfl <;> first | rfl | exact (SlR.cells (by first | assumption | exact S.tail.sl | exact S.tail.tail.sl | exact S.tail.tail.tail.sl | exact S.tail.tail.tail.tail.sl | exact S.tail.tail.tail.tail.tail.sl | exact S.tail.tail.tail.tail.tail.tail.sl | exact S.tail.tail.tail.tail.tail.tail.tail.sl | exact S.tail.tail.tail.tail.tail.tail.tail.tail.sl)).2) ?_
      intro w203 b204 S
      have B := B.trans b204
      refine t_done ?_
      refine x_seq ?_
      refine w_ret ?_
      refine x_retc rfl rfl S.box ab_path sb_path rfl ?_
      have S := S.f2
      have S := S.pathShut (x := ((([]) ++ [makePart core 2 0]) ++ [makePart down 4 0]))
      obtain ⟨fp, hO⟩ := (S.mono X0.size).head
      exact ⟨_, fp, rfl, (by rw [show joinT up core false down = (([]) ++ [makePart core 2 0]) ++ [makePart down 4 0] by unfold joinT addP; (first | rw [if_pos hc1] | rw [if_neg hc1]); (first | rw [if_pos hc2] | rw [if_neg hc2]); (first | rw [if_pos hc3] | rw [if_neg hc3]); rfl]; exact hO), ext_trans X0 B⟩
    intro hc3
    refine w_skip ?_
    refine x_seq ?_
    refine w_seq ?_
    refine w_region ?_
    refine t_bxn S.box ab_path sb_path rfl rfl ?_ rfl
    have S := S.f2
    refine t_stn S sb_path rfl rfl rfl rfl (by intro zz hu; have hu : zz ∈ ([.slice Av34 (([]) ++ [makePart core 2 0]).length cv34] : List Value) := hu; simp only [List.mem_cons, List.not_mem_nil, or_false] at hu; rcases hu with rfl <;> first | rfl | exact (SlR.cells (by first | assumption | exact S.tail.sl | exact S.tail.tail.sl | exact S.tail.tail.tail.sl | exact S.tail.tail.tail.tail.sl | exact S.tail.tail.tail.tail.tail.sl | exact S.tail.tail.tail.tail.tail.tail.sl | exact S.tail.tail.tail.tail.tail.tail.tail.sl | exact S.tail.tail.tail.tail.tail.tail.tail.tail.sl)).2) ?_
    intro w205 b206 S
    have B := B.trans b206
    refine t_done ?_
    refine x_seq ?_
    refine w_ret ?_
    refine x_retc rfl rfl S.box ab_path sb_path rfl ?_
    have S := S.f2
    have S := S.pathShut (x := (([]) ++ [makePart core 2 0]))
    obtain ⟨fp, hO⟩ := (S.mono X0.size).head
    exact ⟨_, fp, rfl, (by rw [show joinT up core false down = ([]) ++ [makePart core 2 0] by unfold joinT addP; (first | rw [if_pos hc1] | rw [if_neg hc1]); (first | rw [if_pos hc2] | rw [if_neg hc2]); (first | rw [if_pos hc3] | rw [if_neg hc3]); rfl]; exact hO), ext_trans X0 B⟩
  intro hc2
  refine w_skip ?_
  refine x_seq ?_
  refine w_seq ?_
  refine w_seq ?_
  refine w_region ?_
  refine t_fld ln_seg_2 (by assumption) fb_seg_2 rfl ?_ rfl
  intro p36 hp36
  refine t_lds (by assumption) ab_s_hop B rfl ?_ rfl
  intro v37 hv37
  refine t_len e_hop (by assumption) rfl rfl ?_ rfl
  refine t_gtr rfl rfl ?_ rfl
  refine t_done ?_
  refine x_seq ?_
  refine w_if rfl ?_ ?_
  · intro hc3
    refine w_draw (.st .take 0 (.st .take 1 (.st .take 2 (.st .run 3 (.st .run 4 (.st .fin 5 (.st .fin 6 (.st .fin 7 .done)))))))) mixed (by kernel_rfl) ?_
    intro w207 x208
    have B := bx Hb B x208
    have S := S.below x208
    refine t_fldx fb_path_0 rfl rfl ?_ rfl
    refine t_bx1 S.box ab_s_part rfl rfl ?_ rfl
    refine t_lda (by assumption) ab_seg sb_seg B rfl ?_ rfl
    intro v42 hv42
    obtain ⟨v42_2, rfl, hv42_2⟩ := seg_va hv42
    refine t_call Try.call96 rfl (spec_MakePart _ _ _ _ _ (by first | assumption | exact VA.below (by assumption) B) (by omega)) ?_ rfl rfl
    rintro e w209 ⟨cs43, fp43, rfl, hO43, x210⟩
    refine ⟨_, rfl, x210, ?_⟩
    have S := S.add (o := tyO partT _ _) x210 hO43
    have B := bx Hb B x210
    obtain ⟨u43_3, heq, S2⟩ := S.partOpen
    subst heq
    have S := S2
    clear S2
    refine t_lit1 (fun w => bs_part1 _ _ _ _ w) rfl ?_ rfl rfl
    intro A44 w211 x212 hA44
    have B := bx Hb B x212
    have S := S.below x212
    have S := Sep.addNil (T := partT) (e := 94) S
    have S := S.f1
    have S := S.partShut (x := makePart down 4 0)
    have S := S.f1
    refine t_snoc e_part S hA44 rfl rfl rfl (by first | omega | (simp; done)) (by (simp only [maxLen]); first | omega | (simp; done)) ?_ rfl
    intro v45 w213 x214 S
    have B := B.trans x214
    refine t_fldx fb_path_0 rfl rfl ?_ rfl
    obtain ⟨Av45, cv45, rfl, _⟩ := S.sl.form
    have S := S.f1
    refine t_st1 S sb_s_part rfl rfl rfl rfl rfl ?_
    intro w215 b216 S
    have B := B.trans b216
    refine t_done' ?_
    refine x_seq ?_
    refine w_seq ?_
    refine w_region ?_
    refine t_bxn S.box ab_path sb_path rfl rfl ?_ rfl
    have S := S.f2
    refine t_stn S sb_path rfl rfl rfl rfl (by intro zz hu; have hu : zz ∈ ([.slice Av45 (([]) ++ [makePart down 4 0]).length cv45] : List Value) := hu; simp only [List.mem_cons, List.not_mem_nil, or_false] at hu; rcases hu with rfl <;> first | rfl | exact (SlR.cells (by first | assumption | exact S.tail.sl | exact S.tail.tail.sl | exact S.tail.tail.tail.sl | exact S.tail.tail.tail.tail.sl | exact S.tail.tail.tail.tail.tail.sl | exact S.tail.tail.tail.tail.tail.tail.sl | exact S.tail.tail.tail.tail.tail.tail.tail.sl | exact S.tail.tail.tail.tail.tail.tail.tail.tail.sl)).2) ?_
    intro w217 b218 S
    have B := B.trans b218
    refine t_done ?_
    refine x_seq ?_
    refine w_ret ?_
    refine x_retc rfl rfl S.box ab_path sb_path rfl ?_
    have S := S.f2
    have S := S.pathShut (x := (([]) ++ [makePart down 4 0]))
    obtain ⟨fp, hO⟩ := (S.mono X0.size).head
    exact ⟨_, fp, rfl, (by rw [show joinT up core false down = ([]) ++ [makePart down 4 0] by unfold joinT addP; (first | rw [if_pos hc1] | rw [if_neg hc1]); (first | rw [if_pos hc2] | rw [if_neg hc2]); (first | rw [if_pos hc3] | rw [if_neg hc3]); rfl]; exact hO), ext_trans X0 B⟩
  intro hc3
  refine w_skip ?_
  refine x_seq ?_
  refine w_seq ?_
  refine w_region ?_
  refine t_bxn S.box ab_path sb_path rfl rfl ?_ rfl
  have S := S.f1
  refine t_stn S sb_path rfl rfl rfl rfl (by simp [Value.oneCell']) ?_
  intro w219 b220 S
  have B := B.trans b220
  refine t_done ?_
  refine x_seq ?_
  refine w_ret ?_
  refine x_retc rfl rfl S.box ab_path sb_path rfl ?_
  have S := Sep.addNil (T := partT) (e := 94) S
  have S := S.pathShut (x := ([]))
  obtain ⟨fp, hO⟩ := (S.mono X0.size).head
  exact ⟨_, fp, rfl, (by rw [show joinT up core false down = [] by unfold joinT addP; (first | rw [if_pos hc1] | rw [if_neg hc1]); (first | rw [if_pos hc2] | rw [if_neg hc2]); (first | rw [if_pos hc3] | rw [if_neg hc3]); rfl]; exact hO), ext_trans X0 B⟩
theorem impl_JoinThree_false (up core down : Seg) (v1 v2 v3 : Value) (w : World) (h1 : VA segT w v1 up) (h2 : VA segT w v2 core) (h3 : VA segT w v3 down) (hz1 : up.hops.length ≤ 1048576) (hz2 : core.hops.length ≤ 1048576) (hz3 : down.hops.length ≤ 1048576) : Calls Try.prog 47 #[v1, v2, .bool false, v3] w fun e w' => ∃ cs fp, e = .returned (.agg cs.toArray) ∧ pathT.O w.heap.size w' cs (joinT up core false down) fp ∧ Below w.heap.size w w' := by
  have ha1 : List.length (addP up 1) ≤ 1 := by unfold addP; split <;> simp
  have ha2 : List.length (addP core 2) ≤ 1 := by unfold addP; split <;> simp
  have X0 := Below.refl w.heap.size w
  refine enter Try.func47 rfl Try.ntmps47 rfl ?_
  refine w_seq ?_
  refine w_region ?_
  refine t_boxr (by assumption) rfl ?_ rfl rfl
  intro p4 w221 x222 hp4
  replace h1 := h1.below x222
  replace h2 := h2.below x222
  replace h3 := h3.below x222
  have X0 := ext_trans X0 x222
  refine t_boxr (by assumption) rfl ?_ rfl rfl
  intro p5 w223 x224 hp5
  replace h1 := h1.below x224
  replace h2 := h2.below x224
  replace h3 := h3.below x224
  replace hp4 := hp4.below x224
  have X0 := ext_trans X0 x224
  refine t_boxr (by assumption) rfl ?_ rfl rfl
  intro p7 w225 x226 hp7
  replace h1 := h1.below x226
  replace h2 := h2.below x226
  replace h3 := h3.below x226
  replace hp4 := hp4.below x226
  replace hp5 := hp5.below x226
  have X0 := ext_trans X0 x226
  have S := Sep.nil w225
  have B := Below.refl w225.heap.size w225
  have Hb := Nat.le_refl w225.heap.size
  refine t_alloc S z_path rfl ?_ rfl rfl
  intro g8 w227 x228 S
  have B := bx Hb B x228
  refine t_done ?_
  refine x_seq ?_
  refine w_seq ?_
  refine w_region ?_
  refine t_assign rfl ?_ rfl
  refine t_done ?_
  refine x_seq ?_
  refine w_seq ?_
  refine w_seq ?_
  refine w_region ?_
  refine t_move rfl ?_ rfl
  refine t_done ?_
  refine x_seq ?_
  refine w_no rfl ?_
  refine w_skip ?_
  refine x_seq ?_
  refine w_seq ?_
  refine w_region ?_
  refine t_alloc S z_path rfl ?_ rfl rfl
  intro g10 w229 x230 S
  have B := bx Hb B x230
  refine t_done ?_
  refine x_seq ?_
  refine w_seq ?_
  refine w_region ?_
  refine t_makeFunc rfl ?_ rfl
  refine t_assign rfl ?_ rfl
  refine t_done ?_
  refine x_seq ?_
  refine w_seq ?_
  refine w_region ?_
  refine t_move rfl ?_ rfl
  refine t_lda (by assumption) ab_seg sb_seg B rfl ?_ rfl
  intro v15 hv15
  obtain ⟨v15_2, rfl, hv15_2⟩ := seg_va hv15
  have S := (S.addNil (T := partT) (e := 94)).f1
  refine t_callv Try.call98 rfl rfl (impl_JoinThree1 up _ 1 g10 _ [] _ _ _ S (by first | assumption | exact VA.below (by assumption) B) (by omega) (by simp)) ?_ rfl
  rintro e wa ⟨rfl, qa, S, xa⟩
  refine ⟨_, rfl, ?_⟩
  have B := B.trans xa
  refine t_done ?_
  refine x_seq ?_
  refine w_seq ?_
  refine w_region ?_
  refine t_move rfl ?_ rfl
  refine t_lda (by assumption) ab_seg sb_seg B rfl ?_ rfl
  intro v18 hv18
  obtain ⟨v18_2, rfl, hv18_2⟩ := seg_va hv18
  refine t_move rfl ?_ rfl
  refine t_callv Try.call98 rfl rfl (impl_JoinThree1 core _ 2 g10 _ _ _ _ _ S (by first | assumption | exact VA.below (by assumption) B) (by omega) (by rw [List.length_append, List.length_nil]; omega)) ?_ rfl
  rintro e wb ⟨rfl, qb, S, xb⟩
  refine ⟨_, rfl, ?_⟩
  have B := B.trans xb
  refine t_done ?_
  refine x_seq ?_
  refine w_seq ?_
  refine w_region ?_
  refine t_move rfl ?_ rfl
  refine t_lda (by assumption) ab_seg sb_seg B rfl ?_ rfl
  intro v22 hv22
  obtain ⟨v22_2, rfl, hv22_2⟩ := seg_va hv22
  refine t_callv Try.call98 rfl rfl (impl_JoinThree1 down _ 4 g10 _ _ _ _ _ S (by first | assumption | exact VA.below (by assumption) B) (by omega) (by rw [List.length_append, List.length_append, List.length_nil]; omega)) ?_ rfl
  rintro e wc ⟨rfl, qc, S, xc⟩
  refine ⟨_, rfl, ?_⟩
  have B := B.trans xc
  refine t_done ?_
  refine x_seq ?_
  refine w_seq ?_
  refine w_region ?_
  refine t_bxn S.box ab_path sb_path rfl rfl ?_ rfl
  have S := S.f2
  refine t_stn S sb_path rfl rfl rfl rfl (by intro zz hu; have hu : zz ∈ ([qc] : List Value) := hu; simp only [List.mem_cons, List.not_mem_nil, or_false] at hu; rcases hu with rfl <;> first | rfl | exact (SlR.cells (by first | assumption | exact S.tail.sl | exact S.tail.tail.sl | exact S.tail.tail.tail.sl | exact S.tail.tail.tail.tail.sl | exact S.tail.tail.tail.tail.tail.sl | exact S.tail.tail.tail.tail.tail.tail.sl | exact S.tail.tail.tail.tail.tail.tail.tail.sl | exact S.tail.tail.tail.tail.tail.tail.tail.tail.sl)).2) ?_
  intro w231 b232 S
  have B := B.trans b232
  refine t_done ?_
  refine x_seq ?_
  refine w_ret ?_
  refine x_retc rfl rfl S.box ab_path sb_path rfl ?_
  have S := S.f2
  have S := S.pathShut (x := ([] ++ addP up 1 ++ addP core 2 ++ addP down 4))
  obtain ⟨fp, hO⟩ := (S.mono X0.size).head
  exact ⟨_, fp, rfl, hO, ext_trans X0 B⟩
theorem impl_JoinThree (up core : Seg) (rev : Bool) (down : Seg) (v1 v2 v3 : Value) (w : World) (h1 : VA segT w v1 up) (h2 : VA segT w v2 core) (h3 : VA segT w v3 down) (hz1 : up.hops.length ≤ 1048576) (hz2 : core.hops.length ≤ 1048576) (hz3 : down.hops.length ≤ 1048576) : Calls Try.prog 47 #[v1, v2, .bool rev, v3] w fun e w' => ∃ cs fp, e = .returned (.agg cs.toArray) ∧ pathT.O w.heap.size w' cs (joinT up core rev down) fp ∧ Below w.heap.size w w' := by
  cases rev
  · exact impl_JoinThree_false up core down v1 v2 v3 w h1 h2 h3 hz1 hz2 hz3
  · exact impl_JoinThree_true up core down v1 v2 v3 w h1 h2 h3 hz1 hz2 hz3
theorem spec_JoinThree (up core : Seg) (rev : Bool) (down : Seg) (v1 v2 v3 : Value) (w : World) (h1 : VA segT w v1 up) (h2 : VA segT w v2 core) (h3 : VA segT w v3 down) (hz1 : up.hops.length ≤ 1048576) (hz2 : core.hops.length ≤ 1048576) (hz3 : down.hops.length ≤ 1048576) : Calls Try.prog 45 #[v1, v2, .bool rev, v3] w fun e w' => ∃ cs fp, e = .returned (.agg cs.toArray) ∧ pathT.O w.heap.size w' cs (joinT up core rev down) fp ∧ Below w.heap.size w w' := by
  cases rev
  · exact spec_JoinThree_false up core down v1 v2 v3 w h1 h2 h3 hz1 hz2 hz3
  · exact spec_JoinThree_true up core down v1 v2 v3 w h1 h2 h3 hz1 hz2 hz3
theorem addP_sz (s : Seg) (k : Int) : sz_path (addP s k) ≤ 1 + s.hops.length := by
  unfold addP
  split
  · have := make_len s k 0
    show 1 + (sz_part _ + 0) ≤ _
    unfold sz_part
    omega
  · exact Nat.zero_le _
theorem sz_app (p q : Path) : sz_path (p ++ q) = sz_path p + sz_path q := by
  show List.length (p ++ q) + _ = (List.length p + _) + (List.length q + _)
  simp; omega
theorem joinT_sz (up core : Seg) (rev : Bool) (down : Seg) : sz_path (joinT up core rev down) ≤ 3 + up.hops.length + core.hops.length + down.hops.length := by
  have h1 := addP_sz up 1
  have h2 := addP_sz core (if rev then 3 else 2)
  have h3 := addP_sz down 4
  unfold joinT
  rw [sz_app, sz_app]
  omega
end Go.Proofs.Ytaapaafagmbkoaa
