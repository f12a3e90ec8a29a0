/- laws.FnSteps returns true, for all arguments: the walk of the law out of contracts of the draw and of what it calls, and the row. No condition. (The row: printed by law3.py.) -/
import Derived.Test.YtdaecknfahgddaaSLawFnSteps5
namespace Go.Proofs.Ytdaecknfahgddaa
open Go.RowKit
set_option linter.unusedVariables false
set_option maxRecDepth 20000
theorem laws_big (l : List UInt8) (v : Value) (w : World) (h : SlR byteT w v l) : Calls Try.prog 6 #[v] w fun e w' => e = .returned (.bool (decide ((1048576 : Int) < (l.length : Int)))) ∧ w = w' := by
  have X0 := Below.refl w.heap.size w
  refine enter Try.func6 rfl Try.ntmps6 rfl ?_
  refine w_seq ?_
  refine w_region ?_
  have S := Sep.nil w
  have B := Below.refl w.heap.size w
  have Hb := Nat.le_refl w.heap.size
  refine t_assign rfl ?_ rfl
  refine t_done ?_
  refine x_seq ?_
  refine w_seq ?_
  refine w_region ?_
  refine t_move rfl ?_ rfl
  refine t_len e_byte (by assumption) rfl rfl ?_ rfl
  refine t_gtr rfl rfl ?_ rfl
  refine t_assign rfl ?_ rfl
  refine t_done ?_
  refine x_seq ?_
  refine w_ret ?_
  refine x_ret1 rfl rfl ?_
  exact ⟨rfl, rfl⟩
set_option maxHeartbeats 4000000 in
theorem lawFnSteps (d0 : List UInt8) (v0 : Value) (w : World) (f0 : SlR byteT w v0 d0) (l0 : d0.length ≤ 9223372036854775807) :
    Calls Try.prog 3 #[v0] w fun r w' => r = .returned (.bool true) ∧ Below w.heap.size w w' := by
  have X0 := Below.refl w.heap.size w
  refine enter Try.func3 rfl Try.ntmps3 rfl ?_
  refine w_seq ?_
  refine w_region ?_
  have S := Sep.nil w
  have B := Below.refl w.heap.size w
  have Hb := Nat.le_refl w.heap.size
  refine t_assign rfl ?_ rfl
  refine t_done ?_
  refine x_seq ?_
  refine w_seq ?_
  refine w_seq ?_
  refine w_region ?_
  refine t_move rfl ?_ rfl
  refine t_calls Try.call6 rfl (laws_big _ _ _ (by first | assumption | exact SlR.below (by assumption) B)) ?_ rfl rfl
  refine t_done ?_
  refine x_seq ?_
  refine w_if rfl ?_ ?_
  · intro hb
    refine w_seq ?_
    refine w_region ?_
    refine t_assign rfl ?_ rfl
    refine t_done ?_
    refine x_seq ?_
    refine w_ret ?_
    refine x_then_ret ?_
    refine x_ret1 rfl rfl ?_
    exact ⟨rfl, ext_trans X0 B⟩
  · intro hb
    refine w_skip ?_
    refine x_seq ?_
    refine w_seq ?_
    refine w_region ?_
    refine t_move rfl ?_ rfl
    refine t_call Try.call7 rfl (spec_DrawPath _ _ _ (by first | assumption | exact SlR.below (by assumption) B) (by omega)) ?_ rfl rfl
    rintro e w1 ⟨va15, vl15, vp15, A15, L15, p15, rfl, hf15, S9, x2⟩
    refine ⟨_, rfl, x2, ?_⟩
    have S := S.join2 x2 S9
    clear S9
    have B := bx Hb B x2
    refine t_move rfl ?_ rfl
    refine t_extract rfl rfl ?_ rfl
    refine t_extract rfl rfl ?_ rfl
    refine t_alloc S z_topo rfl ?_ rfl rfl
    intro g3 w3 x4 S
    have B := bx Hb B x4
    refine t_alloc S z_path rfl ?_ rfl rfl
    intro g4 w5 x6 S
    have B := bx Hb B x6
    have S := S.f1
    refine t_stn S sb_topo rfl rfl rfl rfl (by intro zz hu; have hu : zz ∈ ([va15, vl15] : List Value) := hu; simp only [List.mem_cons, List.not_mem_nil, or_false] at hu; rcases hu with rfl | rfl <;> first | rfl | exact (SlR.cells (by first | assumption | exact S.tail.sl | exact S.tail.tail.sl | exact S.tail.tail.tail.sl | exact S.tail.tail.tail.tail.sl | exact S.tail.tail.tail.tail.tail.sl | exact S.tail.tail.tail.tail.tail.tail.sl | exact S.tail.tail.tail.tail.tail.tail.tail.sl | exact S.tail.tail.tail.tail.tail.tail.tail.tail.sl | exact S.tail.tail.tail.tail.tail.tail.tail.tail.tail.sl | exact S.tail.tail.tail.tail.tail.tail.tail.tail.tail.tail.sl | exact S.tail.tail.tail.tail.tail.tail.tail.tail.tail.tail.tail.sl | exact S.tail.tail.tail.tail.tail.tail.tail.tail.tail.tail.tail.tail.sl | exact S.tail.tail.tail.tail.tail.tail.tail.tail.tail.tail.tail.tail.tail.sl)).2) ?_
    intro w7 b8 S
    have B := B.trans b8
    have S := S.f1
    refine t_stn S sb_path rfl rfl rfl rfl (by intro zz hu; have hu : zz ∈ ([vp15] : List Value) := hu; simp only [List.mem_cons, List.not_mem_nil, or_false] at hu; rcases hu with rfl <;> first | rfl | exact (SlR.cells (by first | assumption | exact S.tail.sl | exact S.tail.tail.sl | exact S.tail.tail.tail.sl | exact S.tail.tail.tail.tail.sl | exact S.tail.tail.tail.tail.tail.sl | exact S.tail.tail.tail.tail.tail.tail.sl | exact S.tail.tail.tail.tail.tail.tail.tail.sl | exact S.tail.tail.tail.tail.tail.tail.tail.tail.sl | exact S.tail.tail.tail.tail.tail.tail.tail.tail.tail.sl | exact S.tail.tail.tail.tail.tail.tail.tail.tail.tail.tail.sl | exact S.tail.tail.tail.tail.tail.tail.tail.tail.tail.tail.tail.sl | exact S.tail.tail.tail.tail.tail.tail.tail.tail.tail.tail.tail.tail.sl | exact S.tail.tail.tail.tail.tail.tail.tail.tail.tail.tail.tail.tail.tail.sl)).2) ?_
    intro w9 b10 S
    have B := B.trans b10
    refine t_done ?_
    refine x_seq ?_
    refine w_seq ?_
    obtain ⟨T, hP⟩ := hf15
    have hA := T.1.2.1
    have hL := T.len
    have hst : sz_topo (⟨A15, L15⟩ : Topo) ≤ 1048576 := by simp only [sz_topo]; omega
    have hS := hP.toS
    have hsz := hS.sz
    have hrg := hS.rng
    have hln := hS.lenOk
    have hpl := pathSteps_len p15
    have hKl : ∀ x ∈ (⟨A15, L15⟩ : Topo).links, 1 ≤ x.ai ∧ 1 ≤ x.bi := fun x hx => by
      obtain ⟨k1, k2, k3, k4, k5, k6, k7, k8, k9⟩ := T.lnk x hx
      exact ⟨k4, k6⟩
    refine w_seq ?_
    refine w_region ?_
    refine t_bxn S.tail.box ab_topo sb_topo rfl rfl ?_ rfl
    refine t_bxn S.box ab_path sb_path rfl rfl ?_ rfl
    refine t_callx Try.call8 rfl (spec_WellFormedPath (⟨A15, L15⟩ : Topo) _ p15 _ _ (topo_mkv (S.tail.tail.tail.sl) (S.tail.tail.tail.tail.sl)) (path_mkv (S.tail.tail.sl)) (by assumption) (by omega)) ?_ rfl rfl
    intro w11 x12
    have B := bx Hb B x12
    have S := S.below x12
    refine t_notb rfl ?_ rfl
    refine t_done ?_
    refine x_seq ?_
    refine w_ifb rfl ?_ ?_
    · intro hw
      refine w_seq ?_
      refine w_region ?_
      refine t_bxn S.tail.box ab_topo sb_topo rfl rfl ?_ rfl
      refine t_bxn S.box ab_path sb_path rfl rfl ?_ rfl
      refine t_callx Try.call9 rfl (impl_WellFormedPath (⟨A15, L15⟩ : Topo) _ p15 _ _ (topo_mkv (S.tail.tail.tail.sl) (S.tail.tail.tail.tail.sl)) (path_mkv (S.tail.tail.sl)) (by assumption) (by omega)) ?_ rfl rfl
      intro w13 x14
      have B := bx Hb B x14
      have S := S.below x14
      refine t_notb rfl ?_ rfl
      refine t_assign rfl ?_ rfl
      refine t_done ?_
      refine x_seq ?_
      refine w_ret ?_
      refine x_then_ret ?_
      refine x_ret1 rfl rfl ?_
      exact ⟨ret_bool hw, ext_trans X0 B⟩
    · intro hw
      have hK := steps_wf hKl (p := p15) (by simpa using hw)
      have hpos := hK.pos
      refine w_skip ?_
      refine x_seq ?_
      refine w_seq ?_
      refine w_region ?_
      refine t_bxn S.box ab_path sb_path rfl rfl ?_ rfl
      refine t_call Try.call10 rfl (va1 (path_mkv (S.tail.tail.sl)) fun cs h => impl_PathSteps _ cs _ h (by omega) (by assumption) (by assumption)) ?_ rfl rfl
      rintro e w15 ⟨v27, fpv27, rfl, hOv27, x16⟩
      refine ⟨_, rfl, x16, ?_⟩
      have S := S.add (o := slO _ _ _ _) x16 hOv27
      have B := bx Hb B x16
      refine t_assign rfl ?_ rfl
      refine t_done ?_
      refine x_seq ?_
      refine w_seq ?_
      refine w_seq ?_
      refine w_region ?_
      refine t_assign rfl ?_ rfl
      refine t_done ?_
      refine x_seq ?_
      refine w_block ?_
      refine w_loop (X := Nat) (fun i wq => i ≤ (pathSteps p15).length ∧ Below w.heap.size w wq ∧ Sep w.heap.size wq (slO stepT 37 v27 (pathSteps p15) :: bxO g4 30 #[vp15] :: bxO g3 27 #[va15, vl15] :: [slO partT 71 vp15 p15, slO asnT 121 va15 A15, slO linkT 78 vl15 L15])) (fun i => [(6, I ((i : Int))), (3, .pointer (some ⟨g3, 0, none⟩)), (4, .pointer (some ⟨g4, 0, none⟩)), (5, v27)]) (fun i => (pathSteps p15).length - i) (0) ?_ ⟨rfl, rfl, rfl, rfl, trivial⟩ ?_
      · exact ⟨by omega, B, S⟩
      rintro i w17 hI
      try dsimp only at hI ⊢
      obtain ⟨hi, B, S⟩ := hI
      refine w_seq ?_
      refine w_seq ?_
      refine w_region ?_
      refine t_move rfl ?_ rfl
      refine t_move rfl ?_ rfl
      refine t_len e_step (S.sl) rfl rfl ?_ rfl
      refine t_lss rfl rfl ?_ rfl
      refine t_done ?_
      refine x_seq ?_
      refine w_if rfl ?_ ?_
      · intro hlt
        refine w_skip ?_
        refine x_seq ?_
        refine w_seq ?_
        refine w_block ?_
        refine w_seq ?_
        refine w_seq ?_
        refine w_region ?_
        refine t_move rfl ?_ rfl
        refine t_move rfl ?_ rfl
        obtain ⟨e36, he36⟩ : ∃ e, (pathSteps p15)[i]? = some e := getx (by omega)
        refine t_idx e_step (k := i) (S.sl) he36 (Below.refl _ _) rfl rfl (by first | rfl | omega) ?_ rfl
        intro p36 hp36
        refine t_fld ln_step_1 (by assumption) fb_step_1 rfl ?_ rfl
        intro p37 hp37
        refine t_ldi (by assumption) ab_int (Below.refl _ _) rfl ?_ rfl
        refine t_eql rfl rfl ?_ rfl
        refine t_move rfl ?_ rfl
        refine t_eql rfl rfl ?_ rfl
        refine t_neqb Try.underlying4 rfl rfl ?_ rfl
        refine t_move rfl ?_ rfl
        have hi1 : decide (e36.ing = 0) = decide ((i : Int) = 0) := decide_eq_decide.2 ((hK.ing _ _ he36).trans (by omega))
        have hi2 : decide (e36.eg = 0) = decide ((i : Int) = ((pathSteps p15).length : Int) - 1) := decide_eq_decide.2 ((hK.eg _ _ he36).trans (by omega))
        refine t_partp (t := 43) rfl (fun h => (by exact absurd hi1 h)) ?_
        intro hc43
        refine t_on rfl rfl ?_
        refine t_move rfl ?_ rfl
        refine t_on rfl rfl ?_
        refine t_move rfl ?_ rfl
        refine t_on rfl rfl ?_
        refine t_idx e_step (k := i) (S.sl) he36 (Below.refl _ _) rfl rfl (by first | rfl | omega) ?_ rfl
        intro p46 hp46
        refine t_on rfl rfl ?_
        refine t_fld ln_step_2 (by assumption) fb_step_2 rfl ?_ rfl
        intro p47 hp47
        refine t_on rfl rfl ?_
        refine t_ldi (by assumption) ab_int (Below.refl _ _) rfl ?_ rfl
        refine t_on rfl rfl ?_
        refine t_eql rfl rfl ?_ rfl
        refine t_on rfl rfl ?_
        refine t_move rfl ?_ rfl
        refine t_on rfl rfl ?_
        refine t_move rfl ?_ rfl
        refine t_on rfl rfl ?_
        refine t_len e_step (S.sl) rfl rfl ?_ rfl
        refine t_on rfl rfl ?_
        refine t_sub rfl rfl (by omega) ?_ rfl
        refine t_on rfl rfl ?_
        refine t_eql rfl rfl ?_ rfl
        refine t_on rfl rfl ?_
        refine t_neqb Try.underlying4 rfl rfl ?_ rfl
        refine t_pickf rfl rfl ?_ rfl
        refine t_done ?_
        refine x_seq ?_
        refine w_if rfl (fun h => (by exact absurd hi2 h)) ?_
        intro hc56
        refine w_skip ?_
        refine x_seq ?_
        refine w_seq ?_
        refine w_region ?_
        refine t_move rfl ?_ rfl
        refine t_gtr rfl rfl ?_ rfl
        refine t_done ?_
        refine x_seq ?_
        refine w_if rfl ?_ ?_
        · intro h0
          refine w_seq ?_
          refine w_draw (.st .take 0 (.st .take 1 (.st .take 2 (.st .take 3 (.st .take 4 (.st .take 5 (.st .take 6 (.st .take 7 (.st .take 8 (.st .take 9 (.st .take 10 (.st .take 11 (.st .take 12 (.st .run 13 (.st .take 14 (.st .take 15 (.st .take 16 (.st .take 17 (.st .take 18 .done))))))))))))))))))) mixed (by kernel_rfl) ?_
          intro w18 x19
          have B := bx Hb B x19
          have S := S.below x19
          refine t_bxn S.tail.tail.box ab_topo sb_topo rfl rfl ?_ rfl
          refine t_move rfl ?_ rfl
          refine t_move rfl ?_ rfl
          refine t_sub rfl rfl (by omega) ?_ rfl
          obtain ⟨e64, he64⟩ : ∃ e, (pathSteps p15)[i - 1]? = some e := getx (by omega)
          refine t_idx e_step (k := i - 1) (S.sl) he64 (Below.refl _ _) rfl rfl (by first | rfl | omega) ?_ rfl
          intro p64 hp64
          refine t_fld ln_step_0 (by assumption) fb_step_0 rfl ?_ rfl
          intro p65 hp65
          refine t_ldi (by assumption) ab_int (Below.refl _ _) rfl ?_ rfl
          refine t_move rfl ?_ rfl
          refine t_move rfl ?_ rfl
          refine t_sub rfl rfl (by omega) ?_ rfl
          refine t_idx e_step (k := i - 1) (S.sl) he64 (Below.refl _ _) rfl rfl (by first | rfl | omega) ?_ rfl
          intro p70 hp70
          refine t_fld ln_step_2 (by assumption) fb_step_2 rfl ?_ rfl
          intro p71 hp71
          refine t_ldi (by assumption) ab_int (Below.refl _ _) rfl ?_ rfl
          refine t_callx Try.call11 rfl (impl_RemoteEnd (⟨A15, L15⟩ : Topo) _ _ _ _ (topo_mkv (S.tail.tail.tail.tail.sl) (S.tail.tail.tail.tail.tail.sl)) (by assumption)) ?_ rfl rfl
          intro w20 x21
          have B := bx Hb B x21
          have S := S.below x21
          refine t_move rfl ?_ rfl
          refine t_extract rfl rfl ?_ rfl
          refine t_extract rfl rfl ?_ rfl
          refine t_assign rfl ?_ rfl
          refine t_assign rfl ?_ rfl
          refine t_done' ?_
          refine x_seq ?_
          refine w_seq ?_
          refine w_region ?_
          refine t_move rfl ?_ rfl
          refine t_move rfl ?_ rfl
          refine t_move rfl ?_ rfl
          refine t_idx e_step (k := i) (S.sl) he36 (Below.refl _ _) rfl rfl (by first | rfl | omega) ?_ rfl
          intro p79 hp79
          refine t_fld ln_step_0 (by assumption) fb_step_0 rfl ?_ rfl
          intro p80 hp80
          refine t_ldi (by assumption) ab_int (Below.refl _ _) rfl ?_ rfl
          refine t_neq rfl rfl ?_ rfl
          refine t_move rfl ?_ rfl
          have hr := hK.next (i - 1) e64 e36 he64 (by rw [show i - 1 + 1 = i by omega]; exact he36)
          refine t_partp (t := 83) rfl (fun h => (by exact absurd (by rw [hr]) h)) ?_
          intro hc83
          refine t_on rfl rfl ?_
          refine t_move rfl ?_ rfl
          refine t_on rfl rfl ?_
          refine t_move rfl ?_ rfl
          refine t_on rfl rfl ?_
          refine t_move rfl ?_ rfl
          refine t_on rfl rfl ?_
          refine t_idx e_step (k := i) (S.sl) he36 (Below.refl _ _) rfl rfl (by first | rfl | omega) ?_ rfl
          intro p87 hp87
          refine t_on rfl rfl ?_
          refine t_fld ln_step_1 (by assumption) fb_step_1 rfl ?_ rfl
          intro p88 hp88
          refine t_on rfl rfl ?_
          refine t_ldi (by assumption) ab_int (Below.refl _ _) rfl ?_ rfl
          refine t_on rfl rfl ?_
          refine t_neq rfl rfl ?_ rfl
          refine t_pickf rfl rfl ?_ rfl
          refine t_done ?_
          refine x_seq ?_
          refine w_if rfl (fun h => (by exact absurd (by rw [hr]) h)) ?_
          intro hc91
          refine w_skip ?_
          refine x_block_normal ?_
          refine x_seq ?_
          refine w_region ?_
          refine t_move rfl ?_ rfl
          refine t_add rfl rfl (by omega) ?_ rfl
          refine t_assign rfl ?_ rfl
          refine t_done ?_
          refine x_round (X := Nat) (I := (fun i wq => i ≤ (pathSteps p15).length ∧ Below w.heap.size w wq ∧ Sep w.heap.size wq (slO stepT 37 v27 (pathSteps p15) :: bxO g4 30 #[vp15] :: bxO g3 27 #[va15, vl15] :: [slO partT 71 vp15 p15, slO asnT 121 va15 A15, slO linkT 78 vl15 L15]))) (F := (fun i => [(6, I ((i : Int))), (3, .pointer (some ⟨g3, 0, none⟩)), (4, .pointer (some ⟨g4, 0, none⟩)), (5, v27)])) (μ := (fun i => (pathSteps p15).length - i)) (i + 1) ?_ (by exact ⟨rfl, rfl, rfl, rfl, trivial⟩) (by (try dsimp only); omega)
          try dsimp only
          exact ⟨by omega, B, S⟩
        · intro h0
          refine w_skip ?_
          refine x_block_normal ?_
          refine x_seq ?_
          refine w_region ?_
          refine t_move rfl ?_ rfl
          refine t_add rfl rfl (by omega) ?_ rfl
          refine t_assign rfl ?_ rfl
          refine t_done ?_
          refine x_round (X := Nat) (I := (fun i wq => i ≤ (pathSteps p15).length ∧ Below w.heap.size w wq ∧ Sep w.heap.size wq (slO stepT 37 v27 (pathSteps p15) :: bxO g4 30 #[vp15] :: bxO g3 27 #[va15, vl15] :: [slO partT 71 vp15 p15, slO asnT 121 va15 A15, slO linkT 78 vl15 L15]))) (F := (fun i => [(6, I ((i : Int))), (3, .pointer (some ⟨g3, 0, none⟩)), (4, .pointer (some ⟨g4, 0, none⟩)), (5, v27)])) (μ := (fun i => (pathSteps p15).length - i)) (i + 1) ?_ (by exact ⟨rfl, rfl, rfl, rfl, trivial⟩) (by (try dsimp only); omega)
          try dsimp only
          exact ⟨by omega, B, S⟩
      · intro hge
        refine w_exit ?_
        refine x_then_exit ?_
        refine x_then_exit ?_
        refine x_block_exit ?_
        refine x_seq ?_
        refine w_seq ?_
        refine w_region ?_
        refine t_bxn S.tail.box ab_path sb_path rfl rfl ?_ rfl
        refine t_callx Try.call12 rfl (va1 (path_mkv (S.tail.tail.tail.sl)) fun cs h => impl_Endpoints _ cs _ h (by omega) (by assumption) (by assumption)) ?_ rfl rfl
        intro w22 x23
        have B := bx Hb B x23
        have S := S.below x23
        refine t_move rfl ?_ rfl
        refine t_extract rfl rfl ?_ rfl
        refine t_extract rfl rfl ?_ rfl
        refine t_assign rfl ?_ rfl
        refine t_assign rfl ?_ rfl
        refine t_done ?_
        refine x_seq ?_
        refine w_seq ?_
        refine w_region ?_
        refine t_move rfl ?_ rfl
        refine t_len e_step (S.sl) rfl rfl ?_ rfl
        refine t_gtr rfl rfl ?_ rfl
        refine t_move rfl ?_ rfl
        refine t_partp (t := 100) rfl ?_ (fun h => (by exact absurd (by omega) h))
        intro hc100
        refine t_on rfl rfl ?_
        refine t_move rfl ?_ rfl
        refine t_on rfl rfl ?_
        refine t_move rfl ?_ rfl
        refine t_on rfl rfl ?_
        obtain ⟨e103, he103⟩ : ∃ e, (pathSteps p15)[0]? = some e := getx (by omega)
        refine t_idx e_step (k := 0) (S.sl) he103 (Below.refl _ _) rfl rfl (by first | rfl | omega) ?_ rfl
        intro p103 hp103
        refine t_on rfl rfl ?_
        refine t_fld ln_step_0 (by assumption) fb_step_0 rfl ?_ rfl
        intro p104 hp104
        refine t_on rfl rfl ?_
        refine t_ldi (by assumption) ab_int (Below.refl _ _) rfl ?_ rfl
        refine t_on rfl rfl ?_
        refine t_eql rfl rfl ?_ rfl
        refine t_pickt rfl rfl ?_ rfl
        refine t_move rfl ?_ rfl
        refine t_partp (t := 108) rfl ?_ (fun h => (by exact absurd (by unfold endA; rw [if_neg (by omega), firstOf_at he103]) h))
        intro hc108
        refine t_on rfl rfl ?_
        refine t_move rfl ?_ rfl
        refine t_on rfl rfl ?_
        refine t_move rfl ?_ rfl
        refine t_on rfl rfl ?_
        refine t_move rfl ?_ rfl
        refine t_on rfl rfl ?_
        refine t_len e_step (S.sl) rfl rfl ?_ rfl
        refine t_on rfl rfl ?_
        refine t_sub rfl rfl (by omega) ?_ rfl
        refine t_on rfl rfl ?_
        obtain ⟨e114, he114⟩ : ∃ e, (pathSteps p15)[(pathSteps p15).length - 1]? = some e := getx (by omega)
        refine t_idx e_step (k := (pathSteps p15).length - 1) (S.sl) he114 (Below.refl _ _) rfl rfl (by first | rfl | omega) ?_ rfl
        intro p114 hp114
        refine t_on rfl rfl ?_
        refine t_fld ln_step_0 (by assumption) fb_step_0 rfl ?_ rfl
        intro p115 hp115
        refine t_on rfl rfl ?_
        refine t_ldi (by assumption) ab_int (Below.refl _ _) rfl ?_ rfl
        refine t_on rfl rfl ?_
        refine t_eql rfl rfl ?_ rfl
        refine t_pickt rfl rfl ?_ rfl
        refine t_move rfl ?_ rfl
        refine t_partp (t := 119) rfl ?_ (fun h => (by exact absurd (by unfold endB; rw [if_neg (by omega), lastOf_at he114]) h))
        intro hc119
        refine t_on rfl rfl ?_
        refine t_bxn S.tail.box ab_path sb_path rfl rfl ?_ rfl
        refine t_on rfl rfl ?_
        refine t_call Try.call13 rfl (va1 (path_mkv (S.tail.tail.tail.sl)) fun cs h => impl_InterfacesUsed _ cs _ h (by omega) (by assumption) (by assumption)) ?_ rfl rfl
        rintro e w24 ⟨v121, fpv121, rfl, hOv121, x25⟩
        refine ⟨_, rfl, x25, ?_⟩
        have S := S.add (o := slO _ _ _ _) x25 hOv121
        have B := bx Hb B x25
        refine t_on rfl rfl ?_
        refine t_len e_int (S.sl) rfl rfl ?_ rfl
        refine t_on rfl rfl ?_
        refine t_move rfl ?_ rfl
        refine t_on rfl rfl ?_
        refine t_len e_step (S.tail.sl) rfl rfl ?_ rfl
        refine t_on rfl rfl ?_
        refine t_sub rfl rfl (by omega) ?_ rfl
        refine t_on rfl rfl ?_
        refine t_mul rfl rfl (by omega) ?_ rfl
        refine t_on rfl rfl ?_
        refine t_eql rfl rfl ?_ rfl
        refine t_pickt rfl rfl ?_ rfl
        refine t_assign rfl ?_ rfl
        refine t_done ?_
        refine x_seq ?_
        refine w_ret ?_
        refine x_ret1 rfl rfl ?_
        have hn := nums_wf hK
        exact ⟨ret_bool (decide_eq_true (by omega)), ext_trans X0 B⟩
namespace fnSteps
open Go.ChangeShapes Go.WideShapes Go.ChangeAt
set_option maxRecDepth 100000 in
theorem lifted (os : Os) (started : os.Started) (H : Type) (enc : TypeId × Value → H) :
    ReturnsInHanded {} Try.checked os 3 .any (Rows.fnStepsSpec.pre6 enc Try.prog Try.f3 Rows.fnStepsRow.domain false) (Rows.fnStepsSpec.post enc Try.prog Try.f3 false true false false) := by
  refine returnsInHanded_of_change (C := Try.checked) knob started (by kernel_rfl) Try.func3
    (ChangeSpec.witness6 (enc := enc) (C := Try.checked) false ⟨#[], #[.slice none 0 0], []⟩ 8 (by kernel_rfl) (by kernel_rfl) (by kernel_rfl) (by kernel_rfl)) ?_
  intro W base args ds gs before hval0 hW hcnd _
  have hval : ∀ (j : Nat) t v, Try.f3.params[j]? = some t → args[j]? = some v → Value.okWide Try.prog W .any base t v := hval0
  have hW' := hW
  obtain ⟨p, q, hA0, hV, rfl, hfz, hnd⟩ := hW
  have hA : DataW.TrodAll enc Try.prog W 0 (fun _ => true) true Try.f3.params.toList args.toList ds p := hA0
  rw [Try.params3] at hA hval
  obtain ⟨v0, vs0, d0, ds0, p0, q0, hargs, rfl, rfl, h0, r0⟩ := trodAll_cons hA
  obtain ⟨rfl, rfl, rfl⟩ := trodAll_nil r0
  obtain rfl : args = #[v0] := by cases args; simp_all
  obtain ⟨rfl, rfl⟩ := trodVars_none hV
  have k0 := h0
  have lt0 : ∀ x ∈ p0, x.block < W.heap.size := by obtain ⟨m, hm⟩ := k0; exact DataW.trod_lt m _ _ _ hm
  obtain ⟨x0, R0, L0⟩ := open_byteS (hval 0 22 v0 rfl rfl) h0
  clear hA0 hval0
  refine (lawFnSteps x0 _ W R0 L0).mono fun e W' ⟨he, bel⟩ => ?_
  subst he
  exact ⟨_, rfl, _, _, _, [], _, [], hW', trodAll_mk1 (shut_bool Try.underlying4 _), (trodAll_cons_mk (Below.trod laidOut (by kernel_rfl) (of_decide_eq_true (by kernel_rfl)) k0 bel lt0) trodAll_mk0), rfl, bel.frame _, fun h => by cases h⟩
theorem jA : jnA Try.pinned.checked.prog Try.f3 Rows.fnStepsSpec Rows.fnStepsRow = true := by kernel_rfl
theorem jB : jnB Try.pinned.checked.prog 3 Rows.fnStepsRow = true := by kernel_rfl
theorem jC : jnC Try.pinned.checked.prog Try.f3 Rows.fnStepsSpec Rows.fnStepsRow = true := by kernel_rfl
theorem jD : jnD Try.pinned.checked.prog = true := by kernel_rfl
theorem jE : jnE Try.pinned.checked.prog = true := by kernel_rfl
theorem jF : jnF Try.pinned.checked.prog Rows.fnStepsRow = true := by kernel_rfl
theorem jG : jnG Try.pinned.checked.prog Rows.fnStepsRow = true := by kernel_rfl
theorem jH : jnH Try.pinned.checked.prog Try.f3 Rows.fnStepsRow = true := by kernel_rfl
theorem jI : jnI Rows.fnStepsRow = true := by kernel_rfl
theorem jJ : jnJ Try.pinned.checked.prog Try.f3 Rows.fnStepsSpec Rows.fnStepsRow = true := by kernel_rfl
theorem over : Rows.fnStepsRow.holds Try.pinned (OpenSpec.ofChange Rows.fnStepsSpec) :=
  OpenClaim.holds_of_wide 3 Try.f3 rfl rfl rfl rfl rfl rfl rfl ⟨rfl, rfl, rfl, rfl, rfl⟩ rfl rfl rfl rfl rfl (by kernel_rfl) Try.func3 (joined_of jA jB jC jD jE jF jG jH jI jJ)
    (of_decide_eq_true (by kernel_rfl)) (by unfold Func.isWrapper; first | (rw [if_pos (by decide +kernel)]; kernel_rfl) | (rw [if_neg (by decide +kernel)]; exact ⟨rfl, rfl⟩))
    (fun os started H enc _ => lifted os started H enc)
theorem proved : Rows.FnStepsSaid := over
#print axioms proved
end fnSteps
end Go.Proofs.Ytdaecknfahgddaa
