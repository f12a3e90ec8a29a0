/- The laws' eq functions: true of two values that read as the same data. (Printed by eqs.py.) -/
import Derived.Test.YtaapaafagmbkoaaRun
import Derived.Test.YtaapaafagmbkoaaPlain
namespace Go.Proofs.Ytaapaafagmbkoaa
open Go.RowKit
set_option linter.unusedVariables false
set_option maxRecDepth 20000

theorem eqv_ints (l : List Int) (v u : Value) (w : World) (h : SlR intT w v l) (h' : SlR intT w u l) (hn : l.length ≤ 1152921504606846976) :
    Calls Try.prog 19 #[v, u] w fun e w' => e = .returned (.bool true) ∧ Below w.heap.size w w' := by
  have X0 := Below.refl w.heap.size w
  refine enter Try.func19 rfl Try.ntmps19 rfl ?_
  refine w_seq ?_
  refine w_region ?_
  have S := Sep.nil w
  have B := Below.refl w.heap.size w
  have Hb := Nat.le_refl w.heap.size
  refine t_assign rfl ?_ rfl
  refine t_done ?_
  refine x_seq ?_
  refine w_seq ?_
  refine w_seq ?_
  refine w_region ?_
  refine t_move rfl ?_ rfl
  refine t_len e_int (by assumption) rfl rfl ?_ rfl
  refine t_move rfl ?_ rfl
  refine t_len e_int (by assumption) rfl rfl ?_ rfl
  refine t_neq rfl rfl ?_ rfl
  refine t_done ?_
  refine x_seq ?_
  refine w_if rfl (fun h => absurd rfl h) ?_
  intro _
  refine w_skip ?_
  refine x_seq ?_
  refine w_seq ?_
  refine w_seq ?_
  refine w_region ?_
  refine t_assign rfl ?_ rfl
  refine t_done ?_
  refine x_seq ?_
  refine w_block ?_
  refine w_loop (X := Nat) (fun i wq => i ≤ l.length ∧ Below w.heap.size w wq ∧ Sep w.heap.size wq []) (fun i => [(5, I ((i : Int))), (0, v), (1, u)]) (fun i => l.length - i) (0) ?_ ⟨rfl, rfl, rfl, trivial⟩ ?_
  · exact ⟨by omega, B, S⟩
  · rintro i w1 hI
    try dsimp only at hI ⊢
    obtain ⟨hi, B, S⟩ := hI
    refine w_seq ?_
    refine w_seq ?_
    refine w_region ?_
    refine t_move rfl ?_ rfl
    refine t_move rfl ?_ rfl
    refine t_len e_int (by assumption) rfl rfl ?_ rfl
    refine t_lss rfl rfl ?_ rfl
    refine t_done ?_
    refine x_seq ?_
    refine w_if rfl ?_ ?_
    · intro hlt
      refine w_skip ?_
      refine x_seq ?_
      refine w_seq ?_
      refine w_block ?_
      refine w_seq ?_
      refine w_draw (.st .take 0 (.st .take 1 (.st .take 2 (.st .take 3 (.st .take 4 (.st .take 5 (.st .take 6 (.st .take 7 (.st .take 8 .done))))))))) mixed (by kernel_rfl) ?_
      intro w2 x3
      have B := bx Hb B x3
      have S := S.below x3
      refine t_move rfl ?_ rfl
      refine t_move rfl ?_ rfl
      obtain ⟨e19, he19⟩ : ∃ e, (l)[i]? = some e := getx (by omega)
      refine t_idx e_int (k := i) (by assumption) he19 B rfl rfl (by first | rfl | omega) ?_ rfl
      intro p19 hp19
      refine t_ldi (by assumption) ab_int B rfl ?_ rfl
      refine t_move rfl ?_ rfl
      refine t_move rfl ?_ rfl
      refine t_idx e_int (k := i) (by assumption) he19 B rfl rfl (by first | rfl | omega) ?_ rfl
      intro p23 hp23
      refine t_ldi (by assumption) ab_int B rfl ?_ rfl
      refine t_neq rfl rfl ?_ rfl
      refine t_done' ?_
      refine x_seq ?_
      refine w_if rfl (fun h => absurd rfl h) ?_
      intro _
      refine w_skip ?_
      refine x_block_normal ?_
      refine x_seq ?_
      refine w_region ?_
      refine t_move rfl ?_ rfl
      refine t_add rfl rfl (by omega) ?_ rfl
      refine t_assign rfl ?_ rfl
      refine t_done ?_
      refine x_round (I := (fun i wq => i ≤ l.length ∧ Below w.heap.size w wq ∧ Sep w.heap.size wq [])) (F := (fun i => [(5, I ((i : Int))), (0, v), (1, u)])) (μ := (fun i => l.length - i)) (i + 1) ?_ (by exact ⟨rfl, rfl, rfl, trivial⟩) (by (try dsimp only); omega)
      try dsimp only
      exact ⟨by omega, B, S⟩
    · intro hge
      refine w_exit ?_
      refine x_then_exit ?_
      refine x_then_exit ?_
      refine x_block_exit ?_
      refine x_seq ?_
      refine w_seq ?_
      refine w_region ?_
      refine t_assign rfl ?_ rfl
      refine t_done ?_
      refine x_seq ?_
      refine w_ret ?_
      refine x_ret1 rfl rfl ?_
      exact ⟨rfl, ext_trans X0 B⟩
theorem eqv_bytes (l : List UInt8) (v u : Value) (w : World) (h : SlR byteT w v l) (h' : SlR byteT w u l) (hn : l.length ≤ 1152921504606846976) :
    Calls Try.prog 55 #[v, u] w fun e w' => e = .returned (.bool true) ∧ Below w.heap.size w w' := by
  have X0 := Below.refl w.heap.size w
  refine enter Try.func55 rfl Try.ntmps55 rfl ?_
  refine w_seq ?_
  refine w_region ?_
  have S := Sep.nil w
  have B := Below.refl w.heap.size w
  have Hb := Nat.le_refl w.heap.size
  refine t_assign rfl ?_ rfl
  refine t_done ?_
  refine x_seq ?_
  refine w_seq ?_
  refine w_seq ?_
  refine w_region ?_
  refine t_move rfl ?_ rfl
  refine t_len e_byte (by assumption) rfl rfl ?_ rfl
  refine t_move rfl ?_ rfl
  refine t_len e_byte (by assumption) rfl rfl ?_ rfl
  refine t_neq rfl rfl ?_ rfl
  refine t_done ?_
  refine x_seq ?_
  refine w_if rfl (fun h => absurd rfl h) ?_
  intro _
  refine w_skip ?_
  refine x_seq ?_
  refine w_seq ?_
  refine w_seq ?_
  refine w_region ?_
  refine t_assign rfl ?_ rfl
  refine t_done ?_
  refine x_seq ?_
  refine w_block ?_
  refine w_loop (X := Nat) (fun i wq => i ≤ l.length ∧ Below w.heap.size w wq ∧ Sep w.heap.size wq []) (fun i => [(5, I ((i : Int))), (0, v), (1, u)]) (fun i => l.length - i) (0) ?_ ⟨rfl, rfl, rfl, trivial⟩ ?_
  · exact ⟨by omega, B, S⟩
  · rintro i w4 hI
    try dsimp only at hI ⊢
    obtain ⟨hi, B, S⟩ := hI
    refine w_seq ?_
    refine w_seq ?_
    refine w_region ?_
    refine t_move rfl ?_ rfl
    refine t_move rfl ?_ rfl
    refine t_len e_byte (by assumption) rfl rfl ?_ rfl
    refine t_lss rfl rfl ?_ rfl
    refine t_done ?_
    refine x_seq ?_
    refine w_if rfl ?_ ?_
    · intro hlt
      refine w_skip ?_
      refine x_seq ?_
      refine w_seq ?_
      refine w_block ?_
      refine w_seq ?_
      refine w_draw (.st .take 0 (.st .take 1 (.st .take 2 (.st .take 3 (.st .take 4 (.st .take 5 (.st .take 6 (.st .take 7 (.st .take 8 .done))))))))) mixed (by kernel_rfl) ?_
      intro w5 x6
      have B := bx Hb B x6
      have S := S.below x6
      refine t_move rfl ?_ rfl
      refine t_move rfl ?_ rfl
      obtain ⟨e19, he19⟩ : ∃ e, (l)[i]? = some e := getx (by omega)
      refine t_idx e_byte (k := i) (by assumption) he19 B rfl rfl (by first | rfl | omega) ?_ rfl
      intro p19 hp19
      refine t_ldu (by assumption) ab_byte B rfl ?_ rfl
      refine t_move rfl ?_ rfl
      refine t_move rfl ?_ rfl
      refine t_idx e_byte (k := i) (by assumption) he19 B rfl rfl (by first | rfl | omega) ?_ rfl
      intro p23 hp23
      refine t_ldu (by assumption) ab_byte B rfl ?_ rfl
      refine t_neq rfl rfl ?_ rfl
      refine t_done' ?_
      refine x_seq ?_
      refine w_if rfl (fun h => absurd rfl h) ?_
      intro _
      refine w_skip ?_
      refine x_block_normal ?_
      refine x_seq ?_
      refine w_region ?_
      refine t_move rfl ?_ rfl
      refine t_add rfl rfl (by omega) ?_ rfl
      refine t_assign rfl ?_ rfl
      refine t_done ?_
      refine x_round (I := (fun i wq => i ≤ l.length ∧ Below w.heap.size w wq ∧ Sep w.heap.size wq [])) (F := (fun i => [(5, I ((i : Int))), (0, v), (1, u)])) (μ := (fun i => l.length - i)) (i + 1) ?_ (by exact ⟨rfl, rfl, rfl, trivial⟩) (by (try dsimp only); omega)
      try dsimp only
      exact ⟨by omega, B, S⟩
    · intro hge
      refine w_exit ?_
      refine x_then_exit ?_
      refine x_then_exit ?_
      refine x_block_exit ?_
      refine x_seq ?_
      refine w_seq ?_
      refine w_region ?_
      refine t_assign rfl ?_ rfl
      refine t_done ?_
      refine x_seq ?_
      refine w_ret ?_
      refine x_ret1 rfl rfl ?_
      exact ⟨rfl, ext_trans X0 B⟩
theorem eqv_hop (x : Hop) (v u : Value) (w : World) (h : VA hopT w v x) (h' : VA hopT w u x) :
    Calls Try.prog 148 #[v, u] w fun e w' => e = .returned (.bool true) ∧ Below w.heap.size w w' := by
  have X0 := Below.refl w.heap.size w
  refine enter Try.func148 rfl Try.ntmps148 rfl ?_
  refine w_seq ?_
  refine w_region ?_
  refine t_boxr (by assumption) rfl ?_ rfl rfl
  intro p2 w7 x8 hp2
  replace h := h.below x8
  replace h' := h'.below x8
  have X0 := ext_trans X0 x8
  refine t_boxr (by assumption) rfl ?_ rfl rfl
  intro p3 w9 x10 hp3
  replace h := h.below x10
  replace h' := h'.below x10
  replace hp2 := hp2.below x10
  have X0 := ext_trans X0 x10
  have S := Sep.nil w9
  have B := Below.refl w9.heap.size w9
  have Hb := Nat.le_refl w9.heap.size
  refine t_assign rfl ?_ rfl
  refine t_done ?_
  refine x_seq ?_
  refine w_seq ?_
  refine w_seq ?_
  refine w_region ?_
  refine t_fld ln_hop_0 (by assumption) fb_hop_0 rfl ?_ rfl
  intro p5 hp5
  refine t_ldi (by assumption) ab_int B rfl ?_ rfl
  refine t_fld ln_hop_0 (by assumption) fb_hop_0 rfl ?_ rfl
  intro p7 hp7
  refine t_ldi (by assumption) ab_int B rfl ?_ rfl
  refine t_neq rfl rfl ?_ rfl
  refine t_done ?_
  refine x_seq ?_
  refine w_if rfl (fun h => absurd rfl h) ?_
  intro _
  refine w_skip ?_
  refine x_seq ?_
  refine w_seq ?_
  refine w_seq ?_
  refine w_region ?_
  refine t_fld ln_hop_1 (by assumption) fb_hop_1 rfl ?_ rfl
  intro p10 hp10
  refine t_ldi (by assumption) ab_int B rfl ?_ rfl
  refine t_fld ln_hop_1 (by assumption) fb_hop_1 rfl ?_ rfl
  intro p12 hp12
  refine t_ldi (by assumption) ab_int B rfl ?_ rfl
  refine t_neq rfl rfl ?_ rfl
  refine t_done ?_
  refine x_seq ?_
  refine w_if rfl (fun h => absurd rfl h) ?_
  intro _
  refine w_skip ?_
  refine x_seq ?_
  refine w_seq ?_
  refine w_seq ?_
  refine w_region ?_
  refine t_fld ln_hop_2 (by assumption) fb_hop_2 rfl ?_ rfl
  intro p15 hp15
  refine t_ldi (by assumption) ab_int B rfl ?_ rfl
  refine t_fld ln_hop_2 (by assumption) fb_hop_2 rfl ?_ rfl
  intro p17 hp17
  refine t_ldi (by assumption) ab_int B rfl ?_ rfl
  refine t_neq rfl rfl ?_ rfl
  refine t_done ?_
  refine x_seq ?_
  refine w_if rfl (fun h => absurd rfl h) ?_
  intro _
  refine w_skip ?_
  refine x_seq ?_
  refine w_seq ?_
  refine w_seq ?_
  refine w_region ?_
  refine t_fld ln_hop_3 (by assumption) fb_hop_3 rfl ?_ rfl
  intro p20 hp20
  refine t_ldi (by assumption) ab_int B rfl ?_ rfl
  refine t_fld ln_hop_3 (by assumption) fb_hop_3 rfl ?_ rfl
  intro p22 hp22
  refine t_ldi (by assumption) ab_int B rfl ?_ rfl
  refine t_neq rfl rfl ?_ rfl
  refine t_done ?_
  refine x_seq ?_
  refine w_if rfl (fun h => absurd rfl h) ?_
  intro _
  refine w_skip ?_
  refine x_seq ?_
  refine w_seq ?_
  refine w_seq ?_
  refine w_region ?_
  refine t_fld ln_hop_4 (by assumption) fb_hop_4 rfl ?_ rfl
  intro p25 hp25
  refine t_ldi (by assumption) ab_int B rfl ?_ rfl
  refine t_fld ln_hop_4 (by assumption) fb_hop_4 rfl ?_ rfl
  intro p27 hp27
  refine t_ldi (by assumption) ab_int B rfl ?_ rfl
  refine t_neq rfl rfl ?_ rfl
  refine t_done ?_
  refine x_seq ?_
  refine w_if rfl (fun h => absurd rfl h) ?_
  intro _
  refine w_skip ?_
  refine x_seq ?_
  refine w_seq ?_
  refine w_region ?_
  refine t_assign rfl ?_ rfl
  refine t_done ?_
  refine x_seq ?_
  refine w_ret ?_
  refine x_ret1 rfl rfl ?_
  exact ⟨rfl, ext_trans X0 B⟩
theorem eqv_hops (l : List Hop) (v u : Value) (w : World) (h : SlR hopT w v l) (h' : SlR hopT w u l) (hn : l.length ≤ 1152921504606846976) :
    Calls Try.prog 100 #[v, u] w fun e w' => e = .returned (.bool true) ∧ Below w.heap.size w w' := by
  have X0 := Below.refl w.heap.size w
  refine enter Try.func100 rfl Try.ntmps100 rfl ?_
  refine w_seq ?_
  refine w_region ?_
  have S := Sep.nil w
  have B := Below.refl w.heap.size w
  have Hb := Nat.le_refl w.heap.size
  refine t_assign rfl ?_ rfl
  refine t_done ?_
  refine x_seq ?_
  refine w_seq ?_
  refine w_seq ?_
  refine w_region ?_
  refine t_move rfl ?_ rfl
  refine t_len e_hop (by assumption) rfl rfl ?_ rfl
  refine t_move rfl ?_ rfl
  refine t_len e_hop (by assumption) rfl rfl ?_ rfl
  refine t_neq rfl rfl ?_ rfl
  refine t_done ?_
  refine x_seq ?_
  refine w_if rfl (fun h => absurd rfl h) ?_
  intro _
  refine w_skip ?_
  refine x_seq ?_
  refine w_seq ?_
  refine w_seq ?_
  refine w_region ?_
  refine t_assign rfl ?_ rfl
  refine t_done ?_
  refine x_seq ?_
  refine w_block ?_
  refine w_loop (X := Nat) (fun i wq => i ≤ l.length ∧ Below w.heap.size w wq ∧ Sep w.heap.size wq []) (fun i => [(5, I ((i : Int))), (0, v), (1, u)]) (fun i => l.length - i) (0) ?_ ⟨rfl, rfl, rfl, trivial⟩ ?_
  · exact ⟨by omega, B, S⟩
  · rintro i w11 hI
    try dsimp only at hI ⊢
    obtain ⟨hi, B, S⟩ := hI
    refine w_seq ?_
    refine w_seq ?_
    refine w_region ?_
    refine t_move rfl ?_ rfl
    refine t_move rfl ?_ rfl
    refine t_len e_hop (by assumption) rfl rfl ?_ rfl
    refine t_lss rfl rfl ?_ rfl
    refine t_done ?_
    refine x_seq ?_
    refine w_if rfl ?_ ?_
    · intro hlt
      refine w_skip ?_
      refine x_seq ?_
      refine w_seq ?_
      refine w_block ?_
      refine w_seq ?_
      refine w_draw (.st .take 0 (.st .take 1 (.st .take 2 (.st .take 3 (.st .take 4 (.st .take 5 (.st .take 6 (.st .take 7 (.st .run 8 (.st .take 9 .done)))))))))) mixed (by kernel_rfl) ?_
      intro w12 x13
      have B := bx Hb B x13
      have S := S.below x13
      refine t_move rfl ?_ rfl
      refine t_move rfl ?_ rfl
      obtain ⟨e19, he19⟩ : ∃ e, (l)[i]? = some e := getx (by omega)
      refine t_idx e_hop (k := i) (by assumption) he19 B rfl rfl (by first | rfl | omega) ?_ rfl
      intro p19 hp19
      refine t_lda (by assumption) ab_hop sb_hop B rfl ?_ rfl
      intro v20 hv20
      obtain rfl := hop_va hv20
      refine t_move rfl ?_ rfl
      refine t_move rfl ?_ rfl
      refine t_idx e_hop (k := i) (by assumption) he19 B rfl rfl (by first | rfl | omega) ?_ rfl
      intro p23 hp23
      refine t_lda (by assumption) ab_hop sb_hop B rfl ?_ rfl
      intro v24 hv24
      obtain rfl := hop_va hv24
      refine t_callx Try.call148 rfl (eqv_hop _ _ _ _ (by first | assumption | exact VA.below (by assumption) B) (by first | assumption | exact VA.below (by assumption) B)) ?_ rfl rfl
      intro w14 x15
      have B := bx Hb B x15
      have S := S.below x15
      refine t_notb rfl ?_ rfl
      refine t_done' ?_
      refine x_seq ?_
      refine w_no rfl ?_
      refine w_skip ?_
      refine x_block_normal ?_
      refine x_seq ?_
      refine w_region ?_
      refine t_move rfl ?_ rfl
      refine t_add rfl rfl (by omega) ?_ rfl
      refine t_assign rfl ?_ rfl
      refine t_done ?_
      refine x_round (I := (fun i wq => i ≤ l.length ∧ Below w.heap.size w wq ∧ Sep w.heap.size wq [])) (F := (fun i => [(5, I ((i : Int))), (0, v), (1, u)])) (μ := (fun i => l.length - i)) (i + 1) ?_ (by exact ⟨rfl, rfl, rfl, trivial⟩) (by (try dsimp only); omega)
      try dsimp only
      exact ⟨by omega, B, S⟩
    · intro hge
      refine w_exit ?_
      refine x_then_exit ?_
      refine x_then_exit ?_
      refine x_block_exit ?_
      refine x_seq ?_
      refine w_seq ?_
      refine w_region ?_
      refine t_assign rfl ?_ rfl
      refine t_done ?_
      refine x_seq ?_
      refine w_ret ?_
      refine x_ret1 rfl rfl ?_
      exact ⟨rfl, ext_trans X0 B⟩
theorem eqv_step (x : Stp) (v u : Value) (w : World) (h : VA stepT w v x) (h' : VA stepT w u x) :
    Calls Try.prog 82 #[v, u] w fun e w' => e = .returned (.bool true) ∧ Below w.heap.size w w' := by
  have X0 := Below.refl w.heap.size w
  refine enter Try.func82 rfl Try.ntmps82 rfl ?_
  refine w_seq ?_
  refine w_region ?_
  refine t_boxr (by assumption) rfl ?_ rfl rfl
  intro p2 w16 x17 hp2
  replace h := h.below x17
  replace h' := h'.below x17
  have X0 := ext_trans X0 x17
  refine t_boxr (by assumption) rfl ?_ rfl rfl
  intro p3 w18 x19 hp3
  replace h := h.below x19
  replace h' := h'.below x19
  replace hp2 := hp2.below x19
  have X0 := ext_trans X0 x19
  have S := Sep.nil w18
  have B := Below.refl w18.heap.size w18
  have Hb := Nat.le_refl w18.heap.size
  refine t_assign rfl ?_ rfl
  refine t_done ?_
  refine x_seq ?_
  refine w_seq ?_
  refine w_seq ?_
  refine w_region ?_
  refine t_fld ln_step_0 (by assumption) fb_step_0 rfl ?_ rfl
  intro p5 hp5
  refine t_ldi (by assumption) ab_int B rfl ?_ rfl
  refine t_fld ln_step_0 (by assumption) fb_step_0 rfl ?_ rfl
  intro p7 hp7
  refine t_ldi (by assumption) ab_int B rfl ?_ rfl
  refine t_neq rfl rfl ?_ rfl
  refine t_done ?_
  refine x_seq ?_
  refine w_if rfl (fun h => absurd rfl h) ?_
  intro _
  refine w_skip ?_
  refine x_seq ?_
  refine w_seq ?_
  refine w_seq ?_
  refine w_region ?_
  refine t_fld ln_step_1 (by assumption) fb_step_1 rfl ?_ rfl
  intro p10 hp10
  refine t_ldi (by assumption) ab_int B rfl ?_ rfl
  refine t_fld ln_step_1 (by assumption) fb_step_1 rfl ?_ rfl
  intro p12 hp12
  refine t_ldi (by assumption) ab_int B rfl ?_ rfl
  refine t_neq rfl rfl ?_ rfl
  refine t_done ?_
  refine x_seq ?_
  refine w_if rfl (fun h => absurd rfl h) ?_
  intro _
  refine w_skip ?_
  refine x_seq ?_
  refine w_seq ?_
  refine w_seq ?_
  refine w_region ?_
  refine t_fld ln_step_2 (by assumption) fb_step_2 rfl ?_ rfl
  intro p15 hp15
  refine t_ldi (by assumption) ab_int B rfl ?_ rfl
  refine t_fld ln_step_2 (by assumption) fb_step_2 rfl ?_ rfl
  intro p17 hp17
  refine t_ldi (by assumption) ab_int B rfl ?_ rfl
  refine t_neq rfl rfl ?_ rfl
  refine t_done ?_
  refine x_seq ?_
  refine w_if rfl (fun h => absurd rfl h) ?_
  intro _
  refine w_skip ?_
  refine x_seq ?_
  refine w_seq ?_
  refine w_region ?_
  refine t_assign rfl ?_ rfl
  refine t_done ?_
  refine x_seq ?_
  refine w_ret ?_
  refine x_ret1 rfl rfl ?_
  exact ⟨rfl, ext_trans X0 B⟩
theorem eqv_steps (l : List Stp) (v u : Value) (w : World) (h : SlR stepT w v l) (h' : SlR stepT w u l) (hn : l.length ≤ 1152921504606846976) :
    Calls Try.prog 32 #[v, u] w fun e w' => e = .returned (.bool true) ∧ Below w.heap.size w w' := by
  have X0 := Below.refl w.heap.size w
  refine enter Try.func32 rfl Try.ntmps32 rfl ?_
  refine w_seq ?_
  refine w_region ?_
  have S := Sep.nil w
  have B := Below.refl w.heap.size w
  have Hb := Nat.le_refl w.heap.size
  refine t_assign rfl ?_ rfl
  refine t_done ?_
  refine x_seq ?_
  refine w_seq ?_
  refine w_seq ?_
  refine w_region ?_
  refine t_move rfl ?_ rfl
  refine t_len e_step (by assumption) rfl rfl ?_ rfl
  refine t_move rfl ?_ rfl
  refine t_len e_step (by assumption) rfl rfl ?_ rfl
  refine t_neq rfl rfl ?_ rfl
  refine t_done ?_
  refine x_seq ?_
  refine w_if rfl (fun h => absurd rfl h) ?_
  intro _
  refine w_skip ?_
  refine x_seq ?_
  refine w_seq ?_
  refine w_seq ?_
  refine w_region ?_
  refine t_assign rfl ?_ rfl
  refine t_done ?_
  refine x_seq ?_
  refine w_block ?_
  refine w_loop (X := Nat) (fun i wq => i ≤ l.length ∧ Below w.heap.size w wq ∧ Sep w.heap.size wq []) (fun i => [(5, I ((i : Int))), (0, v), (1, u)]) (fun i => l.length - i) (0) ?_ ⟨rfl, rfl, rfl, trivial⟩ ?_
  · exact ⟨by omega, B, S⟩
  · rintro i w20 hI
    try dsimp only at hI ⊢
    obtain ⟨hi, B, S⟩ := hI
    refine w_seq ?_
    refine w_seq ?_
    refine w_region ?_
    refine t_move rfl ?_ rfl
    refine t_move rfl ?_ rfl
    refine t_len e_step (by assumption) rfl rfl ?_ rfl
    refine t_lss rfl rfl ?_ rfl
    refine t_done ?_
    refine x_seq ?_
    refine w_if rfl ?_ ?_
    · intro hlt
      refine w_skip ?_
      refine x_seq ?_
      refine w_seq ?_
      refine w_block ?_
      refine w_seq ?_
      refine w_draw (.st .take 0 (.st .take 1 (.st .take 2 (.st .take 3 (.st .take 4 (.st .take 5 (.st .take 6 (.st .take 7 (.st .run 8 (.st .take 9 .done)))))))))) mixed (by kernel_rfl) ?_
      intro w21 x22
      have B := bx Hb B x22
      have S := S.below x22
      refine t_move rfl ?_ rfl
      refine t_move rfl ?_ rfl
      obtain ⟨e19, he19⟩ : ∃ e, (l)[i]? = some e := getx (by omega)
      refine t_idx e_step (k := i) (by assumption) he19 B rfl rfl (by first | rfl | omega) ?_ rfl
      intro p19 hp19
      refine t_lda (by assumption) ab_step sb_step B rfl ?_ rfl
      intro v20 hv20
      obtain rfl := step_va hv20
      refine t_move rfl ?_ rfl
      refine t_move rfl ?_ rfl
      refine t_idx e_step (k := i) (by assumption) he19 B rfl rfl (by first | rfl | omega) ?_ rfl
      intro p23 hp23
      refine t_lda (by assumption) ab_step sb_step B rfl ?_ rfl
      intro v24 hv24
      obtain rfl := step_va hv24
      refine t_callx Try.call82 rfl (eqv_step _ _ _ _ (by first | assumption | exact VA.below (by assumption) B) (by first | assumption | exact VA.below (by assumption) B)) ?_ rfl rfl
      intro w23 x24
      have B := bx Hb B x24
      have S := S.below x24
      refine t_notb rfl ?_ rfl
      refine t_done' ?_
      refine x_seq ?_
      refine w_no rfl ?_
      refine w_skip ?_
      refine x_block_normal ?_
      refine x_seq ?_
      refine w_region ?_
      refine t_move rfl ?_ rfl
      refine t_add rfl rfl (by omega) ?_ rfl
      refine t_assign rfl ?_ rfl
      refine t_done ?_
      refine x_round (I := (fun i wq => i ≤ l.length ∧ Below w.heap.size w wq ∧ Sep w.heap.size wq [])) (F := (fun i => [(5, I ((i : Int))), (0, v), (1, u)])) (μ := (fun i => l.length - i)) (i + 1) ?_ (by exact ⟨rfl, rfl, rfl, trivial⟩) (by (try dsimp only); omega)
      try dsimp only
      exact ⟨by omega, B, S⟩
    · intro hge
      refine w_exit ?_
      refine x_then_exit ?_
      refine x_then_exit ?_
      refine x_block_exit ?_
      refine x_seq ?_
      refine w_seq ?_
      refine w_region ?_
      refine t_assign rfl ?_ rfl
      refine t_done ?_
      refine x_seq ?_
      refine w_ret ?_
      refine x_ret1 rfl rfl ?_
      exact ⟨rfl, ext_trans X0 B⟩
theorem eqv_link (x : Lnk) (v u : Value) (w : World) (h : VA linkT w v x) (h' : VA linkT w u x) :
    Calls Try.prog 160 #[v, u] w fun e w' => e = .returned (.bool true) ∧ Below w.heap.size w w' := by
  have X0 := Below.refl w.heap.size w
  refine enter Try.func160 rfl Try.ntmps160 rfl ?_
  refine w_seq ?_
  refine w_region ?_
  refine t_boxr (by assumption) rfl ?_ rfl rfl
  intro p2 w25 x26 hp2
  replace h := h.below x26
  replace h' := h'.below x26
  have X0 := ext_trans X0 x26
  refine t_boxr (by assumption) rfl ?_ rfl rfl
  intro p3 w27 x28 hp3
  replace h := h.below x28
  replace h' := h'.below x28
  replace hp2 := hp2.below x28
  have X0 := ext_trans X0 x28
  have S := Sep.nil w27
  have B := Below.refl w27.heap.size w27
  have Hb := Nat.le_refl w27.heap.size
  refine t_assign rfl ?_ rfl
  refine t_done ?_
  refine x_seq ?_
  refine w_seq ?_
  refine w_seq ?_
  refine w_region ?_
  refine t_fld ln_link_0 (by assumption) fb_link_0 rfl ?_ rfl
  intro p5 hp5
  refine t_ldi (by assumption) ab_int B rfl ?_ rfl
  refine t_fld ln_link_0 (by assumption) fb_link_0 rfl ?_ rfl
  intro p7 hp7
  refine t_ldi (by assumption) ab_int B rfl ?_ rfl
  refine t_neq rfl rfl ?_ rfl
  refine t_done ?_
  refine x_seq ?_
  refine w_if rfl (fun h => absurd rfl h) ?_
  intro _
  refine w_skip ?_
  refine x_seq ?_
  refine w_seq ?_
  refine w_seq ?_
  refine w_region ?_
  refine t_fld ln_link_1 (by assumption) fb_link_1 rfl ?_ rfl
  intro p10 hp10
  refine t_ldi (by assumption) ab_int B rfl ?_ rfl
  refine t_fld ln_link_1 (by assumption) fb_link_1 rfl ?_ rfl
  intro p12 hp12
  refine t_ldi (by assumption) ab_int B rfl ?_ rfl
  refine t_neq rfl rfl ?_ rfl
  refine t_done ?_
  refine x_seq ?_
  refine w_if rfl (fun h => absurd rfl h) ?_
  intro _
  refine w_skip ?_
  refine x_seq ?_
  refine w_seq ?_
  refine w_seq ?_
  refine w_region ?_
  refine t_fld ln_link_2 (by assumption) fb_link_2 rfl ?_ rfl
  intro p15 hp15
  refine t_ldi (by assumption) ab_int B rfl ?_ rfl
  refine t_fld ln_link_2 (by assumption) fb_link_2 rfl ?_ rfl
  intro p17 hp17
  refine t_ldi (by assumption) ab_int B rfl ?_ rfl
  refine t_neq rfl rfl ?_ rfl
  refine t_done ?_
  refine x_seq ?_
  refine w_if rfl (fun h => absurd rfl h) ?_
  intro _
  refine w_skip ?_
  refine x_seq ?_
  refine w_seq ?_
  refine w_seq ?_
  refine w_region ?_
  refine t_fld ln_link_3 (by assumption) fb_link_3 rfl ?_ rfl
  intro p20 hp20
  refine t_ldi (by assumption) ab_int B rfl ?_ rfl
  refine t_fld ln_link_3 (by assumption) fb_link_3 rfl ?_ rfl
  intro p22 hp22
  refine t_ldi (by assumption) ab_int B rfl ?_ rfl
  refine t_neq rfl rfl ?_ rfl
  refine t_done ?_
  refine x_seq ?_
  refine w_if rfl (fun h => absurd rfl h) ?_
  intro _
  refine w_skip ?_
  refine x_seq ?_
  refine w_seq ?_
  refine w_seq ?_
  refine w_region ?_
  refine t_fld ln_link_4 (by assumption) fb_link_4 rfl ?_ rfl
  intro p25 hp25
  refine t_ldi (by assumption) ab_int B rfl ?_ rfl
  refine t_fld ln_link_4 (by assumption) fb_link_4 rfl ?_ rfl
  intro p27 hp27
  refine t_ldi (by assumption) ab_int B rfl ?_ rfl
  refine t_neq rfl rfl ?_ rfl
  refine t_done ?_
  refine x_seq ?_
  refine w_if rfl (fun h => absurd rfl h) ?_
  intro _
  refine w_skip ?_
  refine x_seq ?_
  refine w_seq ?_
  refine w_region ?_
  refine t_assign rfl ?_ rfl
  refine t_done ?_
  refine x_seq ?_
  refine w_ret ?_
  refine x_ret1 rfl rfl ?_
  exact ⟨rfl, ext_trans X0 B⟩
theorem eqv_links (l : List Lnk) (v u : Value) (w : World) (h : SlR linkT w v l) (h' : SlR linkT w u l) (hn : l.length ≤ 1152921504606846976) :
    Calls Try.prog 120 #[v, u] w fun e w' => e = .returned (.bool true) ∧ Below w.heap.size w w' := by
  have X0 := Below.refl w.heap.size w
  refine enter Try.func120 rfl Try.ntmps120 rfl ?_
  refine w_seq ?_
  refine w_region ?_
  have S := Sep.nil w
  have B := Below.refl w.heap.size w
  have Hb := Nat.le_refl w.heap.size
  refine t_assign rfl ?_ rfl
  refine t_done ?_
  refine x_seq ?_
  refine w_seq ?_
  refine w_seq ?_
  refine w_region ?_
  refine t_move rfl ?_ rfl
  refine t_len e_link (by assumption) rfl rfl ?_ rfl
  refine t_move rfl ?_ rfl
  refine t_len e_link (by assumption) rfl rfl ?_ rfl
  refine t_neq rfl rfl ?_ rfl
  refine t_done ?_
  refine x_seq ?_
  refine w_if rfl (fun h => absurd rfl h) ?_
  intro _
  refine w_skip ?_
  refine x_seq ?_
  refine w_seq ?_
  refine w_seq ?_
  refine w_region ?_
  refine t_assign rfl ?_ rfl
  refine t_done ?_
  refine x_seq ?_
  refine w_block ?_
  refine w_loop (X := Nat) (fun i wq => i ≤ l.length ∧ Below w.heap.size w wq ∧ Sep w.heap.size wq []) (fun i => [(5, I ((i : Int))), (0, v), (1, u)]) (fun i => l.length - i) (0) ?_ ⟨rfl, rfl, rfl, trivial⟩ ?_
  · exact ⟨by omega, B, S⟩
  · rintro i w29 hI
    try dsimp only at hI ⊢
    obtain ⟨hi, B, S⟩ := hI
    refine w_seq ?_
    refine w_seq ?_
    refine w_region ?_
    refine t_move rfl ?_ rfl
    refine t_move rfl ?_ rfl
    refine t_len e_link (by assumption) rfl rfl ?_ rfl
    refine t_lss rfl rfl ?_ rfl
    refine t_done ?_
    refine x_seq ?_
    refine w_if rfl ?_ ?_
    · intro hlt
      refine w_skip ?_
      refine x_seq ?_
      refine w_seq ?_
      refine w_block ?_
      refine w_seq ?_
      refine w_draw (.st .take 0 (.st .take 1 (.st .take 2 (.st .take 3 (.st .take 4 (.st .take 5 (.st .take 6 (.st .take 7 (.st .run 8 (.st .take 9 .done)))))))))) mixed (by kernel_rfl) ?_
      intro w30 x31
      have B := bx Hb B x31
      have S := S.below x31
      refine t_move rfl ?_ rfl
      refine t_move rfl ?_ rfl
      obtain ⟨e19, he19⟩ : ∃ e, (l)[i]? = some e := getx (by omega)
      refine t_idx e_link (k := i) (by assumption) he19 B rfl rfl (by first | rfl | omega) ?_ rfl
      intro p19 hp19
      refine t_lda (by assumption) ab_link sb_link B rfl ?_ rfl
      intro v20 hv20
      obtain rfl := link_va hv20
      refine t_move rfl ?_ rfl
      refine t_move rfl ?_ rfl
      refine t_idx e_link (k := i) (by assumption) he19 B rfl rfl (by first | rfl | omega) ?_ rfl
      intro p23 hp23
      refine t_lda (by assumption) ab_link sb_link B rfl ?_ rfl
      intro v24 hv24
      obtain rfl := link_va hv24
      refine t_callx Try.call160 rfl (eqv_link _ _ _ _ (by first | assumption | exact VA.below (by assumption) B) (by first | assumption | exact VA.below (by assumption) B)) ?_ rfl rfl
      intro w32 x33
      have B := bx Hb B x33
      have S := S.below x33
      refine t_notb rfl ?_ rfl
      refine t_done' ?_
      refine x_seq ?_
      refine w_no rfl ?_
      refine w_skip ?_
      refine x_block_normal ?_
      refine x_seq ?_
      refine w_region ?_
      refine t_move rfl ?_ rfl
      refine t_add rfl rfl (by omega) ?_ rfl
      refine t_assign rfl ?_ rfl
      refine t_done ?_
      refine x_round (I := (fun i wq => i ≤ l.length ∧ Below w.heap.size w wq ∧ Sep w.heap.size wq [])) (F := (fun i => [(5, I ((i : Int))), (0, v), (1, u)])) (μ := (fun i => l.length - i)) (i + 1) ?_ (by exact ⟨rfl, rfl, rfl, trivial⟩) (by (try dsimp only); omega)
      try dsimp only
      exact ⟨by omega, B, S⟩
    · intro hge
      refine w_exit ?_
      refine x_then_exit ?_
      refine x_then_exit ?_
      refine x_block_exit ?_
      refine x_seq ?_
      refine w_seq ?_
      refine w_region ?_
      refine t_assign rfl ?_ rfl
      refine t_done ?_
      refine x_seq ?_
      refine w_ret ?_
      refine x_ret1 rfl rfl ?_
      exact ⟨rfl, ext_trans X0 B⟩
theorem eqv_asn (x : ASd) (v u : Value) (w : World) (h : VA asnT w v x) (h' : VA asnT w u x) :
    Calls Try.prog 159 #[v, u] w fun e w' => e = .returned (.bool true) ∧ Below w.heap.size w w' := by
  have X0 := Below.refl w.heap.size w
  refine enter Try.func159 rfl Try.ntmps159 rfl ?_
  refine w_seq ?_
  refine w_region ?_
  refine t_boxr (by assumption) rfl ?_ rfl rfl
  intro p2 w34 x35 hp2
  replace h := h.below x35
  replace h' := h'.below x35
  have X0 := ext_trans X0 x35
  refine t_boxr (by assumption) rfl ?_ rfl rfl
  intro p3 w36 x37 hp3
  replace h := h.below x37
  replace h' := h'.below x37
  replace hp2 := hp2.below x37
  have X0 := ext_trans X0 x37
  have S := Sep.nil w36
  have B := Below.refl w36.heap.size w36
  have Hb := Nat.le_refl w36.heap.size
  refine t_assign rfl ?_ rfl
  refine t_done ?_
  refine x_seq ?_
  refine w_seq ?_
  refine w_seq ?_
  refine w_region ?_
  refine t_fld ln_asn_0 (by assumption) fb_asn_0 rfl ?_ rfl
  intro p5 hp5
  refine t_ldi (by assumption) ab_int B rfl ?_ rfl
  refine t_fld ln_asn_0 (by assumption) fb_asn_0 rfl ?_ rfl
  intro p7 hp7
  refine t_ldi (by assumption) ab_int B rfl ?_ rfl
  refine t_neq rfl rfl ?_ rfl
  refine t_done ?_
  refine x_seq ?_
  refine w_if rfl (fun h => absurd rfl h) ?_
  intro _
  refine w_skip ?_
  refine x_seq ?_
  refine w_seq ?_
  refine w_seq ?_
  refine w_region ?_
  refine t_fld ln_asn_1 (by assumption) fb_asn_1 rfl ?_ rfl
  intro p10 hp10
  refine t_ldb (by assumption) ab_bool B rfl ?_ rfl
  refine t_fld ln_asn_1 (by assumption) fb_asn_1 rfl ?_ rfl
  intro p12 hp12
  refine t_ldb (by assumption) ab_bool B rfl ?_ rfl
  refine t_neqb Try.underlying4 rfl rfl ?_ rfl
  refine t_done ?_
  refine x_seq ?_
  refine w_if rfl (fun h => absurd rfl h) ?_
  intro _
  refine w_skip ?_
  refine x_seq ?_
  refine w_seq ?_
  refine w_seq ?_
  refine w_region ?_
  refine t_fld ln_asn_2 (by assumption) fb_asn_2 rfl ?_ rfl
  intro p15 hp15
  refine t_ldi (by assumption) ab_int B rfl ?_ rfl
  refine t_fld ln_asn_2 (by assumption) fb_asn_2 rfl ?_ rfl
  intro p17 hp17
  refine t_ldi (by assumption) ab_int B rfl ?_ rfl
  refine t_neq rfl rfl ?_ rfl
  refine t_done ?_
  refine x_seq ?_
  refine w_if rfl (fun h => absurd rfl h) ?_
  intro _
  refine w_skip ?_
  refine x_seq ?_
  refine w_seq ?_
  refine w_region ?_
  refine t_assign rfl ?_ rfl
  refine t_done ?_
  refine x_seq ?_
  refine w_ret ?_
  refine x_ret1 rfl rfl ?_
  exact ⟨rfl, ext_trans X0 B⟩
theorem eqv_asns (l : List ASd) (v u : Value) (w : World) (h : SlR asnT w v l) (h' : SlR asnT w u l) (hn : l.length ≤ 1152921504606846976) :
    Calls Try.prog 119 #[v, u] w fun e w' => e = .returned (.bool true) ∧ Below w.heap.size w w' := by
  have X0 := Below.refl w.heap.size w
  refine enter Try.func119 rfl Try.ntmps119 rfl ?_
  refine w_seq ?_
  refine w_region ?_
  have S := Sep.nil w
  have B := Below.refl w.heap.size w
  have Hb := Nat.le_refl w.heap.size
  refine t_assign rfl ?_ rfl
  refine t_done ?_
  refine x_seq ?_
  refine w_seq ?_
  refine w_seq ?_
  refine w_region ?_
  refine t_move rfl ?_ rfl
  refine t_len e_asn (by assumption) rfl rfl ?_ rfl
  refine t_move rfl ?_ rfl
  refine t_len e_asn (by assumption) rfl rfl ?_ rfl
  refine t_neq rfl rfl ?_ rfl
  refine t_done ?_
  refine x_seq ?_
  refine w_if rfl (fun h => absurd rfl h) ?_
  intro _
  refine w_skip ?_
  refine x_seq ?_
  refine w_seq ?_
  refine w_seq ?_
  refine w_region ?_
  refine t_assign rfl ?_ rfl
  refine t_done ?_
  refine x_seq ?_
  refine w_block ?_
  refine w_loop (X := Nat) (fun i wq => i ≤ l.length ∧ Below w.heap.size w wq ∧ Sep w.heap.size wq []) (fun i => [(5, I ((i : Int))), (0, v), (1, u)]) (fun i => l.length - i) (0) ?_ ⟨rfl, rfl, rfl, trivial⟩ ?_
  · exact ⟨by omega, B, S⟩
  · rintro i w38 hI
    try dsimp only at hI ⊢
    obtain ⟨hi, B, S⟩ := hI
    refine w_seq ?_
    refine w_seq ?_
    refine w_region ?_
    refine t_move rfl ?_ rfl
    refine t_move rfl ?_ rfl
    refine t_len e_asn (by assumption) rfl rfl ?_ rfl
    refine t_lss rfl rfl ?_ rfl
    refine t_done ?_
    refine x_seq ?_
    refine w_if rfl ?_ ?_
    · intro hlt
      refine w_skip ?_
      refine x_seq ?_
      refine w_seq ?_
      refine w_block ?_
      refine w_seq ?_
      refine w_draw (.st .take 0 (.st .take 1 (.st .take 2 (.st .take 3 (.st .take 4 (.st .take 5 (.st .take 6 (.st .take 7 (.st .run 8 (.st .take 9 .done)))))))))) mixed (by kernel_rfl) ?_
      intro w39 x40
      have B := bx Hb B x40
      have S := S.below x40
      refine t_move rfl ?_ rfl
      refine t_move rfl ?_ rfl
      obtain ⟨e19, he19⟩ : ∃ e, (l)[i]? = some e := getx (by omega)
      refine t_idx e_asn (k := i) (by assumption) he19 B rfl rfl (by first | rfl | omega) ?_ rfl
      intro p19 hp19
      refine t_lda (by assumption) ab_asn sb_asn B rfl ?_ rfl
      intro v20 hv20
      obtain rfl := asn_va hv20
      refine t_move rfl ?_ rfl
      refine t_move rfl ?_ rfl
      refine t_idx e_asn (k := i) (by assumption) he19 B rfl rfl (by first | rfl | omega) ?_ rfl
      intro p23 hp23
      refine t_lda (by assumption) ab_asn sb_asn B rfl ?_ rfl
      intro v24 hv24
      obtain rfl := asn_va hv24
      refine t_callx Try.call159 rfl (eqv_asn _ _ _ _ (by first | assumption | exact VA.below (by assumption) B) (by first | assumption | exact VA.below (by assumption) B)) ?_ rfl rfl
      intro w41 x42
      have B := bx Hb B x42
      have S := S.below x42
      refine t_notb rfl ?_ rfl
      refine t_done' ?_
      refine x_seq ?_
      refine w_no rfl ?_
      refine w_skip ?_
      refine x_block_normal ?_
      refine x_seq ?_
      refine w_region ?_
      refine t_move rfl ?_ rfl
      refine t_add rfl rfl (by omega) ?_ rfl
      refine t_assign rfl ?_ rfl
      refine t_done ?_
      refine x_round (I := (fun i wq => i ≤ l.length ∧ Below w.heap.size w wq ∧ Sep w.heap.size wq [])) (F := (fun i => [(5, I ((i : Int))), (0, v), (1, u)])) (μ := (fun i => l.length - i)) (i + 1) ?_ (by exact ⟨rfl, rfl, rfl, trivial⟩) (by (try dsimp only); omega)
      try dsimp only
      exact ⟨by omega, B, S⟩
    · intro hge
      refine w_exit ?_
      refine x_then_exit ?_
      refine x_then_exit ?_
      refine x_block_exit ?_
      refine x_seq ?_
      refine w_seq ?_
      refine w_region ?_
      refine t_assign rfl ?_ rfl
      refine t_done ?_
      refine x_seq ?_
      refine w_ret ?_
      refine x_ret1 rfl rfl ?_
      exact ⟨rfl, ext_trans X0 B⟩

def ok_part (x : Part) : Prop := x.hops.length ≤ 1152921504606846976
def ok_path (p : Path) : Prop := p.length ≤ 1152921504606846976 ∧ ∀ x ∈ p, ok_part x
def ok_seg (x : Seg) : Prop := x.hops.length ≤ 1152921504606846976
def ok_segs (l : List Seg) : Prop := l.length ≤ 1152921504606846976 ∧ ∀ x ∈ l, ok_seg x
def ok_paths (l : List Path) : Prop := l.length ≤ 1152921504606846976 ∧ ∀ x ∈ l, ok_path x
def ok_topo (t : Topo) : Prop := t.ases.length ≤ 1152921504606846976 ∧ t.links.length ≤ 1152921504606846976
def ok_pkt (p : Pkt) : Prop := ok_path p.path ∧ p.pay.length ≤ 1152921504606846976
def ok_vrd (p : Vrd) : Prop := ok_pkt p.pkt
def ok_sdb (d : Sdb) : Prop := ok_segs d.down ∧ ok_segs d.core
theorem ok_part_sz {x : Part} (h : sz_part x ≤ 1048576) : ok_part x := by unfold ok_part; unfold sz_part at h; omega
theorem sz_parts_mem {l : List Part} {x : Part} (h : x ∈ l) : l.length + sz_part x ≤ sz_parts l := by
  unfold sz_parts
  have := le_sum_of_mem (List.mem_map_of_mem (f := sz_part) h)
  omega
theorem ok_path_sz {p : Path} (h : sz_path p ≤ 1048576) : ok_path p := by
  have hl : p.length ≤ sz_path p := by show p.length ≤ p.length + _; omega
  exact ⟨by omega, fun x hx => ok_part_sz (by have := sz_parts_mem hx; unfold sz_path at h; omega)⟩
theorem ok_seg_sz {x : Seg} (h : sz_seg x ≤ 1048576) : ok_seg x := by unfold ok_seg; unfold sz_seg at h; omega

theorem eqv_part (x : Part) (v u : Value) (w : World) (h : VA partT w v x) (h' : VA partT w u x) (hn : ok_part x) :
    Calls Try.prog 65 #[v, u] w fun e w' => e = .returned (.bool true) ∧ Below w.heap.size w w' := by
  unfold ok_part at hn
  have X0 := Below.refl w.heap.size w
  refine enter Try.func65 rfl Try.ntmps65 rfl ?_
  refine w_seq ?_
  refine w_region ?_
  refine t_boxr (by assumption) rfl ?_ rfl rfl
  intro p2 w43 x44 hp2
  replace h := h.below x44
  replace h' := h'.below x44
  have X0 := ext_trans X0 x44
  refine t_boxr (by assumption) rfl ?_ rfl rfl
  intro p3 w45 x46 hp3
  replace h := h.below x46
  replace h' := h'.below x46
  replace hp2 := hp2.below x46
  have X0 := ext_trans X0 x46
  have S := Sep.nil w45
  have B := Below.refl w45.heap.size w45
  have Hb := Nat.le_refl w45.heap.size
  refine t_assign rfl ?_ rfl
  refine t_done ?_
  refine x_seq ?_
  refine w_seq ?_
  refine w_seq ?_
  refine w_region ?_
  refine t_fld ln_part_0 (by assumption) fb_part_0 rfl ?_ rfl
  intro p5 hp5
  refine t_ldi (by assumption) ab_int B rfl ?_ rfl
  refine t_fld ln_part_0 (by assumption) fb_part_0 rfl ?_ rfl
  intro p7 hp7
  refine t_ldi (by assumption) ab_int B rfl ?_ rfl
  refine t_neq rfl rfl ?_ rfl
  refine t_done ?_
  refine x_seq ?_
  refine w_if rfl (fun h => absurd rfl h) ?_
  intro _
  refine w_skip ?_
  refine x_seq ?_
  refine w_seq ?_
  refine w_seq ?_
  refine w_region ?_
  refine t_fld ln_part_1 (by assumption) fb_part_1 rfl ?_ rfl
  intro p10 hp10
  refine t_ldi (by assumption) ab_int B rfl ?_ rfl
  refine t_fld ln_part_1 (by assumption) fb_part_1 rfl ?_ rfl
  intro p12 hp12
  refine t_ldi (by assumption) ab_int B rfl ?_ rfl
  refine t_neq rfl rfl ?_ rfl
  refine t_done ?_
  refine x_seq ?_
  refine w_if rfl (fun h => absurd rfl h) ?_
  intro _
  refine w_skip ?_
  refine x_seq ?_
  refine w_seq ?_
  refine w_seq ?_
  refine w_region ?_
  refine t_fld ln_part_2 (by assumption) fb_part_2 rfl ?_ rfl
  intro p15 hp15
  refine t_ldi (by assumption) ab_int B rfl ?_ rfl
  refine t_fld ln_part_2 (by assumption) fb_part_2 rfl ?_ rfl
  intro p17 hp17
  refine t_ldi (by assumption) ab_int B rfl ?_ rfl
  refine t_neq rfl rfl ?_ rfl
  refine t_done ?_
  refine x_seq ?_
  refine w_if rfl (fun h => absurd rfl h) ?_
  intro _
  refine w_skip ?_
  refine x_seq ?_
  refine w_seq ?_
  refine w_seq ?_
  refine w_region ?_
  refine t_fld ln_part_3 (by assumption) fb_part_3 rfl ?_ rfl
  intro p20 hp20
  refine t_lds (by assumption) ab_s_hop B rfl ?_ rfl
  intro v21 hv21
  refine t_fld ln_part_3 (by assumption) fb_part_3 rfl ?_ rfl
  intro p22 hp22
  refine t_lds (by assumption) ab_s_hop B rfl ?_ rfl
  intro v23 hv23
  refine t_callx Try.call100 rfl (eqv_hops _ _ _ _ (by first | assumption | exact SlR.below (by assumption) B) (by first | assumption | exact SlR.below (by assumption) B) (by first | omega | (simp; omega))) ?_ rfl rfl
  intro w47 x48
  have B := bx Hb B x48
  have S := S.below x48
  refine t_notb rfl ?_ rfl
  refine t_done ?_
  refine x_seq ?_
  refine w_no rfl ?_
  refine w_skip ?_
  refine x_seq ?_
  refine w_seq ?_
  refine w_region ?_
  refine t_assign rfl ?_ rfl
  refine t_done ?_
  refine x_seq ?_
  refine w_ret ?_
  refine x_ret1 rfl rfl ?_
  exact ⟨rfl, ext_trans X0 B⟩
theorem eqv_parts (l : List Part) (v u : Value) (w : World) (h : SlR partT w v l) (h' : SlR partT w u l) (hn : l.length ≤ 1152921504606846976) (hok : ∀ x ∈ l, ok_part x) :
    Calls Try.prog 71 #[v, u] w fun e w' => e = .returned (.bool true) ∧ Below w.heap.size w w' := by
  have X0 := Below.refl w.heap.size w
  refine enter Try.func71 rfl Try.ntmps71 rfl ?_
  refine w_seq ?_
  refine w_region ?_
  have S := Sep.nil w
  have B := Below.refl w.heap.size w
  have Hb := Nat.le_refl w.heap.size
  refine t_assign rfl ?_ rfl
  refine t_done ?_
  refine x_seq ?_
  refine w_seq ?_
  refine w_seq ?_
  refine w_region ?_
  refine t_move rfl ?_ rfl
  refine t_len e_part (by assumption) rfl rfl ?_ rfl
  refine t_move rfl ?_ rfl
  refine t_len e_part (by assumption) rfl rfl ?_ rfl
  refine t_neq rfl rfl ?_ rfl
  refine t_done ?_
  refine x_seq ?_
  refine w_if rfl (fun h => absurd rfl h) ?_
  intro _
  refine w_skip ?_
  refine x_seq ?_
  refine w_seq ?_
  refine w_seq ?_
  refine w_region ?_
  refine t_assign rfl ?_ rfl
  refine t_done ?_
  refine x_seq ?_
  refine w_block ?_
  refine w_loop (X := Nat) (fun i wq => i ≤ l.length ∧ Below w.heap.size w wq ∧ Sep w.heap.size wq []) (fun i => [(5, I ((i : Int))), (0, v), (1, u)]) (fun i => l.length - i) (0) ?_ ⟨rfl, rfl, rfl, trivial⟩ ?_
  · exact ⟨by omega, B, S⟩
  · rintro i w49 hI
    try dsimp only at hI ⊢
    obtain ⟨hi, B, S⟩ := hI
    refine w_seq ?_
    refine w_seq ?_
    refine w_region ?_
    refine t_move rfl ?_ rfl
    refine t_move rfl ?_ rfl
    refine t_len e_part (by assumption) rfl rfl ?_ rfl
    refine t_lss rfl rfl ?_ rfl
    refine t_done ?_
    refine x_seq ?_
    refine w_if rfl ?_ ?_
    · intro hlt
      refine w_skip ?_
      refine x_seq ?_
      refine w_seq ?_
      refine w_block ?_
      refine w_seq ?_
      refine w_draw (.st .take 0 (.st .take 1 (.st .take 2 (.st .take 3 (.st .take 4 (.st .take 5 (.st .take 6 (.st .take 7 (.st .run 8 (.st .take 9 .done)))))))))) mixed (by kernel_rfl) ?_
      intro w50 x51
      have B := bx Hb B x51
      have S := S.below x51
      refine t_move rfl ?_ rfl
      refine t_move rfl ?_ rfl
      obtain ⟨e19, he19⟩ : ∃ e, (l)[i]? = some e := getx (by omega)
      refine t_idx e_part (k := i) (by assumption) he19 B rfl rfl (by first | rfl | omega) ?_ rfl
      intro p19 hp19
      refine t_lda (by assumption) ab_part sb_part B rfl ?_ rfl
      intro v20 hv20
      obtain ⟨v20_3, rfl, hv20_3⟩ := part_va hv20
      refine t_move rfl ?_ rfl
      refine t_move rfl ?_ rfl
      refine t_idx e_part (k := i) (by assumption) he19 B rfl rfl (by first | rfl | omega) ?_ rfl
      intro p23 hp23
      refine t_lda (by assumption) ab_part sb_part B rfl ?_ rfl
      intro v24 hv24
      obtain ⟨v24_3, rfl, hv24_3⟩ := part_va hv24
      refine t_callx Try.call65 rfl (eqv_part _ _ _ _ (by first | assumption | exact VA.below (by assumption) B) (by first | assumption | exact VA.below (by assumption) B) (hok _ (List.mem_of_getElem? (by assumption)))) ?_ rfl rfl
      intro w52 x53
      have B := bx Hb B x53
      have S := S.below x53
      refine t_notb rfl ?_ rfl
      refine t_done' ?_
      refine x_seq ?_
      refine w_no rfl ?_
      refine w_skip ?_
      refine x_block_normal ?_
      refine x_seq ?_
      refine w_region ?_
      refine t_move rfl ?_ rfl
      refine t_add rfl rfl (by omega) ?_ rfl
      refine t_assign rfl ?_ rfl
      refine t_done ?_
      refine x_round (I := (fun i wq => i ≤ l.length ∧ Below w.heap.size w wq ∧ Sep w.heap.size wq [])) (F := (fun i => [(5, I ((i : Int))), (0, v), (1, u)])) (μ := (fun i => l.length - i)) (i + 1) ?_ (by exact ⟨rfl, rfl, rfl, trivial⟩) (by (try dsimp only); omega)
      try dsimp only
      exact ⟨by omega, B, S⟩
    · intro hge
      refine w_exit ?_
      refine x_then_exit ?_
      refine x_then_exit ?_
      refine x_block_exit ?_
      refine x_seq ?_
      refine w_seq ?_
      refine w_region ?_
      refine t_assign rfl ?_ rfl
      refine t_done ?_
      refine x_seq ?_
      refine w_ret ?_
      refine x_ret1 rfl rfl ?_
      exact ⟨rfl, ext_trans X0 B⟩
theorem eqv_seg (x : Seg) (v u : Value) (w : World) (h : VA segT w v x) (h' : VA segT w u x) (hn : ok_seg x) :
    Calls Try.prog 48 #[v, u] w fun e w' => e = .returned (.bool true) ∧ Below w.heap.size w w' := by
  unfold ok_seg at hn
  have X0 := Below.refl w.heap.size w
  refine enter Try.func48 rfl Try.ntmps48 rfl ?_
  refine w_seq ?_
  refine w_region ?_
  refine t_boxr (by assumption) rfl ?_ rfl rfl
  intro p2 w54 x55 hp2
  replace h := h.below x55
  replace h' := h'.below x55
  have X0 := ext_trans X0 x55
  refine t_boxr (by assumption) rfl ?_ rfl rfl
  intro p3 w56 x57 hp3
  replace h := h.below x57
  replace h' := h'.below x57
  replace hp2 := hp2.below x57
  have X0 := ext_trans X0 x57
  have S := Sep.nil w56
  have B := Below.refl w56.heap.size w56
  have Hb := Nat.le_refl w56.heap.size
  refine t_assign rfl ?_ rfl
  refine t_done ?_
  refine x_seq ?_
  refine w_seq ?_
  refine w_seq ?_
  refine w_region ?_
  refine t_fld ln_seg_0 (by assumption) fb_seg_0 rfl ?_ rfl
  intro p5 hp5
  refine t_ldi (by assumption) ab_int B rfl ?_ rfl
  refine t_fld ln_seg_0 (by assumption) fb_seg_0 rfl ?_ rfl
  intro p7 hp7
  refine t_ldi (by assumption) ab_int B rfl ?_ rfl
  refine t_neq rfl rfl ?_ rfl
  refine t_done ?_
  refine x_seq ?_
  refine w_if rfl (fun h => absurd rfl h) ?_
  intro _
  refine w_skip ?_
  refine x_seq ?_
  refine w_seq ?_
  refine w_seq ?_
  refine w_region ?_
  refine t_fld ln_seg_1 (by assumption) fb_seg_1 rfl ?_ rfl
  intro p10 hp10
  refine t_ldi (by assumption) ab_int B rfl ?_ rfl
  refine t_fld ln_seg_1 (by assumption) fb_seg_1 rfl ?_ rfl
  intro p12 hp12
  refine t_ldi (by assumption) ab_int B rfl ?_ rfl
  refine t_neq rfl rfl ?_ rfl
  refine t_done ?_
  refine x_seq ?_
  refine w_if rfl (fun h => absurd rfl h) ?_
  intro _
  refine w_skip ?_
  refine x_seq ?_
  refine w_seq ?_
  refine w_seq ?_
  refine w_region ?_
  refine t_fld ln_seg_2 (by assumption) fb_seg_2 rfl ?_ rfl
  intro p15 hp15
  refine t_lds (by assumption) ab_s_hop B rfl ?_ rfl
  intro v16 hv16
  refine t_fld ln_seg_2 (by assumption) fb_seg_2 rfl ?_ rfl
  intro p17 hp17
  refine t_lds (by assumption) ab_s_hop B rfl ?_ rfl
  intro v18 hv18
  refine t_callx Try.call100 rfl (eqv_hops _ _ _ _ (by first | assumption | exact SlR.below (by assumption) B) (by first | assumption | exact SlR.below (by assumption) B) (by first | omega | (simp; omega))) ?_ rfl rfl
  intro w58 x59
  have B := bx Hb B x59
  have S := S.below x59
  refine t_notb rfl ?_ rfl
  refine t_done ?_
  refine x_seq ?_
  refine w_no rfl ?_
  refine w_skip ?_
  refine x_seq ?_
  refine w_seq ?_
  refine w_region ?_
  refine t_assign rfl ?_ rfl
  refine t_done ?_
  refine x_seq ?_
  refine w_ret ?_
  refine x_ret1 rfl rfl ?_
  exact ⟨rfl, ext_trans X0 B⟩
theorem eqv_path (x : Path) (v u : Value) (w : World) (h : VA pathT w v x) (h' : VA pathT w u x) (hn : ok_path x) :
    Calls Try.prog 20 #[v, u] w fun e w' => e = .returned (.bool true) ∧ Below w.heap.size w w' := by
  obtain ⟨hn, hok⟩ := hn
  have X0 := Below.refl w.heap.size w
  refine enter Try.func20 rfl Try.ntmps20 rfl ?_
  refine w_seq ?_
  refine w_region ?_
  refine t_boxr (by assumption) rfl ?_ rfl rfl
  intro p2 w60 x61 hp2
  replace h := h.below x61
  replace h' := h'.below x61
  have X0 := ext_trans X0 x61
  refine t_boxr (by assumption) rfl ?_ rfl rfl
  intro p3 w62 x63 hp3
  replace h := h.below x63
  replace h' := h'.below x63
  replace hp2 := hp2.below x63
  have X0 := ext_trans X0 x63
  have S := Sep.nil w62
  have B := Below.refl w62.heap.size w62
  have Hb := Nat.le_refl w62.heap.size
  refine t_assign rfl ?_ rfl
  refine t_done ?_
  refine x_seq ?_
  refine w_seq ?_
  refine w_seq ?_
  refine w_region ?_
  refine t_fld ln_path_0 (by assumption) fb_path_0 rfl ?_ rfl
  intro p5 hp5
  refine t_lds (by assumption) ab_s_part B rfl ?_ rfl
  intro v6 hv6
  refine t_fld ln_path_0 (by assumption) fb_path_0 rfl ?_ rfl
  intro p7 hp7
  refine t_lds (by assumption) ab_s_part B rfl ?_ rfl
  intro v8 hv8
  refine t_callx Try.call71 rfl (eqv_parts _ _ _ _ (by first | assumption | exact SlR.below (by assumption) B) (by first | assumption | exact SlR.below (by assumption) B) (by first | omega | (simp; omega)) (by assumption)) ?_ rfl rfl
  intro w64 x65
  have B := bx Hb B x65
  have S := S.below x65
  refine t_notb rfl ?_ rfl
  refine t_done ?_
  refine x_seq ?_
  refine w_no rfl ?_
  refine w_skip ?_
  refine x_seq ?_
  refine w_seq ?_
  refine w_region ?_
  refine t_assign rfl ?_ rfl
  refine t_done ?_
  refine x_seq ?_
  refine w_ret ?_
  refine x_ret1 rfl rfl ?_
  exact ⟨rfl, ext_trans X0 B⟩

end Go.Proofs.Ytaapaafagmbkoaa
