/- The laws' eq functions: true of two values that read as the same data. (Printed by eqs.py.) -/
import Derived.Test.YtfgobdejlfojiaaRun
import Derived.Test.YtfgobdejlfojiaaPlain
namespace Go.Proofs.Ytfgobdejlfojiaa
open Go.RowKit
set_option linter.unusedVariables false
set_option maxRecDepth 20000

theorem eqv_bytes (l : List UInt8) (v u : Value) (w : World) (h : SlR byteT w v l) (h' : SlR byteT w u l) (hn : l.length ≤ 1152921504606846976) :
    Calls Try.prog 37 #[v, u] w fun e w' => e = .returned (.bool true) ∧ Below w.heap.size w w' := by
  have X0 := Below.refl w.heap.size w
  refine enter Try.func37 rfl Try.ntmps37 rfl ?_
  refine w_seq ?_
  refine w_region ?_
  have S := Sep.nil w
  have B := Below.refl w.heap.size w
  have Hb := Nat.le_refl w.heap.size
  refine t_assign rfl ?_ rfl
  refine t_done ?_
  refine x_seq ?_
  refine w_seq ?_
  refine w_seq ?_
  refine w_region ?_
  refine t_move rfl ?_ rfl
  refine t_len e_byte (by assumption) rfl rfl ?_ rfl
  refine t_move rfl ?_ rfl
  refine t_len e_byte (by assumption) rfl rfl ?_ rfl
  refine t_neq rfl rfl ?_ rfl
  refine t_done ?_
  refine x_seq ?_
  refine w_if rfl (fun h => absurd rfl h) ?_
  intro _
  refine w_skip ?_
  refine x_seq ?_
  refine w_seq ?_
  refine w_seq ?_
  refine w_region ?_
  refine t_assign rfl ?_ rfl
  refine t_done ?_
  refine x_seq ?_
  refine w_block ?_
  refine w_loop (X := Nat) (fun i wq => i ≤ l.length ∧ Below w.heap.size w wq ∧ Sep w.heap.size wq []) (fun i => [(5, I ((i : Int))), (0, v), (1, u)]) (fun i => l.length - i) (0) ?_ ⟨rfl, rfl, rfl, trivial⟩ ?_
  · exact ⟨by omega, B, S⟩
  · rintro i w1 hI
    try dsimp only at hI ⊢
    obtain ⟨hi, B, S⟩ := hI
    refine w_seq ?_
    refine w_seq ?_
    refine w_region ?_
    refine t_move rfl ?_ rfl
    refine t_move rfl ?_ rfl
    refine t_len e_byte (by assumption) rfl rfl ?_ rfl
    refine t_lss rfl rfl ?_ rfl
    refine t_done ?_
    refine x_seq ?_
    refine w_if rfl ?_ ?_
    · intro hlt
      refine w_skip ?_
      refine x_seq ?_
      refine w_seq ?_
      refine w_block ?_
      refine w_seq ?_
      refine w_draw (.st .take 0 (.st .take 1 (.st .take 2 (.st .take 3 (.st .take 4 (.st .take 5 (.st .take 6 (.st .take 7 (.st .take 8 .done))))))))) mixed (by kernel_rfl) ?_
      intro w2 x3
      have B := bx Hb B x3
      have S := S.below x3
      refine t_move rfl ?_ rfl
      refine t_move rfl ?_ rfl
      obtain ⟨e19, he19⟩ : ∃ e, (l)[i]? = some e := getx (by omega)
      refine t_idx e_byte (k := i) (by assumption) he19 B rfl rfl (by first | rfl | omega) ?_ rfl
      intro p19 hp19
      refine t_ldu (by assumption) ab_byte B rfl ?_ rfl
      refine t_move rfl ?_ rfl
      refine t_move rfl ?_ rfl
      refine t_idx e_byte (k := i) (by assumption) he19 B rfl rfl (by first | rfl | omega) ?_ rfl
      intro p23 hp23
      refine t_ldu (by assumption) ab_byte B rfl ?_ rfl
      refine t_neq rfl rfl ?_ rfl
      refine t_done' ?_
      refine x_seq ?_
      refine w_if rfl (fun h => absurd rfl h) ?_
      intro _
      refine w_skip ?_
      refine x_block_normal ?_
      refine x_seq ?_
      refine w_region ?_
      refine t_move rfl ?_ rfl
      refine t_add rfl rfl (by omega) ?_ rfl
      refine t_assign rfl ?_ rfl
      refine t_done ?_
      refine x_round (I := (fun i wq => i ≤ l.length ∧ Below w.heap.size w wq ∧ Sep w.heap.size wq [])) (F := (fun i => [(5, I ((i : Int))), (0, v), (1, u)])) (μ := (fun i => l.length - i)) (i + 1) ?_ (by exact ⟨rfl, rfl, rfl, trivial⟩) (by (try dsimp only); omega)
      try dsimp only
      exact ⟨by omega, B, S⟩
    · intro hge
      refine w_exit ?_
      refine x_then_exit ?_
      refine x_then_exit ?_
      refine x_block_exit ?_
      refine x_seq ?_
      refine w_seq ?_
      refine w_region ?_
      refine t_assign rfl ?_ rfl
      refine t_done ?_
      refine x_seq ?_
      refine w_ret ?_
      refine x_ret1 rfl rfl ?_
      exact ⟨rfl, ext_trans X0 B⟩
theorem eqv_hop (x : Hop) (v u : Value) (w : World) (h : VA hopT w v x) (h' : VA hopT w u x) :
    Calls Try.prog 192 #[v, u] w fun e w' => e = .returned (.bool true) ∧ Below w.heap.size w w' := by
  have X0 := Below.refl w.heap.size w
  refine enter Try.func192 rfl Try.ntmps192 rfl ?_
  refine w_seq ?_
  refine w_region ?_
  refine t_boxr (by assumption) rfl ?_ rfl rfl
  intro p2 w4 x5 hp2
  replace h := h.below x5
  replace h' := h'.below x5
  have X0 := ext_trans X0 x5
  refine t_boxr (by assumption) rfl ?_ rfl rfl
  intro p3 w6 x7 hp3
  replace h := h.below x7
  replace h' := h'.below x7
  replace hp2 := hp2.below x7
  have X0 := ext_trans X0 x7
  have S := Sep.nil w6
  have B := Below.refl w6.heap.size w6
  have Hb := Nat.le_refl w6.heap.size
  refine t_assign rfl ?_ rfl
  refine t_done ?_
  refine x_seq ?_
  refine w_seq ?_
  refine w_seq ?_
  refine w_region ?_
  refine t_fld ln_hop_0 (by assumption) fb_hop_0 rfl ?_ rfl
  intro p5 hp5
  refine t_ldi (by assumption) ab_int B rfl ?_ rfl
  refine t_fld ln_hop_0 (by assumption) fb_hop_0 rfl ?_ rfl
  intro p7 hp7
  refine t_ldi (by assumption) ab_int B rfl ?_ rfl
  refine t_neq rfl rfl ?_ rfl
  refine t_done ?_
  refine x_seq ?_
  refine w_if rfl (fun h => absurd rfl h) ?_
  intro _
  refine w_skip ?_
  refine x_seq ?_
  refine w_seq ?_
  refine w_seq ?_
  refine w_region ?_
  refine t_fld ln_hop_1 (by assumption) fb_hop_1 rfl ?_ rfl
  intro p10 hp10
  refine t_ldi (by assumption) ab_int B rfl ?_ rfl
  refine t_fld ln_hop_1 (by assumption) fb_hop_1 rfl ?_ rfl
  intro p12 hp12
  refine t_ldi (by assumption) ab_int B rfl ?_ rfl
  refine t_neq rfl rfl ?_ rfl
  refine t_done ?_
  refine x_seq ?_
  refine w_if rfl (fun h => absurd rfl h) ?_
  intro _
  refine w_skip ?_
  refine x_seq ?_
  refine w_seq ?_
  refine w_seq ?_
  refine w_region ?_
  refine t_fld ln_hop_2 (by assumption) fb_hop_2 rfl ?_ rfl
  intro p15 hp15
  refine t_ldi (by assumption) ab_int B rfl ?_ rfl
  refine t_fld ln_hop_2 (by assumption) fb_hop_2 rfl ?_ rfl
  intro p17 hp17
  refine t_ldi (by assumption) ab_int B rfl ?_ rfl
  refine t_neq rfl rfl ?_ rfl
  refine t_done ?_
  refine x_seq ?_
  refine w_if rfl (fun h => absurd rfl h) ?_
  intro _
  refine w_skip ?_
  refine x_seq ?_
  refine w_seq ?_
  refine w_seq ?_
  refine w_region ?_
  refine t_fld ln_hop_3 (by assumption) fb_hop_3 rfl ?_ rfl
  intro p20 hp20
  refine t_ldi (by assumption) ab_int B rfl ?_ rfl
  refine t_fld ln_hop_3 (by assumption) fb_hop_3 rfl ?_ rfl
  intro p22 hp22
  refine t_ldi (by assumption) ab_int B rfl ?_ rfl
  refine t_neq rfl rfl ?_ rfl
  refine t_done ?_
  refine x_seq ?_
  refine w_if rfl (fun h => absurd rfl h) ?_
  intro _
  refine w_skip ?_
  refine x_seq ?_
  refine w_seq ?_
  refine w_seq ?_
  refine w_region ?_
  refine t_fld ln_hop_4 (by assumption) fb_hop_4 rfl ?_ rfl
  intro p25 hp25
  refine t_ldi (by assumption) ab_int B rfl ?_ rfl
  refine t_fld ln_hop_4 (by assumption) fb_hop_4 rfl ?_ rfl
  intro p27 hp27
  refine t_ldi (by assumption) ab_int B rfl ?_ rfl
  refine t_neq rfl rfl ?_ rfl
  refine t_done ?_
  refine x_seq ?_
  refine w_if rfl (fun h => absurd rfl h) ?_
  intro _
  refine w_skip ?_
  refine x_seq ?_
  refine w_seq ?_
  refine w_region ?_
  refine t_assign rfl ?_ rfl
  refine t_done ?_
  refine x_seq ?_
  refine w_ret ?_
  refine x_ret1 rfl rfl ?_
  exact ⟨rfl, ext_trans X0 B⟩
theorem eqv_hops (l : List Hop) (v u : Value) (w : World) (h : SlR hopT w v l) (h' : SlR hopT w u l) (hn : l.length ≤ 1152921504606846976) :
    Calls Try.prog 179 #[v, u] w fun e w' => e = .returned (.bool true) ∧ Below w.heap.size w w' := by
  have X0 := Below.refl w.heap.size w
  refine enter Try.func179 rfl Try.ntmps179 rfl ?_
  refine w_seq ?_
  refine w_region ?_
  have S := Sep.nil w
  have B := Below.refl w.heap.size w
  have Hb := Nat.le_refl w.heap.size
  refine t_assign rfl ?_ rfl
  refine t_done ?_
  refine x_seq ?_
  refine w_seq ?_
  refine w_seq ?_
  refine w_region ?_
  refine t_move rfl ?_ rfl
  refine t_len e_hop (by assumption) rfl rfl ?_ rfl
  refine t_move rfl ?_ rfl
  refine t_len e_hop (by assumption) rfl rfl ?_ rfl
  refine t_neq rfl rfl ?_ rfl
  refine t_done ?_
  refine x_seq ?_
  refine w_if rfl (fun h => absurd rfl h) ?_
  intro _
  refine w_skip ?_
  refine x_seq ?_
  refine w_seq ?_
  refine w_seq ?_
  refine w_region ?_
  refine t_assign rfl ?_ rfl
  refine t_done ?_
  refine x_seq ?_
  refine w_block ?_
  refine w_loop (X := Nat) (fun i wq => i ≤ l.length ∧ Below w.heap.size w wq ∧ Sep w.heap.size wq []) (fun i => [(5, I ((i : Int))), (0, v), (1, u)]) (fun i => l.length - i) (0) ?_ ⟨rfl, rfl, rfl, trivial⟩ ?_
  · exact ⟨by omega, B, S⟩
  · rintro i w8 hI
    try dsimp only at hI ⊢
    obtain ⟨hi, B, S⟩ := hI
    refine w_seq ?_
    refine w_seq ?_
    refine w_region ?_
    refine t_move rfl ?_ rfl
    refine t_move rfl ?_ rfl
    refine t_len e_hop (by assumption) rfl rfl ?_ rfl
    refine t_lss rfl rfl ?_ rfl
    refine t_done ?_
    refine x_seq ?_
    refine w_if rfl ?_ ?_
    · intro hlt
      refine w_skip ?_
      refine x_seq ?_
      refine w_seq ?_
      refine w_block ?_
      refine w_seq ?_
      refine w_draw (.st .take 0 (.st .take 1 (.st .take 2 (.st .take 3 (.st .take 4 (.st .take 5 (.st .take 6 (.st .take 7 (.st .run 8 (.st .take 9 .done)))))))))) mixed (by kernel_rfl) ?_
      intro w9 x10
      have B := bx Hb B x10
      have S := S.below x10
      refine t_move rfl ?_ rfl
      refine t_move rfl ?_ rfl
      obtain ⟨e19, he19⟩ : ∃ e, (l)[i]? = some e := getx (by omega)
      refine t_idx e_hop (k := i) (by assumption) he19 B rfl rfl (by first | rfl | omega) ?_ rfl
      intro p19 hp19
      refine t_lda (by assumption) ab_hop sb_hop B rfl ?_ rfl
      intro v20 hv20
      obtain rfl := hop_va hv20
      refine t_move rfl ?_ rfl
      refine t_move rfl ?_ rfl
      refine t_idx e_hop (k := i) (by assumption) he19 B rfl rfl (by first | rfl | omega) ?_ rfl
      intro p23 hp23
      refine t_lda (by assumption) ab_hop sb_hop B rfl ?_ rfl
      intro v24 hv24
      obtain rfl := hop_va hv24
      refine t_callx Try.call192 rfl (eqv_hop _ _ _ _ (by first | assumption | exact VA.below (by assumption) B) (by first | assumption | exact VA.below (by assumption) B)) ?_ rfl rfl
      intro w11 x12
      have B := bx Hb B x12
      have S := S.below x12
      refine t_notb rfl ?_ rfl
      refine t_done' ?_
      refine x_seq ?_
      refine w_no rfl ?_
      refine w_skip ?_
      refine x_block_normal ?_
      refine x_seq ?_
      refine w_region ?_
      refine t_move rfl ?_ rfl
      refine t_add rfl rfl (by omega) ?_ rfl
      refine t_assign rfl ?_ rfl
      refine t_done ?_
      refine x_round (I := (fun i wq => i ≤ l.length ∧ Below w.heap.size w wq ∧ Sep w.heap.size wq [])) (F := (fun i => [(5, I ((i : Int))), (0, v), (1, u)])) (μ := (fun i => l.length - i)) (i + 1) ?_ (by exact ⟨rfl, rfl, rfl, trivial⟩) (by (try dsimp only); omega)
      try dsimp only
      exact ⟨by omega, B, S⟩
    · intro hge
      refine w_exit ?_
      refine x_then_exit ?_
      refine x_then_exit ?_
      refine x_block_exit ?_
      refine x_seq ?_
      refine w_seq ?_
      refine w_region ?_
      refine t_assign rfl ?_ rfl
      refine t_done ?_
      refine x_seq ?_
      refine w_ret ?_
      refine x_ret1 rfl rfl ?_
      exact ⟨rfl, ext_trans X0 B⟩
theorem eqv_link (x : Lnk) (v u : Value) (w : World) (h : VA linkT w v x) (h' : VA linkT w u x) :
    Calls Try.prog 144 #[v, u] w fun e w' => e = .returned (.bool true) ∧ Below w.heap.size w w' := by
  have X0 := Below.refl w.heap.size w
  refine enter Try.func144 rfl Try.ntmps144 rfl ?_
  refine w_seq ?_
  refine w_region ?_
  refine t_boxr (by assumption) rfl ?_ rfl rfl
  intro p2 w13 x14 hp2
  replace h := h.below x14
  replace h' := h'.below x14
  have X0 := ext_trans X0 x14
  refine t_boxr (by assumption) rfl ?_ rfl rfl
  intro p3 w15 x16 hp3
  replace h := h.below x16
  replace h' := h'.below x16
  replace hp2 := hp2.below x16
  have X0 := ext_trans X0 x16
  have S := Sep.nil w15
  have B := Below.refl w15.heap.size w15
  have Hb := Nat.le_refl w15.heap.size
  refine t_assign rfl ?_ rfl
  refine t_done ?_
  refine x_seq ?_
  refine w_seq ?_
  refine w_seq ?_
  refine w_region ?_
  refine t_fld ln_link_0 (by assumption) fb_link_0 rfl ?_ rfl
  intro p5 hp5
  refine t_ldi (by assumption) ab_int B rfl ?_ rfl
  refine t_fld ln_link_0 (by assumption) fb_link_0 rfl ?_ rfl
  intro p7 hp7
  refine t_ldi (by assumption) ab_int B rfl ?_ rfl
  refine t_neq rfl rfl ?_ rfl
  refine t_done ?_
  refine x_seq ?_
  refine w_if rfl (fun h => absurd rfl h) ?_
  intro _
  refine w_skip ?_
  refine x_seq ?_
  refine w_seq ?_
  refine w_seq ?_
  refine w_region ?_
  refine t_fld ln_link_1 (by assumption) fb_link_1 rfl ?_ rfl
  intro p10 hp10
  refine t_ldi (by assumption) ab_int B rfl ?_ rfl
  refine t_fld ln_link_1 (by assumption) fb_link_1 rfl ?_ rfl
  intro p12 hp12
  refine t_ldi (by assumption) ab_int B rfl ?_ rfl
  refine t_neq rfl rfl ?_ rfl
  refine t_done ?_
  refine x_seq ?_
  refine w_if rfl (fun h => absurd rfl h) ?_
  intro _
  refine w_skip ?_
  refine x_seq ?_
  refine w_seq ?_
  refine w_seq ?_
  refine w_region ?_
  refine t_fld ln_link_2 (by assumption) fb_link_2 rfl ?_ rfl
  intro p15 hp15
  refine t_ldi (by assumption) ab_int B rfl ?_ rfl
  refine t_fld ln_link_2 (by assumption) fb_link_2 rfl ?_ rfl
  intro p17 hp17
  refine t_ldi (by assumption) ab_int B rfl ?_ rfl
  refine t_neq rfl rfl ?_ rfl
  refine t_done ?_
  refine x_seq ?_
  refine w_if rfl (fun h => absurd rfl h) ?_
  intro _
  refine w_skip ?_
  refine x_seq ?_
  refine w_seq ?_
  refine w_seq ?_
  refine w_region ?_
  refine t_fld ln_link_3 (by assumption) fb_link_3 rfl ?_ rfl
  intro p20 hp20
  refine t_ldi (by assumption) ab_int B rfl ?_ rfl
  refine t_fld ln_link_3 (by assumption) fb_link_3 rfl ?_ rfl
  intro p22 hp22
  refine t_ldi (by assumption) ab_int B rfl ?_ rfl
  refine t_neq rfl rfl ?_ rfl
  refine t_done ?_
  refine x_seq ?_
  refine w_if rfl (fun h => absurd rfl h) ?_
  intro _
  refine w_skip ?_
  refine x_seq ?_
  refine w_seq ?_
  refine w_seq ?_
  refine w_region ?_
  refine t_fld ln_link_4 (by assumption) fb_link_4 rfl ?_ rfl
  intro p25 hp25
  refine t_ldi (by assumption) ab_int B rfl ?_ rfl
  refine t_fld ln_link_4 (by assumption) fb_link_4 rfl ?_ rfl
  intro p27 hp27
  refine t_ldi (by assumption) ab_int B rfl ?_ rfl
  refine t_neq rfl rfl ?_ rfl
  refine t_done ?_
  refine x_seq ?_
  refine w_if rfl (fun h => absurd rfl h) ?_
  intro _
  refine w_skip ?_
  refine x_seq ?_
  refine w_seq ?_
  refine w_region ?_
  refine t_assign rfl ?_ rfl
  refine t_done ?_
  refine x_seq ?_
  refine w_ret ?_
  refine x_ret1 rfl rfl ?_
  exact ⟨rfl, ext_trans X0 B⟩
theorem eqv_links (l : List Lnk) (v u : Value) (w : World) (h : SlR linkT w v l) (h' : SlR linkT w u l) (hn : l.length ≤ 1152921504606846976) :
    Calls Try.prog 74 #[v, u] w fun e w' => e = .returned (.bool true) ∧ Below w.heap.size w w' := by
  have X0 := Below.refl w.heap.size w
  refine enter Try.func74 rfl Try.ntmps74 rfl ?_
  refine w_seq ?_
  refine w_region ?_
  have S := Sep.nil w
  have B := Below.refl w.heap.size w
  have Hb := Nat.le_refl w.heap.size
  refine t_assign rfl ?_ rfl
  refine t_done ?_
  refine x_seq ?_
  refine w_seq ?_
  refine w_seq ?_
  refine w_region ?_
  refine t_move rfl ?_ rfl
  refine t_len e_link (by assumption) rfl rfl ?_ rfl
  refine t_move rfl ?_ rfl
  refine t_len e_link (by assumption) rfl rfl ?_ rfl
  refine t_neq rfl rfl ?_ rfl
  refine t_done ?_
  refine x_seq ?_
  refine w_if rfl (fun h => absurd rfl h) ?_
  intro _
  refine w_skip ?_
  refine x_seq ?_
  refine w_seq ?_
  refine w_seq ?_
  refine w_region ?_
  refine t_assign rfl ?_ rfl
  refine t_done ?_
  refine x_seq ?_
  refine w_block ?_
  refine w_loop (X := Nat) (fun i wq => i ≤ l.length ∧ Below w.heap.size w wq ∧ Sep w.heap.size wq []) (fun i => [(5, I ((i : Int))), (0, v), (1, u)]) (fun i => l.length - i) (0) ?_ ⟨rfl, rfl, rfl, trivial⟩ ?_
  · exact ⟨by omega, B, S⟩
  · rintro i w17 hI
    try dsimp only at hI ⊢
    obtain ⟨hi, B, S⟩ := hI
    refine w_seq ?_
    refine w_seq ?_
    refine w_region ?_
    refine t_move rfl ?_ rfl
    refine t_move rfl ?_ rfl
    refine t_len e_link (by assumption) rfl rfl ?_ rfl
    refine t_lss rfl rfl ?_ rfl
    refine t_done ?_
    refine x_seq ?_
    refine w_if rfl ?_ ?_
    · intro hlt
      refine w_skip ?_
      refine x_seq ?_
      refine w_seq ?_
      refine w_block ?_
      refine w_seq ?_
      refine w_draw (.st .take 0 (.st .take 1 (.st .take 2 (.st .take 3 (.st .take 4 (.st .take 5 (.st .take 6 (.st .take 7 (.st .run 8 (.st .take 9 .done)))))))))) mixed (by kernel_rfl) ?_
      intro w18 x19
      have B := bx Hb B x19
      have S := S.below x19
      refine t_move rfl ?_ rfl
      refine t_move rfl ?_ rfl
      obtain ⟨e19, he19⟩ : ∃ e, (l)[i]? = some e := getx (by omega)
      refine t_idx e_link (k := i) (by assumption) he19 B rfl rfl (by first | rfl | omega) ?_ rfl
      intro p19 hp19
      refine t_lda (by assumption) ab_link sb_link B rfl ?_ rfl
      intro v20 hv20
      obtain rfl := link_va hv20
      refine t_move rfl ?_ rfl
      refine t_move rfl ?_ rfl
      refine t_idx e_link (k := i) (by assumption) he19 B rfl rfl (by first | rfl | omega) ?_ rfl
      intro p23 hp23
      refine t_lda (by assumption) ab_link sb_link B rfl ?_ rfl
      intro v24 hv24
      obtain rfl := link_va hv24
      refine t_callx Try.call144 rfl (eqv_link _ _ _ _ (by first | assumption | exact VA.below (by assumption) B) (by first | assumption | exact VA.below (by assumption) B)) ?_ rfl rfl
      intro w20 x21
      have B := bx Hb B x21
      have S := S.below x21
      refine t_notb rfl ?_ rfl
      refine t_done' ?_
      refine x_seq ?_
      refine w_no rfl ?_
      refine w_skip ?_
      refine x_block_normal ?_
      refine x_seq ?_
      refine w_region ?_
      refine t_move rfl ?_ rfl
      refine t_add rfl rfl (by omega) ?_ rfl
      refine t_assign rfl ?_ rfl
      refine t_done ?_
      refine x_round (I := (fun i wq => i ≤ l.length ∧ Below w.heap.size w wq ∧ Sep w.heap.size wq [])) (F := (fun i => [(5, I ((i : Int))), (0, v), (1, u)])) (μ := (fun i => l.length - i)) (i + 1) ?_ (by exact ⟨rfl, rfl, rfl, trivial⟩) (by (try dsimp only); omega)
      try dsimp only
      exact ⟨by omega, B, S⟩
    · intro hge
      refine w_exit ?_
      refine x_then_exit ?_
      refine x_then_exit ?_
      refine x_block_exit ?_
      refine x_seq ?_
      refine w_seq ?_
      refine w_region ?_
      refine t_assign rfl ?_ rfl
      refine t_done ?_
      refine x_seq ?_
      refine w_ret ?_
      refine x_ret1 rfl rfl ?_
      exact ⟨rfl, ext_trans X0 B⟩
theorem eqv_asn (x : ASd) (v u : Value) (w : World) (h : VA asnT w v x) (h' : VA asnT w u x) :
    Calls Try.prog 143 #[v, u] w fun e w' => e = .returned (.bool true) ∧ Below w.heap.size w w' := by
  have X0 := Below.refl w.heap.size w
  refine enter Try.func143 rfl Try.ntmps143 rfl ?_
  refine w_seq ?_
  refine w_region ?_
  refine t_boxr (by assumption) rfl ?_ rfl rfl
  intro p2 w22 x23 hp2
  replace h := h.below x23
  replace h' := h'.below x23
  have X0 := ext_trans X0 x23
  refine t_boxr (by assumption) rfl ?_ rfl rfl
  intro p3 w24 x25 hp3
  replace h := h.below x25
  replace h' := h'.below x25
  replace hp2 := hp2.below x25
  have X0 := ext_trans X0 x25
  have S := Sep.nil w24
  have B := Below.refl w24.heap.size w24
  have Hb := Nat.le_refl w24.heap.size
  refine t_assign rfl ?_ rfl
  refine t_done ?_
  refine x_seq ?_
  refine w_seq ?_
  refine w_seq ?_
  refine w_region ?_
  refine t_fld ln_asn_0 (by assumption) fb_asn_0 rfl ?_ rfl
  intro p5 hp5
  refine t_ldi (by assumption) ab_int B rfl ?_ rfl
  refine t_fld ln_asn_0 (by assumption) fb_asn_0 rfl ?_ rfl
  intro p7 hp7
  refine t_ldi (by assumption) ab_int B rfl ?_ rfl
  refine t_neq rfl rfl ?_ rfl
  refine t_done ?_
  refine x_seq ?_
  refine w_if rfl (fun h => absurd rfl h) ?_
  intro _
  refine w_skip ?_
  refine x_seq ?_
  refine w_seq ?_
  refine w_seq ?_
  refine w_region ?_
  refine t_fld ln_asn_1 (by assumption) fb_asn_1 rfl ?_ rfl
  intro p10 hp10
  refine t_ldb (by assumption) ab_bool B rfl ?_ rfl
  refine t_fld ln_asn_1 (by assumption) fb_asn_1 rfl ?_ rfl
  intro p12 hp12
  refine t_ldb (by assumption) ab_bool B rfl ?_ rfl
  refine t_neqb Try.underlying4 rfl rfl ?_ rfl
  refine t_done ?_
  refine x_seq ?_
  refine w_if rfl (fun h => absurd rfl h) ?_
  intro _
  refine w_skip ?_
  refine x_seq ?_
  refine w_seq ?_
  refine w_seq ?_
  refine w_region ?_
  refine t_fld ln_asn_2 (by assumption) fb_asn_2 rfl ?_ rfl
  intro p15 hp15
  refine t_ldi (by assumption) ab_int B rfl ?_ rfl
  refine t_fld ln_asn_2 (by assumption) fb_asn_2 rfl ?_ rfl
  intro p17 hp17
  refine t_ldi (by assumption) ab_int B rfl ?_ rfl
  refine t_neq rfl rfl ?_ rfl
  refine t_done ?_
  refine x_seq ?_
  refine w_if rfl (fun h => absurd rfl h) ?_
  intro _
  refine w_skip ?_
  refine x_seq ?_
  refine w_seq ?_
  refine w_region ?_
  refine t_assign rfl ?_ rfl
  refine t_done ?_
  refine x_seq ?_
  refine w_ret ?_
  refine x_ret1 rfl rfl ?_
  exact ⟨rfl, ext_trans X0 B⟩
theorem eqv_asns (l : List ASd) (v u : Value) (w : World) (h : SlR asnT w v l) (h' : SlR asnT w u l) (hn : l.length ≤ 1152921504606846976) :
    Calls Try.prog 73 #[v, u] w fun e w' => e = .returned (.bool true) ∧ Below w.heap.size w w' := by
  have X0 := Below.refl w.heap.size w
  refine enter Try.func73 rfl Try.ntmps73 rfl ?_
  refine w_seq ?_
  refine w_region ?_
  have S := Sep.nil w
  have B := Below.refl w.heap.size w
  have Hb := Nat.le_refl w.heap.size
  refine t_assign rfl ?_ rfl
  refine t_done ?_
  refine x_seq ?_
  refine w_seq ?_
  refine w_seq ?_
  refine w_region ?_
  refine t_move rfl ?_ rfl
  refine t_len e_asn (by assumption) rfl rfl ?_ rfl
  refine t_move rfl ?_ rfl
  refine t_len e_asn (by assumption) rfl rfl ?_ rfl
  refine t_neq rfl rfl ?_ rfl
  refine t_done ?_
  refine x_seq ?_
  refine w_if rfl (fun h => absurd rfl h) ?_
  intro _
  refine w_skip ?_
  refine x_seq ?_
  refine w_seq ?_
  refine w_seq ?_
  refine w_region ?_
  refine t_assign rfl ?_ rfl
  refine t_done ?_
  refine x_seq ?_
  refine w_block ?_
  refine w_loop (X := Nat) (fun i wq => i ≤ l.length ∧ Below w.heap.size w wq ∧ Sep w.heap.size wq []) (fun i => [(5, I ((i : Int))), (0, v), (1, u)]) (fun i => l.length - i) (0) ?_ ⟨rfl, rfl, rfl, trivial⟩ ?_
  · exact ⟨by omega, B, S⟩
  · rintro i w26 hI
    try dsimp only at hI ⊢
    obtain ⟨hi, B, S⟩ := hI
    refine w_seq ?_
    refine w_seq ?_
    refine w_region ?_
    refine t_move rfl ?_ rfl
    refine t_move rfl ?_ rfl
    refine t_len e_asn (by assumption) rfl rfl ?_ rfl
    refine t_lss rfl rfl ?_ rfl
    refine t_done ?_
    refine x_seq ?_
    refine w_if rfl ?_ ?_
    · intro hlt
      refine w_skip ?_
      refine x_seq ?_
      refine w_seq ?_
      refine w_block ?_
      refine w_seq ?_
      refine w_draw (.st .take 0 (.st .take 1 (.st .take 2 (.st .take 3 (.st .take 4 (.st .take 5 (.st .take 6 (.st .take 7 (.st .run 8 (.st .take 9 .done)))))))))) mixed (by kernel_rfl) ?_
      intro w27 x28
      have B := bx Hb B x28
      have S := S.below x28
      refine t_move rfl ?_ rfl
      refine t_move rfl ?_ rfl
      obtain ⟨e19, he19⟩ : ∃ e, (l)[i]? = some e := getx (by omega)
      refine t_idx e_asn (k := i) (by assumption) he19 B rfl rfl (by first | rfl | omega) ?_ rfl
      intro p19 hp19
      refine t_lda (by assumption) ab_asn sb_asn B rfl ?_ rfl
      intro v20 hv20
      obtain rfl := asn_va hv20
      refine t_move rfl ?_ rfl
      refine t_move rfl ?_ rfl
      refine t_idx e_asn (k := i) (by assumption) he19 B rfl rfl (by first | rfl | omega) ?_ rfl
      intro p23 hp23
      refine t_lda (by assumption) ab_asn sb_asn B rfl ?_ rfl
      intro v24 hv24
      obtain rfl := asn_va hv24
      refine t_callx Try.call143 rfl (eqv_asn _ _ _ _ (by first | assumption | exact VA.below (by assumption) B) (by first | assumption | exact VA.below (by assumption) B)) ?_ rfl rfl
      intro w29 x30
      have B := bx Hb B x30
      have S := S.below x30
      refine t_notb rfl ?_ rfl
      refine t_done' ?_
      refine x_seq ?_
      refine w_no rfl ?_
      refine w_skip ?_
      refine x_block_normal ?_
      refine x_seq ?_
      refine w_region ?_
      refine t_move rfl ?_ rfl
      refine t_add rfl rfl (by omega) ?_ rfl
      refine t_assign rfl ?_ rfl
      refine t_done ?_
      refine x_round (I := (fun i wq => i ≤ l.length ∧ Below w.heap.size w wq ∧ Sep w.heap.size wq [])) (F := (fun i => [(5, I ((i : Int))), (0, v), (1, u)])) (μ := (fun i => l.length - i)) (i + 1) ?_ (by exact ⟨rfl, rfl, rfl, trivial⟩) (by (try dsimp only); omega)
      try dsimp only
      exact ⟨by omega, B, S⟩
    · intro hge
      refine w_exit ?_
      refine x_then_exit ?_
      refine x_then_exit ?_
      refine x_block_exit ?_
      refine x_seq ?_
      refine w_seq ?_
      refine w_region ?_
      refine t_assign rfl ?_ rfl
      refine t_done ?_
      refine x_seq ?_
      refine w_ret ?_
      refine x_ret1 rfl rfl ?_
      exact ⟨rfl, ext_trans X0 B⟩

def ok_part (x : Part) : Prop := x.hops.length ≤ 1152921504606846976
def ok_path (p : Path) : Prop := p.length ≤ 1152921504606846976 ∧ ∀ x ∈ p, ok_part x
def ok_seg (x : Seg) : Prop := x.hops.length ≤ 1152921504606846976
def ok_segs (l : List Seg) : Prop := l.length ≤ 1152921504606846976 ∧ ∀ x ∈ l, ok_seg x
def ok_paths (l : List Path) : Prop := l.length ≤ 1152921504606846976 ∧ ∀ x ∈ l, ok_path x
def ok_topo (t : Topo) : Prop := t.ases.length ≤ 1152921504606846976 ∧ t.links.length ≤ 1152921504606846976
def ok_pkt (p : Pkt) : Prop := ok_path p.path ∧ p.pay.length ≤ 1152921504606846976
def ok_vrd (p : Vrd) : Prop := ok_pkt p.pkt
def ok_sdb (d : Sdb) : Prop := ok_segs d.down ∧ ok_segs d.core
theorem ok_part_sz {x : Part} (h : sz_part x ≤ 1048576) : ok_part x := by unfold ok_part; unfold sz_part at h; omega
theorem sz_parts_mem {l : List Part} {x : Part} (h : x ∈ l) : l.length + sz_part x ≤ sz_parts l := by
  unfold sz_parts
  have := le_sum_of_mem (List.mem_map_of_mem (f := sz_part) h)
  omega
theorem ok_path_sz {p : Path} (h : sz_path p ≤ 1048576) : ok_path p := by
  have hl : p.length ≤ sz_path p := by show p.length ≤ p.length + _; omega
  exact ⟨by omega, fun x hx => ok_part_sz (by have := sz_parts_mem hx; unfold sz_path at h; omega)⟩
theorem ok_seg_sz {x : Seg} (h : sz_seg x ≤ 1048576) : ok_seg x := by unfold ok_seg; unfold sz_seg at h; omega

theorem eqv_part (x : Part) (v u : Value) (w : World) (h : VA partT w v x) (h' : VA partT w u x) (hn : ok_part x) :
    Calls Try.prog 145 #[v, u] w fun e w' => e = .returned (.bool true) ∧ Below w.heap.size w w' := by
  unfold ok_part at hn
  have X0 := Below.refl w.heap.size w
  refine enter Try.func145 rfl Try.ntmps145 rfl ?_
  refine w_seq ?_
  refine w_region ?_
  refine t_boxr (by assumption) rfl ?_ rfl rfl
  intro p2 w31 x32 hp2
  replace h := h.below x32
  replace h' := h'.below x32
  have X0 := ext_trans X0 x32
  refine t_boxr (by assumption) rfl ?_ rfl rfl
  intro p3 w33 x34 hp3
  replace h := h.below x34
  replace h' := h'.below x34
  replace hp2 := hp2.below x34
  have X0 := ext_trans X0 x34
  have S := Sep.nil w33
  have B := Below.refl w33.heap.size w33
  have Hb := Nat.le_refl w33.heap.size
  refine t_assign rfl ?_ rfl
  refine t_done ?_
  refine x_seq ?_
  refine w_seq ?_
  refine w_seq ?_
  refine w_region ?_
  refine t_fld ln_part_0 (by assumption) fb_part_0 rfl ?_ rfl
  intro p5 hp5
  refine t_ldi (by assumption) ab_int B rfl ?_ rfl
  refine t_fld ln_part_0 (by assumption) fb_part_0 rfl ?_ rfl
  intro p7 hp7
  refine t_ldi (by assumption) ab_int B rfl ?_ rfl
  refine t_neq rfl rfl ?_ rfl
  refine t_done ?_
  refine x_seq ?_
  refine w_if rfl (fun h => absurd rfl h) ?_
  intro _
  refine w_skip ?_
  refine x_seq ?_
  refine w_seq ?_
  refine w_seq ?_
  refine w_region ?_
  refine t_fld ln_part_1 (by assumption) fb_part_1 rfl ?_ rfl
  intro p10 hp10
  refine t_ldi (by assumption) ab_int B rfl ?_ rfl
  refine t_fld ln_part_1 (by assumption) fb_part_1 rfl ?_ rfl
  intro p12 hp12
  refine t_ldi (by assumption) ab_int B rfl ?_ rfl
  refine t_neq rfl rfl ?_ rfl
  refine t_done ?_
  refine x_seq ?_
  refine w_if rfl (fun h => absurd rfl h) ?_
  intro _
  refine w_skip ?_
  refine x_seq ?_
  refine w_seq ?_
  refine w_seq ?_
  refine w_region ?_
  refine t_fld ln_part_2 (by assumption) fb_part_2 rfl ?_ rfl
  intro p15 hp15
  refine t_ldi (by assumption) ab_int B rfl ?_ rfl
  refine t_fld ln_part_2 (by assumption) fb_part_2 rfl ?_ rfl
  intro p17 hp17
  refine t_ldi (by assumption) ab_int B rfl ?_ rfl
  refine t_neq rfl rfl ?_ rfl
  refine t_done ?_
  refine x_seq ?_
  refine w_if rfl (fun h => absurd rfl h) ?_
  intro _
  refine w_skip ?_
  refine x_seq ?_
  refine w_seq ?_
  refine w_seq ?_
  refine w_region ?_
  refine t_fld ln_part_3 (by assumption) fb_part_3 rfl ?_ rfl
  intro p20 hp20
  refine t_lds (by assumption) ab_s_hop B rfl ?_ rfl
  intro v21 hv21
  refine t_fld ln_part_3 (by assumption) fb_part_3 rfl ?_ rfl
  intro p22 hp22
  refine t_lds (by assumption) ab_s_hop B rfl ?_ rfl
  intro v23 hv23
  refine t_callx Try.call179 rfl (eqv_hops _ _ _ _ (by first | assumption | exact SlR.below (by assumption) B) (by first | assumption | exact SlR.below (by assumption) B) (by first | omega | (simp; omega))) ?_ rfl rfl
  intro w35 x36
  have B := bx Hb B x36
  have S := S.below x36
  refine t_notb rfl ?_ rfl
  refine t_done ?_
  refine x_seq ?_
  refine w_no rfl ?_
  refine w_skip ?_
  refine x_seq ?_
  refine w_seq ?_
  refine w_region ?_
  refine t_assign rfl ?_ rfl
  refine t_done ?_
  refine x_seq ?_
  refine w_ret ?_
  refine x_ret1 rfl rfl ?_
  exact ⟨rfl, ext_trans X0 B⟩
theorem eqv_parts (l : List Part) (v u : Value) (w : World) (h : SlR partT w v l) (h' : SlR partT w u l) (hn : l.length ≤ 1152921504606846976) (hok : ∀ x ∈ l, ok_part x) :
    Calls Try.prog 75 #[v, u] w fun e w' => e = .returned (.bool true) ∧ Below w.heap.size w w' := by
  have X0 := Below.refl w.heap.size w
  refine enter Try.func75 rfl Try.ntmps75 rfl ?_
  refine w_seq ?_
  refine w_region ?_
  have S := Sep.nil w
  have B := Below.refl w.heap.size w
  have Hb := Nat.le_refl w.heap.size
  refine t_assign rfl ?_ rfl
  refine t_done ?_
  refine x_seq ?_
  refine w_seq ?_
  refine w_seq ?_
  refine w_region ?_
  refine t_move rfl ?_ rfl
  refine t_len e_part (by assumption) rfl rfl ?_ rfl
  refine t_move rfl ?_ rfl
  refine t_len e_part (by assumption) rfl rfl ?_ rfl
  refine t_neq rfl rfl ?_ rfl
  refine t_done ?_
  refine x_seq ?_
  refine w_if rfl (fun h => absurd rfl h) ?_
  intro _
  refine w_skip ?_
  refine x_seq ?_
  refine w_seq ?_
  refine w_seq ?_
  refine w_region ?_
  refine t_assign rfl ?_ rfl
  refine t_done ?_
  refine x_seq ?_
  refine w_block ?_
  refine w_loop (X := Nat) (fun i wq => i ≤ l.length ∧ Below w.heap.size w wq ∧ Sep w.heap.size wq []) (fun i => [(5, I ((i : Int))), (0, v), (1, u)]) (fun i => l.length - i) (0) ?_ ⟨rfl, rfl, rfl, trivial⟩ ?_
  · exact ⟨by omega, B, S⟩
  · rintro i w37 hI
    try dsimp only at hI ⊢
    obtain ⟨hi, B, S⟩ := hI
    refine w_seq ?_
    refine w_seq ?_
    refine w_region ?_
    refine t_move rfl ?_ rfl
    refine t_move rfl ?_ rfl
    refine t_len e_part (by assumption) rfl rfl ?_ rfl
    refine t_lss rfl rfl ?_ rfl
    refine t_done ?_
    refine x_seq ?_
    refine w_if rfl ?_ ?_
    · intro hlt
      refine w_skip ?_
      refine x_seq ?_
      refine w_seq ?_
      refine w_block ?_
      refine w_seq ?_
      refine w_draw (.st .take 0 (.st .take 1 (.st .take 2 (.st .take 3 (.st .take 4 (.st .take 5 (.st .take 6 (.st .take 7 (.st .run 8 (.st .take 9 .done)))))))))) mixed (by kernel_rfl) ?_
      intro w38 x39
      have B := bx Hb B x39
      have S := S.below x39
      refine t_move rfl ?_ rfl
      refine t_move rfl ?_ rfl
      obtain ⟨e19, he19⟩ : ∃ e, (l)[i]? = some e := getx (by omega)
      refine t_idx e_part (k := i) (by assumption) he19 B rfl rfl (by first | rfl | omega) ?_ rfl
      intro p19 hp19
      refine t_lda (by assumption) ab_part sb_part B rfl ?_ rfl
      intro v20 hv20
      obtain ⟨v20_3, rfl, hv20_3⟩ := part_va hv20
      refine t_move rfl ?_ rfl
      refine t_move rfl ?_ rfl
      refine t_idx e_part (k := i) (by assumption) he19 B rfl rfl (by first | rfl | omega) ?_ rfl
      intro p23 hp23
      refine t_lda (by assumption) ab_part sb_part B rfl ?_ rfl
      intro v24 hv24
      obtain ⟨v24_3, rfl, hv24_3⟩ := part_va hv24
      refine t_callx Try.call145 rfl (eqv_part _ _ _ _ (by first | assumption | exact VA.below (by assumption) B) (by first | assumption | exact VA.below (by assumption) B) (hok _ (List.mem_of_getElem? (by assumption)))) ?_ rfl rfl
      intro w40 x41
      have B := bx Hb B x41
      have S := S.below x41
      refine t_notb rfl ?_ rfl
      refine t_done' ?_
      refine x_seq ?_
      refine w_no rfl ?_
      refine w_skip ?_
      refine x_block_normal ?_
      refine x_seq ?_
      refine w_region ?_
      refine t_move rfl ?_ rfl
      refine t_add rfl rfl (by omega) ?_ rfl
      refine t_assign rfl ?_ rfl
      refine t_done ?_
      refine x_round (I := (fun i wq => i ≤ l.length ∧ Below w.heap.size w wq ∧ Sep w.heap.size wq [])) (F := (fun i => [(5, I ((i : Int))), (0, v), (1, u)])) (μ := (fun i => l.length - i)) (i + 1) ?_ (by exact ⟨rfl, rfl, rfl, trivial⟩) (by (try dsimp only); omega)
      try dsimp only
      exact ⟨by omega, B, S⟩
    · intro hge
      refine w_exit ?_
      refine x_then_exit ?_
      refine x_then_exit ?_
      refine x_block_exit ?_
      refine x_seq ?_
      refine w_seq ?_
      refine w_region ?_
      refine t_assign rfl ?_ rfl
      refine t_done ?_
      refine x_seq ?_
      refine w_ret ?_
      refine x_ret1 rfl rfl ?_
      exact ⟨rfl, ext_trans X0 B⟩
theorem eqv_path (x : Path) (v u : Value) (w : World) (h : VA pathT w v x) (h' : VA pathT w u x) (hn : ok_path x) :
    Calls Try.prog 22 #[v, u] w fun e w' => e = .returned (.bool true) ∧ Below w.heap.size w w' := by
  obtain ⟨hn, hok⟩ := hn
  have X0 := Below.refl w.heap.size w
  refine enter Try.func22 rfl Try.ntmps22 rfl ?_
  refine w_seq ?_
  refine w_region ?_
  refine t_boxr (by assumption) rfl ?_ rfl rfl
  intro p2 w42 x43 hp2
  replace h := h.below x43
  replace h' := h'.below x43
  have X0 := ext_trans X0 x43
  refine t_boxr (by assumption) rfl ?_ rfl rfl
  intro p3 w44 x45 hp3
  replace h := h.below x45
  replace h' := h'.below x45
  replace hp2 := hp2.below x45
  have X0 := ext_trans X0 x45
  have S := Sep.nil w44
  have B := Below.refl w44.heap.size w44
  have Hb := Nat.le_refl w44.heap.size
  refine t_assign rfl ?_ rfl
  refine t_done ?_
  refine x_seq ?_
  refine w_seq ?_
  refine w_seq ?_
  refine w_region ?_
  refine t_fld ln_path_0 (by assumption) fb_path_0 rfl ?_ rfl
  intro p5 hp5
  refine t_lds (by assumption) ab_s_part B rfl ?_ rfl
  intro v6 hv6
  refine t_fld ln_path_0 (by assumption) fb_path_0 rfl ?_ rfl
  intro p7 hp7
  refine t_lds (by assumption) ab_s_part B rfl ?_ rfl
  intro v8 hv8
  refine t_callx Try.call75 rfl (eqv_parts _ _ _ _ (by first | assumption | exact SlR.below (by assumption) B) (by first | assumption | exact SlR.below (by assumption) B) (by first | omega | (simp; omega)) (by assumption)) ?_ rfl rfl
  intro w46 x47
  have B := bx Hb B x47
  have S := S.below x47
  refine t_notb rfl ?_ rfl
  refine t_done ?_
  refine x_seq ?_
  refine w_no rfl ?_
  refine w_skip ?_
  refine x_seq ?_
  refine w_seq ?_
  refine w_region ?_
  refine t_assign rfl ?_ rfl
  refine t_done ?_
  refine x_seq ?_
  refine w_ret ?_
  refine x_ret1 rfl rfl ?_
  exact ⟨rfl, ext_trans X0 B⟩

end Go.Proofs.Ytfgobdejlfojiaa
