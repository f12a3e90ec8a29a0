/- VerifyPath, of the program and of the reference. -/
import Derived.Test.YtfgobdejlfojiaaWkC
import Derived.Test.YtfgobdejlfojiaaEqs
namespace Go.Proofs.Ytfgobdejlfojiaa
open Go.RowKit
set_option linter.unusedVariables false
set_option maxRecDepth 20000

theorem hops_sz {p : Path} {k : Nat} {x : Part} (h : p[k]? = some x) : x.hops.length ≤ sz_path p := by
  have := sz_parts_mem (List.mem_of_getElem? h)
  unfold sz_part at this
  show x.hops.length ≤ sz_parts p
  omega
def verifyPath (t : Topo) (p : Path) : Bool := p.all (verifyPart t)
theorem allF_succ {α : Type} {f : α → Bool} {l : List α} {k : Nat} {x : α} (h : l[k]? = some x) (ha : (l.take k).all f = true) (hx : f x = true) : (l.take (k + 1)).all f = true := by
  rw [take_succ h, List.all_append, ha, List.all_cons, hx]; rfl
theorem allF_bad {α : Type} {f : α → Bool} {l : List α} {k : Nat} {x : α} (h : l[k]? = some x) (hx : f x = false) : l.all f = false := by
  rw [List.all_eq_false]; exact ⟨x, List.mem_of_getElem? h, by simp [hx]⟩
theorem allF_end {α : Type} {f : α → Bool} {l : List α} {k : Nat} (hk : l.length ≤ k) (ha : (l.take k).all f = true) : l.all f = true := by
  rwa [List.take_of_length_le hk] at ha

theorem impl_VerifyPath (t : Topo) (v : Value) (p : Path) (u : Value) (w : World) (h : VA topoT w v t) (hp : VA pathT w u p) (hz : sz_topo t ≤ 1048576) (hz' : sz_path p ≤ 1048576) : Calls Try.prog 82 #[v, u] w fun e w' => e = .returned (.bool (verifyPath t p)) ∧ Below w.heap.size w w' := by
  have hpl : List.length p ≤ sz_path p := by show List.length p ≤ List.length p + _; omega
  have X0 := Below.refl w.heap.size w
  refine enter Try.func82 rfl Try.ntmps82 rfl ?_
  refine w_seq ?_
  refine w_region ?_
  refine t_boxr (by assumption) rfl ?_ rfl rfl
  intro p2 w1 x2 hp2
  replace h := h.below x2
  replace hp := hp.below x2
  have X0 := ext_trans X0 x2
  refine t_boxr (by assumption) rfl ?_ rfl rfl
  intro p3 w3 x4 hp3
  replace h := h.below x4
  replace hp := hp.below x4
  replace hp2 := hp2.below x4
  have X0 := ext_trans X0 x4
  have S := Sep.nil w3
  have B := Below.refl w3.heap.size w3
  have Hb := Nat.le_refl w3.heap.size
  refine t_assign rfl ?_ rfl
  refine t_done ?_
  refine x_seq ?_
  refine w_seq ?_
  refine w_seq ?_
  refine w_region ?_
  refine t_fld ln_path_0 (by assumption) fb_path_0 rfl ?_ rfl
  intro p7 hp7
  refine t_lds (by assumption) ab_s_part B rfl ?_ rfl
  intro v8 hv8
  refine t_len e_part (by assumption) rfl rfl ?_ rfl
  refine t_move rfl ?_ rfl
  refine t_done ?_
  refine x_seq ?_
  refine w_block ?_
  refine w_loop (X := Nat) (fun k wq => k ≤ List.length p ∧ (p.take k).all (verifyPart t) = true ∧ Below w3.heap.size w3 wq ∧ Sep w3.heap.size wq []) (fun k => [(10, I ((k : Int))), (2, p2), (8, v8), (9, I ((p.length : Int)))]) (fun k => List.length p - k) (0) ?_ ⟨rfl, rfl, rfl, rfl, trivial⟩ ?_
  · exact ⟨by omega, rfl, B, S⟩
  · rintro k w5 hI
    try dsimp only at hI ⊢
    obtain ⟨hk, ha, B, S⟩ := hI
    refine w_seq ?_
    refine w_region ?_
    refine t_lss rfl rfl ?_ rfl
    refine t_done ?_
    refine x_seq ?_
    refine w_seq ?_
    refine w_if rfl ?_ ?_
    · intro hlt
      obtain ⟨e12, he12⟩ : ∃ e, p[k]? = some e := getx (by omega)
      have hhl := hops_sz he12
      refine w_skip ?_
      refine x_seq ?_
      refine w_seq ?_
      refine w_block ?_
      refine w_seq ?_
      refine w_region ?_
      refine t_idx e_part (k := k) (by assumption) he12 B rfl rfl (by first | rfl | omega) ?_ rfl
      intro p12 hp12
      refine t_lda (by assumption) ab_part sb_part B rfl ?_ rfl
      intro v13 hv13
      obtain ⟨v13_3, rfl, hv13_3⟩ := part_va hv13
      refine t_alloc S z_part rfl ?_ rfl rfl
      intro g6 w6 x7 S
      have B := bx Hb B x7
      refine t_stn S sb_part rfl rfl rfl rfl (by intro zz hu; have hu : zz ∈ ([I e12.kind, I e12.ts, I e12.beta, v13_3] : List Value) := hu; simp only [List.mem_cons, List.not_mem_nil, or_false] at hu; rcases hu with rfl | rfl | rfl | rfl <;> first | rfl | exact (SlR.cells (by first | assumption | exact S.tail.sl | exact S.tail.tail.sl | exact S.tail.tail.tail.sl | exact S.tail.tail.tail.tail.sl | exact S.tail.tail.tail.tail.tail.sl | exact S.tail.tail.tail.tail.tail.tail.sl | exact S.tail.tail.tail.tail.tail.tail.tail.sl | exact S.tail.tail.tail.tail.tail.tail.tail.tail.sl)).2) ?_
      intro w8 b9 S
      have B := B.trans b9
      refine t_done ?_
      refine x_seq ?_
      refine w_seq ?_
      refine w_region ?_
      refine t_lda (by assumption) ab_topo sb_topo B rfl ?_ rfl
      intro v14 hv14
      obtain ⟨v14_0, v14_1, rfl, hv14_0, hv14_1⟩ := topo_va hv14
      refine t_bxn S.box ab_part sb_part rfl rfl ?_ rfl
      refine t_callx Try.call148 rfl (impl_VerifyPart _ _ _ _ _ (by first | assumption | exact VA.below (by assumption) B) (by first | assumption | exact VA.below (by assumption) B) (by omega) (by omega)) ?_ rfl rfl
      intro w10 x11
      have B := bx Hb B x11
      have S := S.below x11
      refine t_notb rfl ?_ rfl
      refine t_done ?_
      refine x_seq ?_
      refine w_ifb rfl ?_ ?_
      · intro hv
        refine w_seq ?_
        refine w_region ?_
        refine t_assign rfl ?_ rfl
        refine t_done ?_
        refine x_seq ?_
        refine w_ret ?_
        refine x_block_ret ?_
        refine x_then_ret ?_
        refine x_then_ret ?_
        refine x_block_ret ?_
        refine x_then_ret ?_
        refine x_ret1 rfl rfl ?_
        exact ⟨ret_bool (allF_bad he12 (by simpa using hv)).symm, ext_trans X0 B⟩
      · intro hv
        refine w_skip ?_
        refine x_block_normal ?_
        refine x_seq ?_
        refine w_region ?_
        refine t_add rfl rfl (by omega) ?_ rfl
        refine t_move rfl ?_ rfl
        refine t_done ?_
        have S := S.tail
        refine x_round (I := (fun k wq => k ≤ List.length p ∧ (p.take k).all (verifyPart t) = true ∧ Below w3.heap.size w3 wq ∧ Sep w3.heap.size wq [])) (F := (fun k => [(10, I ((k : Int))), (2, p2), (8, v8), (9, I ((p.length : Int)))])) (μ := (fun k => List.length p - k)) (k + 1) ?_ (by exact ⟨rfl, rfl, rfl, rfl, trivial⟩) (by (try dsimp only); omega)
        try dsimp only
        exact ⟨by omega, allF_succ he12 ha (by simpa using hv), B, S⟩
    · intro hge
      refine w_exit ?_
      refine x_then_exit ?_
      refine x_then_exit ?_
      refine x_block_exit ?_
      refine x_seq ?_
      refine w_seq ?_
      refine w_region ?_
      refine t_assign rfl ?_ rfl
      refine t_done ?_
      refine x_seq ?_
      refine w_ret ?_
      refine x_ret1 rfl rfl ?_
      exact ⟨ret_bool (allF_end (by omega) ha).symm, ext_trans X0 B⟩
theorem spec_VerifyPath (t : Topo) (v : Value) (p : Path) (u : Value) (w : World) (h : VA topoT w v t) (hp : VA pathT w u p) (hz : sz_topo t ≤ 1048576) (hz' : sz_path p ≤ 1048576) : Calls Try.prog 80 #[v, u] w fun e w' => e = .returned (.bool (verifyPath t p)) ∧ Below w.heap.size w w' := by
  have hpl : List.length p ≤ sz_path p := by show List.length p ≤ List.length p + _; omega
  have X0 := Below.refl w.heap.size w
  refine enter Try.func80 rfl Try.ntmps80 rfl ?_
  refine w_seq ?_
  refine w_region ?_
  refine t_boxr (by assumption) rfl ?_ rfl rfl
  intro p2 w12 x13 hp2
  replace h := h.below x13
  replace hp := hp.below x13
  have X0 := ext_trans X0 x13
  refine t_boxr (by assumption) rfl ?_ rfl rfl
  intro p3 w14 x15 hp3
  replace h := h.below x15
  replace hp := hp.below x15
  replace hp2 := hp2.below x15
  have X0 := ext_trans X0 x15
  have S := Sep.nil w14
  have B := Below.refl w14.heap.size w14
  have Hb := Nat.le_refl w14.heap.size
  refine t_assign rfl ?_ rfl
  refine t_done ?_
  refine x_seq ?_
  refine w_seq ?_
  refine w_seq ?_
  refine w_region ?_
  refine t_assign rfl ?_ rfl
  refine t_done ?_
  refine x_seq ?_
  refine w_block ?_
  refine w_loop (X := Nat) (fun k wq => k ≤ List.length p ∧ (p.take k).all (verifyPart t) = true ∧ Below w14.heap.size w14 wq ∧ Sep w14.heap.size wq []) (fun k => [(5, I ((k : Int))), (2, p2), (3, p3)]) (fun k => List.length p - k) (0) ?_ ⟨rfl, rfl, rfl, trivial⟩ ?_
  · exact ⟨by omega, rfl, B, S⟩
  · rintro k w16 hI
    try dsimp only at hI ⊢
    obtain ⟨hk, ha, B, S⟩ := hI
    refine w_seq ?_
    refine w_seq ?_
    refine w_region ?_
    refine t_move rfl ?_ rfl
    refine t_fld ln_path_0 (by assumption) fb_path_0 rfl ?_ rfl
    intro p7 hp7
    refine t_lds (by assumption) ab_s_part B rfl ?_ rfl
    intro v8 hv8
    refine t_len e_part (by assumption) rfl rfl ?_ rfl
    refine t_lss rfl rfl ?_ rfl
    refine t_done ?_
    refine x_seq ?_
    refine w_if rfl ?_ ?_
    · intro hlt
      obtain ⟨e17, he17⟩ : ∃ e, p[k]? = some e := getx (by omega)
      have hhl := hops_sz he17
      refine w_skip ?_
      refine x_seq ?_
      refine w_seq ?_
      refine w_block ?_
      refine w_seq ?_
      refine w_draw (.st .take 0 (.st .take 1 (.st .take 2 (.st .take 3 (.st .take 4 (.st .take 5 (.st .run 6 (.st .take 7 .done)))))))) mixed (by kernel_rfl) ?_
      intro w17 x18
      have B := bx Hb B x18
      have S := S.below x18
      refine t_lda (by assumption) ab_topo sb_topo B rfl ?_ rfl
      intro v13 hv13
      obtain ⟨v13_0, v13_1, rfl, hv13_0, hv13_1⟩ := topo_va hv13
      refine t_fld ln_path_0 (by assumption) fb_path_0 rfl ?_ rfl
      intro p14 hp14
      refine t_lds (by assumption) ab_s_part B rfl ?_ rfl
      intro v15 hv15
      refine t_move rfl ?_ rfl
      refine t_idx e_part (k := k) (by assumption) he17 B rfl rfl (by first | rfl | omega) ?_ rfl
      intro p17 hp17
      refine t_lda (by assumption) ab_part sb_part B rfl ?_ rfl
      intro v18 hv18
      obtain ⟨v18_3, rfl, hv18_3⟩ := part_va hv18
      refine t_callx Try.call147 rfl (spec_VerifyPart _ _ _ _ _ (by first | assumption | exact VA.below (by assumption) B) (by first | assumption | exact VA.below (by assumption) B) (by omega) (by omega)) ?_ rfl rfl
      intro w19 x20
      have B := bx Hb B x20
      have S := S.below x20
      refine t_notb rfl ?_ rfl
      refine t_done' ?_
      refine x_seq ?_
      refine w_ifb rfl ?_ ?_
      · intro hv
        refine w_seq ?_
        refine w_region ?_
        refine t_assign rfl ?_ rfl
        refine t_done ?_
        refine x_seq ?_
        refine w_ret ?_
        refine x_block_ret ?_
        refine x_then_ret ?_
        refine x_then_ret ?_
        refine x_block_ret ?_
        refine x_then_ret ?_
        refine x_ret1 rfl rfl ?_
        exact ⟨ret_bool (allF_bad he17 (by simpa using hv)).symm, ext_trans X0 B⟩
      · intro hv
        refine w_skip ?_
        refine x_block_normal ?_
        refine x_seq ?_
        refine w_region ?_
        refine t_move rfl ?_ rfl
        refine t_add rfl rfl (by omega) ?_ rfl
        refine t_assign rfl ?_ rfl
        refine t_done ?_
        refine x_round (I := (fun k wq => k ≤ List.length p ∧ (p.take k).all (verifyPart t) = true ∧ Below w14.heap.size w14 wq ∧ Sep w14.heap.size wq [])) (F := (fun k => [(5, I ((k : Int))), (2, p2), (3, p3)])) (μ := (fun k => List.length p - k)) (k + 1) ?_ (by exact ⟨rfl, rfl, rfl, trivial⟩) (by (try dsimp only); omega)
        try dsimp only
        exact ⟨by omega, allF_succ he17 ha (by simpa using hv), B, S⟩
    · intro hge
      refine w_exit ?_
      refine x_then_exit ?_
      refine x_then_exit ?_
      refine x_block_exit ?_
      refine x_seq ?_
      refine w_seq ?_
      refine w_region ?_
      refine t_assign rfl ?_ rfl
      refine t_done ?_
      refine x_seq ?_
      refine w_ret ?_
      refine x_ret1 rfl rfl ?_
      exact ⟨ret_bool (allF_end (by omega) ha).symm, ext_trans X0 B⟩
end Go.Proofs.Ytfgobdejlfojiaa
