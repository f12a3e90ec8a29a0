/- WellFormedPath, SimplePath, PathUsable, of the program and of the reference. -/
import Derived.Test.YtfgobdejlfojiaaWkM
namespace Go.Proofs.Ytfgobdejlfojiaa
open Go.RowKit
set_option linter.unusedVariables false
set_option maxRecDepth 20000

theorem lastIa_eq {y : Part} {x : Hop} (h : y.hops[y.hops.length - 1]? = some x) : lastIa y = x.ia := by unfold lastIa; rw [h]
theorem firstIa_eq {y : Part} {x : Hop} (h : y.hops[0]? = some x) : firstIa y = x.ia := by unfold firstIa; rw [h]
theorem all_at {α : Type} {f : α → Bool} {l : List α} {k j : Nat} {x : α} (ha : (l.take k).all f = true) (hj : j < k) (hx : l[j]? = some x) : f x = true := by
  rw [List.all_eq_true] at ha
  exact ha x (List.mem_of_getElem? (i := j) (by rw [List.getElem?_take_of_lt hj]; exact hx))
theorem impl_placeOf (k : Int) (w : World) : Calls Try.prog 72 #[I k] w fun e w' => e = .returned (I (place k)) ∧ w = w' := by
  have X0 := Below.refl w.heap.size w
  refine enter Try.func72 rfl Try.ntmps72 rfl ?_
  refine w_seq ?_
  refine w_region ?_
  have S := Sep.nil w
  have B := Below.refl w.heap.size w
  have Hb := Nat.le_refl w.heap.size
  refine t_assign rfl ?_ rfl
  refine t_done ?_
  refine x_seq ?_
  refine w_seq ?_
  refine w_seq ?_
  refine w_region ?_
  refine t_move rfl ?_ rfl
  refine t_done ?_
  refine x_seq ?_
  refine w_block ?_
  refine w_seq ?_
  refine w_region ?_
  refine t_eql rfl rfl ?_ rfl
  refine t_assign rfl ?_ rfl
  refine t_done ?_
  refine x_seq ?_
  refine w_if rfl ?_ ?_
  · intro h1
    refine w_seq ?_
    refine w_region ?_
    refine t_assign rfl ?_ rfl
    refine t_done ?_
    refine x_seq ?_
    refine w_ret ?_
    refine x_block_ret ?_
    refine x_then_ret ?_
    refine x_ret1 rfl rfl ?_
    exact ⟨ret_int (by simp [place, h1]), rfl⟩
  · intro h1
    refine w_seq ?_
    refine w_seq ?_
    refine w_region ?_
    refine t_eql rfl rfl ?_ rfl
    refine t_assign rfl ?_ rfl
    refine t_done ?_
    refine x_seq ?_
    refine w_if rfl ?_ ?_
    · intro h2
      refine w_skip ?_
      refine x_seq ?_
      refine w_if rfl ?_ (fun h => (by exact absurd h2 h))
      intro hc6
      refine w_seq ?_
      refine w_region ?_
      refine t_assign rfl ?_ rfl
      refine t_done ?_
      refine x_seq ?_
      refine w_ret ?_
      refine x_block_ret ?_
      refine x_then_ret ?_
      refine x_ret1 rfl rfl ?_
      exact ⟨ret_int (by simp [place, h2]), rfl⟩
    · intro h2
      refine w_region ?_
      refine t_eql rfl rfl ?_ rfl
      refine t_assign rfl ?_ rfl
      refine t_done ?_
      refine x_seq ?_
      refine w_if rfl ?_ ?_
      · intro h3
        refine w_seq ?_
        refine w_region ?_
        refine t_assign rfl ?_ rfl
        refine t_done ?_
        refine x_seq ?_
        refine w_ret ?_
        refine x_block_ret ?_
        refine x_then_ret ?_
        refine x_ret1 rfl rfl ?_
        exact ⟨ret_int (by simp [place, h3]), rfl⟩
      · intro h3
        refine w_skip ?_
        refine x_block_normal ?_
        refine x_seq ?_
        refine w_seq ?_
        refine w_region ?_
        refine t_assign rfl ?_ rfl
        refine t_done ?_
        refine x_seq ?_
        refine w_ret ?_
        refine x_ret1 rfl rfl ?_
        exact ⟨ret_int (by simp [place, h1, h2, h3]), rfl⟩
theorem spec_l22Rank (k : Int) (w : World) : Calls Try.prog 66 #[I k] w fun e w' => e = .returned (I (place k)) ∧ w = w' := by
  have X0 := Below.refl w.heap.size w
  refine enter Try.func66 rfl Try.ntmps66 rfl ?_
  refine w_seq ?_
  refine w_region ?_
  have S := Sep.nil w
  have B := Below.refl w.heap.size w
  have Hb := Nat.le_refl w.heap.size
  refine t_assign rfl ?_ rfl
  refine t_done ?_
  refine x_seq ?_
  refine w_seq ?_
  refine w_seq ?_
  refine w_region ?_
  refine t_move rfl ?_ rfl
  refine t_done ?_
  refine x_seq ?_
  refine w_block ?_
  refine w_seq ?_
  refine w_region ?_
  refine t_eql rfl rfl ?_ rfl
  refine t_assign rfl ?_ rfl
  refine t_done ?_
  refine x_seq ?_
  refine w_if rfl ?_ ?_
  · intro h1
    refine w_seq ?_
    refine w_region ?_
    refine t_assign rfl ?_ rfl
    refine t_done ?_
    refine x_seq ?_
    refine w_ret ?_
    refine x_block_ret ?_
    refine x_then_ret ?_
    refine x_ret1 rfl rfl ?_
    exact ⟨ret_int (by simp [place, h1]), rfl⟩
  · intro h1
    refine w_seq ?_
    refine w_seq ?_
    refine w_region ?_
    refine t_eql rfl rfl ?_ rfl
    refine t_assign rfl ?_ rfl
    refine t_done ?_
    refine x_seq ?_
    refine w_if rfl ?_ ?_
    · intro h2
      refine w_skip ?_
      refine x_seq ?_
      refine w_if rfl ?_ (fun h => (by exact absurd h2 h))
      intro hc6
      refine w_seq ?_
      refine w_region ?_
      refine t_assign rfl ?_ rfl
      refine t_done ?_
      refine x_seq ?_
      refine w_ret ?_
      refine x_block_ret ?_
      refine x_then_ret ?_
      refine x_ret1 rfl rfl ?_
      exact ⟨ret_int (by simp [place, h2]), rfl⟩
    · intro h2
      refine w_region ?_
      refine t_eql rfl rfl ?_ rfl
      refine t_assign rfl ?_ rfl
      refine t_done ?_
      refine x_seq ?_
      refine w_if rfl ?_ ?_
      · intro h3
        refine w_seq ?_
        refine w_region ?_
        refine t_assign rfl ?_ rfl
        refine t_done ?_
        refine x_seq ?_
        refine w_ret ?_
        refine x_block_ret ?_
        refine x_then_ret ?_
        refine x_ret1 rfl rfl ?_
        exact ⟨ret_int (by simp [place, h3]), rfl⟩
      · intro h3
        refine w_skip ?_
        refine x_block_normal ?_
        refine x_seq ?_
        refine w_seq ?_
        refine w_region ?_
        refine t_assign rfl ?_ rfl
        refine t_done ?_
        refine x_seq ?_
        refine w_ret ?_
        refine x_ret1 rfl rfl ?_
        exact ⟨ret_int (by simp [place, h1, h2, h3]), rfl⟩
theorem impl_WellFormedPath (t : Topo) (v : Value) (p : Path) (u : Value) (w : World) (h : VA topoT w v t) (hp : VA pathT w u p) (hz : sz_topo t ≤ 1048576) (hz' : sz_path p ≤ 1048576) : Calls Try.prog 20 #[v, u] w fun e w' => e = .returned (.bool (wellFormed t p)) ∧ Below w.heap.size w w' := by
  have hpl : List.length p ≤ sz_path p := by show List.length p ≤ List.length p + _; omega
  have X0 := Below.refl w.heap.size w
  refine enter Try.func20 rfl Try.ntmps20 rfl ?_
  refine w_seq ?_
  refine w_region ?_
  refine t_boxr (by assumption) rfl ?_ rfl rfl
  intro p2 w1 x2 hp2
  replace h := h.below x2
  replace hp := hp.below x2
  have X0 := ext_trans X0 x2
  refine t_boxr (by assumption) rfl ?_ rfl rfl
  intro p3 w3 x4 hp3
  replace h := h.below x4
  replace hp := hp.below x4
  replace hp2 := hp2.below x4
  have X0 := ext_trans X0 x4
  have S := Sep.nil w3
  have B := Below.refl w3.heap.size w3
  have Hb := Nat.le_refl w3.heap.size
  refine t_assign rfl ?_ rfl
  refine t_done ?_
  refine x_seq ?_
  refine w_seq ?_
  refine w_seq ?_
  refine w_region ?_
  refine t_fld ln_path_0 (by assumption) fb_path_0 rfl ?_ rfl
  intro p8 hp8
  refine t_lds (by assumption) ab_s_part B rfl ?_ rfl
  intro v9 hv9
  refine t_len e_part (by assumption) rfl rfl ?_ rfl
  refine t_calls Try.call70 rfl (impl_InRange _ _ _ _) ?_ rfl rfl
  refine t_notb rfl ?_ rfl
  refine t_done ?_
  refine x_seq ?_
  refine w_ifb rfl ?_ ?_
  · intro h1
    refine w_seq ?_
    refine w_region ?_
    refine t_assign rfl ?_ rfl
    refine t_done ?_
    refine x_seq ?_
    refine w_ret ?_
    refine x_then_ret ?_
    refine x_ret1 rfl rfl ?_
    exact ⟨ret_bool (by simp at h1; simp [wellFormed, h1]), ext_trans X0 B⟩
  intro h1
  have h1' : inR (List.length p) 1 3 = true := by simpa using h1
  refine w_skip ?_
  refine x_seq ?_
  refine w_seq ?_
  refine w_seq ?_
  refine w_region ?_
  refine t_fld ln_path_0 (by assumption) fb_path_0 rfl ?_ rfl
  intro p13 hp13
  refine t_lds (by assumption) ab_s_part B rfl ?_ rfl
  intro v14 hv14
  refine t_len e_part (by assumption) rfl rfl ?_ rfl
  refine t_move rfl ?_ rfl
  refine t_done ?_
  refine x_seq ?_
  refine w_block ?_
  refine w_loop (X := Nat) (fun k wq => k ≤ List.length p ∧ (p.take k).all (validPart t) = true ∧ (∀ j, j < k - 1 → joinOk p j = true) ∧ Below w3.heap.size w3 wq ∧ Sep w3.heap.size wq []) (fun k => [(16, I ((k : Int))), (2, p2), (3, p3), (14, v14), (15, I ((p.length : Int)))]) (fun k => List.length p - k) (0) ?_ ⟨rfl, rfl, rfl, rfl, rfl, trivial⟩ ?_
  · exact ⟨by omega, rfl, by omega, B, S⟩
  · rintro k w5 hI
    try dsimp only at hI ⊢
    obtain ⟨hk, ha, hb, B, S⟩ := hI
    refine w_seq ?_
    refine w_region ?_
    refine t_lss rfl rfl ?_ rfl
    refine t_done ?_
    refine x_seq ?_
    refine w_seq ?_
    refine w_if rfl ?_ ?_
    · intro hlt
      obtain ⟨e19, he19⟩ : ∃ e, p[k]? = some e := getx (by omega)
      have hhl := hops_sz he19
      refine w_skip ?_
      refine x_seq ?_
      refine w_seq ?_
      refine w_block ?_
      refine w_seq ?_
      refine w_region ?_
      refine t_move rfl ?_ rfl
      refine t_idx e_part (k := k) (by assumption) he19 B rfl rfl (by first | rfl | omega) ?_ rfl
      intro p19 hp19
      refine t_lda (by assumption) ab_part sb_part B rfl ?_ rfl
      intro v20 hv20
      obtain ⟨v20_3, rfl, hv20_3⟩ := part_va hv20
      refine t_alloc S z_part rfl ?_ rfl rfl
      intro g6 w6 x7 S
      have B := bx Hb B x7
      refine t_assign rfl ?_ rfl
      refine t_stn S sb_part rfl rfl rfl rfl (by intro zz hu; have hu : zz ∈ ([I e19.kind, I e19.ts, I e19.beta, v20_3] : List Value) := hu; simp only [List.mem_cons, List.not_mem_nil, or_false] at hu; rcases hu with rfl | rfl | rfl | rfl <;> first | rfl | exact (SlR.cells (by first | assumption | exact S.tail.sl | exact S.tail.tail.sl | exact S.tail.tail.tail.sl | exact S.tail.tail.tail.tail.sl | exact S.tail.tail.tail.tail.tail.sl | exact S.tail.tail.tail.tail.tail.tail.sl | exact S.tail.tail.tail.tail.tail.tail.tail.sl | exact S.tail.tail.tail.tail.tail.tail.tail.tail.sl)).2) ?_
      intro w8 b9 S
      have B := B.trans b9
      refine t_done ?_
      refine x_seq ?_
      refine w_seq ?_
      refine w_seq ?_
      refine w_region ?_
      refine t_lda (by assumption) ab_topo sb_topo B rfl ?_ rfl
      intro v21 hv21
      obtain ⟨v21_0, v21_1, rfl, hv21_0, hv21_1⟩ := topo_va hv21
      refine t_bxn S.box ab_part sb_part rfl rfl ?_ rfl
      refine t_callx Try.call71 rfl (impl_ValidPart _ _ _ _ _ (by first | assumption | exact VA.below (by assumption) B) (by first | assumption | exact VA.below (by assumption) B) (by omega) (by omega)) ?_ rfl rfl
      intro w10 x11
      have B := bx Hb B x11
      have S := S.below x11
      refine t_notb rfl ?_ rfl
      refine t_done ?_
      refine x_seq ?_
      refine w_ifb rfl ?_ ?_
      · intro h2
        refine w_seq ?_
        refine w_region ?_
        refine t_assign rfl ?_ rfl
        refine t_done ?_
        refine x_seq ?_
        refine w_ret ?_
        refine x_then_ret ?_
        refine x_block_ret ?_
        refine x_then_ret ?_
        refine x_then_ret ?_
        refine x_block_ret ?_
        refine x_then_ret ?_
        refine x_ret1 rfl rfl ?_
        exact ⟨ret_bool (by rw [wellFormed, allF_bad he19 (by simpa using h2)]; simp), ext_trans X0 B⟩
      intro h2
      have h2' : validPart t e19 = true := by simpa using h2
      have ha2 := allF_succ he19 ha h2'
      have hl2 := valid_len h2'
      refine w_skip ?_
      refine x_seq ?_
      refine w_seq ?_
      refine w_region ?_
      refine t_move rfl ?_ rfl
      refine t_gtr rfl rfl ?_ rfl
      refine t_done ?_
      refine x_seq ?_
      refine w_if rfl ?_ ?_
      · intro h3
        have hk3 : k - 1 + 1 = k := by omega
        have hlt3 : k - 1 < List.length p - 1 := by omega
        obtain ⟨e31, he31⟩ : ∃ e, p[k - 1]? = some e := getx (by omega)
        have hl3 := valid_len (all_at ha (by omega) he31)
        have hhl3 := hops_sz he31
        have hJ := joinOk_eq he31 (by rw [hk3]; exact he19)
        obtain ⟨e47, he47⟩ : ∃ e, e31.hops[e31.hops.length - 1]? = some e := getx (by omega)
        obtain ⟨e52, he52⟩ : ∃ e, e19.hops[0]? = some e := getx (by omega)
        rw [lastIa_eq he47, firstIa_eq he52] at hJ
        refine w_seq ?_
        refine w_region ?_
        refine t_fld ln_path_0 (by assumption) fb_path_0 rfl ?_ rfl
        intro p27 hp27
        refine t_lds (by assumption) ab_s_part B rfl ?_ rfl
        intro v28 hv28
        refine t_move rfl ?_ rfl
        refine t_sub rfl rfl (by omega) ?_ rfl
        refine t_idx e_part (k := (k - 1)) (by assumption) he31 B rfl rfl (by first | rfl | omega) ?_ rfl
        intro p31 hp31
        refine t_lda (by assumption) ab_part sb_part B rfl ?_ rfl
        intro v32 hv32
        obtain ⟨v32_3, rfl, hv32_3⟩ := part_va hv32
        refine t_alloc S z_part rfl ?_ rfl rfl
        intro g7 w12 x13 S
        have B := bx Hb B x13
        refine t_stn S sb_part rfl rfl rfl rfl (by intro zz hu; have hu : zz ∈ ([I e31.kind, I e31.ts, I e31.beta, v32_3] : List Value) := hu; simp only [List.mem_cons, List.not_mem_nil, or_false] at hu; rcases hu with rfl | rfl | rfl | rfl <;> first | rfl | exact (SlR.cells (by first | assumption | exact S.tail.sl | exact S.tail.tail.sl | exact S.tail.tail.tail.sl | exact S.tail.tail.tail.tail.sl | exact S.tail.tail.tail.tail.tail.sl | exact S.tail.tail.tail.tail.tail.tail.sl | exact S.tail.tail.tail.tail.tail.tail.tail.sl | exact S.tail.tail.tail.tail.tail.tail.tail.tail.sl)).2) ?_
        intro w14 b15 S
        have B := B.trans b15
        refine t_done ?_
        refine x_seq ?_
        refine w_seq ?_
        refine w_draw (.st .take 0 (.st .take 1 (.st .take 3 (.st .take 4 (.st .run 2 (.st .run 5 (.st .take 6 (.st .take 7 (.st .take 8 (.st .take 9 (.st .take 10 (.st .take 11 (.st .take 12 (.st .take 13 (.st .take 14 (.st .take 15 (.st .take 16 (.st .take 17 (.st .take 18 (.st .take 19 (.st .take 20 (.st .take 21 (.st .take 22 (.st .take 23 .done)))))))))))))))))))))))) mixed (by kernel_rfl) ?_
        intro w16 x17
        have B := bx Hb B x17
        have S := S.below x17
        refine t_fldx fb_part_0 rfl rfl ?_ rfl
        refine t_bx1 S.box ab_int rfl rfl ?_ rfl
        refine t_fldx fb_part_0 rfl rfl ?_ rfl
        refine t_bx1 S.tail.box ab_int rfl rfl ?_ rfl
        refine t_calls Try.call72 rfl (impl_placeOf _ _) ?_ rfl rfl
        refine t_calls Try.call72 rfl (impl_placeOf _ _) ?_ rfl rfl
        refine t_geq rfl rfl ?_ rfl
        refine t_move rfl ?_ rfl
        refine t_partp (t := 40) rfl ?_ ?_
        · intro h4
          refine t_off rfl rfl rfl ?_ rfl
          refine t_off rfl rfl rfl ?_ rfl
          refine t_off rfl rfl rfl ?_ rfl
          refine t_off rfl rfl rfl ?_ rfl
          refine t_off rfl rfl rfl ?_ rfl
          refine t_off rfl rfl rfl ?_ rfl
          refine t_off rfl rfl rfl ?_ rfl
          refine t_off rfl rfl rfl ?_ rfl
          refine t_off rfl rfl rfl ?_ rfl
          refine t_off rfl rfl rfl ?_ rfl
          refine t_off rfl rfl rfl ?_ rfl
          refine t_off rfl rfl rfl ?_ rfl
          refine t_off rfl rfl rfl ?_ rfl
          refine t_off rfl rfl rfl ?_ rfl
          refine t_off rfl rfl rfl ?_ rfl
          refine t_pickt rfl rfl ?_ rfl
          refine t_done' ?_
          refine x_seq ?_
          refine w_yes rfl ?_
          refine w_seq ?_
          refine w_region ?_
          refine t_assign rfl ?_ rfl
          refine t_done ?_
          refine x_seq ?_
          refine w_ret ?_
          refine x_block_ret ?_
          refine x_then_ret ?_
          refine x_then_ret ?_
          refine x_block_ret ?_
          refine x_then_ret ?_
          refine x_ret1 rfl rfl ?_
          exact ⟨ret_bool (by rw [wellFormed, all_no hlt3 (by rw [hJ, decide_eq_false (by omega)]; rfl)]; simp), ext_trans X0 B⟩
        intro h4
        refine t_on rfl rfl ?_
        refine t_fldx fb_part_3 rfl rfl ?_ rfl
        refine t_on rfl rfl ?_
        refine t_bx1 S.box ab_s_hop rfl rfl ?_ rfl
        refine t_on rfl rfl ?_
        refine t_fldx fb_part_3 rfl rfl ?_ rfl
        refine t_on rfl rfl ?_
        refine t_bx1 S.box ab_s_hop rfl rfl ?_ rfl
        refine t_on rfl rfl ?_
        refine t_len e_hop (by assumption) rfl rfl ?_ rfl
        refine t_on rfl rfl ?_
        refine t_sub rfl rfl (by omega) ?_ rfl
        refine t_on rfl rfl ?_
        refine t_idx e_hop (k := (e31.hops.length - 1)) (by assumption) he47 B rfl rfl (by first | rfl | omega) ?_ rfl
        intro p47 hp47
        refine t_on rfl rfl ?_
        refine t_fld ln_hop_0 (by assumption) fb_hop_0 rfl ?_ rfl
        intro p48 hp48
        refine t_on rfl rfl ?_
        refine t_ldi (by assumption) ab_int B rfl ?_ rfl
        refine t_on rfl rfl ?_
        refine t_fldx fb_part_3 rfl rfl ?_ rfl
        refine t_on rfl rfl ?_
        refine t_bx1 S.tail.box ab_s_hop rfl rfl ?_ rfl
        refine t_on rfl rfl ?_
        refine t_idx e_hop (k := 0) (by assumption) he52 B rfl rfl (by first | rfl | omega) ?_ rfl
        intro p52 hp52
        refine t_on rfl rfl ?_
        refine t_fld ln_hop_0 (by assumption) fb_hop_0 rfl ?_ rfl
        intro p53 hp53
        refine t_on rfl rfl ?_
        refine t_ldi (by assumption) ab_int B rfl ?_ rfl
        refine t_on rfl rfl ?_
        refine t_neq rfl rfl ?_ rfl
        refine t_pickf rfl rfl ?_ rfl
        refine t_done' ?_
        refine x_seq ?_
        refine w_if rfl ?_ ?_
        · intro h5
          refine w_seq ?_
          refine w_region ?_
          refine t_assign rfl ?_ rfl
          refine t_done ?_
          refine x_seq ?_
          refine w_ret ?_
          refine x_block_ret ?_
          refine x_then_ret ?_
          refine x_then_ret ?_
          refine x_block_ret ?_
          refine x_then_ret ?_
          refine x_ret1 rfl rfl ?_
          exact ⟨ret_bool (by rw [wellFormed, all_no hlt3 (by rw [hJ, decide_eq_false h5]; simp)]; simp), ext_trans X0 B⟩
        intro h5
        refine w_skip ?_
        refine x_block_normal ?_
        refine x_seq ?_
        refine w_region ?_
        refine t_add rfl rfl (by omega) ?_ rfl
        refine t_move rfl ?_ rfl
        refine t_done ?_
        have S := S.tail
        have S := S.tail
        refine x_round (I := (fun k wq => k ≤ List.length p ∧ (p.take k).all (validPart t) = true ∧ (∀ j, j < k - 1 → joinOk p j = true) ∧ Below w3.heap.size w3 wq ∧ Sep w3.heap.size wq [])) (F := (fun k => [(16, I ((k : Int))), (2, p2), (3, p3), (14, v14), (15, I ((p.length : Int)))])) (μ := (fun k => List.length p - k)) (k + 1) ?_ (by exact ⟨rfl, rfl, rfl, rfl, rfl, trivial⟩) (by (try dsimp only); omega)
        try dsimp only
        refine ⟨by omega, ha2, fun j hj => ?_, B, S⟩
        refine upto_succ (k := k - 1) hb ?_ j (by omega)
        rw [hJ, decide_eq_true (by omega), decide_eq_true (by omega)]
        rfl
      · intro h3
        refine w_skip ?_
        refine x_block_normal ?_
        refine x_seq ?_
        refine w_region ?_
        refine t_add rfl rfl (by omega) ?_ rfl
        refine t_move rfl ?_ rfl
        refine t_done ?_
        have S := S.tail
        refine x_round (I := (fun k wq => k ≤ List.length p ∧ (p.take k).all (validPart t) = true ∧ (∀ j, j < k - 1 → joinOk p j = true) ∧ Below w3.heap.size w3 wq ∧ Sep w3.heap.size wq [])) (F := (fun k => [(16, I ((k : Int))), (2, p2), (3, p3), (14, v14), (15, I ((p.length : Int)))])) (μ := (fun k => List.length p - k)) (k + 1) ?_ (by exact ⟨rfl, rfl, rfl, rfl, rfl, trivial⟩) (by (try dsimp only); omega)
        try dsimp only
        exact ⟨by omega, ha2, fun j hj => by omega, B, S⟩
    · intro hge
      refine w_exit ?_
      refine x_then_exit ?_
      refine x_then_exit ?_
      refine x_block_exit ?_
      refine x_seq ?_
      refine w_seq ?_
      refine w_region ?_
      refine t_assign rfl ?_ rfl
      refine t_done ?_
      refine x_seq ?_
      refine w_ret ?_
      refine x_ret1 rfl rfl ?_
      exact ⟨ret_bool (by rw [wellFormed, h1', allF_end (by omega) ha, all_ok fun j hj => hb j (by omega)]; rfl), ext_trans X0 B⟩
theorem spec_WellFormedPath (t : Topo) (v : Value) (p : Path) (u : Value) (w : World) (h : VA topoT w v t) (hp : VA pathT w u p) (hz : sz_topo t ≤ 1048576) (hz' : sz_path p ≤ 1048576) : Calls Try.prog 17 #[v, u] w fun e w' => e = .returned (.bool (wellFormed t p)) ∧ Below w.heap.size w w' := by
  have hpl : List.length p ≤ sz_path p := by show List.length p ≤ List.length p + _; omega
  have X0 := Below.refl w.heap.size w
  refine enter Try.func17 rfl Try.ntmps17 rfl ?_
  refine w_seq ?_
  refine w_region ?_
  refine t_boxr (by assumption) rfl ?_ rfl rfl
  intro p2 w18 x19 hp2
  replace h := h.below x19
  replace hp := hp.below x19
  have X0 := ext_trans X0 x19
  refine t_boxr (by assumption) rfl ?_ rfl rfl
  intro p3 w20 x21 hp3
  replace h := h.below x21
  replace hp := hp.below x21
  replace hp2 := hp2.below x21
  have X0 := ext_trans X0 x21
  have S := Sep.nil w20
  have B := Below.refl w20.heap.size w20
  have Hb := Nat.le_refl w20.heap.size
  refine t_assign rfl ?_ rfl
  refine t_done ?_
  refine x_seq ?_
  refine w_seq ?_
  refine w_seq ?_
  refine w_region ?_
  refine t_fld ln_path_0 (by assumption) fb_path_0 rfl ?_ rfl
  intro p7 hp7
  refine t_lds (by assumption) ab_s_part B rfl ?_ rfl
  intro v8 hv8
  refine t_len e_part (by assumption) rfl rfl ?_ rfl
  refine t_calls Try.call64 rfl (spec_l1In _ _ _ _) ?_ rfl rfl
  refine t_notb rfl ?_ rfl
  refine t_done ?_
  refine x_seq ?_
  refine w_ifb rfl ?_ ?_
  · intro h1
    refine w_seq ?_
    refine w_region ?_
    refine t_assign rfl ?_ rfl
    refine t_done ?_
    refine x_seq ?_
    refine w_ret ?_
    refine x_then_ret ?_
    refine x_ret1 rfl rfl ?_
    exact ⟨ret_bool (by simp at h1; simp [wellFormed, h1]), ext_trans X0 B⟩
  intro h1
  have h1' : inR (List.length p) 1 3 = true := by simpa using h1
  refine w_skip ?_
  refine x_seq ?_
  refine w_seq ?_
  refine w_seq ?_
  refine w_region ?_
  refine t_assign rfl ?_ rfl
  refine t_done ?_
  refine x_seq ?_
  refine w_block ?_
  refine w_loop (X := Nat) (fun k wq => k ≤ List.length p ∧ (p.take k).all (validPart t) = true ∧ (∀ j, j < k - 1 → joinOk p j = true) ∧ Below w20.heap.size w20 wq ∧ Sep w20.heap.size wq []) (fun k => [(5, I ((k : Int))), (2, p2), (3, p3)]) (fun k => List.length p - k) (0) ?_ ⟨rfl, rfl, rfl, trivial⟩ ?_
  · exact ⟨by omega, rfl, by omega, B, S⟩
  · rintro k w22 hI
    try dsimp only at hI ⊢
    obtain ⟨hk, ha, hb, B, S⟩ := hI
    refine w_seq ?_
    refine w_seq ?_
    refine w_region ?_
    refine t_move rfl ?_ rfl
    refine t_fld ln_path_0 (by assumption) fb_path_0 rfl ?_ rfl
    intro p13 hp13
    refine t_lds (by assumption) ab_s_part B rfl ?_ rfl
    intro v14 hv14
    refine t_len e_part (by assumption) rfl rfl ?_ rfl
    refine t_lss rfl rfl ?_ rfl
    refine t_done ?_
    refine x_seq ?_
    refine w_if rfl ?_ ?_
    · intro hlt
      obtain ⟨e23, he23⟩ : ∃ e, p[k]? = some e := getx (by omega)
      have hhl := hops_sz he23
      refine w_skip ?_
      refine x_seq ?_
      refine w_seq ?_
      refine w_block ?_
      refine w_seq ?_
      refine w_seq ?_
      refine w_draw (.st .take 0 (.st .take 1 (.st .take 2 (.st .take 3 (.st .take 4 (.st .take 5 (.st .run 6 (.st .take 7 .done)))))))) mixed (by kernel_rfl) ?_
      intro w23 x24
      have B := bx Hb B x24
      have S := S.below x24
      refine t_lda (by assumption) ab_topo sb_topo B rfl ?_ rfl
      intro v19 hv19
      obtain ⟨v19_0, v19_1, rfl, hv19_0, hv19_1⟩ := topo_va hv19
      refine t_fld ln_path_0 (by assumption) fb_path_0 rfl ?_ rfl
      intro p20 hp20
      refine t_lds (by assumption) ab_s_part B rfl ?_ rfl
      intro v21 hv21
      refine t_move rfl ?_ rfl
      refine t_idx e_part (k := k) (by assumption) he23 B rfl rfl (by first | rfl | omega) ?_ rfl
      intro p23 hp23
      refine t_lda (by assumption) ab_part sb_part B rfl ?_ rfl
      intro v24 hv24
      obtain ⟨v24_3, rfl, hv24_3⟩ := part_va hv24
      refine t_callx Try.call65 rfl (spec_ValidPart _ _ _ _ _ (by first | assumption | exact VA.below (by assumption) B) (by first | assumption | exact VA.below (by assumption) B) (by omega) (by omega)) ?_ rfl rfl
      intro w25 x26
      have B := bx Hb B x26
      have S := S.below x26
      refine t_notb rfl ?_ rfl
      refine t_done' ?_
      refine x_seq ?_
      refine w_ifb rfl ?_ ?_
      · intro h2
        refine w_seq ?_
        refine w_region ?_
        refine t_assign rfl ?_ rfl
        refine t_done ?_
        refine x_seq ?_
        refine w_ret ?_
        refine x_then_ret ?_
        refine x_block_ret ?_
        refine x_then_ret ?_
        refine x_then_ret ?_
        refine x_block_ret ?_
        refine x_then_ret ?_
        refine x_ret1 rfl rfl ?_
        exact ⟨ret_bool (by rw [wellFormed, allF_bad he23 (by simpa using h2)]; simp), ext_trans X0 B⟩
      intro h2
      have h2' : validPart t e23 = true := by simpa using h2
      have ha2 := allF_succ he23 ha h2'
      have hl2 := valid_len h2'
      refine w_skip ?_
      refine x_seq ?_
      refine w_seq ?_
      refine w_region ?_
      refine t_move rfl ?_ rfl
      refine t_gtr rfl rfl ?_ rfl
      refine t_done ?_
      refine x_seq ?_
      refine w_if rfl ?_ ?_
      · intro h3
        have hk3 : k - 1 + 1 = k := by omega
        have hlt3 : k - 1 < List.length p - 1 := by omega
        obtain ⟨e33, he33⟩ : ∃ e, p[k - 1]? = some e := getx (by omega)
        have hl3 := valid_len (all_at ha (by omega) he33)
        have hhl3 := hops_sz he33
        have hJ := joinOk_eq he33 (by rw [hk3]; exact he23)
        obtain ⟨e53, he53⟩ : ∃ e, e33.hops[e33.hops.length - 1]? = some e := getx (by omega)
        obtain ⟨e62, he62⟩ : ∃ e, e23.hops[0]? = some e := getx (by omega)
        rw [lastIa_eq he53, firstIa_eq he62] at hJ
        refine w_seq ?_
        refine w_region ?_
        refine t_fld ln_path_0 (by assumption) fb_path_0 rfl ?_ rfl
        intro p29 hp29
        refine t_lds (by assumption) ab_s_part B rfl ?_ rfl
        intro v30 hv30
        refine t_move rfl ?_ rfl
        refine t_sub rfl rfl (by omega) ?_ rfl
        refine t_idx e_part (k := (k - 1)) (by assumption) he33 B rfl rfl (by first | rfl | omega) ?_ rfl
        intro p33 hp33
        refine t_lda (by assumption) ab_part sb_part B rfl ?_ rfl
        intro v34 hv34
        obtain ⟨v34_3, rfl, hv34_3⟩ := part_va hv34
        refine t_alloc S z_part rfl ?_ rfl rfl
        intro g6 w27 x28 S
        have B := bx Hb B x28
        refine t_stn S sb_part rfl rfl rfl rfl (by intro zz hu; have hu : zz ∈ ([I e33.kind, I e33.ts, I e33.beta, v34_3] : List Value) := hu; simp only [List.mem_cons, List.not_mem_nil, or_false] at hu; rcases hu with rfl | rfl | rfl | rfl <;> first | rfl | exact (SlR.cells (by first | assumption | exact S.tail.sl | exact S.tail.tail.sl | exact S.tail.tail.tail.sl | exact S.tail.tail.tail.tail.sl | exact S.tail.tail.tail.tail.tail.sl | exact S.tail.tail.tail.tail.tail.tail.sl | exact S.tail.tail.tail.tail.tail.tail.tail.sl | exact S.tail.tail.tail.tail.tail.tail.tail.tail.sl)).2) ?_
        intro w29 b30 S
        have B := B.trans b30
        refine t_done ?_
        refine x_seq ?_
        refine w_seq ?_
        refine w_draw (.st .take 0 (.st .take 1 (.st .take 3 (.st .take 4 (.st .take 5 (.st .take 6 (.st .take 7 (.st .take 8 (.st .run 2 (.st .run 9 (.st .take 10 (.st .take 11 (.st .take 12 (.st .take 13 (.st .take 14 (.st .take 15 (.st .take 16 (.st .take 17 (.st .take 18 (.st .take 19 (.st .take 20 (.st .take 21 (.st .take 22 (.st .take 23 (.st .take 24 (.st .take 25 (.st .take 26 (.st .take 27 (.st .take 28 (.st .take 29 (.st .take 30 (.st .take 31 .done)))))))))))))))))))))))))))))))) mixed (by kernel_rfl) ?_
        intro w31 x32
        have B := bx Hb B x32
        have S := S.below x32
        refine t_fldx fb_part_0 rfl rfl ?_ rfl
        refine t_bx1 S.box ab_int rfl rfl ?_ rfl
        refine t_fld ln_path_0 (by assumption) fb_path_0 rfl ?_ rfl
        intro p38 hp38
        refine t_lds (by assumption) ab_s_part B rfl ?_ rfl
        intro v39 hv39
        refine t_move rfl ?_ rfl
        refine t_idx e_part (k := k) (by assumption) he23 B rfl rfl (by first | rfl | omega) ?_ rfl
        intro p41 hp41
        refine t_fld ln_part_0 (by assumption) fb_part_0 rfl ?_ rfl
        intro p42 hp42
        refine t_ldi (by assumption) ab_int B rfl ?_ rfl
        refine t_calls Try.call66 rfl (spec_l22Rank _ _) ?_ rfl rfl
        refine t_calls Try.call66 rfl (spec_l22Rank _ _) ?_ rfl rfl
        refine t_geq rfl rfl ?_ rfl
        refine t_move rfl ?_ rfl
        refine t_partp (t := 46) rfl ?_ ?_
        · intro h4
          refine t_off rfl rfl rfl ?_ rfl
          refine t_off rfl rfl rfl ?_ rfl
          refine t_off rfl rfl rfl ?_ rfl
          refine t_off rfl rfl rfl ?_ rfl
          refine t_off rfl rfl rfl ?_ rfl
          refine t_off rfl rfl rfl ?_ rfl
          refine t_off rfl rfl rfl ?_ rfl
          refine t_off rfl rfl rfl ?_ rfl
          refine t_off rfl rfl rfl ?_ rfl
          refine t_off rfl rfl rfl ?_ rfl
          refine t_off rfl rfl rfl ?_ rfl
          refine t_off rfl rfl rfl ?_ rfl
          refine t_off rfl rfl rfl ?_ rfl
          refine t_off rfl rfl rfl ?_ rfl
          refine t_off rfl rfl rfl ?_ rfl
          refine t_off rfl rfl rfl ?_ rfl
          refine t_off rfl rfl rfl ?_ rfl
          refine t_off rfl rfl rfl ?_ rfl
          refine t_off rfl rfl rfl ?_ rfl
          refine t_pickt rfl rfl ?_ rfl
          refine t_done' ?_
          refine x_seq ?_
          refine w_yes rfl ?_
          refine w_seq ?_
          refine w_region ?_
          refine t_assign rfl ?_ rfl
          refine t_done ?_
          refine x_seq ?_
          refine w_ret ?_
          refine x_block_ret ?_
          refine x_then_ret ?_
          refine x_then_ret ?_
          refine x_block_ret ?_
          refine x_then_ret ?_
          refine x_ret1 rfl rfl ?_
          exact ⟨ret_bool (by rw [wellFormed, all_no hlt3 (by rw [hJ, decide_eq_false (by omega)]; rfl)]; simp), ext_trans X0 B⟩
        intro h4
        refine t_on rfl rfl ?_
        refine t_fldx fb_part_3 rfl rfl ?_ rfl
        refine t_on rfl rfl ?_
        refine t_bx1 S.box ab_s_hop rfl rfl ?_ rfl
        refine t_on rfl rfl ?_
        refine t_fldx fb_part_3 rfl rfl ?_ rfl
        refine t_on rfl rfl ?_
        refine t_bx1 S.box ab_s_hop rfl rfl ?_ rfl
        refine t_on rfl rfl ?_
        refine t_len e_hop (by assumption) rfl rfl ?_ rfl
        refine t_on rfl rfl ?_
        refine t_sub rfl rfl (by omega) ?_ rfl
        refine t_on rfl rfl ?_
        refine t_idx e_hop (k := (e33.hops.length - 1)) (by assumption) he53 B rfl rfl (by first | rfl | omega) ?_ rfl
        intro p53 hp53
        refine t_on rfl rfl ?_
        refine t_fld ln_hop_0 (by assumption) fb_hop_0 rfl ?_ rfl
        intro p54 hp54
        refine t_on rfl rfl ?_
        refine t_ldi (by assumption) ab_int B rfl ?_ rfl
        refine t_on rfl rfl ?_
        refine t_fld ln_path_0 (by assumption) fb_path_0 rfl ?_ rfl
        intro p56 hp56
        refine t_on rfl rfl ?_
        refine t_lds (by assumption) ab_s_part B rfl ?_ rfl
        intro v57 hv57
        refine t_on rfl rfl ?_
        refine t_move rfl ?_ rfl
        refine t_on rfl rfl ?_
        refine t_idx e_part (k := k) (by assumption) he23 B rfl rfl (by first | rfl | omega) ?_ rfl
        intro p59 hp59
        refine t_on rfl rfl ?_
        refine t_fld ln_part_3 (by assumption) fb_part_3 rfl ?_ rfl
        intro p60 hp60
        refine t_on rfl rfl ?_
        refine t_lds (by assumption) ab_s_hop B rfl ?_ rfl
        intro v61 hv61
        refine t_on rfl rfl ?_
        refine t_idx e_hop (k := 0) (by assumption) he62 B rfl rfl (by first | rfl | omega) ?_ rfl
        intro p62 hp62
        refine t_on rfl rfl ?_
        refine t_fld ln_hop_0 (by assumption) fb_hop_0 rfl ?_ rfl
        intro p63 hp63
        refine t_on rfl rfl ?_
        refine t_ldi (by assumption) ab_int B rfl ?_ rfl
        refine t_on rfl rfl ?_
        refine t_neq rfl rfl ?_ rfl
        refine t_pickf rfl rfl ?_ rfl
        refine t_done' ?_
        refine x_seq ?_
        refine w_if rfl ?_ ?_
        · intro h5
          refine w_seq ?_
          refine w_region ?_
          refine t_assign rfl ?_ rfl
          refine t_done ?_
          refine x_seq ?_
          refine w_ret ?_
          refine x_block_ret ?_
          refine x_then_ret ?_
          refine x_then_ret ?_
          refine x_block_ret ?_
          refine x_then_ret ?_
          refine x_ret1 rfl rfl ?_
          exact ⟨ret_bool (by rw [wellFormed, all_no hlt3 (by rw [hJ, decide_eq_false h5]; simp)]; simp), ext_trans X0 B⟩
        intro h5
        refine w_skip ?_
        refine x_block_normal ?_
        refine x_seq ?_
        refine w_region ?_
        refine t_move rfl ?_ rfl
        refine t_add rfl rfl (by omega) ?_ rfl
        refine t_assign rfl ?_ rfl
        refine t_done ?_
        have S := S.tail
        refine x_round (I := (fun k wq => k ≤ List.length p ∧ (p.take k).all (validPart t) = true ∧ (∀ j, j < k - 1 → joinOk p j = true) ∧ Below w20.heap.size w20 wq ∧ Sep w20.heap.size wq [])) (F := (fun k => [(5, I ((k : Int))), (2, p2), (3, p3)])) (μ := (fun k => List.length p - k)) (k + 1) ?_ (by exact ⟨rfl, rfl, rfl, trivial⟩) (by (try dsimp only); omega)
        try dsimp only
        refine ⟨by omega, ha2, fun j hj => ?_, B, S⟩
        refine upto_succ (k := k - 1) hb ?_ j (by omega)
        rw [hJ, decide_eq_true (by omega), decide_eq_true (by omega)]
        rfl
      · intro h3
        refine w_skip ?_
        refine x_block_normal ?_
        refine x_seq ?_
        refine w_region ?_
        refine t_move rfl ?_ rfl
        refine t_add rfl rfl (by omega) ?_ rfl
        refine t_assign rfl ?_ rfl
        refine t_done ?_
        refine x_round (I := (fun k wq => k ≤ List.length p ∧ (p.take k).all (validPart t) = true ∧ (∀ j, j < k - 1 → joinOk p j = true) ∧ Below w20.heap.size w20 wq ∧ Sep w20.heap.size wq [])) (F := (fun k => [(5, I ((k : Int))), (2, p2), (3, p3)])) (μ := (fun k => List.length p - k)) (k + 1) ?_ (by exact ⟨rfl, rfl, rfl, trivial⟩) (by (try dsimp only); omega)
        try dsimp only
        exact ⟨by omega, ha2, fun j hj => by omega, B, S⟩
    · intro hge
      refine w_exit ?_
      refine x_then_exit ?_
      refine x_then_exit ?_
      refine x_block_exit ?_
      refine x_seq ?_
      refine w_seq ?_
      refine w_region ?_
      refine t_assign rfl ?_ rfl
      refine t_done ?_
      refine x_seq ?_
      refine w_ret ?_
      refine x_ret1 rfl rfl ?_
      exact ⟨ret_bool (by rw [wellFormed, h1', allF_end (by omega) ha, all_ok fun j hj => hb j (by omega)]; rfl), ext_trans X0 B⟩
theorem fresh_eq {l : List Int} {k : Nat} {x : Int} (h : l[k]? = some x) : fresh l k = !(l.take k).contains x := by unfold fresh; rw [h]
theorem impl_SimplePath (t : Topo) (v : Value) (p : Path) (u : Value) (w : World) (h : VA topoT w v t) (hp : VA pathT w u p) (hz : sz_topo t ≤ 1048576) (hz' : sz_path p ≤ 1048576) (hl : lenOk_path p) (hg : rng_path p) : Calls Try.prog 24 #[v, u] w fun e w' => e = .returned (.bool (simplePath t p)) ∧ Below w.heap.size w w' := by
  have hsl := pathSteps_len p
  have hnl := nums_len (pathSteps p)
  have X0 := Below.refl w.heap.size w
  refine enter Try.func24 rfl Try.ntmps24 rfl ?_
  refine w_seq ?_
  refine w_region ?_
  refine t_boxr (by assumption) rfl ?_ rfl rfl
  intro p2 w33 x34 hp2
  replace h := h.below x34
  replace hp := hp.below x34
  have X0 := ext_trans X0 x34
  refine t_boxr (by assumption) rfl ?_ rfl rfl
  intro p3 w35 x36 hp3
  replace h := h.below x36
  replace hp := hp.below x36
  replace hp2 := hp2.below x36
  have X0 := ext_trans X0 x36
  have S := Sep.nil w35
  have B := Below.refl w35.heap.size w35
  have Hb := Nat.le_refl w35.heap.size
  refine t_assign rfl ?_ rfl
  refine t_done ?_
  refine x_seq ?_
  refine w_seq ?_
  refine w_seq ?_
  refine w_region ?_
  refine t_lda (by assumption) ab_topo sb_topo B rfl ?_ rfl
  intro v8 hv8
  obtain ⟨v8_0, v8_1, rfl, hv8_0, hv8_1⟩ := topo_va hv8
  refine t_lda (by assumption) ab_path sb_path B rfl ?_ rfl
  intro v9 hv9
  obtain ⟨v9_0, rfl, hv9_0⟩ := path_va hv9
  refine t_callx Try.call20 rfl (impl_WellFormedPath _ _ _ _ _ (by first | assumption | exact VA.below (by assumption) B) (by first | assumption | exact VA.below (by assumption) B) (by omega) (by omega)) ?_ rfl rfl
  intro w37 x38
  have B := bx Hb B x38
  have S := S.below x38
  refine t_notb rfl ?_ rfl
  refine t_done ?_
  refine x_seq ?_
  refine w_ifb rfl ?_ ?_
  · intro h1
    refine w_seq ?_
    refine w_region ?_
    refine t_assign rfl ?_ rfl
    refine t_done ?_
    refine x_seq ?_
    refine w_ret ?_
    refine x_then_ret ?_
    refine x_ret1 rfl rfl ?_
    exact ⟨ret_bool (by simp at h1; simp [simplePath, h1]), ext_trans X0 B⟩
  intro h1
  have h1' : wellFormed t p = true := by simpa using h1
  refine w_skip ?_
  refine x_seq ?_
  refine w_seq ?_
  refine w_region ?_
  refine t_lda (by assumption) ab_path sb_path B rfl ?_ rfl
  intro v12 hv12
  obtain ⟨v12_0, rfl, hv12_0⟩ := path_va hv12
  refine t_call Try.call78 rfl (va1 (by first | assumption | exact VA.below (by assumption) B) fun cs h => impl_InterfacesUsed _ cs _ h (by omega) (by assumption) (by assumption)) ?_ rfl rfl
  rintro e w39 ⟨v13, fpv13, rfl, hOv13, x40⟩
  refine ⟨_, rfl, x40, ?_⟩
  have S := S.add (o := slO _ _ _ _) x40 hOv13
  have B := bx Hb B x40
  refine t_assign rfl ?_ rfl
  refine t_done ?_
  refine x_seq ?_
  refine w_seq ?_
  refine w_seq ?_
  refine w_region ?_
  refine t_move rfl ?_ rfl
  refine t_len e_int (S.sl) rfl rfl ?_ rfl
  refine t_move rfl ?_ rfl
  refine t_done ?_
  refine x_seq ?_
  refine w_block ?_
  refine w_loop (X := Nat) (fun k wq => k ≤ (nums (pathSteps p)).length ∧ (∀ j, j < k → fresh (nums (pathSteps p)) j = true) ∧ Below w35.heap.size w35 wq ∧ Sep w35.heap.size wq [slO intT 3 v13 (nums (pathSteps p))]) (fun k => [(16, I ((k : Int))), (5, v13), (14, v13), (15, I (((nums (pathSteps p)).length : Int)))]) (fun k => (nums (pathSteps p)).length - k) (0) ?_ ⟨rfl, rfl, rfl, rfl, trivial⟩ ?_
  · exact ⟨by omega, by omega, B, S⟩
  · rintro k w41 hI
    try dsimp only at hI ⊢
    obtain ⟨hk, ha, B, S⟩ := hI
    have htl : ((nums (pathSteps p)).take k).length ≤ 16777216 := by rw [List.length_take]; omega
    refine w_seq ?_
    refine w_region ?_
    refine t_lss rfl rfl ?_ rfl
    refine t_done ?_
    refine x_seq ?_
    refine w_seq ?_
    refine w_if rfl ?_ ?_
    · intro hlt
      refine w_skip ?_
      refine x_seq ?_
      refine w_seq ?_
      refine w_block ?_
      refine w_seq ?_
      refine w_region ?_
      refine t_move rfl ?_ rfl
      obtain ⟨e19, he19⟩ : ∃ e, (nums (pathSteps p))[k]? = some e := getx (by omega)
      refine t_idx e_int (k := k) (S.sl) he19 (Below.refl _ _) rfl rfl (by first | rfl | omega) ?_ rfl
      intro p19 hp19
      refine t_ldi (by assumption) ab_int (Below.refl _ _) rfl ?_ rfl
      refine t_assign rfl ?_ rfl
      refine t_assign rfl ?_ rfl
      refine t_done ?_
      refine x_seq ?_
      refine w_seq ?_
      refine w_region ?_
      refine t_move rfl ?_ rfl
      refine t_move rfl ?_ rfl
      refine t_slt e_int (k := k) (S.sl) rfl rfl (by first | rfl | omega) (by omega) ?_ rfl
      intro v23 hv23
      refine t_move rfl ?_ rfl
      refine t_calls Try.call79 rfl (impl_hasInt _ _ _ _ (by first | assumption | exact SlR.below (by assumption) B) (by (try rw [List.length_take]); (try rw [List.length_map]); omega)) ?_ rfl rfl
      refine t_done ?_
      refine x_seq ?_
      have hF := fresh_eq he19
      refine w_ifb rfl ?_ ?_
      · intro h2
        refine w_seq ?_
        refine w_region ?_
        refine t_assign rfl ?_ rfl
        refine t_done ?_
        refine x_seq ?_
        refine w_ret ?_
        refine x_block_ret ?_
        refine x_then_ret ?_
        refine x_then_ret ?_
        refine x_block_ret ?_
        refine x_then_ret ?_
        refine x_ret1 rfl rfl ?_
        exact ⟨ret_bool (by rw [simplePath, all_no (k := k) (by omega) (by rw [hF, h2]; rfl)]; simp), ext_trans X0 B⟩
      · intro h2
        refine w_skip ?_
        refine x_block_normal ?_
        refine x_seq ?_
        refine w_region ?_
        refine t_add rfl rfl (by omega) ?_ rfl
        refine t_move rfl ?_ rfl
        refine t_done ?_
        refine x_round (I := (fun k wq => k ≤ (nums (pathSteps p)).length ∧ (∀ j, j < k → fresh (nums (pathSteps p)) j = true) ∧ Below w35.heap.size w35 wq ∧ Sep w35.heap.size wq [slO intT 3 v13 (nums (pathSteps p))])) (F := (fun k => [(16, I ((k : Int))), (5, v13), (14, v13), (15, I (((nums (pathSteps p)).length : Int)))])) (μ := (fun k => (nums (pathSteps p)).length - k)) (k + 1) ?_ (by exact ⟨rfl, rfl, rfl, rfl, trivial⟩) (by (try dsimp only); omega)
        try dsimp only
        exact ⟨by omega, upto_succ ha (by rw [hF, h2]; rfl), B, S⟩
    · intro hge
      refine w_exit ?_
      refine x_then_exit ?_
      refine x_then_exit ?_
      refine x_block_exit ?_
      refine x_seq ?_
      refine w_seq ?_
      refine w_region ?_
      refine t_assign rfl ?_ rfl
      refine t_done ?_
      refine x_seq ?_
      refine w_ret ?_
      refine x_ret1 rfl rfl ?_
      exact ⟨ret_bool (by rw [simplePath, h1', all_ok fun j hj => ha j (by omega)]; rfl), ext_trans X0 B⟩
theorem spec_SimplePath (t : Topo) (v : Value) (p : Path) (u : Value) (w : World) (h : VA topoT w v t) (hp : VA pathT w u p) (hz : sz_topo t ≤ 1048576) (hz' : sz_path p ≤ 1048576) (hl : lenOk_path p) (hg : rng_path p) : Calls Try.prog 23 #[v, u] w fun e w' => e = .returned (.bool (simplePath t p)) ∧ Below w.heap.size w w' := by
  have hsl := pathSteps_len p
  have hnl := nums_len (pathSteps p)
  have X0 := Below.refl w.heap.size w
  refine enter Try.func23 rfl Try.ntmps23 rfl ?_
  refine w_seq ?_
  refine w_region ?_
  refine t_boxr (by assumption) rfl ?_ rfl rfl
  intro p2 w42 x43 hp2
  replace h := h.below x43
  replace hp := hp.below x43
  have X0 := ext_trans X0 x43
  refine t_boxr (by assumption) rfl ?_ rfl rfl
  intro p3 w44 x45 hp3
  replace h := h.below x45
  replace hp := hp.below x45
  replace hp2 := hp2.below x45
  have X0 := ext_trans X0 x45
  have S := Sep.nil w44
  have B := Below.refl w44.heap.size w44
  have Hb := Nat.le_refl w44.heap.size
  refine t_assign rfl ?_ rfl
  refine t_done ?_
  refine x_seq ?_
  refine w_seq ?_
  refine w_seq ?_
  refine w_region ?_
  refine t_lda (by assumption) ab_topo sb_topo B rfl ?_ rfl
  intro v7 hv7
  obtain ⟨v7_0, v7_1, rfl, hv7_0, hv7_1⟩ := topo_va hv7
  refine t_lda (by assumption) ab_path sb_path B rfl ?_ rfl
  intro v8 hv8
  obtain ⟨v8_0, rfl, hv8_0⟩ := path_va hv8
  refine t_callx Try.call17 rfl (spec_WellFormedPath _ _ _ _ _ (by first | assumption | exact VA.below (by assumption) B) (by first | assumption | exact VA.below (by assumption) B) (by omega) (by omega)) ?_ rfl rfl
  intro w46 x47
  have B := bx Hb B x47
  have S := S.below x47
  refine t_notb rfl ?_ rfl
  refine t_done ?_
  refine x_seq ?_
  refine w_ifb rfl ?_ ?_
  · intro h1
    refine w_seq ?_
    refine w_region ?_
    refine t_assign rfl ?_ rfl
    refine t_done ?_
    refine x_seq ?_
    refine w_ret ?_
    refine x_then_ret ?_
    refine x_ret1 rfl rfl ?_
    exact ⟨ret_bool (by simp at h1; simp [simplePath, h1]), ext_trans X0 B⟩
  intro h1
  have h1' : wellFormed t p = true := by simpa using h1
  refine w_skip ?_
  refine x_seq ?_
  refine w_seq ?_
  refine w_region ?_
  refine t_lda (by assumption) ab_path sb_path B rfl ?_ rfl
  intro v11 hv11
  obtain ⟨v11_0, rfl, hv11_0⟩ := path_va hv11
  refine t_call Try.call76 rfl (va1 (by first | assumption | exact VA.below (by assumption) B) fun cs h => spec_InterfacesUsed _ cs _ h (by omega) (by assumption) (by assumption)) ?_ rfl rfl
  rintro e w48 ⟨v12, fpv12, rfl, hOv12, x49⟩
  refine ⟨_, rfl, x49, ?_⟩
  have S := S.add (o := slO _ _ _ _) x49 hOv12
  have B := bx Hb B x49
  refine t_assign rfl ?_ rfl
  refine t_done ?_
  refine x_seq ?_
  refine w_seq ?_
  refine w_seq ?_
  refine w_region ?_
  refine t_assign rfl ?_ rfl
  refine t_done ?_
  refine x_seq ?_
  refine w_block ?_
  refine w_loop (X := Nat) (fun k wq => k ≤ (nums (pathSteps p)).length ∧ (∀ j, j < k → fresh (nums (pathSteps p)) j = true) ∧ Below w44.heap.size w44 wq ∧ Sep w44.heap.size wq [slO intT 3 v12 (nums (pathSteps p))]) (fun k => [(6, I ((k : Int))), (5, v12)]) (fun k => (nums (pathSteps p)).length - k) (0) ?_ ⟨rfl, rfl, trivial⟩ ?_
  · exact ⟨by omega, by omega, B, S⟩
  · rintro k w50 hI
    try dsimp only at hI ⊢
    obtain ⟨hk, ha, B, S⟩ := hI
    have htl : ((nums (pathSteps p)).take k).length ≤ 16777216 := by rw [List.length_take]; omega
    refine w_seq ?_
    refine w_seq ?_
    refine w_region ?_
    refine t_move rfl ?_ rfl
    refine t_move rfl ?_ rfl
    refine t_len e_int (S.sl) rfl rfl ?_ rfl
    refine t_lss rfl rfl ?_ rfl
    refine t_done ?_
    refine x_seq ?_
    refine w_if rfl ?_ ?_
    · intro hlt
      refine w_skip ?_
      refine x_seq ?_
      refine w_seq ?_
      refine w_block ?_
      refine w_seq ?_
      refine w_draw (.st .take 0 (.st .take 1 (.st .take 2 (.st .take 3 (.st .take 4 (.st .take 5 (.st .take 6 (.st .run 7 .done)))))))) mixed (by kernel_rfl) ?_
      intro w51 x52
      have B := bx Hb B x52
      have S := S.below x52
      refine t_move rfl ?_ rfl
      refine t_move rfl ?_ rfl
      refine t_slt e_int (k := k) (S.sl) rfl rfl (by first | rfl | omega) (by omega) ?_ rfl
      intro v21 hv21
      refine t_move rfl ?_ rfl
      refine t_move rfl ?_ rfl
      obtain ⟨e24, he24⟩ : ∃ e, (nums (pathSteps p))[k]? = some e := getx (by omega)
      refine t_idx e_int (k := k) (S.sl) he24 (Below.refl _ _) rfl rfl (by first | rfl | omega) ?_ rfl
      intro p24 hp24
      refine t_ldi (by assumption) ab_int (Below.refl _ _) rfl ?_ rfl
      refine t_calls Try.call77 rfl (spec_l9Has _ _ _ _ (by first | assumption | exact SlR.below (by assumption) B) (by (try rw [List.length_take]); (try rw [List.length_map]); omega)) ?_ rfl rfl
      refine t_done' ?_
      refine x_seq ?_
      have hF := fresh_eq he24
      refine w_ifb rfl ?_ ?_
      · intro h2
        refine w_seq ?_
        refine w_region ?_
        refine t_assign rfl ?_ rfl
        refine t_done ?_
        refine x_seq ?_
        refine w_ret ?_
        refine x_block_ret ?_
        refine x_then_ret ?_
        refine x_then_ret ?_
        refine x_block_ret ?_
        refine x_then_ret ?_
        refine x_ret1 rfl rfl ?_
        exact ⟨ret_bool (by rw [simplePath, all_no (k := k) (by omega) (by rw [hF, h2]; rfl)]; simp), ext_trans X0 B⟩
      · intro h2
        refine w_skip ?_
        refine x_block_normal ?_
        refine x_seq ?_
        refine w_region ?_
        refine t_move rfl ?_ rfl
        refine t_add rfl rfl (by omega) ?_ rfl
        refine t_assign rfl ?_ rfl
        refine t_done ?_
        refine x_round (I := (fun k wq => k ≤ (nums (pathSteps p)).length ∧ (∀ j, j < k → fresh (nums (pathSteps p)) j = true) ∧ Below w44.heap.size w44 wq ∧ Sep w44.heap.size wq [slO intT 3 v12 (nums (pathSteps p))])) (F := (fun k => [(6, I ((k : Int))), (5, v12)])) (μ := (fun k => (nums (pathSteps p)).length - k)) (k + 1) ?_ (by exact ⟨rfl, rfl, trivial⟩) (by (try dsimp only); omega)
        try dsimp only
        exact ⟨by omega, upto_succ ha (by rw [hF, h2]; rfl), B, S⟩
    · intro hge
      refine w_exit ?_
      refine x_then_exit ?_
      refine x_then_exit ?_
      refine x_block_exit ?_
      refine x_seq ?_
      refine w_seq ?_
      refine w_region ?_
      refine t_assign rfl ?_ rfl
      refine t_done ?_
      refine x_seq ?_
      refine w_ret ?_
      refine x_ret1 rfl rfl ?_
      exact ⟨ret_bool (by rw [simplePath, h1', all_ok fun j hj => ha j (by omega)]; rfl), ext_trans X0 B⟩
end Go.Proofs.Ytfgobdejlfojiaa
