/- What LawFnSteps needs of the texts below it, part 5: contracts of functions, plain lemmas. (Put together by slim.py.) -/
import Derived.Test.YtdaecknfahgddaaSLawFnSteps4
namespace Go.Proofs.Ytdaecknfahgddaa
open Go.RowKit
set_option linter.unusedVariables false
set_option maxRecDepth 20000
theorem lastIa_eq {y : Part} {x : Hop} (h : y.hops[y.hops.length - 1]? = some x) : lastIa y = x.ia := by unfold lastIa; rw [h]
theorem firstIa_eq {y : Part} {x : Hop} (h : y.hops[0]? = some x) : firstIa y = x.ia := by unfold firstIa; rw [h]
theorem all_at {α : Type} {f : α → Bool} {l : List α} {k j : Nat} {x : α} (ha : (l.take k).all f = true) (hj : j < k) (hx : l[j]? = some x) : f x = true := by
  rw [List.all_eq_true] at ha
  exact ha x (List.mem_of_getElem? (i := j) (by rw [List.getElem?_take_of_lt hj]; exact hx))
theorem impl_placeOf (k : Int) (w : World) : Calls Try.prog 59 #[I k] w fun e w' => e = .returned (I (place k)) ∧ w = w' := by
  have X0 := Below.refl w.heap.size w
  refine enter Try.func59 rfl Try.ntmps59 rfl ?_
  refine w_seq ?_
  refine w_region ?_
  have S := Sep.nil w
  have B := Below.refl w.heap.size w
  have Hb := Nat.le_refl w.heap.size
  refine t_assign rfl ?_ rfl
  refine t_done ?_
  refine x_seq ?_
  refine w_seq ?_
  refine w_seq ?_
  refine w_region ?_
  refine t_move rfl ?_ rfl
  refine t_done ?_
  refine x_seq ?_
  refine w_block ?_
  refine w_seq ?_
  refine w_region ?_
  refine t_eql rfl rfl ?_ rfl
  refine t_assign rfl ?_ rfl
  refine t_done ?_
  refine x_seq ?_
  refine w_if rfl ?_ ?_
  · intro h1
    refine w_seq ?_
    refine w_region ?_
    refine t_assign rfl ?_ rfl
    refine t_done ?_
    refine x_seq ?_
    refine w_ret ?_
    refine x_block_ret ?_
    refine x_then_ret ?_
    refine x_ret1 rfl rfl ?_
    exact ⟨ret_int (by simp [place, h1]), rfl⟩
  · intro h1
    refine w_seq ?_
    refine w_seq ?_
    refine w_region ?_
    refine t_eql rfl rfl ?_ rfl
    refine t_assign rfl ?_ rfl
    refine t_done ?_
    refine x_seq ?_
    refine w_if rfl ?_ ?_
    · intro h2
      refine w_skip ?_
      refine x_seq ?_
      refine w_if rfl ?_ (fun h => (by exact absurd h2 h))
      intro hc6
      refine w_seq ?_
      refine w_region ?_
      refine t_assign rfl ?_ rfl
      refine t_done ?_
      refine x_seq ?_
      refine w_ret ?_
      refine x_block_ret ?_
      refine x_then_ret ?_
      refine x_ret1 rfl rfl ?_
      exact ⟨ret_int (by simp [place, h2]), rfl⟩
    · intro h2
      refine w_region ?_
      refine t_eql rfl rfl ?_ rfl
      refine t_assign rfl ?_ rfl
      refine t_done ?_
      refine x_seq ?_
      refine w_if rfl ?_ ?_
      · intro h3
        refine w_seq ?_
        refine w_region ?_
        refine t_assign rfl ?_ rfl
        refine t_done ?_
        refine x_seq ?_
        refine w_ret ?_
        refine x_block_ret ?_
        refine x_then_ret ?_
        refine x_ret1 rfl rfl ?_
        exact ⟨ret_int (by simp [place, h3]), rfl⟩
      · intro h3
        refine w_skip ?_
        refine x_block_normal ?_
        refine x_seq ?_
        refine w_seq ?_
        refine w_region ?_
        refine t_assign rfl ?_ rfl
        refine t_done ?_
        refine x_seq ?_
        refine w_ret ?_
        refine x_ret1 rfl rfl ?_
        exact ⟨ret_int (by simp [place, h1, h2, h3]), rfl⟩
theorem spec_l22Rank (k : Int) (w : World) : Calls Try.prog 56 #[I k] w fun e w' => e = .returned (I (place k)) ∧ w = w' := by
  have X0 := Below.refl w.heap.size w
  refine enter Try.func56 rfl Try.ntmps56 rfl ?_
  refine w_seq ?_
  refine w_region ?_
  have S := Sep.nil w
  have B := Below.refl w.heap.size w
  have Hb := Nat.le_refl w.heap.size
  refine t_assign rfl ?_ rfl
  refine t_done ?_
  refine x_seq ?_
  refine w_seq ?_
  refine w_seq ?_
  refine w_region ?_
  refine t_move rfl ?_ rfl
  refine t_done ?_
  refine x_seq ?_
  refine w_block ?_
  refine w_seq ?_
  refine w_region ?_
  refine t_eql rfl rfl ?_ rfl
  refine t_assign rfl ?_ rfl
  refine t_done ?_
  refine x_seq ?_
  refine w_if rfl ?_ ?_
  · intro h1
    refine w_seq ?_
    refine w_region ?_
    refine t_assign rfl ?_ rfl
    refine t_done ?_
    refine x_seq ?_
    refine w_ret ?_
    refine x_block_ret ?_
    refine x_then_ret ?_
    refine x_ret1 rfl rfl ?_
    exact ⟨ret_int (by simp [place, h1]), rfl⟩
  · intro h1
    refine w_seq ?_
    refine w_seq ?_
    refine w_region ?_
    refine t_eql rfl rfl ?_ rfl
    refine t_assign rfl ?_ rfl
    refine t_done ?_
    refine x_seq ?_
    refine w_if rfl ?_ ?_
    · intro h2
      refine w_skip ?_
      refine x_seq ?_
      refine w_if rfl ?_ (fun h => (by exact absurd h2 h))
      intro hc6
      refine w_seq ?_
      refine w_region ?_
      refine t_assign rfl ?_ rfl
      refine t_done ?_
      refine x_seq ?_
      refine w_ret ?_
      refine x_block_ret ?_
      refine x_then_ret ?_
      refine x_ret1 rfl rfl ?_
      exact ⟨ret_int (by simp [place, h2]), rfl⟩
    · intro h2
      refine w_region ?_
      refine t_eql rfl rfl ?_ rfl
      refine t_assign rfl ?_ rfl
      refine t_done ?_
      refine x_seq ?_
      refine w_if rfl ?_ ?_
      · intro h3
        refine w_seq ?_
        refine w_region ?_
        refine t_assign rfl ?_ rfl
        refine t_done ?_
        refine x_seq ?_
        refine w_ret ?_
        refine x_block_ret ?_
        refine x_then_ret ?_
        refine x_ret1 rfl rfl ?_
        exact ⟨ret_int (by simp [place, h3]), rfl⟩
      · intro h3
        refine w_skip ?_
        refine x_block_normal ?_
        refine x_seq ?_
        refine w_seq ?_
        refine w_region ?_
        refine t_assign rfl ?_ rfl
        refine t_done ?_
        refine x_seq ?_
        refine w_ret ?_
        refine x_ret1 rfl rfl ?_
        exact ⟨ret_int (by simp [place, h1, h2, h3]), rfl⟩
theorem impl_WellFormedPath (t : Topo) (v : Value) (p : Path) (u : Value) (w : World) (h : VA topoT w v t) (hp : VA pathT w u p) (hz : sz_topo t ≤ 1048576) (hz' : sz_path p ≤ 1048576) : Calls Try.prog 9 #[v, u] w fun e w' => e = .returned (.bool (wellFormed t p)) ∧ Below w.heap.size w w' := by
  have hpl : List.length p ≤ sz_path p := by show List.length p ≤ List.length p + _; omega
  have X0 := Below.refl w.heap.size w
  refine enter Try.func9 rfl Try.ntmps9 rfl ?_
  refine w_seq ?_
  refine w_region ?_
  refine t_boxr (by assumption) rfl ?_ rfl rfl
  intro p2 w1 x2 hp2
  replace h := h.below x2
  replace hp := hp.below x2
  have X0 := ext_trans X0 x2
  refine t_boxr (by assumption) rfl ?_ rfl rfl
  intro p3 w3 x4 hp3
  replace h := h.below x4
  replace hp := hp.below x4
  replace hp2 := hp2.below x4
  have X0 := ext_trans X0 x4
  have S := Sep.nil w3
  have B := Below.refl w3.heap.size w3
  have Hb := Nat.le_refl w3.heap.size
  refine t_assign rfl ?_ rfl
  refine t_done ?_
  refine x_seq ?_
  refine w_seq ?_
  refine w_seq ?_
  refine w_region ?_
  refine t_fld ln_path_0 (by assumption) fb_path_0 rfl ?_ rfl
  intro p8 hp8
  refine t_lds (by assumption) ab_s_part B rfl ?_ rfl
  intro v9 hv9
  refine t_len e_part (by assumption) rfl rfl ?_ rfl
  refine t_calls Try.call57 rfl (impl_InRange _ _ _ _) ?_ rfl rfl
  refine t_notb rfl ?_ rfl
  refine t_done ?_
  refine x_seq ?_
  refine w_ifb rfl ?_ ?_
  · intro h1
    refine w_seq ?_
    refine w_region ?_
    refine t_assign rfl ?_ rfl
    refine t_done ?_
    refine x_seq ?_
    refine w_ret ?_
    refine x_then_ret ?_
    refine x_ret1 rfl rfl ?_
    exact ⟨ret_bool (by simp at h1; simp [wellFormed, h1]), ext_trans X0 B⟩
  intro h1
  have h1' : inR (List.length p) 1 3 = true := by simpa using h1
  refine w_skip ?_
  refine x_seq ?_
  refine w_seq ?_
  refine w_seq ?_
  refine w_region ?_
  refine t_fld ln_path_0 (by assumption) fb_path_0 rfl ?_ rfl
  intro p13 hp13
  refine t_lds (by assumption) ab_s_part B rfl ?_ rfl
  intro v14 hv14
  refine t_len e_part (by assumption) rfl rfl ?_ rfl
  refine t_move rfl ?_ rfl
  refine t_done ?_
  refine x_seq ?_
  refine w_block ?_
  refine w_loop (X := Nat) (fun k wq => k ≤ List.length p ∧ (p.take k).all (validPart t) = true ∧ (∀ j, j < k - 1 → joinOk p j = true) ∧ Below w3.heap.size w3 wq ∧ Sep w3.heap.size wq []) (fun k => [(16, I ((k : Int))), (2, p2), (3, p3), (14, v14), (15, I ((p.length : Int)))]) (fun k => List.length p - k) (0) ?_ ⟨rfl, rfl, rfl, rfl, rfl, trivial⟩ ?_
  · exact ⟨by omega, rfl, by omega, B, S⟩
  · rintro k w5 hI
    try dsimp only at hI ⊢
    obtain ⟨hk, ha, hb, B, S⟩ := hI
    refine w_seq ?_
    refine w_region ?_
    refine t_lss rfl rfl ?_ rfl
    refine t_done ?_
    refine x_seq ?_
    refine w_seq ?_
    refine w_if rfl ?_ ?_
    · intro hlt
      obtain ⟨e19, he19⟩ : ∃ e, p[k]? = some e := getx (by omega)
      have hhl := hops_sz he19
      refine w_skip ?_
      refine x_seq ?_
      refine w_seq ?_
      refine w_block ?_
      refine w_seq ?_
      refine w_region ?_
      refine t_move rfl ?_ rfl
      refine t_idx e_part (k := k) (by assumption) he19 B rfl rfl (by first | rfl | omega) ?_ rfl
      intro p19 hp19
      refine t_lda (by assumption) ab_part sb_part B rfl ?_ rfl
      intro v20 hv20
      obtain ⟨v20_3, rfl, hv20_3⟩ := part_va hv20
      refine t_alloc S z_part rfl ?_ rfl rfl
      intro g6 w6 x7 S
      have B := bx Hb B x7
      refine t_assign rfl ?_ rfl
      refine t_stn S sb_part rfl rfl rfl rfl (by intro zz hu; have hu : zz ∈ ([I e19.kind, I e19.ts, I e19.beta, v20_3] : List Value) := hu; simp only [List.mem_cons, List.not_mem_nil, or_false] at hu; rcases hu with rfl | rfl | rfl | rfl <;> first | rfl | exact (SlR.cells (by first | assumption | exact S.tail.sl | exact S.tail.tail.sl | exact S.tail.tail.tail.sl | exact S.tail.tail.tail.tail.sl | exact S.tail.tail.tail.tail.tail.sl | exact S.tail.tail.tail.tail.tail.tail.sl | exact S.tail.tail.tail.tail.tail.tail.tail.sl | exact S.tail.tail.tail.tail.tail.tail.tail.tail.sl)).2) ?_
      intro w8 b9 S
      have B := B.trans b9
      refine t_done ?_
      refine x_seq ?_
      refine w_seq ?_
      refine w_seq ?_
      refine w_region ?_
      refine t_lda (by assumption) ab_topo sb_topo B rfl ?_ rfl
      intro v21 hv21
      obtain ⟨v21_0, v21_1, rfl, hv21_0, hv21_1⟩ := topo_va hv21
      refine t_bxn S.box ab_part sb_part rfl rfl ?_ rfl
      refine t_callx Try.call58 rfl (impl_ValidPart _ _ _ _ _ (by first | assumption | exact VA.below (by assumption) B | exact topo_mkv (by first | assumption | exact SlR.below (by assumption) B) (by first | assumption | exact SlR.below (by assumption) B)) (by first | assumption | exact VA.below (by assumption) B | exact part_mkv (by first | assumption | exact SlR.below (by assumption) B)) (by omega) (by omega)) ?_ rfl rfl
      intro w10 x11
      have B := bx Hb B x11
      have S := S.below x11
      refine t_notb rfl ?_ rfl
      refine t_done ?_
      refine x_seq ?_
      refine w_ifb rfl ?_ ?_
      · intro h2
        refine w_seq ?_
        refine w_region ?_
        refine t_assign rfl ?_ rfl
        refine t_done ?_
        refine x_seq ?_
        refine w_ret ?_
        refine x_then_ret ?_
        refine x_block_ret ?_
        refine x_then_ret ?_
        refine x_then_ret ?_
        refine x_block_ret ?_
        refine x_then_ret ?_
        refine x_ret1 rfl rfl ?_
        exact ⟨ret_bool (by rw [wellFormed, allF_bad he19 (by simpa using h2)]; simp), ext_trans X0 B⟩
      intro h2
      have h2' : validPart t e19 = true := by simpa using h2
      have ha2 := allF_succ he19 ha h2'
      have hl2 := valid_len h2'
      refine w_skip ?_
      refine x_seq ?_
      refine w_seq ?_
      refine w_region ?_
      refine t_move rfl ?_ rfl
      refine t_gtr rfl rfl ?_ rfl
      refine t_done ?_
      refine x_seq ?_
      refine w_if rfl ?_ ?_
      · intro h3
        have hk3 : k - 1 + 1 = k := by omega
        have hlt3 : k - 1 < List.length p - 1 := by omega
        obtain ⟨e31, he31⟩ : ∃ e, p[k - 1]? = some e := getx (by omega)
        have hl3 := valid_len (all_at ha (by omega) he31)
        have hhl3 := hops_sz he31
        have hJ := joinOk_eq he31 (by rw [hk3]; exact he19)
        obtain ⟨e47, he47⟩ : ∃ e, e31.hops[e31.hops.length - 1]? = some e := getx (by omega)
        obtain ⟨e52, he52⟩ : ∃ e, e19.hops[0]? = some e := getx (by omega)
        rw [lastIa_eq he47, firstIa_eq he52] at hJ
        refine w_seq ?_
        refine w_region ?_
        refine t_fld ln_path_0 (by assumption) fb_path_0 rfl ?_ rfl
        intro p27 hp27
        refine t_lds (by assumption) ab_s_part B rfl ?_ rfl
        intro v28 hv28
        refine t_move rfl ?_ rfl
        refine t_sub rfl rfl (by omega) ?_ rfl
        refine t_idx e_part (k := (k - 1)) (by assumption) he31 B rfl rfl (by first | rfl | omega) ?_ rfl
        intro p31 hp31
        refine t_lda (by assumption) ab_part sb_part B rfl ?_ rfl
        intro v32 hv32
        obtain ⟨v32_3, rfl, hv32_3⟩ := part_va hv32
        refine t_alloc S z_part rfl ?_ rfl rfl
        intro g7 w12 x13 S
        have B := bx Hb B x13
        refine t_stn S sb_part rfl rfl rfl rfl (by intro zz hu; have hu : zz ∈ ([I e31.kind, I e31.ts, I e31.beta, v32_3] : List Value) := hu; simp only [List.mem_cons, List.not_mem_nil, or_false] at hu; rcases hu with rfl | rfl | rfl | rfl <;> first | rfl | exact (SlR.cells (by first | assumption | exact S.tail.sl | exact S.tail.tail.sl | exact S.tail.tail.tail.sl | exact S.tail.tail.tail.tail.sl | exact S.tail.tail.tail.tail.tail.sl | exact S.tail.tail.tail.tail.tail.tail.sl | exact S.tail.tail.tail.tail.tail.tail.tail.sl | exact S.tail.tail.tail.tail.tail.tail.tail.tail.sl)).2) ?_
        intro w14 b15 S
        have B := B.trans b15
        refine t_done ?_
        refine x_seq ?_
        refine w_seq ?_
        refine w_draw (.st .take 0 (.st .take 1 (.st .take 3 (.st .take 4 (.st .run 2 (.st .run 5 (.st .take 6 (.st .take 7 (.st .take 8 (.st .take 9 (.st .take 10 (.st .take 11 (.st .take 12 (.st .take 13 (.st .take 14 (.st .take 15 (.st .take 16 (.st .take 17 (.st .take 18 (.st .take 19 (.st .take 20 (.st .take 21 (.st .take 22 (.st .take 23 .done)))))))))))))))))))))))) mixed (by kernel_rfl) ?_
        intro w16 x17
        have B := bx Hb B x17
        have S := S.below x17
        refine t_fldx fb_part_0 rfl rfl ?_ rfl
        refine t_bx1 S.box ab_int rfl rfl ?_ rfl
        refine t_fldx fb_part_0 rfl rfl ?_ rfl
        refine t_bx1 S.tail.box ab_int rfl rfl ?_ rfl
        refine t_calls Try.call59 rfl (impl_placeOf _ _) ?_ rfl rfl
        refine t_calls Try.call59 rfl (impl_placeOf _ _) ?_ rfl rfl
        refine t_geq rfl rfl ?_ rfl
        refine t_move rfl ?_ rfl
        refine t_partp (t := 40) rfl ?_ ?_
        · intro h4
          refine t_off rfl rfl rfl ?_ rfl
          refine t_off rfl rfl rfl ?_ rfl
          refine t_off rfl rfl rfl ?_ rfl
          refine t_off rfl rfl rfl ?_ rfl
          refine t_off rfl rfl rfl ?_ rfl
          refine t_off rfl rfl rfl ?_ rfl
          refine t_off rfl rfl rfl ?_ rfl
          refine t_off rfl rfl rfl ?_ rfl
          refine t_off rfl rfl rfl ?_ rfl
          refine t_off rfl rfl rfl ?_ rfl
          refine t_off rfl rfl rfl ?_ rfl
          refine t_off rfl rfl rfl ?_ rfl
          refine t_off rfl rfl rfl ?_ rfl
          refine t_off rfl rfl rfl ?_ rfl
          refine t_off rfl rfl rfl ?_ rfl
          refine t_pickt rfl rfl ?_ rfl
          refine t_done' ?_
          refine x_seq ?_
          refine w_yes rfl ?_
          refine w_seq ?_
          refine w_region ?_
          refine t_assign rfl ?_ rfl
          refine t_done ?_
          refine x_seq ?_
          refine w_ret ?_
          refine x_block_ret ?_
          refine x_then_ret ?_
          refine x_then_ret ?_
          refine x_block_ret ?_
          refine x_then_ret ?_
          refine x_ret1 rfl rfl ?_
          exact ⟨ret_bool (by rw [wellFormed, all_no hlt3 (by rw [hJ, decide_eq_false (by omega)]; rfl)]; simp), ext_trans X0 B⟩
        intro h4
        refine t_on rfl rfl ?_
        refine t_fldx fb_part_3 rfl rfl ?_ rfl
        refine t_on rfl rfl ?_
        refine t_bx1 S.box ab_s_hop rfl rfl ?_ rfl
        refine t_on rfl rfl ?_
        refine t_fldx fb_part_3 rfl rfl ?_ rfl
        refine t_on rfl rfl ?_
        refine t_bx1 S.box ab_s_hop rfl rfl ?_ rfl
        refine t_on rfl rfl ?_
        refine t_len e_hop (by assumption) rfl rfl ?_ rfl
        refine t_on rfl rfl ?_
        refine t_sub rfl rfl (by omega) ?_ rfl
        refine t_on rfl rfl ?_
        refine t_idx e_hop (k := (e31.hops.length - 1)) (by assumption) he47 B rfl rfl (by first | rfl | omega) ?_ rfl
        intro p47 hp47
        refine t_on rfl rfl ?_
        refine t_fld ln_hop_0 (by assumption) fb_hop_0 rfl ?_ rfl
        intro p48 hp48
        refine t_on rfl rfl ?_
        refine t_ldi (by assumption) ab_int B rfl ?_ rfl
        refine t_on rfl rfl ?_
        refine t_fldx fb_part_3 rfl rfl ?_ rfl
        refine t_on rfl rfl ?_
        refine t_bx1 S.tail.box ab_s_hop rfl rfl ?_ rfl
        refine t_on rfl rfl ?_
        refine t_idx e_hop (k := 0) (by assumption) he52 B rfl rfl (by first | rfl | omega) ?_ rfl
        intro p52 hp52
        refine t_on rfl rfl ?_
        refine t_fld ln_hop_0 (by assumption) fb_hop_0 rfl ?_ rfl
        intro p53 hp53
        refine t_on rfl rfl ?_
        refine t_ldi (by assumption) ab_int B rfl ?_ rfl
        refine t_on rfl rfl ?_
        refine t_neq rfl rfl ?_ rfl
        refine t_pickf rfl rfl ?_ rfl
        refine t_done' ?_
        refine x_seq ?_
        refine w_if rfl ?_ ?_
        · intro h5
          refine w_seq ?_
          refine w_region ?_
          refine t_assign rfl ?_ rfl
          refine t_done ?_
          refine x_seq ?_
          refine w_ret ?_
          refine x_block_ret ?_
          refine x_then_ret ?_
          refine x_then_ret ?_
          refine x_block_ret ?_
          refine x_then_ret ?_
          refine x_ret1 rfl rfl ?_
          exact ⟨ret_bool (by rw [wellFormed, all_no hlt3 (by rw [hJ, decide_eq_false h5]; simp)]; simp), ext_trans X0 B⟩
        intro h5
        refine w_skip ?_
        refine x_block_normal ?_
        refine x_seq ?_
        refine w_region ?_
        refine t_add rfl rfl (by omega) ?_ rfl
        refine t_move rfl ?_ rfl
        refine t_done ?_
        have S := S.tail
        have S := S.tail
        refine x_round (X := Nat) (I := (fun k wq => k ≤ List.length p ∧ (p.take k).all (validPart t) = true ∧ (∀ j, j < k - 1 → joinOk p j = true) ∧ Below w3.heap.size w3 wq ∧ Sep w3.heap.size wq [])) (F := (fun k => [(16, I ((k : Int))), (2, p2), (3, p3), (14, v14), (15, I ((p.length : Int)))])) (μ := (fun k => List.length p - k)) (k + 1) ?_ (by exact ⟨rfl, rfl, rfl, rfl, rfl, trivial⟩) (by (try dsimp only); omega)
        try dsimp only
        refine ⟨by omega, ha2, fun j hj => ?_, B, S⟩
        refine upto_succ (k := k - 1) hb ?_ j (by omega)
        rw [hJ, decide_eq_true (by omega), decide_eq_true (by omega)]
        rfl
      · intro h3
        refine w_skip ?_
        refine x_block_normal ?_
        refine x_seq ?_
        refine w_region ?_
        refine t_add rfl rfl (by omega) ?_ rfl
        refine t_move rfl ?_ rfl
        refine t_done ?_
        have S := S.tail
        refine x_round (X := Nat) (I := (fun k wq => k ≤ List.length p ∧ (p.take k).all (validPart t) = true ∧ (∀ j, j < k - 1 → joinOk p j = true) ∧ Below w3.heap.size w3 wq ∧ Sep w3.heap.size wq [])) (F := (fun k => [(16, I ((k : Int))), (2, p2), (3, p3), (14, v14), (15, I ((p.length : Int)))])) (μ := (fun k => List.length p - k)) (k + 1) ?_ (by exact ⟨rfl, rfl, rfl, rfl, rfl, trivial⟩) (by (try dsimp only); omega)
        try dsimp only
        exact ⟨by omega, ha2, fun j hj => by omega, B, S⟩
    · intro hge
      refine w_exit ?_
      refine x_then_exit ?_
      refine x_then_exit ?_
      refine x_block_exit ?_
      refine x_seq ?_
      refine w_seq ?_
      refine w_region ?_
      refine t_assign rfl ?_ rfl
      refine t_done ?_
      refine x_seq ?_
      refine w_ret ?_
      refine x_ret1 rfl rfl ?_
      exact ⟨ret_bool (by rw [wellFormed, h1', allF_end (by omega) ha, all_ok fun j hj => hb j (by omega)]; rfl), ext_trans X0 B⟩
theorem spec_WellFormedPath (t : Topo) (v : Value) (p : Path) (u : Value) (w : World) (h : VA topoT w v t) (hp : VA pathT w u p) (hz : sz_topo t ≤ 1048576) (hz' : sz_path p ≤ 1048576) : Calls Try.prog 8 #[v, u] w fun e w' => e = .returned (.bool (wellFormed t p)) ∧ Below w.heap.size w w' := by
  have hpl : List.length p ≤ sz_path p := by show List.length p ≤ List.length p + _; omega
  have X0 := Below.refl w.heap.size w
  refine enter Try.func8 rfl Try.ntmps8 rfl ?_
  refine w_seq ?_
  refine w_region ?_
  refine t_boxr (by assumption) rfl ?_ rfl rfl
  intro p2 w18 x19 hp2
  replace h := h.below x19
  replace hp := hp.below x19
  have X0 := ext_trans X0 x19
  refine t_boxr (by assumption) rfl ?_ rfl rfl
  intro p3 w20 x21 hp3
  replace h := h.below x21
  replace hp := hp.below x21
  replace hp2 := hp2.below x21
  have X0 := ext_trans X0 x21
  have S := Sep.nil w20
  have B := Below.refl w20.heap.size w20
  have Hb := Nat.le_refl w20.heap.size
  refine t_assign rfl ?_ rfl
  refine t_done ?_
  refine x_seq ?_
  refine w_seq ?_
  refine w_seq ?_
  refine w_region ?_
  refine t_fld ln_path_0 (by assumption) fb_path_0 rfl ?_ rfl
  intro p7 hp7
  refine t_lds (by assumption) ab_s_part B rfl ?_ rfl
  intro v8 hv8
  refine t_len e_part (by assumption) rfl rfl ?_ rfl
  refine t_calls Try.call54 rfl (spec_l1In _ _ _ _) ?_ rfl rfl
  refine t_notb rfl ?_ rfl
  refine t_done ?_
  refine x_seq ?_
  refine w_ifb rfl ?_ ?_
  · intro h1
    refine w_seq ?_
    refine w_region ?_
    refine t_assign rfl ?_ rfl
    refine t_done ?_
    refine x_seq ?_
    refine w_ret ?_
    refine x_then_ret ?_
    refine x_ret1 rfl rfl ?_
    exact ⟨ret_bool (by simp at h1; simp [wellFormed, h1]), ext_trans X0 B⟩
  intro h1
  have h1' : inR (List.length p) 1 3 = true := by simpa using h1
  refine w_skip ?_
  refine x_seq ?_
  refine w_seq ?_
  refine w_seq ?_
  refine w_region ?_
  refine t_assign rfl ?_ rfl
  refine t_done ?_
  refine x_seq ?_
  refine w_block ?_
  refine w_loop (X := Nat) (fun k wq => k ≤ List.length p ∧ (p.take k).all (validPart t) = true ∧ (∀ j, j < k - 1 → joinOk p j = true) ∧ Below w20.heap.size w20 wq ∧ Sep w20.heap.size wq []) (fun k => [(5, I ((k : Int))), (2, p2), (3, p3)]) (fun k => List.length p - k) (0) ?_ ⟨rfl, rfl, rfl, trivial⟩ ?_
  · exact ⟨by omega, rfl, by omega, B, S⟩
  · rintro k w22 hI
    try dsimp only at hI ⊢
    obtain ⟨hk, ha, hb, B, S⟩ := hI
    refine w_seq ?_
    refine w_seq ?_
    refine w_region ?_
    refine t_move rfl ?_ rfl
    refine t_fld ln_path_0 (by assumption) fb_path_0 rfl ?_ rfl
    intro p13 hp13
    refine t_lds (by assumption) ab_s_part B rfl ?_ rfl
    intro v14 hv14
    refine t_len e_part (by assumption) rfl rfl ?_ rfl
    refine t_lss rfl rfl ?_ rfl
    refine t_done ?_
    refine x_seq ?_
    refine w_if rfl ?_ ?_
    · intro hlt
      obtain ⟨e23, he23⟩ : ∃ e, p[k]? = some e := getx (by omega)
      have hhl := hops_sz he23
      refine w_skip ?_
      refine x_seq ?_
      refine w_seq ?_
      refine w_block ?_
      refine w_seq ?_
      refine w_seq ?_
      refine w_draw (.st .take 0 (.st .take 1 (.st .take 2 (.st .take 3 (.st .take 4 (.st .take 5 (.st .run 6 (.st .take 7 .done)))))))) mixed (by kernel_rfl) ?_
      intro w23 x24
      have B := bx Hb B x24
      have S := S.below x24
      refine t_lda (by assumption) ab_topo sb_topo B rfl ?_ rfl
      intro v19 hv19
      obtain ⟨v19_0, v19_1, rfl, hv19_0, hv19_1⟩ := topo_va hv19
      refine t_fld ln_path_0 (by assumption) fb_path_0 rfl ?_ rfl
      intro p20 hp20
      refine t_lds (by assumption) ab_s_part B rfl ?_ rfl
      intro v21 hv21
      refine t_move rfl ?_ rfl
      refine t_idx e_part (k := k) (by assumption) he23 B rfl rfl (by first | rfl | omega) ?_ rfl
      intro p23 hp23
      refine t_lda (by assumption) ab_part sb_part B rfl ?_ rfl
      intro v24 hv24
      obtain ⟨v24_3, rfl, hv24_3⟩ := part_va hv24
      refine t_callx Try.call55 rfl (spec_ValidPart _ _ _ _ _ (by first | assumption | exact VA.below (by assumption) B | exact topo_mkv (by first | assumption | exact SlR.below (by assumption) B) (by first | assumption | exact SlR.below (by assumption) B)) (by first | assumption | exact VA.below (by assumption) B | exact part_mkv (by first | assumption | exact SlR.below (by assumption) B)) (by omega) (by omega)) ?_ rfl rfl
      intro w25 x26
      have B := bx Hb B x26
      have S := S.below x26
      refine t_notb rfl ?_ rfl
      refine t_done' ?_
      refine x_seq ?_
      refine w_ifb rfl ?_ ?_
      · intro h2
        refine w_seq ?_
        refine w_region ?_
        refine t_assign rfl ?_ rfl
        refine t_done ?_
        refine x_seq ?_
        refine w_ret ?_
        refine x_then_ret ?_
        refine x_block_ret ?_
        refine x_then_ret ?_
        refine x_then_ret ?_
        refine x_block_ret ?_
        refine x_then_ret ?_
        refine x_ret1 rfl rfl ?_
        exact ⟨ret_bool (by rw [wellFormed, allF_bad he23 (by simpa using h2)]; simp), ext_trans X0 B⟩
      intro h2
      have h2' : validPart t e23 = true := by simpa using h2
      have ha2 := allF_succ he23 ha h2'
      have hl2 := valid_len h2'
      refine w_skip ?_
      refine x_seq ?_
      refine w_seq ?_
      refine w_region ?_
      refine t_move rfl ?_ rfl
      refine t_gtr rfl rfl ?_ rfl
      refine t_done ?_
      refine x_seq ?_
      refine w_if rfl ?_ ?_
      · intro h3
        have hk3 : k - 1 + 1 = k := by omega
        have hlt3 : k - 1 < List.length p - 1 := by omega
        obtain ⟨e33, he33⟩ : ∃ e, p[k - 1]? = some e := getx (by omega)
        have hl3 := valid_len (all_at ha (by omega) he33)
        have hhl3 := hops_sz he33
        have hJ := joinOk_eq he33 (by rw [hk3]; exact he23)
        obtain ⟨e53, he53⟩ : ∃ e, e33.hops[e33.hops.length - 1]? = some e := getx (by omega)
        obtain ⟨e62, he62⟩ : ∃ e, e23.hops[0]? = some e := getx (by omega)
        rw [lastIa_eq he53, firstIa_eq he62] at hJ
        refine w_seq ?_
        refine w_region ?_
        refine t_fld ln_path_0 (by assumption) fb_path_0 rfl ?_ rfl
        intro p29 hp29
        refine t_lds (by assumption) ab_s_part B rfl ?_ rfl
        intro v30 hv30
        refine t_move rfl ?_ rfl
        refine t_sub rfl rfl (by omega) ?_ rfl
        refine t_idx e_part (k := (k - 1)) (by assumption) he33 B rfl rfl (by first | rfl | omega) ?_ rfl
        intro p33 hp33
        refine t_lda (by assumption) ab_part sb_part B rfl ?_ rfl
        intro v34 hv34
        obtain ⟨v34_3, rfl, hv34_3⟩ := part_va hv34
        refine t_alloc S z_part rfl ?_ rfl rfl
        intro g6 w27 x28 S
        have B := bx Hb B x28
        refine t_stn S sb_part rfl rfl rfl rfl (by intro zz hu; have hu : zz ∈ ([I e33.kind, I e33.ts, I e33.beta, v34_3] : List Value) := hu; simp only [List.mem_cons, List.not_mem_nil, or_false] at hu; rcases hu with rfl | rfl | rfl | rfl <;> first | rfl | exact (SlR.cells (by first | assumption | exact S.tail.sl | exact S.tail.tail.sl | exact S.tail.tail.tail.sl | exact S.tail.tail.tail.tail.sl | exact S.tail.tail.tail.tail.tail.sl | exact S.tail.tail.tail.tail.tail.tail.sl | exact S.tail.tail.tail.tail.tail.tail.tail.sl | exact S.tail.tail.tail.tail.tail.tail.tail.tail.sl)).2) ?_
        intro w29 b30 S
        have B := B.trans b30
        refine t_done ?_
        refine x_seq ?_
        refine w_seq ?_
        refine w_draw (.st .take 0 (.st .take 1 (.st .take 3 (.st .take 4 (.st .take 5 (.st .take 6 (.st .take 7 (.st .take 8 (.st .run 2 (.st .run 9 (.st .take 10 (.st .take 11 (.st .take 12 (.st .take 13 (.st .take 14 (.st .take 15 (.st .take 16 (.st .take 17 (.st .take 18 (.st .take 19 (.st .take 20 (.st .take 21 (.st .take 22 (.st .take 23 (.st .take 24 (.st .take 25 (.st .take 26 (.st .take 27 (.st .take 28 (.st .take 29 (.st .take 30 (.st .take 31 .done)))))))))))))))))))))))))))))))) mixed (by kernel_rfl) ?_
        intro w31 x32
        have B := bx Hb B x32
        have S := S.below x32
        refine t_fldx fb_part_0 rfl rfl ?_ rfl
        refine t_bx1 S.box ab_int rfl rfl ?_ rfl
        refine t_fld ln_path_0 (by assumption) fb_path_0 rfl ?_ rfl
        intro p38 hp38
        refine t_lds (by assumption) ab_s_part B rfl ?_ rfl
        intro v39 hv39
        refine t_move rfl ?_ rfl
        refine t_idx e_part (k := k) (by assumption) he23 B rfl rfl (by first | rfl | omega) ?_ rfl
        intro p41 hp41
        refine t_fld ln_part_0 (by assumption) fb_part_0 rfl ?_ rfl
        intro p42 hp42
        refine t_ldi (by assumption) ab_int B rfl ?_ rfl
        refine t_calls Try.call56 rfl (spec_l22Rank _ _) ?_ rfl rfl
        refine t_calls Try.call56 rfl (spec_l22Rank _ _) ?_ rfl rfl
        refine t_geq rfl rfl ?_ rfl
        refine t_move rfl ?_ rfl
        refine t_partp (t := 46) rfl ?_ ?_
        · intro h4
          refine t_off rfl rfl rfl ?_ rfl
          refine t_off rfl rfl rfl ?_ rfl
          refine t_off rfl rfl rfl ?_ rfl
          refine t_off rfl rfl rfl ?_ rfl
          refine t_off rfl rfl rfl ?_ rfl
          refine t_off rfl rfl rfl ?_ rfl
          refine t_off rfl rfl rfl ?_ rfl
          refine t_off rfl rfl rfl ?_ rfl
          refine t_off rfl rfl rfl ?_ rfl
          refine t_off rfl rfl rfl ?_ rfl
          refine t_off rfl rfl rfl ?_ rfl
          refine t_off rfl rfl rfl ?_ rfl
          refine t_off rfl rfl rfl ?_ rfl
          refine t_off rfl rfl rfl ?_ rfl
          refine t_off rfl rfl rfl ?_ rfl
          refine t_off rfl rfl rfl ?_ rfl
          refine t_off rfl rfl rfl ?_ rfl
          refine t_off rfl rfl rfl ?_ rfl
          refine t_off rfl rfl rfl ?_ rfl
          refine t_pickt rfl rfl ?_ rfl
          refine t_done' ?_
          refine x_seq ?_
          refine w_yes rfl ?_
          refine w_seq ?_
          refine w_region ?_
          refine t_assign rfl ?_ rfl
          refine t_done ?_
          refine x_seq ?_
          refine w_ret ?_
          refine x_block_ret ?_
          refine x_then_ret ?_
          refine x_then_ret ?_
          refine x_block_ret ?_
          refine x_then_ret ?_
          refine x_ret1 rfl rfl ?_
          exact ⟨ret_bool (by rw [wellFormed, all_no hlt3 (by rw [hJ, decide_eq_false (by omega)]; rfl)]; simp), ext_trans X0 B⟩
        intro h4
        refine t_on rfl rfl ?_
        refine t_fldx fb_part_3 rfl rfl ?_ rfl
        refine t_on rfl rfl ?_
        refine t_bx1 S.box ab_s_hop rfl rfl ?_ rfl
        refine t_on rfl rfl ?_
        refine t_fldx fb_part_3 rfl rfl ?_ rfl
        refine t_on rfl rfl ?_
        refine t_bx1 S.box ab_s_hop rfl rfl ?_ rfl
        refine t_on rfl rfl ?_
        refine t_len e_hop (by assumption) rfl rfl ?_ rfl
        refine t_on rfl rfl ?_
        refine t_sub rfl rfl (by omega) ?_ rfl
        refine t_on rfl rfl ?_
        refine t_idx e_hop (k := (e33.hops.length - 1)) (by assumption) he53 B rfl rfl (by first | rfl | omega) ?_ rfl
        intro p53 hp53
        refine t_on rfl rfl ?_
        refine t_fld ln_hop_0 (by assumption) fb_hop_0 rfl ?_ rfl
        intro p54 hp54
        refine t_on rfl rfl ?_
        refine t_ldi (by assumption) ab_int B rfl ?_ rfl
        refine t_on rfl rfl ?_
        refine t_fld ln_path_0 (by assumption) fb_path_0 rfl ?_ rfl
        intro p56 hp56
        refine t_on rfl rfl ?_
        refine t_lds (by assumption) ab_s_part B rfl ?_ rfl
        intro v57 hv57
        refine t_on rfl rfl ?_
        refine t_move rfl ?_ rfl
        refine t_on rfl rfl ?_
        refine t_idx e_part (k := k) (by assumption) he23 B rfl rfl (by first | rfl | omega) ?_ rfl
        intro p59 hp59
        refine t_on rfl rfl ?_
        refine t_fld ln_part_3 (by assumption) fb_part_3 rfl ?_ rfl
        intro p60 hp60
        refine t_on rfl rfl ?_
        refine t_lds (by assumption) ab_s_hop B rfl ?_ rfl
        intro v61 hv61
        refine t_on rfl rfl ?_
        refine t_idx e_hop (k := 0) (by assumption) he62 B rfl rfl (by first | rfl | omega) ?_ rfl
        intro p62 hp62
        refine t_on rfl rfl ?_
        refine t_fld ln_hop_0 (by assumption) fb_hop_0 rfl ?_ rfl
        intro p63 hp63
        refine t_on rfl rfl ?_
        refine t_ldi (by assumption) ab_int B rfl ?_ rfl
        refine t_on rfl rfl ?_
        refine t_neq rfl rfl ?_ rfl
        refine t_pickf rfl rfl ?_ rfl
        refine t_done' ?_
        refine x_seq ?_
        refine w_if rfl ?_ ?_
        · intro h5
          refine w_seq ?_
          refine w_region ?_
          refine t_assign rfl ?_ rfl
          refine t_done ?_
          refine x_seq ?_
          refine w_ret ?_
          refine x_block_ret ?_
          refine x_then_ret ?_
          refine x_then_ret ?_
          refine x_block_ret ?_
          refine x_then_ret ?_
          refine x_ret1 rfl rfl ?_
          exact ⟨ret_bool (by rw [wellFormed, all_no hlt3 (by rw [hJ, decide_eq_false h5]; simp)]; simp), ext_trans X0 B⟩
        intro h5
        refine w_skip ?_
        refine x_block_normal ?_
        refine x_seq ?_
        refine w_region ?_
        refine t_move rfl ?_ rfl
        refine t_add rfl rfl (by omega) ?_ rfl
        refine t_assign rfl ?_ rfl
        refine t_done ?_
        have S := S.tail
        refine x_round (X := Nat) (I := (fun k wq => k ≤ List.length p ∧ (p.take k).all (validPart t) = true ∧ (∀ j, j < k - 1 → joinOk p j = true) ∧ Below w20.heap.size w20 wq ∧ Sep w20.heap.size wq [])) (F := (fun k => [(5, I ((k : Int))), (2, p2), (3, p3)])) (μ := (fun k => List.length p - k)) (k + 1) ?_ (by exact ⟨rfl, rfl, rfl, trivial⟩) (by (try dsimp only); omega)
        try dsimp only
        refine ⟨by omega, ha2, fun j hj => ?_, B, S⟩
        refine upto_succ (k := k - 1) hb ?_ j (by omega)
        rw [hJ, decide_eq_true (by omega), decide_eq_true (by omega)]
        rfl
      · intro h3
        refine w_skip ?_
        refine x_block_normal ?_
        refine x_seq ?_
        refine w_region ?_
        refine t_move rfl ?_ rfl
        refine t_add rfl rfl (by omega) ?_ rfl
        refine t_assign rfl ?_ rfl
        refine t_done ?_
        refine x_round (X := Nat) (I := (fun k wq => k ≤ List.length p ∧ (p.take k).all (validPart t) = true ∧ (∀ j, j < k - 1 → joinOk p j = true) ∧ Below w20.heap.size w20 wq ∧ Sep w20.heap.size wq [])) (F := (fun k => [(5, I ((k : Int))), (2, p2), (3, p3)])) (μ := (fun k => List.length p - k)) (k + 1) ?_ (by exact ⟨rfl, rfl, rfl, trivial⟩) (by (try dsimp only); omega)
        try dsimp only
        exact ⟨by omega, ha2, fun j hj => by omega, B, S⟩
    · intro hge
      refine w_exit ?_
      refine x_then_exit ?_
      refine x_then_exit ?_
      refine x_block_exit ?_
      refine x_seq ?_
      refine w_seq ?_
      refine w_region ?_
      refine t_assign rfl ?_ rfl
      refine t_done ?_
      refine x_seq ?_
      refine w_ret ?_
      refine x_ret1 rfl rfl ?_
      exact ⟨ret_bool (by rw [wellFormed, h1', allF_end (by omega) ha, all_ok fun j hj => hb j (by omega)]; rfl), ext_trans X0 B⟩
end Go.Proofs.Ytdaecknfahgddaa
namespace Go.Proofs.Ytdaecknfahgddaa
set_option linter.unusedVariables false
section
variable (P : Program) (f : FuncId) (fn : Func) (s : ChangeSpec) (c : OpenClaim)
def jnA : Bool := c.wf (OpenSpec.ofChange s) && laidOutB P && mapsRowed P && fn.params.all (P.readableRec ·) && namedTie P c.named s.vars && (c.stops == []) && (P.stops == []) && (c.knobs == []) && (P.stopKnobs == [])
def jnB : Bool := (c.inPlace == P.inPlace f) && (c.unfollowed == P.unfollowed f) && (c.recurses == P.recurses f) && (c.named == P.varsNamed f)
def jnC : Bool := (c.maps == (fn.params.toList ++ s.plain.varTypes P).any (P.mapsRec ·)) && (c.ifaces == (fn.params.toList ++ s.plain.varTypes P).any (P.ifacesRec ·)) && (c.mapsOut == P.mapsAmong fn.resultTypes.toList) &&
  (c.loops == (fn.params.toList ++ s.plain.varTypes P).any (P.loopsFrom ·)) && (c.wideKeys == (fn.params.toList ++ s.plain.varTypes P ++ fn.resultTypes.toList).any (P.wideKeysFrom ·)) &&
  s.vars.all (P.varReadable ·) && fn.resultTypes.all (fun t => P.readableRec t && decide (t < P.types.size)) && (c.ifacesOut == fn.resultTypes.toList.any (P.ifacesRec ·)) && (c.loopsOut == fn.resultTypes.toList.any (P.loopsFrom ·)) && (c.plainKeys == P.plainKeys) && c.shortTexts.isNone
def jnD : Bool := P.stopsHeard
def jnE : Bool := P.mayEnter
def jnF : Bool := c.lifted == P.liftsFinal
def jnG : Bool := P.make == some c.make
def jnH : Bool := (c.kinds == (if c.domain.isEmpty then [] else fn.params.toList.map fun t => match P.underlying t with | some (.int k) => some k | _ => none))
def jnI : Bool := c.pinned == c.pinnedBy
def jnJ : Bool := (c.veiled == (fn.params.toList ++ s.plain.varTypes P ++ fn.resultTypes.toList).any (P.veiledRec ·)) && c.veiledFits P fn.params.toList (fn.params.toList ++ s.plain.varTypes P ++ fn.resultTypes.toList)
end
theorem joined_of {P : Program} {f : FuncId} {fn : Func} {s : ChangeSpec} {c : OpenClaim} (hA : jnA P fn s c = true) (hB : jnB P f c = true) (hC : jnC P fn s c = true) (hD : jnD P = true) (hE : jnE P = true) (hF : jnF P c = true) (hG : jnG P c = true) (hH : jnH P fn c = true) (hI : jnI c = true) (hJ : jnJ P fn s c = true) : joinedFacts P f fn s c = true := by
  unfold jnA at hA
  unfold jnB at hB
  unfold jnC at hC
  unfold jnD at hD
  unfold jnE at hE
  unfold jnF at hF
  unfold jnG at hG
  unfold jnH at hH
  unfold jnI at hI
  unfold jnJ at hJ
  simp only [Bool.and_eq_true] at hA hB hC hJ
  unfold joinedFacts
  simp only [Bool.and_eq_true]
  obtain ⟨⟨⟨⟨⟨⟨⟨⟨a1, a2⟩, a3⟩, a4⟩, a5⟩, a6⟩, a7⟩, a8⟩, a9⟩ := hA
  obtain ⟨⟨⟨b1, b2⟩, b3⟩, b4⟩ := hB
  obtain ⟨⟨⟨⟨⟨⟨⟨⟨⟨⟨c1, c2⟩, c3⟩, c4⟩, c5⟩, c6⟩, c7⟩, c8⟩, c9⟩, c10⟩, c11⟩ := hC
  obtain ⟨d1, d2⟩ := hJ
  exact ⟨⟨⟨⟨⟨⟨⟨⟨⟨⟨⟨⟨⟨⟨⟨⟨⟨⟨⟨⟨⟨⟨⟨⟨⟨⟨⟨⟨⟨⟨⟨a1, a2⟩, a3⟩, a4⟩, a5⟩, a6⟩, a7⟩, a8⟩, a9⟩, b1⟩, b2⟩, b3⟩, b4⟩, c1⟩, c2⟩, c3⟩, c4⟩, c5⟩, c6⟩, c7⟩, c8⟩, c9⟩, c10⟩, c11⟩, hD⟩, hE⟩, hF⟩, hG⟩, hH⟩, hI⟩, d1⟩, d2⟩
end Go.Proofs.Ytdaecknfahgddaa
namespace Go.Proofs.Ytdaecknfahgddaa
open Go.ChangeShapes Go.WideShapes Go.ChangeAt Go.RowKit Go.Deep
set_option linter.unusedVariables false
set_option maxRecDepth 100000
theorem knob : ownKnob Try.prog.godebug = none := by kernel_rfl
theorem laidOut : laidOutB Try.prog = true := by kernel_rfl
section
variable {H : Type} {enc : TypeId × Value → H} {P : Program} {w : World} {base : Nat} {spare : Nat → Bool} {held : Bool}
/-- A slice, by its elements. -/
theorem open_sl {α : Type} (T : Ty α) (good : α → Prop) {t e : TypeId} (ht : P.underlying t = some (.slice e)) (hC : P.cellsOf e = T.size)
    (hel : ∀ (n : Nat) cs y, DataW.trod enc P w base spare held n e cs = some y → ∃ a, T.R w cs a ∧ good a) {fuel : Nat} {cs : List Value} {x : DataW H × List MemPlace} (h : DataW.trod enc P w base spare held fuel t cs = some x) :
    ∃ A c l, cs = [.slice A l.length c] ∧ SlR T w (.slice A l.length c) l ∧ l.length ≤ 9223372036854775807 ∧ ∀ a ∈ l, good a := by
  rcases open_slice ht h with ⟨h0, _⟩ | ⟨a, len, cap, m, n, D, Pl, hcs, hb, hl, hm, hmm, hx, hi⟩
  · exact ⟨none, 0, [], h0, ⟨none, 0, [], rfl, Nat.le_refl _, rfl, Rd.nil, fun i cs a hi => by simp at hi⟩, by simp, by simp⟩
  · have hlm : len ≤ m := by rw [hmm]; split <;> omega
    have hall : ∀ i : Fin len, ∃ (cs : List Value) (x : α), T.R w cs x ∧ good x ∧ cs.length = T.size ∧ ∀ j, j < T.size → w.cell? ((a.add (i * T.size)).add j) = cs[j]? := fun i => by
      obtain ⟨cs', h1, h2⟩ := hi i (by omega)
      obtain ⟨x, h3, h4⟩ := hel _ _ _ h2
      obtain ⟨_, h5, h6⟩ := World.cells?_some h1
      rw [hC] at h5 h6
      exact ⟨cs', x, h3, h4, h5, h6⟩
    obtain ⟨f, hf⟩ := Classical.axiomOfChoice hall
    obtain ⟨g, hg⟩ := Classical.axiomOfChoice hf
    have hlen : (List.ofFn g).length = len := List.length_ofFn
    refine ⟨some a, cap, List.ofFn g, by rw [hlen]; exact hcs, ⟨some a, cap, List.ofFn f, rfl, by rw [hlen]; exact hl, by simp, ?_, ?_⟩, by rw [hlen]; simp only [maxLen] at hm; omega, ?_⟩
    · intro hpos
      have hp : 0 < len := by
        rcases Nat.eq_zero_or_pos len with h0 | h0
        · subst h0; simp at hpos
        · exact h0
      have hsz := T.pos
      have hc0 := (hg ⟨0, hp⟩).2.2.2 0 hsz
      simp only [Nat.zero_mul] at hc0
      have hspot : a.spot = none := by
        have hsome : (w.cell? a).isSome = true := by
          have h9 : w.cell? a = (f ⟨0, hp⟩)[0]? := by
            have : (a.add 0).add 0 = a := by simp [Addr.add]
            rw [← this]; exact hc0
          rw [h9, List.getElem?_eq_getElem (by rw [(hg ⟨0, hp⟩).2.2.1]; exact hsz)]
          rfl
        unfold World.cell? at hsome
        split at hsome
        · split at hsome
          · simp at hsome
          · rename_i hs; simpa using hs
        · simp at hsome
      obtain ⟨ab, ao, as'⟩ := a
      simp only at hspot
      subst hspot
      refine ⟨ab, ao, rfl, fun j u hu => ?_⟩
      have hfl : ∀ (i : Nat) cs, (List.ofFn f)[i]? = some cs → cs.length = T.size := fun i cs hi => by
        obtain ⟨hlt, rfl⟩ := List.getElem?_eq_some_iff.1 hi
        rw [List.getElem_ofFn]
        exact (hg _).2.2.1
      have hj : j < len * T.size := by
        have := (List.getElem?_eq_some_iff.1 hu).1
        rw [flatten_len hfl, List.length_ofFn] at this
        exact this
      have hq : j / T.size < len := Nat.div_lt_of_lt_mul (by rw [Nat.mul_comm]; exact hj)
      have hr := Nat.mod_lt j hsz
      have ej : j / T.size * T.size + j % T.size = j := by rw [Nat.mul_comm]; exact Nat.div_add_mod j T.size
      have h1 := (hg ⟨j / T.size, hq⟩).2.2.2 (j % T.size) hr
      have h2 := flatten_at hfl (j / T.size) (f ⟨j / T.size, hq⟩) (by rw [List.getElem?_ofFn, dif_pos hq]) (j % T.size) hr
      rw [ej] at h2
      rw [Addr.add_lit, Addr.add_lit] at h1
      simp only [Nat.add_assoc] at h1
      rw [ej] at h1
      rw [h1, ← h2]
      exact hu
    · intro i cs x hi hx
      have hlt : i < len := by
        have := (List.getElem?_eq_some_iff.1 hi).1
        simpa using this
      rw [List.getElem?_ofFn, dif_pos hlt] at hi hx
      injection hi with hi
      injection hx with hx
      subst hi hx
      exact (hg _).1
    · intro x hx
      obtain ⟨i, hi, rfl⟩ := List.getElem_of_mem hx
      rw [List.getElem_ofFn]
      exact (hg _).2.1
end
section
variable {H : Type} {enc : TypeId × Value → H} {w : World} {base : Nat} {spare : Nat → Bool} {held : Bool}
end
end Go.Proofs.Ytdaecknfahgddaa
namespace Go.Proofs.Ytdaecknfahgddaa
open Go.ChangeShapes Go.WideShapes Go.ChangeAt Go.RowKit Go.Deep
set_option linter.unusedVariables false
set_option maxRecDepth 100000
section
variable {H : Type} {enc : TypeId × Value → H} {w : World} {base : Nat} {spare : Nat → Bool} {held : Bool}
theorem byte_of (n : Nat) (cs : List Value) (y : DataW H × List MemPlace) (h : DataW.trod enc Try.prog w base spare held n 5 cs = some y) : ∃ a : UInt8, byteT.R w cs a ∧ True := by
  obtain ⟨a, e, _, wf⟩ := DataW.trod_int Try.underlying5 h
  have hb := bounds_u8 wf
  refine ⟨UInt8.ofNat a.toNat, ?_, trivial⟩
  show cs = [.int .u8 ((UInt8.ofNat a.toNat).toNat : Int)]
  rw [e, UInt8.toNat_ofNat', Nat.mod_eq_of_lt (by omega), Int.toNat_of_nonneg hb.1]
end
end Go.Proofs.Ytdaecknfahgddaa
namespace Go.Proofs.Ytdaecknfahgddaa
open Go.ChangeShapes Go.WideShapes Go.ChangeAt Go.RowKit Go.Deep
set_option linter.unusedVariables false
set_option maxRecDepth 100000
section
variable {H : Type} {enc : TypeId × Value → H} {w : World} {base : Nat} {spare : Nat → Bool} {held : Bool}
theorem open_byteS {r : Reach} {b0 : Nat} {v : Value} {d : DataW H} {p : List MemPlace} (hv : Value.okWide Try.prog w r b0 22 v) (h : DataW.Trod enc Try.prog w base spare held 22 v d p) :
    ∃ l, SlR byteT w v l ∧ l.length ≤ 9223372036854775807 := by
  obtain ⟨a0, len, cap, rfl⟩ := okWide_slice Try.underlying22 hv
  obtain ⟨fuel, hf⟩ := h
  obtain ⟨A, c, l, e, hR, hn, hg⟩ := open_sl byteT (fun _ => True) Try.underlying22 (by kernel_rfl) byte_of hf
  simp [Value.cells] at e
  obtain ⟨rfl, rfl, rfl⟩ := e
  exact ⟨l, hR, hn⟩
end
end Go.Proofs.Ytdaecknfahgddaa
