/- PathUsable, of the program and of the reference. -/
import Derived.Test.YtfgobdejlfojiaaWkQ
import Derived.Test.YtfgobdejlfojiaaPathExpiry
namespace Go.Proofs.Ytfgobdejlfojiaa
open Go.RowKit
set_option linter.unusedVariables false
set_option maxRecDepth 20000

theorem least_le (now : Int) (hs : List Hop) : hs ≠ [] → (now ≤ leastE hs ↔ ∀ h ∈ hs, now ≤ h.exp) := by
  suffices H : ∀ n (hs : List Hop), hs.length = n → hs ≠ [] → (now ≤ leastE hs ↔ ∀ h ∈ hs, now ≤ h.exp) from H _ hs rfl
  intro n
  induction n with
  | zero => intro hs hl hne; exact absurd (List.eq_nil_of_length_eq_zero hl) hne
  | succ n ih =>
    intro hs hl hne
    rcases List.eq_nil_or_concat hs with h1 | ⟨t, x, h1⟩
    · exact absurd h1 hne
    · rw [List.concat_eq_append] at h1
      subst h1
      by_cases ht : t = []
      · subst ht
        simp [leastE_first]
      · have h2 := ih t (by simp at hl; exact hl) ht
        rw [leastE_snoc x ht]
        constructor
        · intro h h3 hm
          rcases List.mem_append.1 hm with hm | hm
          · refine h2.1 ?_ h3 hm
            split at h <;> omega
          · rw [List.mem_singleton] at hm
            subst hm
            split at h <;> omega
        · intro h
          have h4 := h2.2 fun y hy => h y (List.mem_append.2 (.inl hy))
          have h5 := h x (List.mem_append.2 (.inr (List.mem_singleton.2 rfl)))
          split <;> omega
theorem wf_parts {t : Topo} {p : Path} (h : simplePath t p = true) {k : Nat} {x : Part} (hx : p[k]? = some x) : 1 ≤ x.hops.length := by
  unfold simplePath wellFormed at h
  simp only [Bool.and_eq_true, List.all_eq_true] at h
  exact valid_len (h.1.1.2 x (List.mem_of_getElem? hx))
theorem partNow_no {now : Int} {x : Part} {k : Nat} {y : Hop} (hy : x.hops[k]? = some y) (h : y.exp < now) : partNow now x = false := by
  unfold partNow
  have hm := List.mem_of_getElem? hy
  have : ¬ now ≤ leastE x.hops := fun hc => by
    have := (least_le now x.hops (List.ne_nil_of_mem hm)).1 hc y hm
    omega
  rw [decide_eq_false this, Bool.and_false]
theorem partNow_yes {now : Int} {x : Part} (h0 : 1 ≤ x.hops.length) (hts : x.ts ≤ now) (h : ∀ y ∈ x.hops, now ≤ y.exp) : partNow now x = true := by
  unfold partNow
  rw [decide_eq_true hts, decide_eq_true ((least_le now x.hops (by intro h1; rw [h1] at h0; simp at h0)).2 h)]
  rfl
theorem spec_HopNow (x : Hop) (now : Int) (w : World) : Calls Try.prog 81 #[.agg #[I x.ia, I x.ing, I x.eg, I x.exp, I x.mac], I now] w fun e w' => e = .returned (.bool (decide (now ≤ x.exp))) ∧ Below w.heap.size w w' := by
  have hx := hop_mkv w x
  have X0 := Below.refl w.heap.size w
  refine enter Try.func81 rfl Try.ntmps81 rfl ?_
  refine w_seq ?_
  refine w_region ?_
  refine t_boxr (by assumption) rfl ?_ rfl rfl
  intro p2 w1 x2 hp2
  replace hx := hx.below x2
  have X0 := ext_trans X0 x2
  have S := Sep.nil w1
  have B := Below.refl w1.heap.size w1
  have Hb := Nat.le_refl w1.heap.size
  refine t_assign rfl ?_ rfl
  refine t_done ?_
  refine x_seq ?_
  refine w_seq ?_
  refine w_region ?_
  refine t_move rfl ?_ rfl
  refine t_fld ln_hop_3 (by assumption) fb_hop_3 rfl ?_ rfl
  intro p6 hp6
  refine t_ldi (by assumption) ab_int B rfl ?_ rfl
  refine t_leq rfl rfl ?_ rfl
  refine t_assign rfl ?_ rfl
  refine t_done ?_
  refine x_seq ?_
  refine w_ret ?_
  refine x_ret1 rfl rfl ?_
  exact ⟨rfl, ext_trans X0 B⟩
theorem impl_PathUsable (t : Topo) (v : Value) (p : Path) (u : Value) (now : Int) (w : World) (h : VA topoT w v t) (hp : VA pathT w u p) (hz : sz_topo t ≤ 1048576) (hz' : sz_path p ≤ 1048576) (hl : lenOk_path p) (hg : rng_path p) : Calls Try.prog 26 #[v, u, I now] w fun e w' => e = .returned (.bool (usable t p now)) ∧ Below w.heap.size w w' := by
  have hpl : List.length p ≤ sz_path p := by show List.length p ≤ List.length p + _; omega
  have X0 := Below.refl w.heap.size w
  refine enter Try.func26 rfl Try.ntmps26 rfl ?_
  refine w_seq ?_
  refine w_region ?_
  refine t_boxr (by assumption) rfl ?_ rfl rfl
  intro p3 w3 x4 hp3
  replace h := h.below x4
  replace hp := hp.below x4
  have X0 := ext_trans X0 x4
  refine t_boxr (by assumption) rfl ?_ rfl rfl
  intro p4 w5 x6 hp4
  replace h := h.below x6
  replace hp := hp.below x6
  replace hp3 := hp3.below x6
  have X0 := ext_trans X0 x6
  have S := Sep.nil w5
  have B := Below.refl w5.heap.size w5
  have Hb := Nat.le_refl w5.heap.size
  refine t_assign rfl ?_ rfl
  refine t_done ?_
  refine x_seq ?_
  refine w_seq ?_
  refine w_seq ?_
  refine w_region ?_
  refine t_lda (by assumption) ab_topo sb_topo B rfl ?_ rfl
  intro v9 hv9
  obtain ⟨v9_0, v9_1, rfl, hv9_0, hv9_1⟩ := topo_va hv9
  refine t_lda (by assumption) ab_path sb_path B rfl ?_ rfl
  intro v10 hv10
  obtain ⟨v10_0, rfl, hv10_0⟩ := path_va hv10
  refine t_callx Try.call24 rfl (impl_SimplePath _ _ _ _ _ (by first | assumption | exact VA.below (by assumption) B) (by first | assumption | exact VA.below (by assumption) B) (by omega) (by omega) (by assumption) (by assumption)) ?_ rfl rfl
  intro w7 x8
  have B := bx Hb B x8
  have S := S.below x8
  refine t_notb rfl ?_ rfl
  refine t_move rfl ?_ rfl
  refine t_part (t := 13) rfl ?_ ?_
  · intro h1
    refine t_off rfl rfl rfl ?_ rfl
    refine t_off rfl rfl rfl ?_ rfl
    refine t_off rfl rfl rfl ?_ rfl
    refine t_off rfl rfl rfl ?_ rfl
    refine t_pickt rfl rfl ?_ rfl
    refine t_done ?_
    refine x_seq ?_
    refine w_yes rfl ?_
    refine w_seq ?_
    refine w_region ?_
    refine t_assign rfl ?_ rfl
    refine t_done ?_
    refine x_seq ?_
    refine w_ret ?_
    refine x_then_ret ?_
    refine x_ret1 rfl rfl ?_
    exact ⟨ret_bool (by simp at h1; simp [usable, h1]), ext_trans X0 B⟩
  intro h1
  have h1' : simplePath t p = true := by simpa using h1
  refine t_on rfl rfl ?_
  refine t_lda (by assumption) ab_topo sb_topo B rfl ?_ rfl
  intro v14 hv14
  obtain ⟨v14_0, v14_1, rfl, hv14_0, hv14_1⟩ := topo_va hv14
  refine t_on rfl rfl ?_
  refine t_lda (by assumption) ab_path sb_path B rfl ?_ rfl
  intro v15 hv15
  obtain ⟨v15_0, rfl, hv15_0⟩ := path_va hv15
  refine t_on rfl rfl ?_
  refine t_callx Try.call82 rfl (impl_VerifyPath _ _ _ _ _ (by first | assumption | exact VA.below (by assumption) B) (by first | assumption | exact VA.below (by assumption) B) (by omega) (by omega)) ?_ rfl rfl
  intro w9 x10
  have B := bx Hb B x10
  have S := S.below x10
  refine t_on rfl rfl ?_
  refine t_notb rfl ?_ rfl
  refine t_pickf rfl rfl ?_ rfl
  refine t_done ?_
  refine x_seq ?_
  refine w_ifb rfl ?_ ?_
  · intro h2
    refine w_seq ?_
    refine w_region ?_
    refine t_assign rfl ?_ rfl
    refine t_done ?_
    refine x_seq ?_
    refine w_ret ?_
    refine x_then_ret ?_
    refine x_ret1 rfl rfl ?_
    exact ⟨ret_bool (by simp at h2; simp [usable, h2]), ext_trans X0 B⟩
  intro h2
  have h2' : verifyPath t p = true := by simpa using h2
  refine w_skip ?_
  refine x_seq ?_
  refine w_seq ?_
  refine w_seq ?_
  refine w_region ?_
  refine t_fld ln_path_0 (by assumption) fb_path_0 rfl ?_ rfl
  intro p19 hp19
  refine t_lds (by assumption) ab_s_part B rfl ?_ rfl
  intro v20 hv20
  refine t_len e_part (by assumption) rfl rfl ?_ rfl
  refine t_move rfl ?_ rfl
  refine t_done ?_
  refine x_seq ?_
  refine w_block ?_
  refine w_loop (X := Nat) (fun k wq => k ≤ List.length p ∧ (p.take k).all (partNow now) = true ∧ Below w5.heap.size w5 wq ∧ Sep w5.heap.size wq []) (fun k => [(22, I ((k : Int))), (2, I now), (20, v20), (21, I ((p.length : Int)))]) (fun k => List.length p - k) (0) ?_ ⟨rfl, rfl, rfl, rfl, trivial⟩ ?_
  · exact ⟨by omega, rfl, B, S⟩
  · rintro k w11 hI
    try dsimp only at hI ⊢
    obtain ⟨hk, ha, B, S⟩ := hI
    refine w_seq ?_
    refine w_region ?_
    refine t_lss rfl rfl ?_ rfl
    refine t_done ?_
    refine x_seq ?_
    refine w_seq ?_
    refine w_if rfl ?_ ?_
    · intro hlt
      obtain ⟨e24, he24⟩ : ∃ e, p[k]? = some e := getx (by omega)
      have hhl := hops_sz he24
      refine w_skip ?_
      refine x_seq ?_
      refine w_seq ?_
      refine w_block ?_
      refine w_seq ?_
      refine w_region ?_
      refine t_idx e_part (k := k) (by assumption) he24 B rfl rfl (by first | rfl | omega) ?_ rfl
      intro p24 hp24
      refine t_lda (by assumption) ab_part sb_part B rfl ?_ rfl
      intro v25 hv25
      obtain ⟨v25_3, rfl, hv25_3⟩ := part_va hv25
      refine t_alloc S z_part rfl ?_ rfl rfl
      intro g8 w12 x13 S
      have B := bx Hb B x13
      refine t_stn S sb_part rfl rfl rfl rfl (by intro zz hu; have hu : zz ∈ ([I e24.kind, I e24.ts, I e24.beta, v25_3] : List Value) := hu; simp only [List.mem_cons, List.not_mem_nil, or_false] at hu; rcases hu with rfl | rfl | rfl | rfl <;> first | rfl | exact (SlR.cells (by first | assumption | exact S.tail.sl | exact S.tail.tail.sl | exact S.tail.tail.tail.sl | exact S.tail.tail.tail.tail.sl | exact S.tail.tail.tail.tail.tail.sl | exact S.tail.tail.tail.tail.tail.tail.sl | exact S.tail.tail.tail.tail.tail.tail.tail.sl | exact S.tail.tail.tail.tail.tail.tail.tail.tail.sl)).2) ?_
      intro w14 b15 S
      have B := B.trans b15
      refine t_done ?_
      refine x_seq ?_
      refine w_seq ?_
      refine w_region ?_
      refine t_fldx fb_part_1 rfl rfl ?_ rfl
      refine t_bx1 S.box ab_int rfl rfl ?_ rfl
      refine t_move rfl ?_ rfl
      refine t_gtr rfl rfl ?_ rfl
      refine t_move rfl ?_ rfl
      refine t_partp (t := 30) rfl ?_ ?_
      · intro h3
        refine t_off rfl rfl rfl ?_ rfl
        refine t_off rfl rfl rfl ?_ rfl
        refine t_off rfl rfl rfl ?_ rfl
        refine t_off rfl rfl rfl ?_ rfl
        refine t_off rfl rfl rfl ?_ rfl
        refine t_pickt rfl rfl ?_ rfl
        refine t_done ?_
        refine x_seq ?_
        refine w_yes rfl ?_
        refine w_seq ?_
        refine w_region ?_
        refine t_assign rfl ?_ rfl
        refine t_done ?_
        refine x_seq ?_
        refine w_ret ?_
        refine x_block_ret ?_
        refine x_then_ret ?_
        refine x_then_ret ?_
        refine x_block_ret ?_
        refine x_then_ret ?_
        refine x_ret1 rfl rfl ?_
        exact ⟨ret_bool (by rw [usable, allF_bad he24 (by unfold partNow; rw [decide_eq_false (by omega)]; rfl)]; simp), ext_trans X0 B⟩
      intro h3
      refine t_on rfl rfl ?_
      refine t_move rfl ?_ rfl
      refine t_on rfl rfl ?_
      refine t_fldx fb_part_3 rfl rfl ?_ rfl
      refine t_on rfl rfl ?_
      refine t_bx1 S.box ab_s_hop rfl rfl ?_ rfl
      refine t_on rfl rfl ?_
      refine t_callx Try.call83 rfl (impl_leastExpiry _ _ _ (by first | assumption | exact SlR.below (by assumption) B) (by omega)) ?_ rfl rfl
      intro w16 x17
      have B := bx Hb B x17
      have S := S.below x17
      refine t_on rfl rfl ?_
      refine t_gtr rfl rfl ?_ rfl
      refine t_pickf rfl rfl ?_ rfl
      refine t_done ?_
      refine x_seq ?_
      refine w_if rfl ?_ ?_
      · intro h4
        refine w_seq ?_
        refine w_region ?_
        refine t_assign rfl ?_ rfl
        refine t_done ?_
        refine x_seq ?_
        refine w_ret ?_
        refine x_block_ret ?_
        refine x_then_ret ?_
        refine x_then_ret ?_
        refine x_block_ret ?_
        refine x_then_ret ?_
        refine x_ret1 rfl rfl ?_
        exact ⟨ret_bool (by rw [usable, allF_bad he24 (by unfold partNow; rw [decide_eq_false (p := now ≤ _) (by omega)]; simp)]; simp), ext_trans X0 B⟩
      intro h4
      refine w_skip ?_
      refine x_block_normal ?_
      refine x_seq ?_
      refine w_region ?_
      refine t_add rfl rfl (by omega) ?_ rfl
      refine t_move rfl ?_ rfl
      refine t_done ?_
      have S := S.tail
      refine x_round (I := (fun k wq => k ≤ List.length p ∧ (p.take k).all (partNow now) = true ∧ Below w5.heap.size w5 wq ∧ Sep w5.heap.size wq [])) (F := (fun k => [(22, I ((k : Int))), (2, I now), (20, v20), (21, I ((p.length : Int)))])) (μ := (fun k => List.length p - k)) (k + 1) ?_ (by exact ⟨rfl, rfl, rfl, rfl, trivial⟩) (by (try dsimp only); omega)
      try dsimp only
      exact ⟨by omega, allF_succ he24 ha (by unfold partNow; rw [decide_eq_true (by omega), decide_eq_true (by omega)]; rfl), B, S⟩
    · intro hge
      refine w_exit ?_
      refine x_then_exit ?_
      refine x_then_exit ?_
      refine x_block_exit ?_
      refine x_seq ?_
      refine w_seq ?_
      refine w_region ?_
      refine t_assign rfl ?_ rfl
      refine t_done ?_
      refine x_seq ?_
      refine w_ret ?_
      refine x_ret1 rfl rfl ?_
      exact ⟨ret_bool (by rw [usable, h1', h2', allF_end (by omega) ha]; rfl), ext_trans X0 B⟩
theorem spec_PathUsable (t : Topo) (v : Value) (p : Path) (u : Value) (now : Int) (w : World) (h : VA topoT w v t) (hp : VA pathT w u p) (hz : sz_topo t ≤ 1048576) (hz' : sz_path p ≤ 1048576) (hl : lenOk_path p) (hg : rng_path p) : Calls Try.prog 25 #[v, u, I now] w fun e w' => e = .returned (.bool (usable t p now)) ∧ Below w.heap.size w w' := by
  have hpl : List.length p ≤ sz_path p := by show List.length p ≤ List.length p + _; omega
  have X0 := Below.refl w.heap.size w
  refine enter Try.func25 rfl Try.ntmps25 rfl ?_
  refine w_seq ?_
  refine w_region ?_
  refine t_boxr (by assumption) rfl ?_ rfl rfl
  intro p3 w18 x19 hp3
  replace h := h.below x19
  replace hp := hp.below x19
  have X0 := ext_trans X0 x19
  refine t_boxr (by assumption) rfl ?_ rfl rfl
  intro p4 w20 x21 hp4
  replace h := h.below x21
  replace hp := hp.below x21
  replace hp3 := hp3.below x21
  have X0 := ext_trans X0 x21
  have S := Sep.nil w20
  have B := Below.refl w20.heap.size w20
  have Hb := Nat.le_refl w20.heap.size
  refine t_assign rfl ?_ rfl
  refine t_done ?_
  refine x_seq ?_
  refine w_seq ?_
  refine w_seq ?_
  refine w_region ?_
  refine t_lda (by assumption) ab_topo sb_topo B rfl ?_ rfl
  intro v9 hv9
  obtain ⟨v9_0, v9_1, rfl, hv9_0, hv9_1⟩ := topo_va hv9
  refine t_lda (by assumption) ab_path sb_path B rfl ?_ rfl
  intro v10 hv10
  obtain ⟨v10_0, rfl, hv10_0⟩ := path_va hv10
  refine t_callx Try.call23 rfl (spec_SimplePath _ _ _ _ _ (by first | assumption | exact VA.below (by assumption) B) (by first | assumption | exact VA.below (by assumption) B) (by omega) (by omega) (by assumption) (by assumption)) ?_ rfl rfl
  intro w22 x23
  have B := bx Hb B x23
  have S := S.below x23
  refine t_notb rfl ?_ rfl
  refine t_move rfl ?_ rfl
  refine t_part (t := 13) rfl ?_ ?_
  · intro h1
    refine t_off rfl rfl rfl ?_ rfl
    refine t_off rfl rfl rfl ?_ rfl
    refine t_off rfl rfl rfl ?_ rfl
    refine t_off rfl rfl rfl ?_ rfl
    refine t_pickt rfl rfl ?_ rfl
    refine t_done ?_
    refine x_seq ?_
    refine w_yes rfl ?_
    refine w_seq ?_
    refine w_region ?_
    refine t_assign rfl ?_ rfl
    refine t_done ?_
    refine x_seq ?_
    refine w_ret ?_
    refine x_then_ret ?_
    refine x_ret1 rfl rfl ?_
    exact ⟨ret_bool (by simp at h1; simp [usable, h1]), ext_trans X0 B⟩
  intro h1
  have h1' : simplePath t p = true := by simpa using h1
  refine t_on rfl rfl ?_
  refine t_lda (by assumption) ab_topo sb_topo B rfl ?_ rfl
  intro v14 hv14
  obtain ⟨v14_0, v14_1, rfl, hv14_0, hv14_1⟩ := topo_va hv14
  refine t_on rfl rfl ?_
  refine t_lda (by assumption) ab_path sb_path B rfl ?_ rfl
  intro v15 hv15
  obtain ⟨v15_0, rfl, hv15_0⟩ := path_va hv15
  refine t_on rfl rfl ?_
  refine t_callx Try.call80 rfl (spec_VerifyPath _ _ _ _ _ (by first | assumption | exact VA.below (by assumption) B) (by first | assumption | exact VA.below (by assumption) B) (by omega) (by omega)) ?_ rfl rfl
  intro w24 x25
  have B := bx Hb B x25
  have S := S.below x25
  refine t_on rfl rfl ?_
  refine t_notb rfl ?_ rfl
  refine t_pickf rfl rfl ?_ rfl
  refine t_done ?_
  refine x_seq ?_
  refine w_ifb rfl ?_ ?_
  · intro h2
    refine w_seq ?_
    refine w_region ?_
    refine t_assign rfl ?_ rfl
    refine t_done ?_
    refine x_seq ?_
    refine w_ret ?_
    refine x_then_ret ?_
    refine x_ret1 rfl rfl ?_
    exact ⟨ret_bool (by simp at h2; simp [usable, h2]), ext_trans X0 B⟩
  intro h2
  have h2' : verifyPath t p = true := by simpa using h2
  refine w_skip ?_
  refine x_seq ?_
  refine w_seq ?_
  refine w_seq ?_
  refine w_region ?_
  refine t_assign rfl ?_ rfl
  refine t_done ?_
  refine x_seq ?_
  refine w_block ?_
  refine w_loop (X := Nat) (fun k wq => k ≤ List.length p ∧ (p.take k).all (partNow now) = true ∧ Below w20.heap.size w20 wq ∧ Sep w20.heap.size wq []) (fun k => [(7, I ((k : Int))), (2, I now), (4, p4)]) (fun k => List.length p - k) (0) ?_ ⟨rfl, rfl, rfl, trivial⟩ ?_
  · exact ⟨by omega, rfl, B, S⟩
  · rintro k w26 hI
    try dsimp only at hI ⊢
    obtain ⟨hk, ha, B, S⟩ := hI
    refine w_seq ?_
    refine w_seq ?_
    refine w_region ?_
    refine t_move rfl ?_ rfl
    refine t_fld ln_path_0 (by assumption) fb_path_0 rfl ?_ rfl
    intro p20 hp20
    refine t_lds (by assumption) ab_s_part B rfl ?_ rfl
    intro v21 hv21
    refine t_len e_part (by assumption) rfl rfl ?_ rfl
    refine t_lss rfl rfl ?_ rfl
    refine t_done ?_
    refine x_seq ?_
    refine w_if rfl ?_ ?_
    · intro hlt
      obtain ⟨x, hx⟩ : ∃ e, p[k]? = some e := getx (by omega)
      have hhl := hops_sz hx
      have hl1 := wf_parts h1' hx
      refine w_skip ?_
      refine x_seq ?_
      refine w_seq ?_
      refine w_block ?_
      refine w_seq ?_
      refine w_seq ?_
      refine w_region ?_
      refine t_fld ln_path_0 (by assumption) fb_path_0 rfl ?_ rfl
      intro p26 hp26
      refine t_lds (by assumption) ab_s_part B rfl ?_ rfl
      intro v27 hv27
      refine t_move rfl ?_ rfl
      refine t_idx e_part (k := k) (by assumption) hx B rfl rfl (by first | rfl | omega) ?_ rfl
      intro p29 hp29
      refine t_fld ln_part_1 (by assumption) fb_part_1 rfl ?_ rfl
      intro p30 hp30
      refine t_ldi (by assumption) ab_int B rfl ?_ rfl
      refine t_move rfl ?_ rfl
      refine t_gtr rfl rfl ?_ rfl
      refine t_done ?_
      refine x_seq ?_
      refine w_if rfl ?_ ?_
      · intro h3
        refine w_seq ?_
        refine w_region ?_
        refine t_assign rfl ?_ rfl
        refine t_done ?_
        refine x_seq ?_
        refine w_ret ?_
        refine x_then_ret ?_
        refine x_block_ret ?_
        refine x_then_ret ?_
        refine x_then_ret ?_
        refine x_block_ret ?_
        refine x_then_ret ?_
        refine x_ret1 rfl rfl ?_
        exact ⟨ret_bool (by rw [usable, allF_bad hx (by unfold partNow; rw [decide_eq_false (by omega)]; rfl)]; simp), ext_trans X0 B⟩
      intro h3
      refine w_skip ?_
      refine x_seq ?_
      refine w_seq ?_
      refine w_region ?_
      refine t_assign rfl ?_ rfl
      refine t_done ?_
      refine x_seq ?_
      refine w_block ?_
      refine w_loop (X := Nat) (fun j wq => j ≤ x.hops.length ∧ (∀ y ∈ x.hops.take j, now ≤ y.exp) ∧ Below w20.heap.size w20 wq ∧ Sep w20.heap.size wq []) (fun j => [(8, I ((j : Int))), (7, I ((k : Int))), (2, I now), (4, p4)]) (fun j => x.hops.length - j) (0) ?_ ⟨rfl, rfl, rfl, rfl, trivial⟩ ?_
      · exact ⟨by omega, (fun y hy => by cases hy), B, S⟩
      · rintro j w27 hI
        try dsimp only at hI ⊢
        obtain ⟨hj, hy, B, S⟩ := hI
        refine w_seq ?_
        refine w_seq ?_
        refine w_region ?_
        refine t_move rfl ?_ rfl
        refine t_fld ln_path_0 (by assumption) fb_path_0 rfl ?_ rfl
        intro p35 hp35
        refine t_lds (by assumption) ab_s_part B rfl ?_ rfl
        intro v36 hv36
        refine t_move rfl ?_ rfl
        refine t_idx e_part (k := k) (by assumption) hx B rfl rfl (by first | rfl | omega) ?_ rfl
        intro p38 hp38
        refine t_fld ln_part_3 (by assumption) fb_part_3 rfl ?_ rfl
        intro p39 hp39
        refine t_lds (by assumption) ab_s_hop B rfl ?_ rfl
        intro v40 hv40
        refine t_len e_hop (by assumption) rfl rfl ?_ rfl
        refine t_lss rfl rfl ?_ rfl
        refine t_done ?_
        refine x_seq ?_
        refine w_if rfl ?_ ?_
        · intro hlt2
          obtain ⟨y, hyy⟩ : ∃ e, x.hops[j]? = some e := getx (by omega)
          refine w_skip ?_
          refine x_seq ?_
          refine w_seq ?_
          refine w_block ?_
          refine w_seq ?_
          refine w_region ?_
          refine t_fld ln_path_0 (by assumption) fb_path_0 rfl ?_ rfl
          intro p45 hp45
          refine t_lds (by assumption) ab_s_part B rfl ?_ rfl
          intro v46 hv46
          refine t_move rfl ?_ rfl
          refine t_idx e_part (k := k) (by assumption) hx B rfl rfl (by first | rfl | omega) ?_ rfl
          intro p48 hp48
          refine t_fld ln_part_3 (by assumption) fb_part_3 rfl ?_ rfl
          intro p49 hp49
          refine t_lds (by assumption) ab_s_hop B rfl ?_ rfl
          intro v50 hv50
          refine t_move rfl ?_ rfl
          refine t_idx e_hop (k := j) (by assumption) hyy B rfl rfl (by first | rfl | omega) ?_ rfl
          intro p52 hp52
          refine t_lda (by assumption) ab_hop sb_hop B rfl ?_ rfl
          intro v53 hv53
          obtain rfl := hop_va hv53
          refine t_move rfl ?_ rfl
          refine t_callx Try.call81 rfl (spec_HopNow _ _ _) ?_ rfl rfl
          intro w28 x29
          have B := bx Hb B x29
          have S := S.below x29
          refine t_not rfl ?_ rfl
          refine t_done ?_
          refine x_seq ?_
          refine w_if rfl ?_ ?_
          · intro h4
            refine w_seq ?_
            refine w_region ?_
            refine t_assign rfl ?_ rfl
            refine t_done ?_
            refine x_seq ?_
            refine w_ret ?_
            refine x_block_ret ?_
            refine x_then_ret ?_
            refine x_then_ret ?_
            refine x_block_ret ?_
            refine x_block_ret ?_
            refine x_then_ret ?_
            refine x_then_ret ?_
            refine x_block_ret ?_
            refine x_then_ret ?_
            refine x_ret1 rfl rfl ?_
            exact ⟨ret_bool (by rw [usable, allF_bad hx (partNow_no hyy (by omega))]; simp), ext_trans X0 B⟩
          intro h4
          refine w_skip ?_
          refine x_block_normal ?_
          refine x_seq ?_
          refine w_region ?_
          refine t_move rfl ?_ rfl
          refine t_add rfl rfl (by omega) ?_ rfl
          refine t_assign rfl ?_ rfl
          refine t_done ?_
          refine x_round (I := (fun j wq => j ≤ x.hops.length ∧ (∀ y ∈ x.hops.take j, now ≤ y.exp) ∧ Below w20.heap.size w20 wq ∧ Sep w20.heap.size wq [])) (F := (fun j => [(8, I ((j : Int))), (7, I ((k : Int))), (2, I now), (4, p4)])) (μ := (fun j => x.hops.length - j)) (j + 1) ?_ (by exact ⟨rfl, rfl, rfl, rfl, trivial⟩) (by (try dsimp only); omega)
          try dsimp only
          refine ⟨by omega, fun z hz => ?_, B, S⟩
          rw [take_succ hyy] at hz
          rcases List.mem_append.1 hz with hz | hz
          · exact hy z hz
          · rw [List.mem_singleton] at hz
            subst hz
            omega
        · intro hge2
          refine w_exit ?_
          refine x_then_exit ?_
          refine x_then_exit ?_
          refine x_block_exit ?_
          refine x_block_normal ?_
          refine x_seq ?_
          refine w_region ?_
          refine t_move rfl ?_ rfl
          refine t_add rfl rfl (by omega) ?_ rfl
          refine t_assign rfl ?_ rfl
          refine t_done ?_
          refine x_round (I := (fun k wq => k ≤ List.length p ∧ (p.take k).all (partNow now) = true ∧ Below w20.heap.size w20 wq ∧ Sep w20.heap.size wq [])) (F := (fun k => [(7, I ((k : Int))), (2, I now), (4, p4)])) (μ := (fun k => List.length p - k)) (k + 1) ?_ (by exact ⟨rfl, rfl, rfl, trivial⟩) (by (try dsimp only); omega)
          try dsimp only
          refine ⟨by omega, allF_succ hx ha (partNow_yes hl1 (by omega) fun y hyy => hy y ?_), B, S⟩
          rw [List.take_of_length_le (by omega)]
          exact hyy
    · intro hge
      refine w_exit ?_
      refine x_then_exit ?_
      refine x_then_exit ?_
      refine x_block_exit ?_
      refine x_seq ?_
      refine w_seq ?_
      refine w_region ?_
      refine t_assign rfl ?_ rfl
      refine t_done ?_
      refine x_seq ?_
      refine w_ret ?_
      refine x_ret1 rfl rfl ?_
      exact ⟨ret_bool (by rw [usable, h1', h2', allF_end (by omega) ha]; rfl), ext_trans X0 B⟩
end Go.Proofs.Ytfgobdejlfojiaa
