/- Copies of paths: copyPath, l21Copy, l22Copy. -/
import Derived.Test.YtfgobdejlfojiaaWkJ
import Derived.Test.YtfgobdejlfojiaaRunB
namespace Go.Proofs.Ytfgobdejlfojiaa
open Go.RowKit
set_option linter.unusedVariables false
set_option maxRecDepth 20000

theorem psz {p : Path} {k : Nat} {x : Part} (h : p[k]? = some x) : List.length p + x.hops.length ≤ sz_path p := by
  have := le_sum_of_mem (List.mem_map.2 ⟨x, List.mem_of_getElem? h, rfl⟩ : sz_part x ∈ p.map sz_part)
  show _ ≤ List.length p + _
  have e : sz_part x = x.hops.length := rfl
  omega
theorem impl_copyPath (p : Path) (u : Value) (w : World) (hp : VA pathT w u p) (hz' : sz_path p ≤ 1048576) : Calls Try.prog 103 #[u] w fun e w' => ∃ cs fp, e = .returned (.agg cs.toArray) ∧ pathT.O w.heap.size w' cs p fp ∧ Below w.heap.size w w' := by
  have hpl : List.length p ≤ sz_path p := by show List.length p ≤ List.length p + _; omega
  have X0 := Below.refl w.heap.size w
  refine enter Try.func103 rfl Try.ntmps103 rfl ?_
  refine w_seq ?_
  refine w_region ?_
  refine t_boxr (by assumption) rfl ?_ rfl rfl
  intro p1 w1 x2 hp1
  replace hp := hp.below x2
  have X0 := ext_trans X0 x2
  have S := Sep.nil w1
  have B := Below.refl w1.heap.size w1
  have Hb := Nat.le_refl w1.heap.size
  refine t_alloc S z_path rfl ?_ rfl rfl
  intro g2 w3 x4 S
  have B := bx Hb B x4
  refine t_done ?_
  refine x_seq ?_
  refine w_seq ?_
  refine w_region ?_
  refine t_alloc S z_path rfl ?_ rfl rfl
  intro g3 w5 x6 S
  have B := bx Hb B x6
  refine t_done ?_
  refine x_seq ?_
  refine w_seq ?_
  refine w_seq ?_
  refine w_region ?_
  refine t_fld ln_path_0 (by assumption) fb_path_0 rfl ?_ rfl
  intro p6 hp6
  refine t_lds (by assumption) ab_s_part B rfl ?_ rfl
  intro v7 hv7
  refine t_len e_part (by assumption) rfl rfl ?_ rfl
  refine t_move rfl ?_ rfl
  refine t_done ?_
  refine x_seq ?_
  refine w_block ?_
  refine w_loop (X := Nat × Value) (fun x wq => (fun k u => k ≤ List.length p ∧ Below w1.heap.size w1 wq ∧ Sep w1.heap.size wq [bxO g3 39 #[u], slO partT 90 u (p.take k), bxO g2 39 #[.slice none 0 0]]) x.1 x.2) (fun x => (fun k u => [(9, I ((k : Int))), (2, .pointer (some ⟨g2, 0, none⟩)), (3, .pointer (some ⟨g3, 0, none⟩)), (7, v7), (8, I ((p.length : Int)))]) x.1 x.2) (fun x => (fun k u => List.length p - k) x.1 x.2) (0, .slice none 0 0) ?_ ⟨rfl, rfl, rfl, rfl, rfl, trivial⟩ ?_
  · exact ⟨by omega, B, S.addNil.f1⟩
  · rintro ⟨k, u⟩ w7 hI
    try dsimp only at hI ⊢
    obtain ⟨hk, B, S⟩ := hI
    have htl : (p.take k).length = k := by rw [List.length_take]; omega
    refine w_seq ?_
    refine w_region ?_
    refine t_lss rfl rfl ?_ rfl
    refine t_done ?_
    refine x_seq ?_
    refine w_seq ?_
    refine w_if rfl ?_ ?_
    · intro hlt
      obtain ⟨x, hx⟩ : ∃ e, p[k]? = some e := getx (by omega)
      have hhl := psz hx
      refine w_skip ?_
      refine x_seq ?_
      refine w_seq ?_
      refine w_block ?_
      refine w_seq ?_
      refine w_region ?_
      refine t_idx e_part (k := k) (by assumption) hx B rfl rfl (by first | rfl | omega) ?_ rfl
      intro p11 hp11
      refine t_lda (by assumption) ab_part sb_part B rfl ?_ rfl
      intro v12 hv12
      obtain ⟨v12_3, rfl, hv12_3⟩ := part_va hv12
      refine t_alloc S z_part rfl ?_ rfl rfl
      intro g5 w8 x9 S
      have B := bx Hb B x9
      refine t_stn S sb_part rfl rfl rfl rfl (by intro zz hu; have hu : zz ∈ ([I x.kind, I x.ts, I x.beta, v12_3] : List Value) := hu; simp only [List.mem_cons, List.not_mem_nil, or_false] at hu; rcases hu with rfl | rfl | rfl | rfl <;> first | rfl | exact (SlR.cells (by first | assumption | exact S.tail.sl | exact S.tail.tail.sl | exact S.tail.tail.tail.sl | exact S.tail.tail.tail.tail.sl | exact S.tail.tail.tail.tail.tail.sl | exact S.tail.tail.tail.tail.tail.tail.sl | exact S.tail.tail.tail.tail.tail.tail.tail.sl | exact S.tail.tail.tail.tail.tail.tail.tail.tail.sl)).2) ?_
      intro w10 b11 S
      have B := B.trans b11
      refine t_done ?_
      refine x_seq ?_
      refine w_seq ?_
      refine w_region ?_
      refine t_fldx fb_part_3 rfl rfl ?_ rfl
      refine t_bx1 S.box ab_s_hop rfl rfl ?_ rfl
      refine t_call Try.call156 rfl (impl_copyHops _ _ _ (by first | assumption | exact SlR.below (by assumption) B) (by omega)) ?_ rfl rfl
      rintro e w12 ⟨v15, fpv15, rfl, hOv15, x13⟩
      refine ⟨_, rfl, x13, ?_⟩
      have S := S.add (o := slO _ _ _ _) x13 hOv15
      have B := bx Hb B x13
      refine t_fldx fb_part_3 rfl rfl ?_ rfl
      obtain ⟨Av15, cv15, rfl, _⟩ := S.sl.form
      have S := S.f1
      refine t_st1 S sb_s_hop rfl rfl rfl rfl rfl ?_
      intro w14 b15 S
      have B := B.trans b15
      refine t_done ?_
      refine x_seq ?_
      refine w_region ?_
      refine t_fldx fb_path_0 rfl rfl ?_ rfl
      refine t_bx1 S.tail.tail.box ab_s_part rfl rfl ?_ rfl
      refine t_bxn S.box ab_part sb_part rfl rfl ?_ rfl
      refine t_lit1 (fun w => bs_part1 _ _ _ _ w) rfl ?_ rfl rfl
      intro A20 w16 x17 hA20
      have B := bx Hb B x17
      have S := S.below x17
      have S := S.f1
      have S := S.partShut (x := (⟨x.kind, x.ts, x.beta, x.hops⟩ : Part))
      have S := S.f3
      refine t_snoc e_part S hA20 rfl rfl rfl (by first | omega | (simp; done)) (by (simp only [maxLen]); first | omega | (simp; done)) ?_ rfl
      intro v21 w18 x19 S
      have B := B.trans x19
      refine t_fldx fb_path_0 rfl rfl ?_ rfl
      obtain ⟨Av21, cv21, rfl, _⟩ := S.sl.form
      have S := S.f2
      refine t_st1 S sb_s_part rfl rfl rfl rfl rfl ?_
      intro w20 b21 S
      have B := B.trans b21
      refine t_done ?_
      refine x_block_normal ?_
      refine x_seq ?_
      refine w_region ?_
      refine t_add rfl rfl (by omega) ?_ rfl
      refine t_move rfl ?_ rfl
      refine t_done ?_
      have S := S.f2
      have S := S.tail
      refine x_round (I := (fun x wq => (fun k u => k ≤ List.length p ∧ Below w1.heap.size w1 wq ∧ Sep w1.heap.size wq [bxO g3 39 #[u], slO partT 90 u (p.take k), bxO g2 39 #[.slice none 0 0]]) x.1 x.2)) (F := (fun x => (fun k u => [(9, I ((k : Int))), (2, .pointer (some ⟨g2, 0, none⟩)), (3, .pointer (some ⟨g3, 0, none⟩)), (7, v7), (8, I ((p.length : Int)))]) x.1 x.2)) (μ := (fun x => (fun k u => List.length p - k) x.1 x.2)) (k + 1, .slice Av21 ((p.take k) ++ [(⟨x.kind, x.ts, x.beta, x.hops⟩ : Part)]).length cv21) ?_ (by exact ⟨rfl, rfl, rfl, rfl, rfl, trivial⟩) (by (try dsimp only); omega)
      try dsimp only
      refine ⟨by omega, B, ?_⟩
      rw [take_succ hx]
      exact S
    · intro hge
      refine w_exit ?_
      refine x_then_exit ?_
      refine x_then_exit ?_
      refine x_block_exit ?_
      refine x_seq ?_
      refine w_seq ?_
      refine w_region ?_
      refine t_bxn S.box ab_path sb_path rfl rfl ?_ rfl
      have S := S.f2
      refine t_stn S sb_path rfl rfl rfl rfl (by intro zz hu; have hu : zz ∈ ([u] : List Value) := hu; simp only [List.mem_cons, List.not_mem_nil, or_false] at hu; rcases hu with rfl <;> first | rfl | exact (SlR.cells (by first | assumption | exact S.tail.sl | exact S.tail.tail.sl | exact S.tail.tail.tail.sl | exact S.tail.tail.tail.tail.sl | exact S.tail.tail.tail.tail.tail.sl | exact S.tail.tail.tail.tail.tail.tail.sl | exact S.tail.tail.tail.tail.tail.tail.tail.sl | exact S.tail.tail.tail.tail.tail.tail.tail.tail.sl)).2) ?_
      intro w22 b23 S
      have B := B.trans b23
      refine t_done ?_
      refine x_seq ?_
      refine w_ret ?_
      refine x_retc rfl rfl S.box ab_path sb_path rfl ?_
      have S := S.f2
      have S := S.pathShut (x := (p.take k))
      obtain ⟨fp, hO⟩ := (S.mono X0.size).head
      rw [List.take_of_length_le (by omega)] at hO
      exact ⟨_, fp, rfl, hO, ext_trans X0 B⟩
theorem spec_l21Copy (x : Part) (u : Value) (w : World) (hp : VA partT w u x) (hz : x.hops.length ≤ 1048576) : Calls Try.prog 155 #[u] w fun e w' => ∃ cs fp, e = .returned (.agg cs.toArray) ∧ partT.O w.heap.size w' cs x fp ∧ Below w.heap.size w w' := by
  have X0 := Below.refl w.heap.size w
  refine enter Try.func155 rfl Try.ntmps155 rfl ?_
  refine w_seq ?_
  refine w_region ?_
  refine t_boxr (by assumption) rfl ?_ rfl rfl
  intro p1 w24 x25 hp1
  replace hp := hp.below x25
  have X0 := ext_trans X0 x25
  have S := Sep.nil w24
  have B := Below.refl w24.heap.size w24
  have Hb := Nat.le_refl w24.heap.size
  refine t_alloc S z_part rfl ?_ rfl rfl
  intro g2 w26 x27 S
  have B := bx Hb B x27
  refine t_done ?_
  refine x_seq ?_
  refine w_seq ?_
  refine w_region ?_
  refine t_lda (by assumption) ab_part sb_part B rfl ?_ rfl
  intro v4 hv4
  obtain ⟨v4_3, rfl, hv4_3⟩ := part_va hv4
  refine t_alloc S z_part rfl ?_ rfl rfl
  intro g3 w28 x29 S
  have B := bx Hb B x29
  refine t_stn S sb_part rfl rfl rfl rfl (by intro zz hu; have hu : zz ∈ ([I x.kind, I x.ts, I x.beta, v4_3] : List Value) := hu; simp only [List.mem_cons, List.not_mem_nil, or_false] at hu; rcases hu with rfl | rfl | rfl | rfl <;> first | rfl | exact (SlR.cells (by first | assumption | exact S.tail.sl | exact S.tail.tail.sl | exact S.tail.tail.tail.sl | exact S.tail.tail.tail.tail.sl | exact S.tail.tail.tail.tail.tail.sl | exact S.tail.tail.tail.tail.tail.tail.sl | exact S.tail.tail.tail.tail.tail.tail.tail.sl | exact S.tail.tail.tail.tail.tail.tail.tail.tail.sl)).2) ?_
  intro w30 b31 S
  have B := B.trans b31
  refine t_done ?_
  refine x_seq ?_
  refine w_seq ?_
  refine w_region ?_
  refine t_lit (T := hopT) (css := []) (l := []) hop_flat S bs_hop0 rfl rfl rfl rfl (Nat.zero_le _) litR_nil ?_ rfl rfl
  intro u5 w32 x33 S
  have B := bx Hb B x33
  refine t_fld ln_part_3 (by assumption) fb_part_3 rfl ?_ rfl
  intro p6 hp6
  refine t_lds (by assumption) ab_s_hop B rfl ?_ rfl
  intro v7 hv7
  refine t_cat hop_flat e_hop S (by first | assumption | exact SlR.below (by assumption) B) rfl rfl rfl (by first | omega | (simp [-List.length_flatMap]; omega)) (by (simp [maxLen, -List.length_flatMap]; try omega)) ?_ rfl
  intro v8 w34 x35 S
  have B := B.trans x35
  refine t_fldx fb_part_3 rfl rfl ?_ rfl
  obtain ⟨Av8, cv8, rfl, _⟩ := S.sl.form
  have S := S.f1
  refine t_st1 S sb_s_hop rfl rfl rfl rfl rfl ?_
  intro w36 b37 S
  have B := B.trans b37
  refine t_done ?_
  refine x_seq ?_
  refine w_seq ?_
  refine w_region ?_
  refine t_bxn S.box ab_part sb_part rfl rfl ?_ rfl
  have S := S.f2
  refine t_stn S sb_part rfl rfl rfl rfl (by intro zz hu; have hu : zz ∈ ([I x.kind, I x.ts, I x.beta, .slice Av8 (([]) ++ x.hops).length cv8] : List Value) := hu; simp only [List.mem_cons, List.not_mem_nil, or_false] at hu; rcases hu with rfl | rfl | rfl | rfl <;> first | rfl | exact (SlR.cells (by first | assumption | exact S.tail.sl | exact S.tail.tail.sl | exact S.tail.tail.tail.sl | exact S.tail.tail.tail.tail.sl | exact S.tail.tail.tail.tail.tail.sl | exact S.tail.tail.tail.tail.tail.tail.sl | exact S.tail.tail.tail.tail.tail.tail.tail.sl | exact S.tail.tail.tail.tail.tail.tail.tail.tail.sl)).2) ?_
  intro w38 b39 S
  have B := B.trans b39
  refine t_done ?_
  refine x_seq ?_
  refine w_ret ?_
  refine x_retc rfl rfl S.box ab_part sb_part rfl ?_
  have S := S.f2
  have S := S.partShut (x := x)
  obtain ⟨fp, hO⟩ := (S.mono X0.size).head
  exact ⟨_, fp, rfl, hO, ext_trans X0 B⟩
theorem spec_l22Copy (p : Path) (u : Value) (w : World) (hp : VA pathT w u p) (hz' : sz_path p ≤ 1048576) : Calls Try.prog 102 #[u] w fun e w' => ∃ cs fp, e = .returned (.agg cs.toArray) ∧ pathT.O w.heap.size w' cs p fp ∧ Below w.heap.size w w' := by
  have hpl : List.length p ≤ sz_path p := by show List.length p ≤ List.length p + _; omega
  have X0 := Below.refl w.heap.size w
  refine enter Try.func102 rfl Try.ntmps102 rfl ?_
  refine w_seq ?_
  refine w_region ?_
  refine t_boxr (by assumption) rfl ?_ rfl rfl
  intro p1 w40 x41 hp1
  replace hp := hp.below x41
  have X0 := ext_trans X0 x41
  have S := Sep.nil w40
  have B := Below.refl w40.heap.size w40
  have Hb := Nat.le_refl w40.heap.size
  refine t_alloc S z_path rfl ?_ rfl rfl
  intro g2 w42 x43 S
  have B := bx Hb B x43
  refine t_done ?_
  refine x_seq ?_
  refine w_seq ?_
  refine w_region ?_
  refine t_build (fun w => b_path0 w) rfl ?_ rfl
  refine t_alloc S z_path rfl ?_ rfl rfl
  intro g3 w44 x45 S
  have B := bx Hb B x45
  refine t_stn S sb_path rfl rfl rfl rfl (by simp [Value.oneCell']) ?_
  intro w46 b47 S
  have B := B.trans b47
  refine t_done ?_
  refine x_seq ?_
  refine w_seq ?_
  refine w_seq ?_
  refine w_region ?_
  refine t_assign rfl ?_ rfl
  refine t_done ?_
  refine x_seq ?_
  refine w_block ?_
  refine w_loop (X := Nat × Value) (fun x wq => (fun k u => k ≤ List.length p ∧ Below w40.heap.size w40 wq ∧ Sep w40.heap.size wq [bxO g3 39 #[u], slO partT 90 u (p.take k), bxO g2 39 #[.slice none 0 0]]) x.1 x.2) (fun x => (fun k u => [(4, I ((k : Int))), (1, p1), (2, .pointer (some ⟨g2, 0, none⟩)), (3, .pointer (some ⟨g3, 0, none⟩))]) x.1 x.2) (fun x => (fun k u => List.length p - k) x.1 x.2) (0, .slice none 0 0) ?_ ⟨rfl, rfl, rfl, rfl, trivial⟩ ?_
  · exact ⟨by omega, B, S.addNil.f1⟩
  · rintro ⟨k, u⟩ w48 hI
    try dsimp only at hI ⊢
    obtain ⟨hk, B, S⟩ := hI
    have htl : (p.take k).length = k := by rw [List.length_take]; omega
    refine w_seq ?_
    refine w_seq ?_
    refine w_region ?_
    refine t_move rfl ?_ rfl
    refine t_fld ln_path_0 (by assumption) fb_path_0 rfl ?_ rfl
    intro p8 hp8
    refine t_lds (by assumption) ab_s_part B rfl ?_ rfl
    intro v9 hv9
    refine t_len e_part (by assumption) rfl rfl ?_ rfl
    refine t_lss rfl rfl ?_ rfl
    refine t_done ?_
    refine x_seq ?_
    refine w_if rfl ?_ ?_
    · intro hlt
      obtain ⟨x, hx⟩ : ∃ e, p[k]? = some e := getx (by omega)
      have hhl := psz hx
      refine w_skip ?_
      refine x_seq ?_
      refine w_seq ?_
      refine w_block ?_
      refine w_seq ?_
      refine w_region ?_
      refine t_fld ln_path_0 (by assumption) fb_path_0 rfl ?_ rfl
      intro p14 hp14
      refine t_lds (by assumption) ab_s_part B rfl ?_ rfl
      intro v15 hv15
      refine t_move rfl ?_ rfl
      refine t_idx e_part (k := k) (by assumption) hx B rfl rfl (by first | rfl | omega) ?_ rfl
      intro p17 hp17
      refine t_lda (by assumption) ab_part sb_part B rfl ?_ rfl
      intro v18 hv18
      obtain ⟨v18_3, rfl, hv18_3⟩ := part_va hv18
      refine t_call Try.call155 rfl (spec_l21Copy _ _ _ (by first | assumption | exact VA.below (by assumption) B) (by omega)) ?_ rfl rfl
      rintro e w49 ⟨cs19, fp19, rfl, hO19, x50⟩
      refine ⟨_, rfl, x50, ?_⟩
      have S := S.add (o := tyO partT _ _) x50 hO19
      have B := bx Hb B x50
      obtain ⟨u19_3, heq, S2⟩ := S.partOpen
      subst heq
      have S := S2
      clear S2
      refine t_alloc S z_part rfl ?_ rfl rfl
      intro g5 w51 x52 S
      have B := bx Hb B x52
      refine t_stn S sb_part rfl rfl rfl rfl (by intro zz hu; have hu : zz ∈ ([I x.kind, I x.ts, I x.beta, u19_3] : List Value) := hu; simp only [List.mem_cons, List.not_mem_nil, or_false] at hu; rcases hu with rfl | rfl | rfl | rfl <;> first | rfl | exact (SlR.cells (by first | assumption | exact S.tail.sl | exact S.tail.tail.sl | exact S.tail.tail.tail.sl | exact S.tail.tail.tail.tail.sl | exact S.tail.tail.tail.tail.tail.sl | exact S.tail.tail.tail.tail.tail.tail.sl | exact S.tail.tail.tail.tail.tail.tail.tail.sl | exact S.tail.tail.tail.tail.tail.tail.tail.tail.sl)).2) ?_
      intro w53 b54 S
      have B := B.trans b54
      refine t_done ?_
      refine x_seq ?_
      refine w_region ?_
      refine t_fldx fb_path_0 rfl rfl ?_ rfl
      refine t_bx1 S.tail.tail.box ab_s_part rfl rfl ?_ rfl
      refine t_bxn S.box ab_part sb_part rfl rfl ?_ rfl
      refine t_lit1 (fun w => bs_part1 _ _ _ _ w) rfl ?_ rfl rfl
      intro A23 w55 x56 hA23
      have B := bx Hb B x56
      have S := S.below x56
      have S := S.f1
      have S := S.partShut (x := x)
      have S := S.f3
      refine t_snoc e_part S hA23 rfl rfl rfl (by first | omega | (simp; done)) (by (simp only [maxLen]); first | omega | (simp; done)) ?_ rfl
      intro v24 w57 x58 S
      have B := B.trans x58
      refine t_fldx fb_path_0 rfl rfl ?_ rfl
      obtain ⟨Av24, cv24, rfl, _⟩ := S.sl.form
      have S := S.f2
      refine t_st1 S sb_s_part rfl rfl rfl rfl rfl ?_
      intro w59 b60 S
      have B := B.trans b60
      refine t_done ?_
      refine x_block_normal ?_
      refine x_seq ?_
      refine w_region ?_
      refine t_move rfl ?_ rfl
      refine t_add rfl rfl (by omega) ?_ rfl
      refine t_assign rfl ?_ rfl
      refine t_done ?_
      have S := S.f2
      have S := S.tail
      refine x_round (I := (fun x wq => (fun k u => k ≤ List.length p ∧ Below w40.heap.size w40 wq ∧ Sep w40.heap.size wq [bxO g3 39 #[u], slO partT 90 u (p.take k), bxO g2 39 #[.slice none 0 0]]) x.1 x.2)) (F := (fun x => (fun k u => [(4, I ((k : Int))), (1, p1), (2, .pointer (some ⟨g2, 0, none⟩)), (3, .pointer (some ⟨g3, 0, none⟩))]) x.1 x.2)) (μ := (fun x => (fun k u => List.length p - k) x.1 x.2)) (k + 1, .slice Av24 ((p.take k) ++ [x]).length cv24) ?_ (by exact ⟨rfl, rfl, rfl, rfl, trivial⟩) (by (try dsimp only); omega)
      try dsimp only
      refine ⟨by omega, B, ?_⟩
      rw [take_succ hx]
      exact S
    · intro hge
      refine w_exit ?_
      refine x_then_exit ?_
      refine x_then_exit ?_
      refine x_block_exit ?_
      refine x_seq ?_
      refine w_seq ?_
      refine w_region ?_
      refine t_bxn S.box ab_path sb_path rfl rfl ?_ rfl
      have S := S.f2
      refine t_stn S sb_path rfl rfl rfl rfl (by intro zz hu; have hu : zz ∈ ([u] : List Value) := hu; simp only [List.mem_cons, List.not_mem_nil, or_false] at hu; rcases hu with rfl <;> first | rfl | exact (SlR.cells (by first | assumption | exact S.tail.sl | exact S.tail.tail.sl | exact S.tail.tail.tail.sl | exact S.tail.tail.tail.tail.sl | exact S.tail.tail.tail.tail.tail.sl | exact S.tail.tail.tail.tail.tail.tail.sl | exact S.tail.tail.tail.tail.tail.tail.tail.sl | exact S.tail.tail.tail.tail.tail.tail.tail.tail.sl)).2) ?_
      intro w61 b62 S
      have B := B.trans b62
      refine t_done ?_
      refine x_seq ?_
      refine w_ret ?_
      refine x_retc rfl rfl S.box ab_path sb_path rfl ?_
      have S := S.f2
      have S := S.pathShut (x := (p.take k))
      obtain ⟨fp, hO⟩ := (S.mono X0.size).head
      rw [List.take_of_length_le (by omega)] at hO
      exact ⟨_, fp, rfl, hO, ext_trans X0 B⟩
end Go.Proofs.Ytfgobdejlfojiaa
