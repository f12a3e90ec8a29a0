/- lastHopOf, JoinUpDown, of the program and of the reference. -/
import Derived.Test.YtaapaafagmbkoaaWkJ
import Derived.Test.YtaapaafagmbkoaaEqs
namespace Go.Proofs.Ytaapaafagmbkoaa
open Go.RowKit
set_option linter.unusedVariables false
set_option maxRecDepth 20000

/-- The last place below n where the AS is r. -/
def lastI (l : List Hop) (r : Int) : Nat → Int
  | 0 => -1
  | n + 1 => match l[n]? with
    | some x => if x.ia = r then (n : Int) else lastI l r n
    | none => lastI l r n
theorem lastI_yes {l : List Hop} {r : Int} {i : Int} {x : Hop} (h0 : 0 ≤ i) (h : l[i.toNat]? = some x) (e : x.ia = r) : lastI l r (i + 1).toNat = i := by
  rw [show (i + 1).toNat = i.toNat + 1 by omega, lastI, h]
  simp only [e, if_true]
  omega
theorem lastI_no {l : List Hop} {r : Int} {i : Int} {x : Hop} (h0 : 0 ≤ i) (h : l[i.toNat]? = some x) (e : x.ia ≠ r) : lastI l r (i + 1).toNat = lastI l r (i - 1 + 1).toNat := by
  rw [show (i + 1).toNat = i.toNat + 1 by omega, show (i - 1 + 1).toNat = i.toNat by omega, lastI, h]
  simp only [e, if_false]
theorem lastI_bd (l : List Hop) (r : Int) : ∀ n : Nat, -1 ≤ lastI l r n ∧ lastI l r n < n
  | 0 => ⟨by simp [lastI], by simp [lastI]⟩
  | n + 1 => by
    have := lastI_bd l r n
    unfold lastI
    split
    · split <;> omega
    · omega
theorem impl_lastHopOf (s : Seg) (v : Value) (r : Int) (w : World) (h : VA segT w v s) (hz : s.hops.length ≤ 1048576) : Calls Try.prog 103 #[v, I r] w fun e w' => e = .returned (I (lastI s.hops r s.hops.length)) ∧ Below w.heap.size w w' := by
  have X0 := Below.refl w.heap.size w
  refine enter Try.func103 rfl Try.ntmps103 rfl ?_
  refine w_seq ?_
  refine w_region ?_
  refine t_boxr (by assumption) rfl ?_ rfl rfl
  intro p2 w1 x2 hp2
  replace h := h.below x2
  have X0 := ext_trans X0 x2
  have S := Sep.nil w1
  have B := Below.refl w1.heap.size w1
  have Hb := Nat.le_refl w1.heap.size
  refine t_assign rfl ?_ rfl
  refine t_done ?_
  refine x_seq ?_
  refine w_seq ?_
  refine w_seq ?_
  refine w_region ?_
  refine t_fld ln_seg_2 (by assumption) fb_seg_2 rfl ?_ rfl
  intro p6 hp6
  refine t_lds (by assumption) ab_s_hop B rfl ?_ rfl
  intro v7 hv7
  refine t_len e_hop (by assumption) rfl rfl ?_ rfl
  refine t_sub rfl rfl (by omega) ?_ rfl
  refine t_assign rfl ?_ rfl
  refine t_done ?_
  refine x_seq ?_
  refine w_block ?_
  refine w_loop (X := Int) (fun i wq => -1 ≤ i ∧ i ≤ (s.hops.length : Int) - 1 ∧ lastI s.hops r (i + 1).toNat = lastI s.hops r s.hops.length ∧ Below w1.heap.size w1 wq ∧ Sep w1.heap.size wq []) (fun i => [(5, I i), (1, I r), (2, p2)]) (fun i => (i + 1).toNat) ((s.hops.length : Int) - 1) ?_ ⟨rfl, rfl, rfl, trivial⟩ ?_
  · exact ⟨by omega, by omega, by rw [show ((s.hops.length : Int) - 1 + 1).toNat = s.hops.length by omega], B, S⟩
  · rintro i w3 hI
    try dsimp only at hI ⊢
    obtain ⟨hk, hk2, hl, B, S⟩ := hI
    refine w_seq ?_
    refine w_seq ?_
    refine w_region ?_
    refine t_move rfl ?_ rfl
    refine t_geq rfl rfl ?_ rfl
    refine t_done ?_
    refine x_seq ?_
    refine w_if rfl ?_ ?_
    · intro hlt
      refine w_skip ?_
      refine x_seq ?_
      refine w_seq ?_
      refine w_block ?_
      refine w_seq ?_
      refine w_region ?_
      refine t_fld ln_seg_2 (by assumption) fb_seg_2 rfl ?_ rfl
      intro p14 hp14
      refine t_lds (by assumption) ab_s_hop B rfl ?_ rfl
      intro v15 hv15
      refine t_move rfl ?_ rfl
      obtain ⟨e17, he17⟩ : ∃ e, (s.hops)[(i.toNat)]? = some e := getx (by omega)
      refine t_idx e_hop (k := (i.toNat)) (by assumption) he17 B rfl rfl (by first | rfl | omega) ?_ rfl
      intro p17 hp17
      refine t_fld ln_hop_0 (by assumption) fb_hop_0 rfl ?_ rfl
      intro p18 hp18
      refine t_ldi (by assumption) ab_int B rfl ?_ rfl
      refine t_move rfl ?_ rfl
      refine t_eql rfl rfl ?_ rfl
      refine t_done ?_
      refine x_seq ?_
      refine w_if rfl ?_ ?_
      · intro he
        refine w_seq ?_
        refine w_region ?_
        refine t_move rfl ?_ rfl
        refine t_assign rfl ?_ rfl
        refine t_done ?_
        refine x_seq ?_
        refine w_ret ?_
        refine x_block_ret ?_
        refine x_then_ret ?_
        refine x_then_ret ?_
        refine x_block_ret ?_
        refine x_then_ret ?_
        refine x_ret1 rfl rfl ?_
        exact ⟨ret_int (by rw [← hl, lastI_yes (by omega) he17 he]), ext_trans X0 B⟩
      · intro he
        refine w_skip ?_
        refine x_block_normal ?_
        refine x_seq ?_
        refine w_region ?_
        refine t_move rfl ?_ rfl
        refine t_sub rfl rfl (by omega) ?_ rfl
        refine t_assign rfl ?_ rfl
        refine t_done ?_
        refine x_round (I := (fun i wq => -1 ≤ i ∧ i ≤ (s.hops.length : Int) - 1 ∧ lastI s.hops r (i + 1).toNat = lastI s.hops r s.hops.length ∧ Below w1.heap.size w1 wq ∧ Sep w1.heap.size wq [])) (F := (fun i => [(5, I i), (1, I r), (2, p2)])) (μ := (fun i => (i + 1).toNat)) (i - 1) ?_ (by exact ⟨rfl, rfl, rfl, trivial⟩) (by (try dsimp only); omega)
        try dsimp only
        exact ⟨by omega, by omega, by rw [← lastI_no (by omega) he17 he]; exact hl, B, S⟩
    · intro hge
      refine w_exit ?_
      refine x_then_exit ?_
      refine x_then_exit ?_
      refine x_block_exit ?_
      refine x_seq ?_
      refine w_seq ?_
      refine w_region ?_
      refine t_assign rfl ?_ rfl
      refine t_done ?_
      refine x_seq ?_
      refine w_ret ?_
      refine x_ret1 rfl rfl ?_
      have : i = -1 := by omega
      subst this
      exact ⟨ret_int (by rw [← hl]; rfl), ext_trans X0 B⟩
theorem spec_SegmentASes (p : Seg) (v : Value) (w : World) (h : VA segT w v p) (hz : p.hops.length ≤ 1048576) : Calls Try.prog 149 #[v] w fun e w' => ∃ v fp, e = .returned v ∧ SlO intT 3 w.heap.size w' v (p.hops.map Hop.ia) fp ∧ Below w.heap.size w w' := by
  have X0 := Below.refl w.heap.size w
  refine enter Try.func149 rfl Try.ntmps149 rfl ?_
  refine w_seq ?_
  refine w_region ?_
  refine t_boxr (by assumption) rfl ?_ rfl rfl
  intro p1 w4 x5 hp1
  replace h := h.below x5
  have X0 := ext_trans X0 x5
  have S := Sep.nil w4
  have B := Below.refl w4.heap.size w4
  have Hb := Nat.le_refl w4.heap.size
  refine t_assign rfl ?_ rfl
  refine t_done ?_
  refine x_seq ?_
  refine w_seq ?_
  refine w_region ?_
  refine t_lit (T := intT) (css := []) (l := []) int_flat S bs_int0 rfl rfl rfl rfl (Nat.zero_le _) litR_nil ?_ rfl rfl
  intro u5 w6 x7 S
  have B := bx Hb B x7
  refine t_assign rfl ?_ rfl
  refine t_done ?_
  refine x_seq ?_
  refine w_seq ?_
  refine w_seq ?_
  refine w_region ?_
  refine t_assign rfl ?_ rfl
  refine t_done ?_
  refine x_seq ?_
  refine w_block ?_
  refine w_loop (X := Nat × Value) (fun x wq => (fun k v => k ≤ p.hops.length ∧ Below w4.heap.size w4 wq ∧ Sep w4.heap.size wq [slO intT 3 v ((p.hops.take k).map Hop.ia)]) x.1 x.2) (fun x => (fun k v => [(4, I ((k : Int))), (3, v), (1, p1), (2, .slice none 0 0)]) x.1 x.2) (fun x => (fun k v => p.hops.length - k) x.1 x.2) (0, u5) ?_ ⟨rfl, rfl, rfl, rfl, trivial⟩ ?_
  · exact ⟨by omega, B, S⟩
  · rintro ⟨k, v⟩ w8 hI
    try dsimp only at hI ⊢
    obtain ⟨hk, B, S⟩ := hI
    have hml : ((p.hops.take k).map Hop.ia).length = k := by rw [List.length_map, List.length_take]; omega
    refine w_seq ?_
    refine w_seq ?_
    refine w_region ?_
    refine t_move rfl ?_ rfl
    refine t_fld ln_seg_2 (by assumption) fb_seg_2 rfl ?_ rfl
    intro p7 hp7
    refine t_lds (by assumption) ab_s_hop B rfl ?_ rfl
    intro v8 hv8
    refine t_len e_hop (by assumption) rfl rfl ?_ rfl
    refine t_lss rfl rfl ?_ rfl
    refine t_done ?_
    refine x_seq ?_
    refine w_if rfl ?_ ?_
    · intro hlt
      refine w_skip ?_
      refine x_seq ?_
      refine w_seq ?_
      refine w_block ?_
      refine w_region ?_
      refine t_move rfl ?_ rfl
      refine t_fld ln_seg_2 (by assumption) fb_seg_2 rfl ?_ rfl
      intro p14 hp14
      refine t_lds (by assumption) ab_s_hop B rfl ?_ rfl
      intro v15 hv15
      refine t_move rfl ?_ rfl
      obtain ⟨e17, he17⟩ : ∃ e, (p.hops)[k]? = some e := getx (by omega)
      refine t_idx e_hop (k := k) (by assumption) he17 B rfl rfl (by first | rfl | omega) ?_ rfl
      intro p17 hp17
      refine t_fld ln_hop_0 (by assumption) fb_hop_0 rfl ?_ rfl
      intro p18 hp18
      refine t_ldi (by assumption) ab_int B rfl ?_ rfl
      refine t_lit (T := intT) (l := [e17.ia]) (css := ([e17.ia]).map fun a => [I a]) int_flat S (fun w => bs_int1 _ w) rfl rfl rfl rfl (by simp [maxLen]) (litR_int _) ?_ rfl rfl
      intro u20 w9 x10 S
      have B := bx Hb B x10
      have hR := S.sl
      have S := S.f1
      refine t_cat int_flat e_int S hR rfl rfl rfl (by first | omega | (simp [-List.length_flatMap]; omega)) (by (simp [maxLen, -List.length_flatMap]; try omega)) ?_ rfl
      intro v21 w11 x12 S
      have B := B.trans x12
      clear hR
      have S := S.f1
      have S := S.tail
      refine t_assign rfl ?_ rfl
      refine t_done ?_
      refine x_block_normal ?_
      refine x_seq ?_
      refine w_region ?_
      refine t_move rfl ?_ rfl
      refine t_add rfl rfl (by omega) ?_ rfl
      refine t_assign rfl ?_ rfl
      refine t_done ?_
      refine x_round (I := (fun x wq => (fun k v => k ≤ p.hops.length ∧ Below w4.heap.size w4 wq ∧ Sep w4.heap.size wq [slO intT 3 v ((p.hops.take k).map Hop.ia)]) x.1 x.2)) (F := (fun x => (fun k v => [(4, I ((k : Int))), (3, v), (1, p1), (2, .slice none 0 0)]) x.1 x.2)) (μ := (fun x => (fun k v => p.hops.length - k) x.1 x.2)) (k + 1, v21) ?_ (by exact ⟨rfl, rfl, rfl, rfl, trivial⟩) (by (try dsimp only); omega)
      try dsimp only
      refine ⟨by omega, B, ?_⟩
      rw [take_succ he17, List.map_append]
      exact S
    · intro hge
      refine w_exit ?_
      refine x_then_exit ?_
      refine x_then_exit ?_
      refine x_block_exit ?_
      refine x_seq ?_
      refine w_seq ?_
      refine w_region ?_
      refine t_move rfl ?_ rfl
      refine t_assign rfl ?_ rfl
      refine t_done ?_
      refine x_seq ?_
      refine w_ret ?_
      refine x_ret1 rfl rfl ?_
      have : k = p.hops.length := by omega
      subst this
      rw [List.take_length] at S
      obtain ⟨fp, hO⟩ := (S.mono X0.size).head
      exact ⟨_, fp, rfl, hO, ext_trans X0 B⟩

def meet (up down : Seg) : Nat → Path
  | 0 => []
  | n + 1 => match up.hops[n]? with
    | none => []
    | some x => if 0 ≤ lastI down.hops x.ia down.hops.length then [makePart up 1 n, makePart down 4 (lastI down.hops x.ia down.hops.length)] else meet up down n
def joinUD (up down : Seg) : Path := meet up down up.hops.length
theorem meet_yes {up down : Seg} {i : Int} {x : Hop} (h0 : 0 ≤ i) (h : up.hops[i.toNat]? = some x) (e : 0 ≤ lastI down.hops x.ia down.hops.length) : meet up down (i + 1).toNat = [makePart up 1 i, makePart down 4 (lastI down.hops x.ia down.hops.length)] := by
  rw [show (i + 1).toNat = i.toNat + 1 by omega, meet, h]
  simp only [e, if_true]
  rw [show (i.toNat : Int) = i by omega]
theorem meet_no {up down : Seg} {i : Int} {x : Hop} (h0 : 0 ≤ i) (h : up.hops[i.toNat]? = some x) (e : ¬ 0 ≤ lastI down.hops x.ia down.hops.length) : meet up down (i + 1).toNat = meet up down (i - 1 + 1).toNat := by
  rw [show (i + 1).toNat = i.toNat + 1 by omega, show (i - 1 + 1).toNat = i.toNat by omega, meet, h]
  simp only [e, if_false]
theorem impl_JoinUpDown (s t : Seg) (v u : Value) (w : World) (h : VA segT w v s) (h' : VA segT w u t) (hz : s.hops.length ≤ 1048576) (hz' : t.hops.length ≤ 1048576) : Calls Try.prog 51 #[v, u] w fun e w' => ∃ cs fp, e = .returned (.agg cs.toArray) ∧ pathT.O w.heap.size w' cs (joinUD s t) fp ∧ Below w.heap.size w w' := by
  have X0 := Below.refl w.heap.size w
  refine enter Try.func51 rfl Try.ntmps51 rfl ?_
  refine w_seq ?_
  refine w_region ?_
  refine t_boxr (by assumption) rfl ?_ rfl rfl
  intro p2 w13 x14 hp2
  replace h := h.below x14
  replace h' := h'.below x14
  have X0 := ext_trans X0 x14
  refine t_boxr (by assumption) rfl ?_ rfl rfl
  intro p3 w15 x16 hp3
  replace h := h.below x16
  replace h' := h'.below x16
  replace hp2 := hp2.below x16
  have X0 := ext_trans X0 x16
  have S := Sep.nil w15
  have B := Below.refl w15.heap.size w15
  have Hb := Nat.le_refl w15.heap.size
  refine t_alloc S z_path rfl ?_ rfl rfl
  intro g4 w17 x18 S
  have B := bx Hb B x18
  refine t_done ?_
  refine x_seq ?_
  refine w_seq ?_
  refine w_seq ?_
  refine w_region ?_
  refine t_fld ln_seg_2 (by assumption) fb_seg_2 rfl ?_ rfl
  intro p7 hp7
  refine t_lds (by assumption) ab_s_hop B rfl ?_ rfl
  intro v8 hv8
  refine t_len e_hop (by assumption) rfl rfl ?_ rfl
  refine t_sub rfl rfl (by omega) ?_ rfl
  refine t_assign rfl ?_ rfl
  refine t_done ?_
  refine x_seq ?_
  refine w_block ?_
  refine w_loop (X := Int) (fun i wq => -1 ≤ i ∧ i ≤ (s.hops.length : Int) - 1 ∧ meet s t (i + 1).toNat = joinUD s t ∧ Below w15.heap.size w15 wq ∧ Sep w15.heap.size wq [bxO g4 30 #[.slice none 0 0]]) (fun i => [(5, I i), (2, p2), (3, p3), (4, .pointer (some ⟨g4, 0, none⟩))]) (fun i => (i + 1).toNat) ((s.hops.length : Int) - 1) ?_ ⟨rfl, rfl, rfl, rfl, trivial⟩ ?_
  · exact ⟨by omega, by omega, by rw [show ((s.hops.length : Int) - 1 + 1).toNat = s.hops.length by omega]; rfl, B, S⟩
  · rintro i w19 hI
    try dsimp only at hI ⊢
    obtain ⟨hk, hk2, hl, B, S⟩ := hI
    refine w_seq ?_
    refine w_seq ?_
    refine w_region ?_
    refine t_move rfl ?_ rfl
    refine t_geq rfl rfl ?_ rfl
    refine t_done ?_
    refine x_seq ?_
    refine w_if rfl ?_ ?_
    · intro hlt
      refine w_skip ?_
      refine x_seq ?_
      refine w_seq ?_
      refine w_block ?_
      refine w_seq ?_
      refine w_draw (.st .take 0 (.st .take 1 (.st .take 2 (.st .take 3 (.st .take 4 (.st .take 5 (.st .take 6 (.st .run 7 (.st .take 8 .done))))))))) mixed (by kernel_rfl) ?_
      intro w20 x21
      have B := bx Hb B x21
      have S := S.below x21
      refine t_lda (by assumption) ab_seg sb_seg B rfl ?_ rfl
      intro v15 hv15
      obtain ⟨v15_2, rfl, hv15_2⟩ := seg_va hv15
      refine t_fld ln_seg_2 (by assumption) fb_seg_2 rfl ?_ rfl
      intro p16 hp16
      refine t_lds (by assumption) ab_s_hop B rfl ?_ rfl
      intro v17 hv17
      refine t_move rfl ?_ rfl
      obtain ⟨e19, he19⟩ : ∃ e, (s.hops)[(i.toNat)]? = some e := getx (by omega)
      refine t_idx e_hop (k := (i.toNat)) (by assumption) he19 B rfl rfl (by first | rfl | omega) ?_ rfl
      intro p19 hp19
      refine t_fld ln_hop_0 (by assumption) fb_hop_0 rfl ?_ rfl
      intro p20 hp20
      refine t_ldi (by assumption) ab_int B rfl ?_ rfl
      refine t_callx Try.call103 rfl (impl_lastHopOf _ _ _ _ (by first | assumption | exact VA.below (by assumption) B) (by omega)) ?_ rfl rfl
      intro w22 x23
      have B := bx Hb B x23
      have S := S.below x23
      refine t_assign rfl ?_ rfl
      refine t_done' ?_
      refine x_seq ?_
      refine w_seq ?_
      refine w_region ?_
      refine t_move rfl ?_ rfl
      refine t_geq rfl rfl ?_ rfl
      refine t_done ?_
      refine x_seq ?_
      refine w_if rfl ?_ ?_
      · intro he
        refine w_seq ?_
        refine w_draw (.st .take 0 (.st .take 1 (.st .take 3 (.st .take 4 (.st .run 2 (.st .run 5 (.st .run 6 (.st .take 7 (.st .fin 8 .done))))))))) mixed (by kernel_rfl) ?_
        intro w24 x25
        have B := bx Hb B x25
        have S := S.below x25
        refine t_lda (by assumption) ab_seg sb_seg B rfl ?_ rfl
        intro v25 hv25
        obtain ⟨v25_2, rfl, hv25_2⟩ := seg_va hv25
        refine t_move rfl ?_ rfl
        refine t_lda (by assumption) ab_seg sb_seg B rfl ?_ rfl
        intro v28 hv28
        obtain ⟨v28_2, rfl, hv28_2⟩ := seg_va hv28
        refine t_move rfl ?_ rfl
        refine t_call Try.call99 rfl (impl_MakePart _ _ _ _ _ (by first | assumption | exact VA.below (by assumption) B) (by omega)) ?_ rfl rfl
        rintro e w26 ⟨cs27, fp27, rfl, hO27, x27⟩
        refine ⟨_, rfl, x27, ?_⟩
        have S := S.add (o := tyO partT _ _) x27 hO27
        have B := bx Hb B x27
        obtain ⟨u27_3, heq, S2⟩ := S.partOpen
        subst heq
        have S := S2
        clear S2
        refine t_call Try.call99 rfl (impl_MakePart _ _ _ _ _ (by first | assumption | exact VA.below (by assumption) B) (by omega)) ?_ rfl rfl
        rintro e w28 ⟨cs30, fp30, rfl, hO30, x29⟩
        refine ⟨_, rfl, x29, ?_⟩
        have S := S.add (o := tyO partT _ _) x29 hO30
        have B := bx Hb B x29
        obtain ⟨u30_3, heq, S2⟩ := S.partOpen
        subst heq
        have S := S2
        clear S2
        have S := S.partShut (x := makePart t 4 (lastI t.hops e19.ia t.hops.length))
        have S := S.f1
        have S := S.partShut (x := makePart s 1 i)
        refine t_lit2 S (fun w => bs_part2 _ _ _ _ _ _ _ _ w) rfl rfl ?_ rfl rfl
        intro u31 w30 x31 S
        have B := bx Hb B x31
        obtain ⟨Au31, cu31, rfl, _⟩ := S.sl.form
        refine t_build (fun w => b_path _ _ _ w) rfl ?_ rfl
        have S := S.f1
        refine t_stn S sb_path rfl rfl rfl rfl (by intro zz hu; have hu : zz ∈ ([.slice Au31 ([makePart s 1 i, makePart t 4 (lastI t.hops e19.ia t.hops.length)]).length cu31] : List Value) := hu; simp only [List.mem_cons, List.not_mem_nil, or_false] at hu; rcases hu with rfl <;> first | rfl | exact (SlR.cells (by first | assumption | exact S.tail.sl | exact S.tail.tail.sl | exact S.tail.tail.tail.sl | exact S.tail.tail.tail.tail.sl | exact S.tail.tail.tail.tail.tail.sl | exact S.tail.tail.tail.tail.tail.tail.sl | exact S.tail.tail.tail.tail.tail.tail.tail.sl | exact S.tail.tail.tail.tail.tail.tail.tail.tail.sl)).2) ?_
        intro w32 b33 S
        have B := B.trans b33
        refine t_done' ?_
        refine x_seq ?_
        refine w_ret ?_
        refine x_block_ret ?_
        refine x_then_ret ?_
        refine x_then_ret ?_
        refine x_block_ret ?_
        refine x_then_ret ?_
        refine x_retc rfl rfl S.box ab_path sb_path rfl ?_
        rw [← hl, meet_yes (by omega) he19 he]
        have S := S.f1
        have S := S.pathShut (x := [makePart s 1 i, makePart t 4 (lastI t.hops e19.ia t.hops.length)])
        obtain ⟨fp, hO⟩ := (S.mono X0.size).head
        exact ⟨_, fp, rfl, hO, ext_trans X0 B⟩
      · intro he
        refine w_skip ?_
        refine x_block_normal ?_
        refine x_seq ?_
        refine w_region ?_
        refine t_move rfl ?_ rfl
        refine t_sub rfl rfl (by omega) ?_ rfl
        refine t_assign rfl ?_ rfl
        refine t_done ?_
        refine x_round (I := (fun i wq => -1 ≤ i ∧ i ≤ (s.hops.length : Int) - 1 ∧ meet s t (i + 1).toNat = joinUD s t ∧ Below w15.heap.size w15 wq ∧ Sep w15.heap.size wq [bxO g4 30 #[.slice none 0 0]])) (F := (fun i => [(5, I i), (2, p2), (3, p3), (4, .pointer (some ⟨g4, 0, none⟩))])) (μ := (fun i => (i + 1).toNat)) (i - 1) ?_ (by exact ⟨rfl, rfl, rfl, rfl, trivial⟩) (by (try dsimp only); omega)
        try dsimp only
        exact ⟨by omega, by omega, by rw [← meet_no (by omega) he19 he]; exact hl, B, S⟩
    · intro hge
      refine w_exit ?_
      refine x_then_exit ?_
      refine x_then_exit ?_
      refine x_block_exit ?_
      refine x_seq ?_
      refine w_seq ?_
      refine w_region ?_
      refine t_build (fun w => b_path0 w) rfl ?_ rfl
      refine t_stn S sb_path rfl rfl rfl rfl (by simp [Value.oneCell']) ?_
      intro w34 b35 S
      have B := B.trans b35
      refine t_done ?_
      refine x_seq ?_
      refine w_ret ?_
      refine x_retc rfl rfl S.box ab_path sb_path rfl ?_
      have : i = -1 := by omega
      subst this
      have S := Sep.addNil (T := partT) (e := 94) S
      have S := S.pathShut (x := [])
      obtain ⟨fp, hO⟩ := (S.mono X0.size).head
      exact ⟨_, fp, rfl, by rw [← hl]; exact hO, ext_trans X0 B⟩
theorem spec_l22Meet (s t : Seg) (v u : Value) (w : World) (h : VA segT w v s) (h' : VA segT w u t) (hz : s.hops.length ≤ 1048576) (hz' : t.hops.length ≤ 1048576) : Calls Try.prog 102 #[v, u] w fun e w' => ∃ cs fp, e = .returned (.agg cs.toArray) ∧ pathT.O w.heap.size w' cs (joinUD s t) fp ∧ Below w.heap.size w w' := by
  have hml : (s.hops.map Hop.ia).length = s.hops.length := List.length_map ..
  have hml2 : (t.hops.map Hop.ia).length = t.hops.length := List.length_map ..
  have X0 := Below.refl w.heap.size w
  refine enter Try.func102 rfl Try.ntmps102 rfl ?_
  refine w_seq ?_
  refine w_region ?_
  refine t_boxr (by assumption) rfl ?_ rfl rfl
  intro p2 w36 x37 hp2
  replace h := h.below x37
  replace h' := h'.below x37
  have X0 := ext_trans X0 x37
  refine t_boxr (by assumption) rfl ?_ rfl rfl
  intro p3 w38 x39 hp3
  replace h := h.below x39
  replace h' := h'.below x39
  replace hp2 := hp2.below x39
  have X0 := ext_trans X0 x39
  have S := Sep.nil w38
  have B := Below.refl w38.heap.size w38
  have Hb := Nat.le_refl w38.heap.size
  refine t_alloc S z_path rfl ?_ rfl rfl
  intro g4 w40 x41 S
  have B := bx Hb B x41
  refine t_done ?_
  refine x_seq ?_
  refine w_seq ?_
  refine w_region ?_
  refine t_lda (by assumption) ab_seg sb_seg B rfl ?_ rfl
  intro v9 hv9
  obtain ⟨v9_2, rfl, hv9_2⟩ := seg_va hv9
  refine t_call Try.call149 rfl (spec_SegmentASes _ _ _ (by first | assumption | exact VA.below (by assumption) B) (by omega)) ?_ rfl rfl
  rintro e w42 ⟨v10, fpv10, rfl, hOv10, x43⟩
  refine ⟨_, rfl, x43, ?_⟩
  have S := S.add (o := slO _ _ _ _) x43 hOv10
  have B := bx Hb B x43
  refine t_assign rfl ?_ rfl
  refine t_done ?_
  refine x_seq ?_
  refine w_seq ?_
  refine w_region ?_
  refine t_lda (by assumption) ab_seg sb_seg B rfl ?_ rfl
  intro v11 hv11
  obtain ⟨v11_2, rfl, hv11_2⟩ := seg_va hv11
  refine t_call Try.call149 rfl (spec_SegmentASes _ _ _ (by first | assumption | exact VA.below (by assumption) B) (by omega)) ?_ rfl rfl
  rintro e w44 ⟨v12, fpv12, rfl, hOv12, x45⟩
  refine ⟨_, rfl, x45, ?_⟩
  have S := S.add (o := slO _ _ _ _) x45 hOv12
  have B := bx Hb B x45
  refine t_assign rfl ?_ rfl
  refine t_done ?_
  refine x_seq ?_
  refine w_seq ?_
  refine w_seq ?_
  refine w_region ?_
  refine t_move rfl ?_ rfl
  refine t_len e_int (S.tail.sl) rfl rfl ?_ rfl
  refine t_sub rfl rfl (by omega) ?_ rfl
  refine t_assign rfl ?_ rfl
  refine t_done ?_
  refine x_seq ?_
  refine w_block ?_
  refine w_loop (X := Int) (fun i wq => -1 ≤ i ∧ i ≤ (s.hops.length : Int) - 1 ∧ meet s t (i + 1).toNat = joinUD s t ∧ Below w38.heap.size w38 wq ∧ Sep w38.heap.size wq [bxO g4 30 #[.slice none 0 0], slO intT 3 v10 (s.hops.map Hop.ia), slO intT 3 v12 (t.hops.map Hop.ia)]) (fun i => [(7, I i), (2, p2), (3, p3), (4, .pointer (some ⟨g4, 0, none⟩)), (5, v10), (6, v12)]) (fun i => (i + 1).toNat) (((s.hops.map Hop.ia).length : Int) - 1) ?_ ⟨rfl, rfl, rfl, rfl, rfl, rfl, trivial⟩ ?_
  · exact ⟨by omega, by omega, by rw [show (((s.hops.map Hop.ia).length : Int) - 1 + 1).toNat = s.hops.length by omega]; rfl, B, S.f1.f2⟩
  · rintro i w46 hI
    try dsimp only at hI ⊢
    obtain ⟨hk, hk2, hl, B, S⟩ := hI
    refine w_seq ?_
    refine w_seq ?_
    refine w_region ?_
    refine t_move rfl ?_ rfl
    refine t_geq rfl rfl ?_ rfl
    refine t_done ?_
    refine x_seq ?_
    refine w_if rfl ?_ ?_
    · intro hlt
      obtain ⟨x, hx⟩ : ∃ e, s.hops[i.toNat]? = some e := getx (by omega)
      have hxm : (s.hops.map Hop.ia)[i.toNat]? = some x.ia := by rw [List.getElem?_map, hx]; rfl
      refine w_skip ?_
      refine x_seq ?_
      refine w_seq ?_
      refine w_block ?_
      refine w_seq ?_
      refine w_region ?_
      refine t_move rfl ?_ rfl
      refine t_len e_int (S.tail.tail.sl) rfl rfl ?_ rfl
      refine t_sub rfl rfl (by omega) ?_ rfl
      refine t_assign rfl ?_ rfl
      refine t_done ?_
      refine x_seq ?_
      refine w_block ?_
      refine w_loop (X := Int) (fun k wq => -1 ≤ k ∧ k ≤ (t.hops.length : Int) - 1 ∧ lastI t.hops x.ia (k + 1).toNat = lastI t.hops x.ia t.hops.length ∧ Below w38.heap.size w38 wq ∧ Sep w38.heap.size wq [bxO g4 30 #[.slice none 0 0], slO intT 3 v10 (s.hops.map Hop.ia), slO intT 3 v12 (t.hops.map Hop.ia)]) (fun k => [(8, I k), (7, I i), (2, p2), (3, p3), (4, .pointer (some ⟨g4, 0, none⟩)), (5, v10), (6, v12)]) (fun k => (k + 1).toNat) (((t.hops.map Hop.ia).length : Int) - 1) ?_ ⟨rfl, rfl, rfl, rfl, rfl, rfl, rfl, trivial⟩ ?_
      · exact ⟨by omega, by omega, by rw [show (((t.hops.map Hop.ia).length : Int) - 1 + 1).toNat = t.hops.length by omega], B, S⟩
      · rintro k w47 hI
        try dsimp only at hI ⊢
        obtain ⟨hj, hj2, hm, B, S⟩ := hI
        refine w_seq ?_
        refine w_seq ?_
        refine w_region ?_
        refine t_move rfl ?_ rfl
        refine t_geq rfl rfl ?_ rfl
        refine t_done ?_
        refine x_seq ?_
        refine w_if rfl ?_ ?_
        · intro hlt2
          obtain ⟨y, hy⟩ : ∃ e, t.hops[k.toNat]? = some e := getx (by omega)
          have hym : (t.hops.map Hop.ia)[k.toNat]? = some y.ia := by rw [List.getElem?_map, hy]; rfl
          refine w_skip ?_
          refine x_seq ?_
          refine w_seq ?_
          refine w_block ?_
          refine w_seq ?_
          refine w_draw (.st .take 0 (.st .take 1 (.st .take 2 (.st .take 3 (.st .take 4 (.st .take 5 (.st .take 6 (.st .take 7 (.st .take 8 .done))))))))) mixed (by kernel_rfl) ?_
          intro w48 x49
          have B := bx Hb B x49
          have S := S.below x49
          refine t_move rfl ?_ rfl
          refine t_move rfl ?_ rfl
          refine t_idx e_int (k := (i.toNat)) (S.tail.sl) hxm (Below.refl _ _) rfl rfl (by first | rfl | omega) ?_ rfl
          intro p29 hp29
          refine t_ldi (by assumption) ab_int (Below.refl _ _) rfl ?_ rfl
          refine t_move rfl ?_ rfl
          refine t_move rfl ?_ rfl
          refine t_idx e_int (k := (k.toNat)) (S.tail.tail.sl) hym (Below.refl _ _) rfl rfl (by first | rfl | omega) ?_ rfl
          intro p33 hp33
          refine t_ldi (by assumption) ab_int (Below.refl _ _) rfl ?_ rfl
          refine t_eql rfl rfl ?_ rfl
          refine t_done' ?_
          refine x_seq ?_
          refine w_if rfl ?_ ?_
          · intro he
            have hL : lastI t.hops x.ia t.hops.length = k := by rw [← hm, lastI_yes (by omega) hy he.symm]
            have hM := meet_yes (down := t) (by omega) hx (by omega)
            rw [hL] at hM
            rw [← hl, hM]
            refine w_seq ?_
            refine w_draw (.st .take 0 (.st .take 1 (.st .take 3 (.st .take 4 (.st .run 2 (.st .run 5 (.st .run 6 (.st .take 7 (.st .fin 8 .done))))))))) mixed (by kernel_rfl) ?_
            intro w50 x51
            have B := bx Hb B x51
            have S := S.below x51
            refine t_lda (by assumption) ab_seg sb_seg B rfl ?_ rfl
            intro v36 hv36
            obtain ⟨v36_2, rfl, hv36_2⟩ := seg_va hv36
            refine t_move rfl ?_ rfl
            refine t_lda (by assumption) ab_seg sb_seg B rfl ?_ rfl
            intro v39 hv39
            obtain ⟨v39_2, rfl, hv39_2⟩ := seg_va hv39
            refine t_move rfl ?_ rfl
            refine t_call Try.call96 rfl (spec_MakePart _ _ _ _ _ (by first | assumption | exact VA.below (by assumption) B) (by omega)) ?_ rfl rfl
            rintro e w52 ⟨cs38, fp38, rfl, hO38, x53⟩
            refine ⟨_, rfl, x53, ?_⟩
            have S := S.add (o := tyO partT _ _) x53 hO38
            have B := bx Hb B x53
            obtain ⟨u38_3, heq, S2⟩ := S.partOpen
            subst heq
            have S := S2
            clear S2
            refine t_call Try.call96 rfl (spec_MakePart _ _ _ _ _ (by first | assumption | exact VA.below (by assumption) B) (by omega)) ?_ rfl rfl
            rintro e w54 ⟨cs41, fp41, rfl, hO41, x55⟩
            refine ⟨_, rfl, x55, ?_⟩
            have S := S.add (o := tyO partT _ _) x55 hO41
            have B := bx Hb B x55
            obtain ⟨u41_3, heq, S2⟩ := S.partOpen
            subst heq
            have S := S2
            clear S2
            have S := S.partShut (x := makePart t 4 k)
            have S := S.f1
            have S := S.partShut (x := makePart s 1 i)
            refine t_lit2 S (fun w => bs_part2 _ _ _ _ _ _ _ _ w) rfl rfl ?_ rfl rfl
            intro u42 w56 x57 S
            have B := bx Hb B x57
            obtain ⟨Au42, cu42, rfl, _⟩ := S.sl.form
            refine t_build (fun w => b_path _ _ _ w) rfl ?_ rfl
            have S := S.f1
            refine t_stn S sb_path rfl rfl rfl rfl (by intro zz hu; have hu : zz ∈ ([.slice Au42 ([makePart s 1 i, makePart t 4 k]).length cu42] : List Value) := hu; simp only [List.mem_cons, List.not_mem_nil, or_false] at hu; rcases hu with rfl <;> first | rfl | exact (SlR.cells (by first | assumption | exact S.tail.sl | exact S.tail.tail.sl | exact S.tail.tail.tail.sl | exact S.tail.tail.tail.tail.sl | exact S.tail.tail.tail.tail.tail.sl | exact S.tail.tail.tail.tail.tail.tail.sl | exact S.tail.tail.tail.tail.tail.tail.tail.sl | exact S.tail.tail.tail.tail.tail.tail.tail.tail.sl)).2) ?_
            intro w58 b59 S
            have B := B.trans b59
            refine t_done' ?_
            refine x_seq ?_
            refine w_ret ?_
            refine x_block_ret ?_
            refine x_then_ret ?_
            refine x_then_ret ?_
            refine x_block_ret ?_
            refine x_block_ret ?_
            refine x_then_ret ?_
            refine x_then_ret ?_
            refine x_block_ret ?_
            refine x_then_ret ?_
            refine x_retc rfl rfl S.box ab_path sb_path rfl ?_
            have S := S.f1
            have S := S.pathShut (x := [makePart s 1 i, makePart t 4 k])
            obtain ⟨fp, hO⟩ := (S.mono X0.size).head
            exact ⟨_, fp, rfl, hO, ext_trans X0 B⟩
          · intro he
            refine w_skip ?_
            refine x_block_normal ?_
            refine x_seq ?_
            refine w_region ?_
            refine t_move rfl ?_ rfl
            refine t_sub rfl rfl (by omega) ?_ rfl
            refine t_assign rfl ?_ rfl
            refine t_done ?_
            refine x_round (I := (fun k wq => -1 ≤ k ∧ k ≤ (t.hops.length : Int) - 1 ∧ lastI t.hops x.ia (k + 1).toNat = lastI t.hops x.ia t.hops.length ∧ Below w38.heap.size w38 wq ∧ Sep w38.heap.size wq [bxO g4 30 #[.slice none 0 0], slO intT 3 v10 (s.hops.map Hop.ia), slO intT 3 v12 (t.hops.map Hop.ia)])) (F := (fun k => [(8, I k), (7, I i), (2, p2), (3, p3), (4, .pointer (some ⟨g4, 0, none⟩)), (5, v10), (6, v12)])) (μ := (fun k => (k + 1).toNat)) (k - 1) ?_ (by exact ⟨rfl, rfl, rfl, rfl, rfl, rfl, rfl, trivial⟩) (by (try dsimp only); omega)
            try dsimp only
            exact ⟨by omega, by omega, by rw [← lastI_no (by omega) hy (fun e => he e.symm)]; exact hm, B, S⟩
        · intro hge2
          refine w_exit ?_
          refine x_then_exit ?_
          refine x_then_exit ?_
          refine x_block_exit ?_
          refine x_block_normal ?_
          refine x_seq ?_
          refine w_region ?_
          refine t_move rfl ?_ rfl
          refine t_sub rfl rfl (by omega) ?_ rfl
          refine t_assign rfl ?_ rfl
          refine t_done ?_
          refine x_round (I := (fun i wq => -1 ≤ i ∧ i ≤ (s.hops.length : Int) - 1 ∧ meet s t (i + 1).toNat = joinUD s t ∧ Below w38.heap.size w38 wq ∧ Sep w38.heap.size wq [bxO g4 30 #[.slice none 0 0], slO intT 3 v10 (s.hops.map Hop.ia), slO intT 3 v12 (t.hops.map Hop.ia)])) (F := (fun i => [(7, I i), (2, p2), (3, p3), (4, .pointer (some ⟨g4, 0, none⟩)), (5, v10), (6, v12)])) (μ := (fun i => (i + 1).toNat)) (i - 1) ?_ (by exact ⟨rfl, rfl, rfl, rfl, rfl, rfl, trivial⟩) (by (try dsimp only); omega)
          try dsimp only
          have : k = -1 := by omega
          subst this
          have hL : lastI t.hops x.ia t.hops.length = -1 := by rw [← hm]; rfl
          exact ⟨by omega, by omega, by rw [← meet_no (by omega) hx (by omega)]; exact hl, B, S⟩
    · intro hge
      refine w_exit ?_
      refine x_then_exit ?_
      refine x_then_exit ?_
      refine x_block_exit ?_
      refine x_seq ?_
      refine w_seq ?_
      refine w_region ?_
      refine t_build (fun w => b_path0 w) rfl ?_ rfl
      refine t_stn S sb_path rfl rfl rfl rfl (by simp [Value.oneCell']) ?_
      intro w60 b61 S
      have B := B.trans b61
      refine t_done ?_
      refine x_seq ?_
      refine w_ret ?_
      refine x_retc rfl rfl S.box ab_path sb_path rfl ?_
      have : i = -1 := by omega
      subst this
      have S := Sep.addNil (T := partT) (e := 94) S
      have S := S.pathShut (x := [])
      obtain ⟨fp, hO⟩ := (S.mono X0.size).head
      exact ⟨_, fp, rfl, by rw [← hl]; exact hO, ext_trans X0 B⟩
theorem spec_JoinUpDown (s t : Seg) (v u : Value) (w : World) (h : VA segT w v s) (h' : VA segT w u t) (hz : s.hops.length ≤ 1048576) (hz' : t.hops.length ≤ 1048576) : Calls Try.prog 50 #[v, u] w fun e w' => ∃ cs fp, e = .returned (.agg cs.toArray) ∧ pathT.O w.heap.size w' cs (joinUD s t) fp ∧ Below w.heap.size w w' := by
  have X0 := Below.refl w.heap.size w
  refine enter Try.func50 rfl Try.ntmps50 rfl ?_
  refine w_seq ?_
  refine w_region ?_
  refine t_boxr (by assumption) rfl ?_ rfl rfl
  intro p2 w62 x63 hp2
  replace h := h.below x63
  replace h' := h'.below x63
  have X0 := ext_trans X0 x63
  refine t_boxr (by assumption) rfl ?_ rfl rfl
  intro p3 w64 x65 hp3
  replace h := h.below x65
  replace h' := h'.below x65
  replace hp2 := hp2.below x65
  have X0 := ext_trans X0 x65
  have S := Sep.nil w64
  have B := Below.refl w64.heap.size w64
  have Hb := Nat.le_refl w64.heap.size
  refine t_alloc S z_path rfl ?_ rfl rfl
  intro g4 w66 x67 S
  have B := bx Hb B x67
  refine t_done ?_
  refine x_seq ?_
  refine w_seq ?_
  refine w_region ?_
  refine t_lda (by assumption) ab_seg sb_seg B rfl ?_ rfl
  intro v5 hv5
  obtain ⟨v5_2, rfl, hv5_2⟩ := seg_va hv5
  refine t_lda (by assumption) ab_seg sb_seg B rfl ?_ rfl
  intro v6 hv6
  obtain ⟨v6_2, rfl, hv6_2⟩ := seg_va hv6
  refine t_call Try.call102 rfl (spec_l22Meet _ _ _ _ _ (by first | assumption | exact VA.below (by assumption) B) (by first | assumption | exact VA.below (by assumption) B) (by omega) (by omega)) ?_ rfl rfl
  rintro e w68 ⟨cs7, fp7, rfl, hO7, x69⟩
  refine ⟨_, rfl, x69, ?_⟩
  have S := S.add (o := tyO pathT _ _) x69 hO7
  have B := bx Hb B x69
  obtain ⟨u7_0, heq, S2⟩ := S.pathOpen
  subst heq
  have S := S2
  clear S2
  have S := S.f1
  refine t_stn S sb_path rfl rfl rfl rfl (by intro zz hu; have hu : zz ∈ ([u7_0] : List Value) := hu; simp only [List.mem_cons, List.not_mem_nil, or_false] at hu; rcases hu with rfl <;> first | rfl | exact (SlR.cells (by first | assumption | exact S.tail.sl | exact S.tail.tail.sl | exact S.tail.tail.tail.sl | exact S.tail.tail.tail.tail.sl | exact S.tail.tail.tail.tail.tail.sl | exact S.tail.tail.tail.tail.tail.tail.sl | exact S.tail.tail.tail.tail.tail.tail.tail.sl | exact S.tail.tail.tail.tail.tail.tail.tail.tail.sl)).2) ?_
  intro w70 b71 S
  have B := B.trans b71
  refine t_done ?_
  refine x_seq ?_
  refine w_ret ?_
  refine x_retc rfl rfl S.box ab_path sb_path rfl ?_
  have S := S.f1
  have S := S.pathShut (x := (joinUD s t))
  obtain ⟨fp, hO⟩ := (S.mono X0.size).head
  exact ⟨_, fp, rfl, hO, ext_trans X0 B⟩
theorem make_len (s : Seg) (k i : Int) : (makePart s k i).hops.length ≤ s.hops.length := by
  unfold makePart
  split
  · split
    · show ((s.hops.drop i.toNat).reverse).length ≤ _; rw [List.length_reverse, List.length_drop]; omega
    · show (s.hops.drop i.toNat).length ≤ _; rw [List.length_drop]; omega
  · exact Nat.zero_le _
theorem meet_sz (s t : Seg) : ∀ n, sz_path (meet s t n) ≤ 2 + s.hops.length + t.hops.length
  | 0 => Nat.zero_le _
  | n + 1 => by
    have ih := meet_sz s t n
    unfold meet
    split
    · exact Nat.zero_le _
    · split
      · rename_i x _ _
        have h1 := make_len s 1 n
        have h2 := make_len t 4 (lastI t.hops x.ia t.hops.length)
        show 2 + (sz_part _ + (sz_part _ + 0)) ≤ _
        unfold sz_part
        omega
      · exact ih
theorem joinUD_sz (s t : Seg) : sz_path (joinUD s t) ≤ 2 + s.hops.length + t.hops.length := meet_sz s t _
end Go.Proofs.Ytaapaafagmbkoaa
