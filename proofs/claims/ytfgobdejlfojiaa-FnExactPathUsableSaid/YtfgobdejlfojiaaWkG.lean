/- RemoteEnd, hopsOk, ValidPart, of the program and of the reference. -/
import Derived.Test.YtfgobdejlfojiaaWkC
import Derived.Test.YtfgobdejlfojiaaTopo
import Derived.Test.YtfgobdejlfojiaaIfaces
import Derived.Test.YtfgobdejlfojiaaMarks
namespace Go.Proofs.Ytfgobdejlfojiaa
open Go.RowKit
set_option linter.unusedVariables false
set_option maxRecDepth 20000

theorem idx_lt (l : List Lnk) (r d : Int) : idxI (findL l r d) < l.length := by
  unfold idxI findL
  split
  · omega
  · rename_i i h
    have := (List.findIdx?_eq_some_iff_getElem.1 h).1
    omega
theorem idx_nat {l : List Lnk} {r d : Int} (h : ¬ idxI (findL l r d) < 0) : findL l r d = some (idxI (findL l r d)).toNat := by
  cases hf : findL l r d with
  | none => rw [hf] at h; simp [idxI] at h
  | some i => simp [idxI]
theorem idx_none {l : List Lnk} {r d : Int} (h : idxI (findL l r d) < 0) : findL l r d = none := by
  cases hf : findL l r d with
  | none => rfl
  | some i => rw [hf] at h; simp [idxI] at h; omega
theorem remote_none {t : Topo} {r d : Int} (h : idxI (findL t.links r d) < 0) : remote t r d = (-1, 0) := by
  unfold remote; rw [idx_none h]; rfl
theorem remote_some {t : Topo} {r d : Int} {x : Lnk} (h : ¬ idxI (findL t.links r d) < 0) (hx : t.links[(idxI (findL t.links r d)).toNat]? = some x) : remote t r d = if x.a = r ∧ x.ai = d then (x.b, x.bi) else (x.a, x.ai) := by
  unfold remote
  rw [show (findL t.links r d).bind (t.links[·]?) = some x by rw [idx_nat h]; exact hx]
theorem ret_two {a b : Int} {q : Int × Int} (h : q = (a, b)) : Ending.returned (.tuple #[I a, I b]) = .returned (.tuple #[I q.1, I q.2]) := by rw [h]

theorem impl_RemoteEnd (t : Topo) (v : Value) (r d : Int) (w : World) (h : VA topoT w v t) (hz : sz_topo t ≤ 1048576) : Calls Try.prog 141 #[v, I r, I d] w fun e w' => e = .returned (.tuple #[I (remote t r d).1, I (remote t r d).2]) ∧ Below w.heap.size w w' := by
  have hlt := idx_lt t.links r d
  have X0 := Below.refl w.heap.size w
  refine enter Try.func141 rfl Try.ntmps141 rfl ?_
  refine w_seq ?_
  refine w_region ?_
  refine t_boxr (by assumption) rfl ?_ rfl rfl
  intro p3 w1 x2 hp3
  replace h := h.below x2
  have X0 := ext_trans X0 x2
  have S := Sep.nil w1
  have B := Below.refl w1.heap.size w1
  have Hb := Nat.le_refl w1.heap.size
  refine t_assign rfl ?_ rfl
  refine t_assign rfl ?_ rfl
  refine t_done ?_
  refine x_seq ?_
  refine w_seq ?_
  refine w_region ?_
  refine t_lda (by assumption) ab_topo sb_topo B rfl ?_ rfl
  intro v10 hv10
  obtain ⟨v10_0, v10_1, rfl, hv10_0, hv10_1⟩ := topo_va hv10
  refine t_move rfl ?_ rfl
  refine t_move rfl ?_ rfl
  refine t_callx Try.call178 rfl (va1 (by first | assumption | exact VA.below (by assumption) B) fun cs h => impl_LinkIndex _ cs _ _ _ h (by omega)) ?_ rfl rfl
  intro w3 x4
  have B := bx Hb B x4
  have S := S.below x4
  refine t_assign rfl ?_ rfl
  refine t_done ?_
  refine x_seq ?_
  refine w_seq ?_
  refine w_seq ?_
  refine w_region ?_
  refine t_move rfl ?_ rfl
  refine t_lss rfl rfl ?_ rfl
  refine t_done ?_
  refine x_seq ?_
  refine w_if rfl ?_ ?_
  · intro h1
    refine w_seq ?_
    refine w_region ?_
    refine t_assign rfl ?_ rfl
    refine t_assign rfl ?_ rfl
    refine t_done ?_
    refine x_seq ?_
    refine w_ret ?_
    refine x_then_ret ?_
    refine x_ret2 rfl rfl rfl ?_
    exact ⟨ret_two (remote_none h1), ext_trans X0 B⟩
  · intro h1
    refine w_skip ?_
    refine x_seq ?_
    refine w_seq ?_
    refine w_region ?_
    refine t_fld ln_topo_1 (by assumption) fb_topo_1 rfl ?_ rfl
    intro p16 hp16
    refine t_lds (by assumption) ab_s_link B rfl ?_ rfl
    intro v17 hv17
    refine t_move rfl ?_ rfl
    obtain ⟨e19, he19⟩ : ∃ e, (t.links)[(idxI (findL t.links r d)).toNat]? = some e := getx (by omega)
    refine t_idx e_link (k := (idxI (findL t.links r d)).toNat) (by assumption) he19 B rfl rfl (by first | rfl | omega) ?_ rfl
    intro p19 hp19
    refine t_lda (by assumption) ab_link sb_link B rfl ?_ rfl
    intro v20 hv20
    obtain rfl := link_va hv20
    refine t_alloc S z_link rfl ?_ rfl rfl
    intro g9 w5 x6 S
    have B := bx Hb B x6
    refine t_stn S sb_link rfl rfl rfl rfl (by simp [Value.oneCell']) ?_
    intro w7 b8 S
    have B := B.trans b8
    refine t_done ?_
    refine x_seq ?_
    refine w_seq ?_
    refine w_seq ?_
    refine w_region ?_
    refine t_fldx fb_link_0 rfl rfl ?_ rfl
    refine t_bx1 S.box ab_int rfl rfl ?_ rfl
    refine t_move rfl ?_ rfl
    refine t_eql rfl rfl ?_ rfl
    refine t_move rfl ?_ rfl
    have hR := remote_some h1 he19
    refine t_partp (t := 25) rfl ?_ ?_
    · intro h2
      refine t_on rfl rfl ?_
      refine t_fldx fb_link_1 rfl rfl ?_ rfl
      refine t_on rfl rfl ?_
      refine t_bx1 S.box ab_int rfl rfl ?_ rfl
      refine t_on rfl rfl ?_
      refine t_move rfl ?_ rfl
      refine t_on rfl rfl ?_
      refine t_eql rfl rfl ?_ rfl
      refine t_pickt rfl rfl ?_ rfl
      refine t_done ?_
      refine x_seq ?_
      refine w_if rfl ?_ ?_
      · intro h3
        refine w_seq ?_
        refine w_draw (.st .take 0 (.st .take 1 (.st .take 2 (.st .take 3 (.st .take 4 (.st .take 5 .done)))))) mixed (by kernel_rfl) ?_
        intro w9 x10
        have B := bx Hb B x10
        have S := S.below x10
        refine t_fldx fb_link_2 rfl rfl ?_ rfl
        refine t_bx1 S.box ab_int rfl rfl ?_ rfl
        refine t_fldx fb_link_3 rfl rfl ?_ rfl
        refine t_bx1 S.box ab_int rfl rfl ?_ rfl
        refine t_assign rfl ?_ rfl
        refine t_assign rfl ?_ rfl
        refine t_done' ?_
        refine x_seq ?_
        refine w_ret ?_
        refine x_then_ret ?_
        refine x_ret2 rfl rfl rfl ?_
        exact ⟨ret_two (by rw [hR, if_pos ⟨h2, h3⟩]), ext_trans X0 B⟩
      · intro h3
        refine w_skip ?_
        refine x_seq ?_
        refine w_seq ?_
        refine w_draw (.st .take 0 (.st .take 1 (.st .take 2 (.st .take 3 (.st .take 4 (.st .take 5 .done)))))) mixed (by kernel_rfl) ?_
        intro w11 x12
        have B := bx Hb B x12
        have S := S.below x12
        refine t_fldx fb_link_0 rfl rfl ?_ rfl
        refine t_bx1 S.box ab_int rfl rfl ?_ rfl
        refine t_fldx fb_link_1 rfl rfl ?_ rfl
        refine t_bx1 S.box ab_int rfl rfl ?_ rfl
        refine t_assign rfl ?_ rfl
        refine t_assign rfl ?_ rfl
        refine t_done' ?_
        refine x_seq ?_
        refine w_ret ?_
        refine x_ret2 rfl rfl rfl ?_
        exact ⟨ret_two (by rw [hR, if_neg fun q => h3 q.2]), ext_trans X0 B⟩
    · intro h2
      refine t_off rfl rfl rfl ?_ rfl
      refine t_off rfl rfl rfl ?_ rfl
      refine t_off rfl rfl rfl ?_ rfl
      refine t_off rfl rfl rfl ?_ rfl
      refine t_pickf rfl rfl ?_ rfl
      refine t_done ?_
      refine x_seq ?_
      refine w_no rfl ?_
      refine w_skip ?_
      refine x_seq ?_
      refine w_seq ?_
      refine w_draw (.st .take 0 (.st .take 1 (.st .take 2 (.st .take 3 (.st .take 4 (.st .take 5 .done)))))) mixed (by kernel_rfl) ?_
      intro w13 x14
      have B := bx Hb B x14
      have S := S.below x14
      refine t_fldx fb_link_0 rfl rfl ?_ rfl
      refine t_bx1 S.box ab_int rfl rfl ?_ rfl
      refine t_fldx fb_link_1 rfl rfl ?_ rfl
      refine t_bx1 S.box ab_int rfl rfl ?_ rfl
      refine t_assign rfl ?_ rfl
      refine t_assign rfl ?_ rfl
      refine t_done' ?_
      refine x_seq ?_
      refine w_ret ?_
      refine x_ret2 rfl rfl rfl ?_
      exact ⟨ret_two (by rw [hR, if_neg fun q => h2 q.1]), ext_trans X0 B⟩
theorem spec_RemoteEnd (t : Topo) (v : Value) (r d : Int) (w : World) (h : VA topoT w v t) (hz : sz_topo t ≤ 1048576) : Calls Try.prog 132 #[v, I r, I d] w fun e w' => e = .returned (.tuple #[I (remote t r d).1, I (remote t r d).2]) ∧ Below w.heap.size w w' := by
  have hlt := idx_lt t.links r d
  have X0 := Below.refl w.heap.size w
  refine enter Try.func132 rfl Try.ntmps132 rfl ?_
  refine w_seq ?_
  refine w_region ?_
  refine t_boxr (by assumption) rfl ?_ rfl rfl
  intro p3 w15 x16 hp3
  replace h := h.below x16
  have X0 := ext_trans X0 x16
  have S := Sep.nil w15
  have B := Below.refl w15.heap.size w15
  have Hb := Nat.le_refl w15.heap.size
  refine t_assign rfl ?_ rfl
  refine t_assign rfl ?_ rfl
  refine t_done ?_
  refine x_seq ?_
  refine w_seq ?_
  refine w_region ?_
  refine t_lda (by assumption) ab_topo sb_topo B rfl ?_ rfl
  intro v10 hv10
  obtain ⟨v10_0, v10_1, rfl, hv10_0, hv10_1⟩ := topo_va hv10
  refine t_move rfl ?_ rfl
  refine t_move rfl ?_ rfl
  refine t_callx Try.call172 rfl (va1 (by first | assumption | exact VA.below (by assumption) B) fun cs h => spec_LinkIndex _ cs _ _ _ h (by omega)) ?_ rfl rfl
  intro w17 x18
  have B := bx Hb B x18
  have S := S.below x18
  refine t_assign rfl ?_ rfl
  refine t_done ?_
  refine x_seq ?_
  refine w_seq ?_
  refine w_seq ?_
  refine w_region ?_
  refine t_move rfl ?_ rfl
  refine t_lss rfl rfl ?_ rfl
  refine t_done ?_
  refine x_seq ?_
  refine w_if rfl ?_ ?_
  · intro h1
    refine w_seq ?_
    refine w_region ?_
    refine t_assign rfl ?_ rfl
    refine t_assign rfl ?_ rfl
    refine t_done ?_
    refine x_seq ?_
    refine w_ret ?_
    refine x_then_ret ?_
    refine x_ret2 rfl rfl rfl ?_
    exact ⟨ret_two (remote_none h1), ext_trans X0 B⟩
  · intro h1
    refine w_skip ?_
    refine x_seq ?_
    refine w_seq ?_
    refine w_region ?_
    refine t_fld ln_topo_1 (by assumption) fb_topo_1 rfl ?_ rfl
    intro p16 hp16
    refine t_lds (by assumption) ab_s_link B rfl ?_ rfl
    intro v17 hv17
    refine t_move rfl ?_ rfl
    obtain ⟨e19, he19⟩ : ∃ e, (t.links)[(idxI (findL t.links r d)).toNat]? = some e := getx (by omega)
    refine t_idx e_link (k := (idxI (findL t.links r d)).toNat) (by assumption) he19 B rfl rfl (by first | rfl | omega) ?_ rfl
    intro p19 hp19
    refine t_lda (by assumption) ab_link sb_link B rfl ?_ rfl
    intro v20 hv20
    obtain rfl := link_va hv20
    refine t_alloc S z_link rfl ?_ rfl rfl
    intro g9 w19 x20 S
    have B := bx Hb B x20
    refine t_stn S sb_link rfl rfl rfl rfl (by simp [Value.oneCell']) ?_
    intro w21 b22 S
    have B := B.trans b22
    refine t_done ?_
    refine x_seq ?_
    refine w_seq ?_
    refine w_seq ?_
    refine w_region ?_
    refine t_fldx fb_link_0 rfl rfl ?_ rfl
    refine t_bx1 S.box ab_int rfl rfl ?_ rfl
    refine t_move rfl ?_ rfl
    refine t_eql rfl rfl ?_ rfl
    refine t_move rfl ?_ rfl
    have hR := remote_some h1 he19
    refine t_partp (t := 25) rfl ?_ ?_
    · intro h2
      refine t_on rfl rfl ?_
      refine t_fldx fb_link_1 rfl rfl ?_ rfl
      refine t_on rfl rfl ?_
      refine t_bx1 S.box ab_int rfl rfl ?_ rfl
      refine t_on rfl rfl ?_
      refine t_move rfl ?_ rfl
      refine t_on rfl rfl ?_
      refine t_eql rfl rfl ?_ rfl
      refine t_pickt rfl rfl ?_ rfl
      refine t_done ?_
      refine x_seq ?_
      refine w_if rfl ?_ ?_
      · intro h3
        refine w_seq ?_
        refine w_draw (.st .take 0 (.st .take 1 (.st .take 2 (.st .take 3 (.st .take 4 (.st .take 5 .done)))))) mixed (by kernel_rfl) ?_
        intro w23 x24
        have B := bx Hb B x24
        have S := S.below x24
        refine t_fldx fb_link_2 rfl rfl ?_ rfl
        refine t_bx1 S.box ab_int rfl rfl ?_ rfl
        refine t_fldx fb_link_3 rfl rfl ?_ rfl
        refine t_bx1 S.box ab_int rfl rfl ?_ rfl
        refine t_assign rfl ?_ rfl
        refine t_assign rfl ?_ rfl
        refine t_done' ?_
        refine x_seq ?_
        refine w_ret ?_
        refine x_then_ret ?_
        refine x_ret2 rfl rfl rfl ?_
        exact ⟨ret_two (by rw [hR, if_pos ⟨h2, h3⟩]), ext_trans X0 B⟩
      · intro h3
        refine w_skip ?_
        refine x_seq ?_
        refine w_seq ?_
        refine w_draw (.st .take 0 (.st .take 1 (.st .take 2 (.st .take 3 (.st .take 4 (.st .take 5 .done)))))) mixed (by kernel_rfl) ?_
        intro w25 x26
        have B := bx Hb B x26
        have S := S.below x26
        refine t_fldx fb_link_0 rfl rfl ?_ rfl
        refine t_bx1 S.box ab_int rfl rfl ?_ rfl
        refine t_fldx fb_link_1 rfl rfl ?_ rfl
        refine t_bx1 S.box ab_int rfl rfl ?_ rfl
        refine t_assign rfl ?_ rfl
        refine t_assign rfl ?_ rfl
        refine t_done' ?_
        refine x_seq ?_
        refine w_ret ?_
        refine x_ret2 rfl rfl rfl ?_
        exact ⟨ret_two (by rw [hR, if_neg fun q => h3 q.2]), ext_trans X0 B⟩
    · intro h2
      refine t_off rfl rfl rfl ?_ rfl
      refine t_off rfl rfl rfl ?_ rfl
      refine t_off rfl rfl rfl ?_ rfl
      refine t_off rfl rfl rfl ?_ rfl
      refine t_pickf rfl rfl ?_ rfl
      refine t_done ?_
      refine x_seq ?_
      refine w_no rfl ?_
      refine w_skip ?_
      refine x_seq ?_
      refine w_seq ?_
      refine w_draw (.st .take 0 (.st .take 1 (.st .take 2 (.st .take 3 (.st .take 4 (.st .take 5 .done)))))) mixed (by kernel_rfl) ?_
      intro w27 x28
      have B := bx Hb B x28
      have S := S.below x28
      refine t_fldx fb_link_0 rfl rfl ?_ rfl
      refine t_bx1 S.box ab_int rfl rfl ?_ rfl
      refine t_fldx fb_link_1 rfl rfl ?_ rfl
      refine t_bx1 S.box ab_int rfl rfl ?_ rfl
      refine t_assign rfl ?_ rfl
      refine t_assign rfl ?_ rfl
      refine t_done' ?_
      refine x_seq ?_
      refine w_ret ?_
      refine x_ret2 rfl rfl rfl ?_
      exact ⟨ret_two (by rw [hR, if_neg fun q => h2 q.1]), ext_trans X0 B⟩

theorem all_ok {f : Nat → Bool} {n : Nat} (h : ∀ j, j < n → f j = true) : (List.range n).all f = true := by
  rw [List.all_eq_true]; intro x hx; exact h x (List.mem_range.1 hx)
theorem all_no {f : Nat → Bool} {n k : Nat} (hk : k < n) (h : f k = false) : (List.range n).all f = false := by
  rw [List.all_eq_false]; exact ⟨k, List.mem_range.2 hk, by simp [h]⟩
theorem upto_succ {f : Nat → Bool} {k : Nat} (h : ∀ j, j < k → f j = true) (hk : f k = true) : ∀ j, j < k + 1 → f j = true := by
  intro j hj
  rcases Nat.lt_or_ge j k with q | q
  · exact h j q
  · have : j = k := by omega
    subst this; exact hk

def hopGood (t : Topo) (l : List Hop) (k : Nat) : Bool := match l[k]? with
  | none => true
  | some x => validHop x && isAS t x.ia && !((l.take k).map Hop.ia).contains x.ia
def hopsOk (t : Topo) (l : List Hop) : Bool := inR l.length 1 8 && (List.range l.length).all (hopGood t l)
def stepGood (t : Topo) (p : Part) (k : Nat) : Bool := match p.hops[k]?, p.hops[k + 1]? with
  | some x, some y => decide (partOut p k ≠ 0) && decide ((remote t x.ia (partOut p k)).1 = y.ia) && decide ((remote t x.ia (partOut p k)).2 = partIn p (k + 1))
  | _, _ => true
def validPart (t : Topo) (p : Part) : Bool := hopsOk t p.hops && inR p.kind 1 4 && inR p.ts 0 1000000 && inR p.beta 0 2147483646 && (List.range (p.hops.length - 1)).all (stepGood t p)
theorem hopGood_eq {t : Topo} {l : List Hop} {k : Nat} {x : Hop} (h : l[k]? = some x) : hopGood t l k = (validHop x && isAS t x.ia && !((l.take k).map Hop.ia).contains x.ia) := by unfold hopGood; rw [h]
theorem stepGood_eq {t : Topo} {p : Part} {k : Nat} {x y : Hop} (h : p.hops[k]? = some x) (h' : p.hops[k + 1]? = some y) : stepGood t p k = (decide (partOut p k ≠ 0) && decide ((remote t x.ia (partOut p k)).1 = y.ia) && decide ((remote t x.ia (partOut p k)).2 = partIn p (k + 1))) := by unfold stepGood; rw [h, h']
theorem has_take {l : List Hop} {k j : Nat} {x : Hop} {n : Int} (h : (l.take k)[j]? = some x) (e : x.ia = n) : ((l.take k).map Hop.ia).contains n = true := by
  rw [List.contains_iff_mem, List.mem_map]; exact ⟨x, List.mem_of_getElem? h, e⟩
theorem hasnt_take {l : List Hop} {n : Int} (h : ∀ (j : Nat) x, l[j]? = some x → x.ia ≠ n) : (l.map Hop.ia).contains n = false := by
  rw [Bool.eq_false_iff]; intro hc
  rw [List.contains_iff_mem, List.mem_map] at hc
  obtain ⟨x, hx, e⟩ := hc
  obtain ⟨j, hj⟩ := List.getElem?_of_mem hx
  exact h j x hj e

theorem impl_hopsOk (t : Topo) (v : Value) (l : List Hop) (u : Value) (w : World) (h : VA topoT w v t) (hl : SlR hopT w u l) (hz : sz_topo t ≤ 1048576) (hz' : l.length ≤ 1048576) : Calls Try.prog 138 #[v, u] w fun e w' => e = .returned (.bool (hopsOk t l)) ∧ Below w.heap.size w w' := by
  have X0 := Below.refl w.heap.size w
  refine enter Try.func138 rfl Try.ntmps138 rfl ?_
  refine w_seq ?_
  refine w_region ?_
  refine t_boxr (by assumption) rfl ?_ rfl rfl
  intro p2 w29 x30 hp2
  replace h := h.below x30
  replace hl := hl.below x30
  have X0 := ext_trans X0 x30
  have S := Sep.nil w29
  have B := Below.refl w29.heap.size w29
  have Hb := Nat.le_refl w29.heap.size
  refine t_assign rfl ?_ rfl
  refine t_done ?_
  refine x_seq ?_
  refine w_seq ?_
  refine w_seq ?_
  refine w_region ?_
  refine t_move rfl ?_ rfl
  refine t_len e_hop (by assumption) rfl rfl ?_ rfl
  refine t_calls Try.call70 rfl (impl_InRange _ _ _ _) ?_ rfl rfl
  refine t_notb rfl ?_ rfl
  refine t_done ?_
  refine x_seq ?_
  refine w_ifb rfl ?_ ?_
  · intro h1
    refine w_seq ?_
    refine w_region ?_
    refine t_assign rfl ?_ rfl
    refine t_done ?_
    refine x_seq ?_
    refine w_ret ?_
    refine x_then_ret ?_
    refine x_ret1 rfl rfl ?_
    exact ⟨ret_bool (by simp only [hopsOk]; simp at h1; simp [h1]), ext_trans X0 B⟩
  · intro h1
    have h1' : inR l.length 1 8 = true := by simpa using h1
    refine w_skip ?_
    refine x_seq ?_
    refine w_seq ?_
    refine w_seq ?_
    refine w_region ?_
    refine t_move rfl ?_ rfl
    refine t_len e_hop (by assumption) rfl rfl ?_ rfl
    refine t_move rfl ?_ rfl
    refine t_done ?_
    refine x_seq ?_
    refine w_block ?_
    refine w_loop (X := Nat) (fun k wq => k ≤ l.length ∧ (∀ j, j < k → hopGood t l j = true) ∧ Below w29.heap.size w29 wq ∧ Sep w29.heap.size wq []) (fun k => [(15, I ((k : Int))), (1, u), (2, p2), (13, u), (14, I ((l.length : Int)))]) (fun k => l.length - k) (0) ?_ ⟨rfl, rfl, rfl, rfl, rfl, trivial⟩ ?_
    · exact ⟨by omega, by omega, B, S⟩
    · rintro k w31 hI
      try dsimp only at hI ⊢
      obtain ⟨hk, ha, B, S⟩ := hI
      refine w_seq ?_
      refine w_region ?_
      refine t_lss rfl rfl ?_ rfl
      refine t_done ?_
      refine x_seq ?_
      refine w_seq ?_
      refine w_if rfl ?_ ?_
      · intro hlt
        have hlt' : k < l.length := by omega
        refine w_skip ?_
        refine x_seq ?_
        refine w_seq ?_
        refine w_block ?_
        refine w_seq ?_
        refine w_region ?_
        refine t_move rfl ?_ rfl
        obtain ⟨e18, he18⟩ : ∃ e, (l)[k]? = some e := getx (by omega)
        refine t_idx e_hop (k := k) (by assumption) he18 B rfl rfl (by first | rfl | omega) ?_ rfl
        intro p18 hp18
        refine t_lda (by assumption) ab_hop sb_hop B rfl ?_ rfl
        intro v19 hv19
        obtain rfl := hop_va hv19
        refine t_alloc S z_hop rfl ?_ rfl rfl
        intro g6 w32 x33 S
        have B := bx Hb B x33
        refine t_assign rfl ?_ rfl
        refine t_stn S sb_hop rfl rfl rfl rfl (by simp [Value.oneCell']) ?_
        intro w34 b35 S
        have B := B.trans b35
        refine t_done ?_
        refine x_seq ?_
        refine w_seq ?_
        refine w_seq ?_
        refine w_region ?_
        refine t_bxn S.box ab_hop sb_hop rfl rfl ?_ rfl
        refine t_callx Try.call175 rfl (impl_ValidHop _ _) ?_ rfl rfl
        intro w36 x37
        have B := bx Hb B x37
        have S := S.below x37
        refine t_notb rfl ?_ rfl
        refine t_move rfl ?_ rfl
        have hG := hopGood_eq (t := t) he18
        refine t_part (t := 23) rfl ?_ ?_
        · intro h2
          have h2' : validHop e18 = false := by simpa using h2
          refine t_off rfl rfl rfl ?_ rfl
          refine t_off rfl rfl rfl ?_ rfl
          refine t_off rfl rfl rfl ?_ rfl
          refine t_off rfl rfl rfl ?_ rfl
          refine t_off rfl rfl rfl ?_ rfl
          refine t_pickt rfl rfl ?_ rfl
          refine t_done ?_
          refine x_seq ?_
          refine w_yes rfl ?_
          refine w_seq ?_
          refine w_region ?_
          refine t_assign rfl ?_ rfl
          refine t_done ?_
          refine x_seq ?_
          refine w_ret ?_
          refine x_then_ret ?_
          refine x_block_ret ?_
          refine x_then_ret ?_
          refine x_then_ret ?_
          refine x_block_ret ?_
          refine x_then_ret ?_
          refine x_ret1 rfl rfl ?_
          exact ⟨ret_bool (by rw [hopsOk, all_no hlt' (by rw [hG, h2']; rfl)]; simp), ext_trans X0 B⟩
        · intro h2
          have h2' : validHop e18 = true := by simpa using h2
          refine t_on rfl rfl ?_
          refine t_lda (by assumption) ab_topo sb_topo B rfl ?_ rfl
          intro v24 hv24
          obtain ⟨v24_0, v24_1, rfl, hv24_0, hv24_1⟩ := topo_va hv24
          refine t_on rfl rfl ?_
          refine t_fldx fb_hop_0 rfl rfl ?_ rfl
          refine t_on rfl rfl ?_
          refine t_bx1 S.box ab_int rfl rfl ?_ rfl
          refine t_on rfl rfl ?_
          refine t_callx Try.call176 rfl (impl_isAS _ _ _ _ (by first | assumption | exact VA.below (by assumption) B) (by omega)) ?_ rfl rfl
          intro w38 x39
          have B := bx Hb B x39
          have S := S.below x39
          refine t_on rfl rfl ?_
          refine t_notb rfl ?_ rfl
          refine t_pickf rfl rfl ?_ rfl
          refine t_done ?_
          refine x_seq ?_
          refine w_ifb rfl ?_ ?_
          · intro h3
            have h3' : isAS t e18.ia = false := by simpa using h3
            refine w_seq ?_
            refine w_region ?_
            refine t_assign rfl ?_ rfl
            refine t_done ?_
            refine x_seq ?_
            refine w_ret ?_
            refine x_then_ret ?_
            refine x_block_ret ?_
            refine x_then_ret ?_
            refine x_then_ret ?_
            refine x_block_ret ?_
            refine x_then_ret ?_
            refine x_ret1 rfl rfl ?_
            exact ⟨ret_bool (by rw [hopsOk, all_no hlt' (by rw [hG, h3']; simp)]; simp), ext_trans X0 B⟩
          · intro h3
            have h3' : isAS t e18.ia = true := by simpa using h3
            have hln : (l.take k).length = k := by rw [List.length_take]; omega
            refine w_skip ?_
            refine x_seq ?_
            refine w_seq ?_
            refine w_region ?_
            refine t_move rfl ?_ rfl
            refine t_move rfl ?_ rfl
            refine t_slt e_hop (k := k) (by assumption) rfl rfl (by first | rfl | omega) (by omega) ?_ rfl
            intro v32 hv32
            refine t_len e_hop (by assumption) rfl rfl ?_ rfl
            refine t_move rfl ?_ rfl
            refine t_done ?_
            refine x_seq ?_
            refine w_block ?_
            refine w_loop (X := Nat) (fun j wq => j ≤ k ∧ (∀ i y, i < j → (l.take k)[i]? = some y → y.ia ≠ e18.ia) ∧ Below w29.heap.size w29 wq ∧ Sep w29.heap.size wq [bxO g6 93 #[I e18.ia, I e18.ing, I e18.eg, I e18.exp, I e18.mac]]) (fun j => [(34, I ((j : Int))), (15, I ((k : Int))), (1, u), (2, p2), (13, u), (14, I ((l.length : Int))), (6, .pointer (some ⟨g6, 0, none⟩)), (32, v32), (33, I (((l.take k).length : Int)))]) (fun j => k - j) (0) ?_ ⟨rfl, rfl, rfl, rfl, rfl, rfl, rfl, rfl, rfl, trivial⟩ ?_
            · exact ⟨by omega, by omega, B, S⟩
            · rintro j w40 hI
              try dsimp only at hI ⊢
              obtain ⟨hj, hb, B, S⟩ := hI
              refine w_seq ?_
              refine w_region ?_
              refine t_lss rfl rfl ?_ rfl
              refine t_done ?_
              refine x_seq ?_
              refine w_seq ?_
              refine w_if rfl ?_ ?_
              · intro hlt2
                refine w_skip ?_
                refine x_seq ?_
                refine w_seq ?_
                refine w_block ?_
                refine w_seq ?_
                refine w_region ?_
                obtain ⟨e36, he36⟩ : ∃ e, (l.take k)[j]? = some e := getx (by omega)
                refine t_idx e_hop (k := j) (by assumption) he36 B rfl rfl (by first | rfl | omega) ?_ rfl
                intro p36 hp36
                refine t_lda (by assumption) ab_hop sb_hop B rfl ?_ rfl
                intro v37 hv37
                obtain rfl := hop_va hv37
                refine t_alloc S z_hop rfl ?_ rfl rfl
                intro g8 w41 x42 S
                have B := bx Hb B x42
                refine t_stn S sb_hop rfl rfl rfl rfl (by simp [Value.oneCell']) ?_
                intro w43 b44 S
                have B := B.trans b44
                refine t_done ?_
                refine x_seq ?_
                refine w_seq ?_
                refine w_region ?_
                refine t_fldx fb_hop_0 rfl rfl ?_ rfl
                refine t_bx1 S.box ab_int rfl rfl ?_ rfl
                refine t_fldx fb_hop_0 rfl rfl ?_ rfl
                refine t_bx1 S.tail.box ab_int rfl rfl ?_ rfl
                refine t_eql rfl rfl ?_ rfl
                refine t_done ?_
                refine x_seq ?_
                refine w_if rfl ?_ ?_
                · intro h4
                  refine w_seq ?_
                  refine w_region ?_
                  refine t_assign rfl ?_ rfl
                  refine t_done ?_
                  refine x_seq ?_
                  refine w_ret ?_
                  refine x_block_ret ?_
                  refine x_then_ret ?_
                  refine x_then_ret ?_
                  refine x_block_ret ?_
                  refine x_block_ret ?_
                  refine x_then_ret ?_
                  refine x_then_ret ?_
                  refine x_block_ret ?_
                  refine x_then_ret ?_
                  refine x_ret1 rfl rfl ?_
                  exact ⟨ret_bool (by rw [hopsOk, all_no hlt' (by rw [hG, has_take he36 h4]; simp)]; simp), ext_trans X0 B⟩
                · intro h4
                  refine w_skip ?_
                  refine x_block_normal ?_
                  refine x_seq ?_
                  refine w_region ?_
                  refine t_add rfl rfl (by omega) ?_ rfl
                  refine t_move rfl ?_ rfl
                  refine t_done ?_
                  have S := S.tail
                  refine x_round (I := (fun j wq => j ≤ k ∧ (∀ i y, i < j → (l.take k)[i]? = some y → y.ia ≠ e18.ia) ∧ Below w29.heap.size w29 wq ∧ Sep w29.heap.size wq [bxO g6 93 #[I e18.ia, I e18.ing, I e18.eg, I e18.exp, I e18.mac]])) (F := (fun j => [(34, I ((j : Int))), (15, I ((k : Int))), (1, u), (2, p2), (13, u), (14, I ((l.length : Int))), (6, .pointer (some ⟨g6, 0, none⟩)), (32, v32), (33, I (((l.take k).length : Int)))])) (μ := (fun j => k - j)) (j + 1) ?_ (by exact ⟨rfl, rfl, rfl, rfl, rfl, rfl, rfl, rfl, rfl, trivial⟩) (by (try dsimp only); omega)
                  try dsimp only
                  refine ⟨by omega, fun i y hi hy => ?_, B, S⟩
                  rcases Nat.lt_or_ge i j with q | q
                  · exact hb i y q hy
                  · have : i = j := by omega
                    subst this
                    rw [he36] at hy
                    cases hy
                    exact h4
              · intro hge2
                refine w_exit ?_
                refine x_then_exit ?_
                refine x_then_exit ?_
                refine x_block_exit ?_
                refine x_block_normal ?_
                refine x_seq ?_
                refine w_region ?_
                refine t_add rfl rfl (by omega) ?_ rfl
                refine t_move rfl ?_ rfl
                refine t_done ?_
                have S := S.tail
                refine x_round (I := (fun k wq => k ≤ l.length ∧ (∀ j, j < k → hopGood t l j = true) ∧ Below w29.heap.size w29 wq ∧ Sep w29.heap.size wq [])) (F := (fun k => [(15, I ((k : Int))), (1, u), (2, p2), (13, u), (14, I ((l.length : Int)))])) (μ := (fun k => l.length - k)) (k + 1) ?_ (by exact ⟨rfl, rfl, rfl, rfl, rfl, trivial⟩) (by (try dsimp only); omega)
                try dsimp only
                refine ⟨by omega, upto_succ ha ?_, B, S⟩
                rw [hG, h2', h3', hasnt_take fun i y hy => hb i y (by have := (List.getElem?_eq_some_iff.1 hy).1; omega) hy]
                rfl
      · intro hge
        refine w_exit ?_
        refine x_then_exit ?_
        refine x_then_exit ?_
        refine x_block_exit ?_
        refine x_seq ?_
        refine w_seq ?_
        refine w_region ?_
        refine t_assign rfl ?_ rfl
        refine t_done ?_
        refine x_seq ?_
        refine w_ret ?_
        refine x_ret1 rfl rfl ?_
        exact ⟨ret_bool (by rw [hopsOk, h1', all_ok fun j hj => ha j (by omega)]; rfl), ext_trans X0 B⟩
theorem impl_ValidPart (t : Topo) (v : Value) (p : Part) (u : Value) (w : World) (h : VA topoT w v t) (hp : VA partT w u p) (hz : sz_topo t ≤ 1048576) (hz' : p.hops.length ≤ 1048576) : Calls Try.prog 71 #[v, u] w fun e w' => e = .returned (.bool (validPart t p)) ∧ Below w.heap.size w w' := by
  have X0 := Below.refl w.heap.size w
  refine enter Try.func71 rfl Try.ntmps71 rfl ?_
  refine w_seq ?_
  refine w_region ?_
  refine t_boxr (by assumption) rfl ?_ rfl rfl
  intro p2 w45 x46 hp2
  replace h := h.below x46
  replace hp := hp.below x46
  have X0 := ext_trans X0 x46
  refine t_boxr (by assumption) rfl ?_ rfl rfl
  intro p3 w47 x48 hp3
  replace h := h.below x48
  replace hp := hp.below x48
  replace hp2 := hp2.below x48
  have X0 := ext_trans X0 x48
  have S := Sep.nil w47
  have B := Below.refl w47.heap.size w47
  have Hb := Nat.le_refl w47.heap.size
  refine t_assign rfl ?_ rfl
  refine t_done ?_
  refine x_seq ?_
  refine w_seq ?_
  refine w_seq ?_
  refine w_region ?_
  refine t_fld ln_part_0 (by assumption) fb_part_0 rfl ?_ rfl
  intro p9 hp9
  refine t_ldi (by assumption) ab_int B rfl ?_ rfl
  refine t_calls Try.call70 rfl (impl_InRange _ _ _ _) ?_ rfl rfl
  refine t_notb rfl ?_ rfl
  refine t_move rfl ?_ rfl
  refine t_part (t := 13) rfl ?_ ?_
  · intro h1
    refine t_off rfl rfl rfl ?_ rfl
    refine t_off rfl rfl rfl ?_ rfl
    refine t_off rfl rfl rfl ?_ rfl
    refine t_off rfl rfl rfl ?_ rfl
    refine t_off rfl rfl rfl ?_ rfl
    refine t_pickt rfl rfl ?_ rfl
    refine t_move rfl ?_ rfl
    refine t_off rfl rfl rfl ?_ rfl
    refine t_off rfl rfl rfl ?_ rfl
    refine t_off rfl rfl rfl ?_ rfl
    refine t_off rfl rfl rfl ?_ rfl
    refine t_pickt rfl rfl ?_ rfl
    refine t_move rfl ?_ rfl
    refine t_off rfl rfl rfl ?_ rfl
    refine t_off rfl rfl rfl ?_ rfl
    refine t_off rfl rfl rfl ?_ rfl
    refine t_off rfl rfl rfl ?_ rfl
    refine t_pickt rfl rfl ?_ rfl
    refine t_done ?_
    refine x_seq ?_
    refine w_yes rfl ?_
    refine w_seq ?_
    refine w_region ?_
    refine t_assign rfl ?_ rfl
    refine t_done ?_
    refine x_seq ?_
    refine w_ret ?_
    refine x_then_ret ?_
    refine x_ret1 rfl rfl ?_
    exact ⟨ret_bool (by simp at h1; simp [validPart, h1]), ext_trans X0 B⟩
  intro h1
  refine t_on rfl rfl ?_
  refine t_lda (by assumption) ab_topo sb_topo B rfl ?_ rfl
  intro v14 hv14
  obtain ⟨v14_0, v14_1, rfl, hv14_0, hv14_1⟩ := topo_va hv14
  refine t_on rfl rfl ?_
  refine t_fld ln_part_3 (by assumption) fb_part_3 rfl ?_ rfl
  intro p15 hp15
  refine t_on rfl rfl ?_
  refine t_lds (by assumption) ab_s_hop B rfl ?_ rfl
  intro v16 hv16
  refine t_on rfl rfl ?_
  refine t_callx Try.call138 rfl (impl_hopsOk _ _ _ _ _ (by first | assumption | exact VA.below (by assumption) B) (by first | assumption | exact SlR.below (by assumption) B) (by omega) (by omega)) ?_ rfl rfl
  intro w49 x50
  have B := bx Hb B x50
  have S := S.below x50
  refine t_on rfl rfl ?_
  refine t_notb rfl ?_ rfl
  refine t_pickf rfl rfl ?_ rfl
  refine t_move rfl ?_ rfl
  refine t_part (t := 20) rfl ?_ ?_
  · intro h2
    refine t_off rfl rfl rfl ?_ rfl
    refine t_off rfl rfl rfl ?_ rfl
    refine t_off rfl rfl rfl ?_ rfl
    refine t_off rfl rfl rfl ?_ rfl
    refine t_pickt rfl rfl ?_ rfl
    refine t_move rfl ?_ rfl
    refine t_off rfl rfl rfl ?_ rfl
    refine t_off rfl rfl rfl ?_ rfl
    refine t_off rfl rfl rfl ?_ rfl
    refine t_off rfl rfl rfl ?_ rfl
    refine t_pickt rfl rfl ?_ rfl
    refine t_done ?_
    refine x_seq ?_
    refine w_yes rfl ?_
    refine w_seq ?_
    refine w_region ?_
    refine t_assign rfl ?_ rfl
    refine t_done ?_
    refine x_seq ?_
    refine w_ret ?_
    refine x_then_ret ?_
    refine x_ret1 rfl rfl ?_
    exact ⟨ret_bool (by simp at h2; simp [validPart, h2]), ext_trans X0 B⟩
  intro h2
  refine t_on rfl rfl ?_
  refine t_fld ln_part_1 (by assumption) fb_part_1 rfl ?_ rfl
  intro p21 hp21
  refine t_on rfl rfl ?_
  refine t_ldi (by assumption) ab_int B rfl ?_ rfl
  refine t_on rfl rfl ?_
  refine t_calls Try.call70 rfl (impl_InRange _ _ _ _) ?_ rfl rfl
  refine t_on rfl rfl ?_
  refine t_notb rfl ?_ rfl
  refine t_pickf rfl rfl ?_ rfl
  refine t_move rfl ?_ rfl
  refine t_part (t := 26) rfl ?_ ?_
  · intro h3
    refine t_off rfl rfl rfl ?_ rfl
    refine t_off rfl rfl rfl ?_ rfl
    refine t_off rfl rfl rfl ?_ rfl
    refine t_off rfl rfl rfl ?_ rfl
    refine t_pickt rfl rfl ?_ rfl
    refine t_done ?_
    refine x_seq ?_
    refine w_yes rfl ?_
    refine w_seq ?_
    refine w_region ?_
    refine t_assign rfl ?_ rfl
    refine t_done ?_
    refine x_seq ?_
    refine w_ret ?_
    refine x_then_ret ?_
    refine x_ret1 rfl rfl ?_
    exact ⟨ret_bool (by simp at h3; simp [validPart, h3]), ext_trans X0 B⟩
  intro h3
  refine t_on rfl rfl ?_
  refine t_fld ln_part_2 (by assumption) fb_part_2 rfl ?_ rfl
  intro p27 hp27
  refine t_on rfl rfl ?_
  refine t_ldi (by assumption) ab_int B rfl ?_ rfl
  refine t_on rfl rfl ?_
  refine t_calls Try.call139 rfl (impl_isResidue _ _) ?_ rfl rfl
  refine t_on rfl rfl ?_
  refine t_notb rfl ?_ rfl
  refine t_pickf rfl rfl ?_ rfl
  refine t_done ?_
  refine x_seq ?_
  refine w_ifb rfl ?_ ?_
  · intro h4
    refine w_seq ?_
    refine w_region ?_
    refine t_assign rfl ?_ rfl
    refine t_done ?_
    refine x_seq ?_
    refine w_ret ?_
    refine x_then_ret ?_
    refine x_ret1 rfl rfl ?_
    exact ⟨ret_bool (by simp at h4; simp [validPart, h4]), ext_trans X0 B⟩
  intro h4
  have hV : validPart t p = (List.range (p.hops.length - 1)).all (stepGood t p) := by simp at h1 h2 h3 h4; simp [validPart, h1, h2, h3, h4]
  rw [hV]
  refine w_skip ?_
  refine x_seq ?_
  refine w_seq ?_
  refine w_seq ?_
  refine w_region ?_
  refine t_assign rfl ?_ rfl
  refine t_done ?_
  refine x_seq ?_
  refine w_block ?_
  refine w_loop (X := Nat) (fun k wq => k ≤ p.hops.length ∧ (∀ j, j < k → stepGood t p j = true) ∧ Below w47.heap.size w47 wq ∧ Sep w47.heap.size wq []) (fun k => [(5, I ((k : Int))), (2, p2), (3, p3)]) (fun k => p.hops.length - k) (0) ?_ ⟨rfl, rfl, rfl, trivial⟩ ?_
  · exact ⟨by omega, by omega, B, S⟩
  · rintro k w51 hI
    try dsimp only at hI ⊢
    obtain ⟨hk, ha, B, S⟩ := hI
    refine w_seq ?_
    refine w_seq ?_
    refine w_region ?_
    refine t_move rfl ?_ rfl
    refine t_fld ln_part_3 (by assumption) fb_part_3 rfl ?_ rfl
    intro p33 hp33
    refine t_lds (by assumption) ab_s_hop B rfl ?_ rfl
    intro v34 hv34
    refine t_len e_hop (by assumption) rfl rfl ?_ rfl
    refine t_sub rfl rfl (by omega) ?_ rfl
    refine t_lss rfl rfl ?_ rfl
    refine t_done ?_
    refine x_seq ?_
    refine w_if rfl ?_ ?_
    · intro hlt
      have hlt' : k < p.hops.length - 1 := by omega
      have hk1 : ((k : Int) + 1).toNat = k + 1 := by omega
      obtain ⟨e63, he63⟩ : ∃ e, p.hops[k + 1]? = some e := getx (by omega)
      refine w_skip ?_
      refine x_seq ?_
      refine w_seq ?_
      refine w_block ?_
      refine w_seq ?_
      refine w_region ?_
      refine t_lda (by assumption) ab_part sb_part B rfl ?_ rfl
      intro v40 hv40
      obtain ⟨v40_3, rfl, hv40_3⟩ := part_va hv40
      refine t_move rfl ?_ rfl
      refine t_callx Try.call140 rfl (va1 (by first | assumption | exact VA.below (by assumption) B) fun cs h => impl_PartEgress _ cs _ _ h (by omega) (by omega)) ?_ rfl rfl
      intro w52 x53
      have B := bx Hb B x53
      have S := S.below x53
      refine t_assign rfl ?_ rfl
      refine t_done ?_
      refine x_seq ?_
      refine w_seq ?_
      refine w_draw (.st .take 0 (.st .take 1 (.st .take 2 (.st .take 3 (.st .take 4 (.st .take 5 (.st .take 6 (.st .take 7 (.st .run 8 (.st .take 9 (.st .take 10 (.st .take 11 (.st .take 12 (.st .take 13 .done)))))))))))))) mixed (by kernel_rfl) ?_
      intro w54 x55
      have B := bx Hb B x55
      have S := S.below x55
      refine t_lda (by assumption) ab_topo sb_topo B rfl ?_ rfl
      intro v44 hv44
      obtain ⟨v44_0, v44_1, rfl, hv44_0, hv44_1⟩ := topo_va hv44
      refine t_fld ln_part_3 (by assumption) fb_part_3 rfl ?_ rfl
      intro p45 hp45
      refine t_lds (by assumption) ab_s_hop B rfl ?_ rfl
      intro v46 hv46
      refine t_move rfl ?_ rfl
      obtain ⟨e48, he48⟩ : ∃ e, (p.hops)[k]? = some e := getx (by omega)
      refine t_idx e_hop (k := k) (by assumption) he48 B rfl rfl (by first | rfl | omega) ?_ rfl
      intro p48 hp48
      refine t_fld ln_hop_0 (by assumption) fb_hop_0 rfl ?_ rfl
      intro p49 hp49
      refine t_ldi (by assumption) ab_int B rfl ?_ rfl
      refine t_move rfl ?_ rfl
      refine t_callx Try.call141 rfl (impl_RemoteEnd _ _ _ _ _ (by first | assumption | exact VA.below (by assumption) B) (by omega)) ?_ rfl rfl
      intro w56 x57
      have B := bx Hb B x57
      have S := S.below x57
      refine t_move rfl ?_ rfl
      refine t_extract rfl rfl ?_ rfl
      refine t_extract rfl rfl ?_ rfl
      refine t_assign rfl ?_ rfl
      refine t_assign rfl ?_ rfl
      refine t_done' ?_
      refine x_seq ?_
      refine w_seq ?_
      refine w_region ?_
      refine t_move rfl ?_ rfl
      refine t_eql rfl rfl ?_ rfl
      refine t_move rfl ?_ rfl
      have hG := stepGood_eq (t := t) he48 he63
      refine t_partp (t := 57) rfl ?_ ?_
      · intro h5
        refine t_off rfl rfl rfl ?_ rfl
        refine t_off rfl rfl rfl ?_ rfl
        refine t_off rfl rfl rfl ?_ rfl
        refine t_off rfl rfl rfl ?_ rfl
        refine t_off rfl rfl rfl ?_ rfl
        refine t_off rfl rfl rfl ?_ rfl
        refine t_off rfl rfl rfl ?_ rfl
        refine t_off rfl rfl rfl ?_ rfl
        refine t_off rfl rfl rfl ?_ rfl
        refine t_pickt rfl rfl ?_ rfl
        refine t_move rfl ?_ rfl
        refine t_off rfl rfl rfl ?_ rfl
        refine t_off rfl rfl rfl ?_ rfl
        refine t_off rfl rfl rfl ?_ rfl
        refine t_off rfl rfl rfl ?_ rfl
        refine t_off rfl rfl rfl ?_ rfl
        refine t_off rfl rfl rfl ?_ rfl
        refine t_pickt rfl rfl ?_ rfl
        refine t_done ?_
        refine x_seq ?_
        refine w_yes rfl ?_
        refine w_seq ?_
        refine w_region ?_
        refine t_assign rfl ?_ rfl
        refine t_done ?_
        refine x_seq ?_
        refine w_ret ?_
        refine x_block_ret ?_
        refine x_then_ret ?_
        refine x_then_ret ?_
        refine x_block_ret ?_
        refine x_then_ret ?_
        refine x_ret1 rfl rfl ?_
        exact ⟨ret_bool (all_no hlt' (by rw [hG]; simp at h5; simp [h5])).symm, ext_trans X0 B⟩
      intro h5
      refine t_on rfl rfl ?_
      refine t_move rfl ?_ rfl
      refine t_on rfl rfl ?_
      refine t_fld ln_part_3 (by assumption) fb_part_3 rfl ?_ rfl
      intro p59 hp59
      refine t_on rfl rfl ?_
      refine t_lds (by assumption) ab_s_hop B rfl ?_ rfl
      intro v60 hv60
      refine t_on rfl rfl ?_
      refine t_move rfl ?_ rfl
      refine t_on rfl rfl ?_
      refine t_add rfl rfl (by omega) ?_ rfl
      refine t_on rfl rfl ?_
      refine t_idx e_hop (k := (k + 1)) (by assumption) he63 B rfl rfl (by first | rfl | omega) ?_ rfl
      intro p63 hp63
      refine t_on rfl rfl ?_
      refine t_fld ln_hop_0 (by assumption) fb_hop_0 rfl ?_ rfl
      intro p64 hp64
      refine t_on rfl rfl ?_
      refine t_ldi (by assumption) ab_int B rfl ?_ rfl
      refine t_on rfl rfl ?_
      refine t_neq rfl rfl ?_ rfl
      refine t_pickf rfl rfl ?_ rfl
      refine t_move rfl ?_ rfl
      refine t_partp (t := 68) rfl ?_ ?_
      · intro h6
        refine t_off rfl rfl rfl ?_ rfl
        refine t_off rfl rfl rfl ?_ rfl
        refine t_off rfl rfl rfl ?_ rfl
        refine t_off rfl rfl rfl ?_ rfl
        refine t_off rfl rfl rfl ?_ rfl
        refine t_off rfl rfl rfl ?_ rfl
        refine t_pickt rfl rfl ?_ rfl
        refine t_done ?_
        refine x_seq ?_
        refine w_yes rfl ?_
        refine w_seq ?_
        refine w_region ?_
        refine t_assign rfl ?_ rfl
        refine t_done ?_
        refine x_seq ?_
        refine w_ret ?_
        refine x_block_ret ?_
        refine x_then_ret ?_
        refine x_then_ret ?_
        refine x_block_ret ?_
        refine x_then_ret ?_
        refine x_ret1 rfl rfl ?_
        exact ⟨ret_bool (all_no hlt' (by rw [hG]; simp at h6; simp [h6])).symm, ext_trans X0 B⟩
      intro h6
      refine t_on rfl rfl ?_
      refine t_move rfl ?_ rfl
      refine t_on rfl rfl ?_
      refine t_lda (by assumption) ab_part sb_part B rfl ?_ rfl
      intro v70 hv70
      obtain ⟨v70_3, rfl, hv70_3⟩ := part_va hv70
      refine t_on rfl rfl ?_
      refine t_move rfl ?_ rfl
      refine t_on rfl rfl ?_
      refine t_add rfl rfl (by omega) ?_ rfl
      refine t_on rfl rfl ?_
      refine t_callx Try.call142 rfl (va1 (by first | assumption | exact VA.below (by assumption) B) fun cs h => impl_PartIngress _ cs _ _ h (by omega) (by omega)) ?_ rfl rfl
      intro w58 x59
      have B := bx Hb B x59
      have S := S.below x59
      refine t_on rfl rfl ?_
      refine t_neq rfl rfl ?_ rfl
      refine t_pickf rfl rfl ?_ rfl
      refine t_done ?_
      refine x_seq ?_
      refine w_if rfl ?_ ?_
      · intro h7
        refine w_seq ?_
        refine w_region ?_
        refine t_assign rfl ?_ rfl
        refine t_done ?_
        refine x_seq ?_
        refine w_ret ?_
        refine x_block_ret ?_
        refine x_then_ret ?_
        refine x_then_ret ?_
        refine x_block_ret ?_
        refine x_then_ret ?_
        refine x_ret1 rfl rfl ?_
        exact ⟨ret_bool (all_no hlt' (by rw [hG]; rw [hk1] at h7; simp at h7; simp [h7])).symm, ext_trans X0 B⟩
      intro h7
      refine w_skip ?_
      refine x_block_normal ?_
      refine x_seq ?_
      refine w_region ?_
      refine t_move rfl ?_ rfl
      refine t_add rfl rfl (by omega) ?_ rfl
      refine t_assign rfl ?_ rfl
      refine t_done ?_
      refine x_round (I := (fun k wq => k ≤ p.hops.length ∧ (∀ j, j < k → stepGood t p j = true) ∧ Below w47.heap.size w47 wq ∧ Sep w47.heap.size wq [])) (F := (fun k => [(5, I ((k : Int))), (2, p2), (3, p3)])) (μ := (fun k => p.hops.length - k)) (k + 1) ?_ (by exact ⟨rfl, rfl, rfl, trivial⟩) (by (try dsimp only); omega)
      try dsimp only
      refine ⟨by omega, upto_succ ha ?_, B, S⟩
      rw [hk1] at h7
      rw [hG]
      simp at h5 h6 h7
      simp [h5, h6, h7]
    · intro hge
      refine w_exit ?_
      refine x_then_exit ?_
      refine x_then_exit ?_
      refine x_block_exit ?_
      refine x_seq ?_
      refine w_seq ?_
      refine w_region ?_
      refine t_assign rfl ?_ rfl
      refine t_done ?_
      refine x_seq ?_
      refine w_ret ?_
      refine x_ret1 rfl rfl ?_
      exact ⟨ret_bool (all_ok fun j hj => ha j (by omega)).symm, ext_trans X0 B⟩

theorem spec_l21Realms (p : Part) (v : Value) (w : World) (h : VA partT w v p) (hz : p.hops.length ≤ 1048576) : Calls Try.prog 129 #[v] w fun e w' => ∃ v fp, e = .returned v ∧ SlO intT 3 w.heap.size w' v (p.hops.map Hop.ia) fp ∧ Below w.heap.size w w' := by
  have X0 := Below.refl w.heap.size w
  refine enter Try.func129 rfl Try.ntmps129 rfl ?_
  refine w_seq ?_
  refine w_region ?_
  refine t_boxr (by assumption) rfl ?_ rfl rfl
  intro p1 w60 x61 hp1
  replace h := h.below x61
  have X0 := ext_trans X0 x61
  have S := Sep.nil w60
  have B := Below.refl w60.heap.size w60
  have Hb := Nat.le_refl w60.heap.size
  refine t_assign rfl ?_ rfl
  refine t_done ?_
  refine x_seq ?_
  refine w_seq ?_
  refine w_region ?_
  refine t_lit (T := intT) (css := []) (l := []) int_flat S bs_int0 rfl rfl rfl rfl (Nat.zero_le _) litR_nil ?_ rfl rfl
  intro u5 w62 x63 S
  have B := bx Hb B x63
  refine t_assign rfl ?_ rfl
  refine t_done ?_
  refine x_seq ?_
  refine w_seq ?_
  refine w_seq ?_
  refine w_region ?_
  refine t_assign rfl ?_ rfl
  refine t_done ?_
  refine x_seq ?_
  refine w_block ?_
  refine w_loop (X := Nat × Value) (fun x wq => (fun k v => k ≤ p.hops.length ∧ Below w60.heap.size w60 wq ∧ Sep w60.heap.size wq [slO intT 3 v ((p.hops.take k).map Hop.ia)]) x.1 x.2) (fun x => (fun k v => [(4, I ((k : Int))), (3, v), (1, p1), (2, .slice none 0 0)]) x.1 x.2) (fun x => (fun k v => p.hops.length - k) x.1 x.2) (0, u5) ?_ ⟨rfl, rfl, rfl, rfl, trivial⟩ ?_
  · exact ⟨by omega, B, S⟩
  · rintro ⟨k, v⟩ w64 hI
    try dsimp only at hI ⊢
    obtain ⟨hk, B, S⟩ := hI
    have hml : ((p.hops.take k).map Hop.ia).length = k := by rw [List.length_map, List.length_take]; omega
    refine w_seq ?_
    refine w_seq ?_
    refine w_region ?_
    refine t_move rfl ?_ rfl
    refine t_fld ln_part_3 (by assumption) fb_part_3 rfl ?_ rfl
    intro p7 hp7
    refine t_lds (by assumption) ab_s_hop B rfl ?_ rfl
    intro v8 hv8
    refine t_len e_hop (by assumption) rfl rfl ?_ rfl
    refine t_lss rfl rfl ?_ rfl
    refine t_done ?_
    refine x_seq ?_
    refine w_if rfl ?_ ?_
    · intro hlt
      refine w_skip ?_
      refine x_seq ?_
      refine w_seq ?_
      refine w_block ?_
      refine w_region ?_
      refine t_move rfl ?_ rfl
      refine t_fld ln_part_3 (by assumption) fb_part_3 rfl ?_ rfl
      intro p14 hp14
      refine t_lds (by assumption) ab_s_hop B rfl ?_ rfl
      intro v15 hv15
      refine t_move rfl ?_ rfl
      obtain ⟨e17, he17⟩ : ∃ e, (p.hops)[k]? = some e := getx (by omega)
      refine t_idx e_hop (k := k) (by assumption) he17 B rfl rfl (by first | rfl | omega) ?_ rfl
      intro p17 hp17
      refine t_fld ln_hop_0 (by assumption) fb_hop_0 rfl ?_ rfl
      intro p18 hp18
      refine t_ldi (by assumption) ab_int B rfl ?_ rfl
      refine t_lit (T := intT) (l := [e17.ia]) (css := ([e17.ia]).map fun a => [I a]) int_flat S (fun w => bs_int1 _ w) rfl rfl rfl rfl (by simp [maxLen]) (litR_int _) ?_ rfl rfl
      intro u20 w65 x66 S
      have B := bx Hb B x66
      have hR := S.sl
      have S := S.f1
      refine t_cat int_flat e_int S hR rfl rfl rfl (by first | omega | (simp [-List.length_flatMap]; omega)) (by (simp [maxLen, -List.length_flatMap]; try omega)) ?_ rfl
      intro v21 w67 x68 S
      have B := B.trans x68
      clear hR
      have S := S.f1
      have S := S.tail
      refine t_assign rfl ?_ rfl
      refine t_done ?_
      refine x_block_normal ?_
      refine x_seq ?_
      refine w_region ?_
      refine t_move rfl ?_ rfl
      refine t_add rfl rfl (by omega) ?_ rfl
      refine t_assign rfl ?_ rfl
      refine t_done ?_
      refine x_round (I := (fun x wq => (fun k v => k ≤ p.hops.length ∧ Below w60.heap.size w60 wq ∧ Sep w60.heap.size wq [slO intT 3 v ((p.hops.take k).map Hop.ia)]) x.1 x.2)) (F := (fun x => (fun k v => [(4, I ((k : Int))), (3, v), (1, p1), (2, .slice none 0 0)]) x.1 x.2)) (μ := (fun x => (fun k v => p.hops.length - k) x.1 x.2)) (k + 1, v21) ?_ (by exact ⟨rfl, rfl, rfl, rfl, trivial⟩) (by (try dsimp only); omega)
      try dsimp only
      refine ⟨by omega, B, ?_⟩
      rw [take_succ he17, List.map_append]
      exact S
    · intro hge
      refine w_exit ?_
      refine x_then_exit ?_
      refine x_then_exit ?_
      refine x_block_exit ?_
      refine x_seq ?_
      refine w_seq ?_
      refine w_region ?_
      refine t_move rfl ?_ rfl
      refine t_assign rfl ?_ rfl
      refine t_done ?_
      refine x_seq ?_
      refine w_ret ?_
      refine x_ret1 rfl rfl ?_
      have : k = p.hops.length := by omega
      subst this
      rw [List.take_length] at S
      obtain ⟨fp, hO⟩ := (S.mono X0.size).head
      exact ⟨_, fp, rfl, hO, ext_trans X0 B⟩
theorem spec_ValidPart (t : Topo) (v : Value) (p : Part) (u : Value) (w : World) (h : VA topoT w v t) (hp : VA partT w u p) (hz : sz_topo t ≤ 1048576) (hz' : p.hops.length ≤ 1048576) : Calls Try.prog 65 #[v, u] w fun e w' => e = .returned (.bool (validPart t p)) ∧ Below w.heap.size w w' := by
  have hml : (p.hops.map Hop.ia).length = p.hops.length := List.length_map ..
  have X0 := Below.refl w.heap.size w
  refine enter Try.func65 rfl Try.ntmps65 rfl ?_
  refine w_seq ?_
  refine w_region ?_
  refine t_boxr (by assumption) rfl ?_ rfl rfl
  intro p2 w69 x70 hp2
  replace h := h.below x70
  replace hp := hp.below x70
  have X0 := ext_trans X0 x70
  refine t_boxr (by assumption) rfl ?_ rfl rfl
  intro p3 w71 x72 hp3
  replace h := h.below x72
  replace hp := hp.below x72
  replace hp2 := hp2.below x72
  have X0 := ext_trans X0 x72
  have S := Sep.nil w71
  have B := Below.refl w71.heap.size w71
  have Hb := Nat.le_refl w71.heap.size
  refine t_assign rfl ?_ rfl
  refine t_done ?_
  refine x_seq ?_
  refine w_seq ?_
  refine w_seq ?_
  refine w_region ?_
  refine t_fld ln_part_3 (by assumption) fb_part_3 rfl ?_ rfl
  intro p9 hp9
  refine t_lds (by assumption) ab_s_hop B rfl ?_ rfl
  intro v10 hv10
  refine t_len e_hop (by assumption) rfl rfl ?_ rfl
  refine t_calls Try.call64 rfl (spec_l1In _ _ _ _) ?_ rfl rfl
  refine t_notb rfl ?_ rfl
  refine t_move rfl ?_ rfl
  refine t_part (t := 14) rfl ?_ ?_
  · intro h1
    refine t_off rfl rfl rfl ?_ rfl
    refine t_off rfl rfl rfl ?_ rfl
    refine t_off rfl rfl rfl ?_ rfl
    refine t_off rfl rfl rfl ?_ rfl
    refine t_pickt rfl rfl ?_ rfl
    refine t_move rfl ?_ rfl
    refine t_off rfl rfl rfl ?_ rfl
    refine t_off rfl rfl rfl ?_ rfl
    refine t_off rfl rfl rfl ?_ rfl
    refine t_off rfl rfl rfl ?_ rfl
    refine t_pickt rfl rfl ?_ rfl
    refine t_move rfl ?_ rfl
    refine t_off rfl rfl rfl ?_ rfl
    refine t_off rfl rfl rfl ?_ rfl
    refine t_off rfl rfl rfl ?_ rfl
    refine t_off rfl rfl rfl ?_ rfl
    refine t_pickt rfl rfl ?_ rfl
    refine t_done ?_
    refine x_seq ?_
    refine w_yes rfl ?_
    refine w_seq ?_
    refine w_region ?_
    refine t_assign rfl ?_ rfl
    refine t_done ?_
    refine x_seq ?_
    refine w_ret ?_
    refine x_then_ret ?_
    refine x_ret1 rfl rfl ?_
    exact ⟨ret_bool (by simp at h1; simp [validPart, hopsOk, h1]), ext_trans X0 B⟩
  intro h1
  refine t_on rfl rfl ?_
  refine t_fld ln_part_0 (by assumption) fb_part_0 rfl ?_ rfl
  intro p15 hp15
  refine t_on rfl rfl ?_
  refine t_ldi (by assumption) ab_int B rfl ?_ rfl
  refine t_on rfl rfl ?_
  refine t_calls Try.call64 rfl (spec_l1In _ _ _ _) ?_ rfl rfl
  refine t_on rfl rfl ?_
  refine t_notb rfl ?_ rfl
  refine t_pickf rfl rfl ?_ rfl
  refine t_move rfl ?_ rfl
  refine t_part (t := 20) rfl ?_ ?_
  · intro h2
    refine t_off rfl rfl rfl ?_ rfl
    refine t_off rfl rfl rfl ?_ rfl
    refine t_off rfl rfl rfl ?_ rfl
    refine t_off rfl rfl rfl ?_ rfl
    refine t_pickt rfl rfl ?_ rfl
    refine t_move rfl ?_ rfl
    refine t_off rfl rfl rfl ?_ rfl
    refine t_off rfl rfl rfl ?_ rfl
    refine t_off rfl rfl rfl ?_ rfl
    refine t_off rfl rfl rfl ?_ rfl
    refine t_pickt rfl rfl ?_ rfl
    refine t_done ?_
    refine x_seq ?_
    refine w_yes rfl ?_
    refine w_seq ?_
    refine w_region ?_
    refine t_assign rfl ?_ rfl
    refine t_done ?_
    refine x_seq ?_
    refine w_ret ?_
    refine x_then_ret ?_
    refine x_ret1 rfl rfl ?_
    exact ⟨ret_bool (by simp at h2; simp [validPart, h2]), ext_trans X0 B⟩
  intro h2
  refine t_on rfl rfl ?_
  refine t_fld ln_part_1 (by assumption) fb_part_1 rfl ?_ rfl
  intro p21 hp21
  refine t_on rfl rfl ?_
  refine t_ldi (by assumption) ab_int B rfl ?_ rfl
  refine t_on rfl rfl ?_
  refine t_calls Try.call64 rfl (spec_l1In _ _ _ _) ?_ rfl rfl
  refine t_on rfl rfl ?_
  refine t_notb rfl ?_ rfl
  refine t_pickf rfl rfl ?_ rfl
  refine t_move rfl ?_ rfl
  refine t_part (t := 26) rfl ?_ ?_
  · intro h3
    refine t_off rfl rfl rfl ?_ rfl
    refine t_off rfl rfl rfl ?_ rfl
    refine t_off rfl rfl rfl ?_ rfl
    refine t_off rfl rfl rfl ?_ rfl
    refine t_pickt rfl rfl ?_ rfl
    refine t_done ?_
    refine x_seq ?_
    refine w_yes rfl ?_
    refine w_seq ?_
    refine w_region ?_
    refine t_assign rfl ?_ rfl
    refine t_done ?_
    refine x_seq ?_
    refine w_ret ?_
    refine x_then_ret ?_
    refine x_ret1 rfl rfl ?_
    exact ⟨ret_bool (by simp at h3; simp [validPart, h3]), ext_trans X0 B⟩
  intro h3
  refine t_on rfl rfl ?_
  refine t_fld ln_part_2 (by assumption) fb_part_2 rfl ?_ rfl
  intro p27 hp27
  refine t_on rfl rfl ?_
  refine t_ldi (by assumption) ab_int B rfl ?_ rfl
  refine t_on rfl rfl ?_
  refine t_calls Try.call128 rfl (spec_l3Ok _ _) ?_ rfl rfl
  refine t_on rfl rfl ?_
  refine t_notb rfl ?_ rfl
  refine t_pickf rfl rfl ?_ rfl
  refine t_done ?_
  refine x_seq ?_
  refine w_ifb rfl ?_ ?_
  · intro h4
    refine w_seq ?_
    refine w_region ?_
    refine t_assign rfl ?_ rfl
    refine t_done ?_
    refine x_seq ?_
    refine w_ret ?_
    refine x_then_ret ?_
    refine x_ret1 rfl rfl ?_
    exact ⟨ret_bool (by simp at h4; simp [validPart, h4]), ext_trans X0 B⟩
  intro h4
  have hV : validPart t p = ((List.range p.hops.length).all (hopGood t p.hops) && (List.range (p.hops.length - 1)).all (stepGood t p)) := by simp at h1 h2 h3 h4; simp [validPart, hopsOk, h1, h2, h3, h4]
  rw [hV]
  refine w_skip ?_
  refine x_seq ?_
  refine w_seq ?_
  refine w_region ?_
  refine t_lda (by assumption) ab_part sb_part B rfl ?_ rfl
  intro v32 hv32
  obtain ⟨v32_3, rfl, hv32_3⟩ := part_va hv32
  refine t_call Try.call129 rfl (spec_l21Realms _ _ _ (by first | assumption | exact VA.below (by assumption) B) (by omega)) ?_ rfl rfl
  rintro e w73 ⟨v33, fpv33, rfl, hOv33, x74⟩
  refine ⟨_, rfl, x74, ?_⟩
  have S := S.add (o := slO _ _ _ _) x74 hOv33
  have B := bx Hb B x74
  refine t_assign rfl ?_ rfl
  refine t_done ?_
  refine x_seq ?_
  refine w_seq ?_
  refine w_seq ?_
  refine w_region ?_
  refine t_assign rfl ?_ rfl
  refine t_done ?_
  refine x_seq ?_
  refine w_block ?_
  refine w_loop (X := Nat) (fun k wq => k ≤ p.hops.length ∧ (∀ j, j < k → hopGood t p.hops j = true) ∧ (∀ j, j < k - 1 → stepGood t p j = true) ∧ Below w71.heap.size w71 wq ∧ Sep w71.heap.size wq [slO intT 3 v33 (p.hops.map Hop.ia)]) (fun k => [(6, I ((k : Int))), (2, p2), (3, p3), (5, v33)]) (fun k => p.hops.length - k) (0) ?_ ⟨rfl, rfl, rfl, rfl, trivial⟩ ?_
  · exact ⟨by omega, by omega, by omega, B, S⟩
  · rintro k w75 hI
    try dsimp only at hI ⊢
    obtain ⟨hk, ha, hb, B, S⟩ := hI
    refine w_seq ?_
    refine w_seq ?_
    refine w_region ?_
    refine t_move rfl ?_ rfl
    refine t_fld ln_part_3 (by assumption) fb_part_3 rfl ?_ rfl
    intro p35 hp35
    refine t_lds (by assumption) ab_s_hop B rfl ?_ rfl
    intro v36 hv36
    refine t_len e_hop (by assumption) rfl rfl ?_ rfl
    refine t_lss rfl rfl ?_ rfl
    refine t_done ?_
    refine x_seq ?_
    refine w_if rfl ?_ ?_
    · intro hlt
      have hlt' : k < p.hops.length := by omega
      obtain ⟨e44, he44⟩ : ∃ e, p.hops[k]? = some e := getx (by omega)
      have hm44 : (p.hops.map Hop.ia)[k]? = some e44.ia := by rw [List.getElem?_map, he44]; rfl
      have htl : ((p.hops.map Hop.ia).take k).length ≤ 16777216 := by rw [List.length_take, hml]; omega
      refine w_skip ?_
      refine x_seq ?_
      refine w_seq ?_
      refine w_block ?_
      refine w_seq ?_
      refine w_seq ?_
      refine w_draw (.st .take 0 (.st .take 1 (.st .take 2 (.st .take 3 (.st .take 4 (.st .run 5 (.st .take 6 (.st .take 7 (.st .take 8 (.st .take 9 (.st .take 10 (.st .take 11 (.st .take 12 (.st .run 13 (.st .take 14 (.st .take 15 (.st .take 16 (.st .take 17 (.st .take 18 (.st .take 19 (.st .take 20 (.st .take 21 (.st .take 22 (.st .take 23 (.st .run 24 (.st .take 25 .done)))))))))))))))))))))))))) mixed (by kernel_rfl) ?_
      intro w76 x77
      have B := bx Hb B x77
      have S := S.below x77
      refine t_fld ln_part_3 (by assumption) fb_part_3 rfl ?_ rfl
      intro p41 hp41
      refine t_lds (by assumption) ab_s_hop B rfl ?_ rfl
      intro v42 hv42
      refine t_move rfl ?_ rfl
      refine t_idx e_hop (k := k) (by assumption) he44 B rfl rfl (by first | rfl | omega) ?_ rfl
      intro p44 hp44
      refine t_lda (by assumption) ab_hop sb_hop B rfl ?_ rfl
      intro v45 hv45
      obtain rfl := hop_va hv45
      refine t_callx Try.call130 rfl (spec_ValidHop _ _) ?_ rfl rfl
      intro w78 x79
      have B := bx Hb B x79
      have S := S.below x79
      refine t_notb rfl ?_ rfl
      refine t_move rfl ?_ rfl
      have hG := hopGood_eq (t := t) he44
      rw [List.map_take] at hG
      refine t_part (t := 48) rfl ?_ ?_
      · intro h5
        refine t_off rfl rfl rfl ?_ rfl
        refine t_off rfl rfl rfl ?_ rfl
        refine t_off rfl rfl rfl ?_ rfl
        refine t_off rfl rfl rfl ?_ rfl
        refine t_off rfl rfl rfl ?_ rfl
        refine t_off rfl rfl rfl ?_ rfl
        refine t_off rfl rfl rfl ?_ rfl
        refine t_pickt rfl rfl ?_ rfl
        refine t_move rfl ?_ rfl
        refine t_off rfl rfl rfl ?_ rfl
        refine t_off rfl rfl rfl ?_ rfl
        refine t_off rfl rfl rfl ?_ rfl
        refine t_off rfl rfl rfl ?_ rfl
        refine t_off rfl rfl rfl ?_ rfl
        refine t_off rfl rfl rfl ?_ rfl
        refine t_off rfl rfl rfl ?_ rfl
        refine t_off rfl rfl rfl ?_ rfl
        refine t_pickt rfl rfl ?_ rfl
        refine t_done' ?_
        refine x_seq ?_
        refine w_yes rfl ?_
        refine w_seq ?_
        refine w_region ?_
        refine t_assign rfl ?_ rfl
        refine t_done ?_
        refine x_seq ?_
        refine w_ret ?_
        refine x_then_ret ?_
        refine x_block_ret ?_
        refine x_then_ret ?_
        refine x_then_ret ?_
        refine x_block_ret ?_
        refine x_then_ret ?_
        refine x_ret1 rfl rfl ?_
        exact ⟨ret_bool (by rw [all_no hlt' (by rw [hG]; simp at h5; simp [h5])]; rfl), ext_trans X0 B⟩
      intro h5
      refine t_on rfl rfl ?_
      refine t_lda (by assumption) ab_topo sb_topo B rfl ?_ rfl
      intro v49 hv49
      obtain ⟨v49_0, v49_1, rfl, hv49_0, hv49_1⟩ := topo_va hv49
      refine t_on rfl rfl ?_
      refine t_move rfl ?_ rfl
      refine t_on rfl rfl ?_
      refine t_move rfl ?_ rfl
      refine t_on rfl rfl ?_
      refine t_idx e_int (k := k) (S.sl) hm44 (Below.refl _ _) rfl rfl (by first | rfl | omega) ?_ rfl
      intro p52 hp52
      refine t_on rfl rfl ?_
      refine t_ldi (by assumption) ab_int (Below.refl _ _) rfl ?_ rfl
      refine t_on rfl rfl ?_
      refine t_callx Try.call131 rfl (spec_l5Realm _ _ _ _ (by first | assumption | exact VA.below (by assumption) B) (by omega)) ?_ rfl rfl
      intro w80 x81
      have B := bx Hb B x81
      have S := S.below x81
      refine t_on rfl rfl ?_
      refine t_notb rfl ?_ rfl
      refine t_pickf rfl rfl ?_ rfl
      refine t_move rfl ?_ rfl
      refine t_part (t := 57) rfl ?_ ?_
      · intro h6
        refine t_off rfl rfl rfl ?_ rfl
        refine t_off rfl rfl rfl ?_ rfl
        refine t_off rfl rfl rfl ?_ rfl
        refine t_off rfl rfl rfl ?_ rfl
        refine t_off rfl rfl rfl ?_ rfl
        refine t_off rfl rfl rfl ?_ rfl
        refine t_off rfl rfl rfl ?_ rfl
        refine t_off rfl rfl rfl ?_ rfl
        refine t_pickt rfl rfl ?_ rfl
        refine t_done' ?_
        refine x_seq ?_
        refine w_yes rfl ?_
        refine w_seq ?_
        refine w_region ?_
        refine t_assign rfl ?_ rfl
        refine t_done ?_
        refine x_seq ?_
        refine w_ret ?_
        refine x_then_ret ?_
        refine x_block_ret ?_
        refine x_then_ret ?_
        refine x_then_ret ?_
        refine x_block_ret ?_
        refine x_then_ret ?_
        refine x_ret1 rfl rfl ?_
        exact ⟨ret_bool (by rw [all_no hlt' (by rw [hG]; simp at h6; simp [h6])]; rfl), ext_trans X0 B⟩
      intro h6
      refine t_on rfl rfl ?_
      refine t_move rfl ?_ rfl
      refine t_on rfl rfl ?_
      refine t_move rfl ?_ rfl
      refine t_on rfl rfl ?_
      refine t_slt e_int (k := k) (S.sl) rfl rfl (by first | rfl | omega) (by omega) ?_ rfl
      intro v60 hv60
      refine t_on rfl rfl ?_
      refine t_move rfl ?_ rfl
      refine t_on rfl rfl ?_
      refine t_move rfl ?_ rfl
      refine t_on rfl rfl ?_
      refine t_idx e_int (k := k) (S.sl) hm44 (Below.refl _ _) rfl rfl (by first | rfl | omega) ?_ rfl
      intro p63 hp63
      refine t_on rfl rfl ?_
      refine t_ldi (by assumption) ab_int (Below.refl _ _) rfl ?_ rfl
      refine t_on rfl rfl ?_
      refine t_calls Try.call77 rfl (spec_l9Has _ _ _ _ (by first | assumption | exact SlR.below (by assumption) B) (by (try rw [List.length_take]); (try rw [List.length_map]); omega)) ?_ rfl rfl
      refine t_pickf rfl rfl ?_ rfl
      refine t_done' ?_
      refine x_seq ?_
      refine w_ifb rfl ?_ ?_
      · intro h7
        refine w_seq ?_
        refine w_region ?_
        refine t_assign rfl ?_ rfl
        refine t_done ?_
        refine x_seq ?_
        refine w_ret ?_
        refine x_then_ret ?_
        refine x_block_ret ?_
        refine x_then_ret ?_
        refine x_then_ret ?_
        refine x_block_ret ?_
        refine x_then_ret ?_
        refine x_ret1 rfl rfl ?_
        exact ⟨ret_bool (by rw [all_no hlt' (by rw [hG, h7]; simp)]; rfl), ext_trans X0 B⟩
      intro h7
      have hgood : hopGood t p.hops k = true := by rw [hG, h7]; simp at h5 h6; simp [h5, h6]
      refine w_skip ?_
      refine x_seq ?_
      refine w_seq ?_
      refine w_region ?_
      refine t_move rfl ?_ rfl
      refine t_gtr rfl rfl ?_ rfl
      refine t_done ?_
      refine x_seq ?_
      refine w_if rfl ?_ ?_
      · intro h8
        have hk1 : ((k : Int) - 1).toNat = k - 1 := by omega
        have hk2 : ((k : Int)).toNat = k := by omega
        have hk3 : k - 1 + 1 = k := by omega
        obtain ⟨e74, he74⟩ : ∃ e, p.hops[k - 1]? = some e := getx (by omega)
        have hm74 : (p.hops.map Hop.ia)[k - 1]? = some e74.ia := by rw [List.getElem?_map, he74]; rfl
        refine w_seq ?_
        refine w_draw (.st .take 0 (.st .take 1 (.st .take 2 (.st .take 3 (.st .take 4 (.st .take 5 (.st .take 6 (.st .take 7 (.st .take 8 (.st .run 9 (.st .run 10 (.st .take 11 (.st .take 12 (.st .take 13 (.st .take 14 (.st .take 15 .done)))))))))))))))) mixed (by kernel_rfl) ?_
        intro w82 x83
        have B := bx Hb B x83
        have S := S.below x83
        refine t_lda (by assumption) ab_topo sb_topo B rfl ?_ rfl
        intro v70 hv70
        obtain ⟨v70_0, v70_1, rfl, hv70_0, hv70_1⟩ := topo_va hv70
        refine t_move rfl ?_ rfl
        refine t_move rfl ?_ rfl
        refine t_sub rfl rfl (by omega) ?_ rfl
        refine t_idx e_int (k := (k - 1)) (S.sl) hm74 (Below.refl _ _) rfl rfl (by first | rfl | omega) ?_ rfl
        intro p74 hp74
        refine t_ldi (by assumption) ab_int (Below.refl _ _) rfl ?_ rfl
        refine t_lda (by assumption) ab_part sb_part B rfl ?_ rfl
        intro v76 hv76
        obtain ⟨v76_3, rfl, hv76_3⟩ := part_va hv76
        refine t_move rfl ?_ rfl
        refine t_sub rfl rfl (by omega) ?_ rfl
        refine t_callx Try.call133 rfl (va1 (by first | assumption | exact VA.below (by assumption) B) fun cs h => spec_PartEgress _ cs _ _ h (by omega) (by omega)) ?_ rfl rfl
        intro w84 x85
        have B := bx Hb B x85
        have S := S.below x85
        refine t_callx Try.call132 rfl (spec_RemoteEnd _ _ _ _ _ (by first | assumption | exact VA.below (by assumption) B) (by omega)) ?_ rfl rfl
        intro w86 x87
        have B := bx Hb B x87
        have S := S.below x87
        refine t_move rfl ?_ rfl
        refine t_extract rfl rfl ?_ rfl
        refine t_extract rfl rfl ?_ rfl
        refine t_assign rfl ?_ rfl
        refine t_assign rfl ?_ rfl
        refine t_done' ?_
        refine x_seq ?_
        refine w_seq ?_
        refine w_region ?_
        refine t_lda (by assumption) ab_part sb_part B rfl ?_ rfl
        intro v83 hv83
        obtain ⟨v83_3, rfl, hv83_3⟩ := part_va hv83
        refine t_move rfl ?_ rfl
        refine t_sub rfl rfl (by omega) ?_ rfl
        refine t_callx Try.call133 rfl (va1 (by first | assumption | exact VA.below (by assumption) B) fun cs h => spec_PartEgress _ cs _ _ h (by omega) (by omega)) ?_ rfl rfl
        intro w88 x89
        have B := bx Hb B x89
        have S := S.below x89
        refine t_eql rfl rfl ?_ rfl
        refine t_move rfl ?_ rfl
        have hQ := stepGood_eq (t := t) he74 (by rw [hk3]; exact he44)
        have hlt3 : k - 1 < p.hops.length - 1 := by omega
        rw [hk3] at hQ
        rw [hk1]
        refine t_partp (t := 88) rfl ?_ ?_
        · intro h9
          refine t_off rfl rfl rfl ?_ rfl
          refine t_off rfl rfl rfl ?_ rfl
          refine t_off rfl rfl rfl ?_ rfl
          refine t_off rfl rfl rfl ?_ rfl
          refine t_off rfl rfl rfl ?_ rfl
          refine t_off rfl rfl rfl ?_ rfl
          refine t_pickt rfl rfl ?_ rfl
          refine t_move rfl ?_ rfl
          refine t_off rfl rfl rfl ?_ rfl
          refine t_off rfl rfl rfl ?_ rfl
          refine t_off rfl rfl rfl ?_ rfl
          refine t_off rfl rfl rfl ?_ rfl
          refine t_off rfl rfl rfl ?_ rfl
          refine t_pickt rfl rfl ?_ rfl
          refine t_done ?_
          refine x_seq ?_
          refine w_yes rfl ?_
          refine w_seq ?_
          refine w_region ?_
          refine t_assign rfl ?_ rfl
          refine t_done ?_
          refine x_seq ?_
          refine w_ret ?_
          refine x_block_ret ?_
          refine x_then_ret ?_
          refine x_then_ret ?_
          refine x_block_ret ?_
          refine x_then_ret ?_
          refine x_ret1 rfl rfl ?_
          exact ⟨ret_bool (by rw [all_no hlt3 (by rw [hQ]; simp [h9])]; simp), ext_trans X0 B⟩
        intro h9
        refine t_on rfl rfl ?_
        refine t_move rfl ?_ rfl
        refine t_on rfl rfl ?_
        refine t_move rfl ?_ rfl
        refine t_on rfl rfl ?_
        refine t_move rfl ?_ rfl
        refine t_on rfl rfl ?_
        refine t_idx e_int (k := k) (S.sl) hm44 (Below.refl _ _) rfl rfl (by first | rfl | omega) ?_ rfl
        intro p92 hp92
        refine t_on rfl rfl ?_
        refine t_ldi (by assumption) ab_int (Below.refl _ _) rfl ?_ rfl
        refine t_on rfl rfl ?_
        refine t_neq rfl rfl ?_ rfl
        refine t_pickf rfl rfl ?_ rfl
        refine t_move rfl ?_ rfl
        refine t_partp (t := 96) rfl ?_ ?_
        · intro h10
          refine t_off rfl rfl rfl ?_ rfl
          refine t_off rfl rfl rfl ?_ rfl
          refine t_off rfl rfl rfl ?_ rfl
          refine t_off rfl rfl rfl ?_ rfl
          refine t_off rfl rfl rfl ?_ rfl
          refine t_pickt rfl rfl ?_ rfl
          refine t_done ?_
          refine x_seq ?_
          refine w_yes rfl ?_
          refine w_seq ?_
          refine w_region ?_
          refine t_assign rfl ?_ rfl
          refine t_done ?_
          refine x_seq ?_
          refine w_ret ?_
          refine x_block_ret ?_
          refine x_then_ret ?_
          refine x_then_ret ?_
          refine x_block_ret ?_
          refine x_then_ret ?_
          refine x_ret1 rfl rfl ?_
          exact ⟨ret_bool (by rw [all_no hlt3 (by rw [hQ]; simp at h10; simp [h10])]; simp), ext_trans X0 B⟩
        intro h10
        refine t_on rfl rfl ?_
        refine t_move rfl ?_ rfl
        refine t_on rfl rfl ?_
        refine t_lda (by assumption) ab_part sb_part B rfl ?_ rfl
        intro v98 hv98
        obtain ⟨v98_3, rfl, hv98_3⟩ := part_va hv98
        refine t_on rfl rfl ?_
        refine t_move rfl ?_ rfl
        refine t_on rfl rfl ?_
        refine t_callx Try.call134 rfl (va1 (by first | assumption | exact VA.below (by assumption) B) fun cs h => spec_PartIngress _ cs _ _ h (by omega) (by omega)) ?_ rfl rfl
        intro w90 x91
        have B := bx Hb B x91
        have S := S.below x91
        refine t_on rfl rfl ?_
        refine t_neq rfl rfl ?_ rfl
        refine t_pickf rfl rfl ?_ rfl
        refine t_done ?_
        refine x_seq ?_
        refine w_if rfl ?_ ?_
        · intro h11
          refine w_seq ?_
          refine w_region ?_
          refine t_assign rfl ?_ rfl
          refine t_done ?_
          refine x_seq ?_
          refine w_ret ?_
          refine x_block_ret ?_
          refine x_then_ret ?_
          refine x_then_ret ?_
          refine x_block_ret ?_
          refine x_then_ret ?_
          refine x_ret1 rfl rfl ?_
          exact ⟨ret_bool (by rw [all_no hlt3 (by rw [hQ]; rw [hk2] at h11; simp at h11; simp [h11])]; simp), ext_trans X0 B⟩
        intro h11
        refine w_skip ?_
        refine x_block_normal ?_
        refine x_seq ?_
        refine w_region ?_
        refine t_move rfl ?_ rfl
        refine t_add rfl rfl (by omega) ?_ rfl
        refine t_assign rfl ?_ rfl
        refine t_done ?_
        refine x_round (I := (fun k wq => k ≤ p.hops.length ∧ (∀ j, j < k → hopGood t p.hops j = true) ∧ (∀ j, j < k - 1 → stepGood t p j = true) ∧ Below w71.heap.size w71 wq ∧ Sep w71.heap.size wq [slO intT 3 v33 (p.hops.map Hop.ia)])) (F := (fun k => [(6, I ((k : Int))), (2, p2), (3, p3), (5, v33)])) (μ := (fun k => p.hops.length - k)) (k + 1) ?_ (by exact ⟨rfl, rfl, rfl, rfl, trivial⟩) (by (try dsimp only); omega)
        try dsimp only
        refine ⟨by omega, upto_succ ha hgood, ?_, B, S⟩
        intro j hj
        refine upto_succ (k := k - 1) hb ?_ j (by omega)
        rw [hk2] at h11
        rw [hQ]
        simp at h10 h11
        simp [h9, h10, h11]
      · intro h8
        refine w_skip ?_
        refine x_block_normal ?_
        refine x_seq ?_
        refine w_region ?_
        refine t_move rfl ?_ rfl
        refine t_add rfl rfl (by omega) ?_ rfl
        refine t_assign rfl ?_ rfl
        refine t_done ?_
        refine x_round (I := (fun k wq => k ≤ p.hops.length ∧ (∀ j, j < k → hopGood t p.hops j = true) ∧ (∀ j, j < k - 1 → stepGood t p j = true) ∧ Below w71.heap.size w71 wq ∧ Sep w71.heap.size wq [slO intT 3 v33 (p.hops.map Hop.ia)])) (F := (fun k => [(6, I ((k : Int))), (2, p2), (3, p3), (5, v33)])) (μ := (fun k => p.hops.length - k)) (k + 1) ?_ (by exact ⟨rfl, rfl, rfl, rfl, trivial⟩) (by (try dsimp only); omega)
        try dsimp only
        exact ⟨by omega, upto_succ ha hgood, by intro j hj; omega, B, S⟩
    · intro hge
      refine w_exit ?_
      refine x_then_exit ?_
      refine x_then_exit ?_
      refine x_block_exit ?_
      refine x_seq ?_
      refine w_seq ?_
      refine w_region ?_
      refine t_assign rfl ?_ rfl
      refine t_done ?_
      refine x_seq ?_
      refine w_ret ?_
      refine x_ret1 rfl rfl ?_
      exact ⟨ret_bool (by rw [all_ok fun j hj => ha j (by omega), all_ok fun j hj => hb j (by omega)]; rfl), ext_trans X0 B⟩
end Go.Proofs.Ytfgobdejlfojiaa
