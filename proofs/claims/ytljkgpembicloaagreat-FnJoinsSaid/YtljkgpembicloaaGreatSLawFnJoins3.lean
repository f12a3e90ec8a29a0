/- What LawFnJoins needs of the texts below it, part 3: contracts of functions, plain lemmas. (Put together by slim.py.) -/
import Derived.Test.YtljkgpembicloaaGreatSLawFnJoins2
namespace Go.Proofs.YtljkgpembicloaaGreat
open Go.RowKit
set_option linter.unusedVariables false
set_option maxRecDepth 100000
theorem idx_lt (l : List Lnk) (r d : Int) : idxI (findL l r d) < l.length := by
  unfold idxI findL
  split
  · omega
  · rename_i i h
    have := (List.findIdx?_eq_some_iff_getElem.1 h).1
    omega
theorem idx_nat {l : List Lnk} {r d : Int} (h : ¬ idxI (findL l r d) < 0) : findL l r d = some (idxI (findL l r d)).toNat := by
  cases hf : findL l r d with
  | none => rw [hf] at h; simp [idxI] at h
  | some i => simp [idxI]
theorem idx_none {l : List Lnk} {r d : Int} (h : idxI (findL l r d) < 0) : findL l r d = none := by
  cases hf : findL l r d with
  | none => rfl
  | some i => rw [hf] at h; simp [idxI] at h; omega
theorem remote_none {t : Topo} {r d : Int} (h : idxI (findL t.links r d) < 0) : remote t r d = (-1, 0) := by
  unfold remote; rw [idx_none h]; rfl
theorem remote_some {t : Topo} {r d : Int} {x : Lnk} (h : ¬ idxI (findL t.links r d) < 0) (hx : t.links[(idxI (findL t.links r d)).toNat]? = some x) : remote t r d = if x.a = r ∧ x.ai = d then (x.b, x.bi) else (x.a, x.ai) := by
  unfold remote
  rw [show (findL t.links r d).bind (t.links[·]?) = some x by rw [idx_nat h]; exact hx]
theorem ret_two {a b : Int} {q : Int × Int} (h : q = (a, b)) : Ending.returned (.tuple #[I a, I b]) = .returned (.tuple #[I q.1, I q.2]) := by rw [h]
theorem impl_RemoteEnd (t : Topo) (v : Value) (r d : Int) (w : World) (h : VA topoT w v t) (hz : sz_topo t ≤ 1048576) : Calls Tryz.prog 153 #[v, I r, I d] w fun e w' => e = .returned (.tuple #[I (remote t r d).1, I (remote t r d).2]) ∧ Below w.heap.size w w' := by
 have hlt := idx_lt t.links r d; have X0 := Below.refl w.heap.size w; refine enter Tryz.func153 rfl Tryz.ntmps153 rfl ?_; refine w_h ?_; refine t_boxr ‹_› rfl ?_ rfl rfl; intro p3 w1 x2 hp3; replace h := h.below x2; have X0 := ext_trans X0 x2; have S := Sep.nil w1; have B := Below.refl w1.heap.size w1; have Hb := Nat.le_refl w1.heap.size; (iterate 2 refine t_a rfl ?_ rfl); refine t_k ?_; refine t_lda ‹_› ab_topo sb_topo B rfl ?_ rfl; intro v10 hv10; obtain ⟨v10_0, v10_1, rfl, hv10_0, hv10_1⟩ := topo_va hv10; (iterate 2 refine t_m rfl ?_ rfl); refine t_x Tryz.call67 rfl (va1 (by first | assumption | exact VA.below ‹_› B | exact topo_mkv (by first | assumption | exact SlR.below ‹_› B) (by first | assumption | exact SlR.below ‹_› B)) fun cs h => impl_LinkIndex _ cs _ _ _ h (by omega)) ?_ rfl rfl; intro w3 x4; have B := bx Hb B x4; have S := S.below x4; refine t_a rfl ?_ rfl; refine t_e ?_; (iterate 2 refine w_s ?_); refine w_g ?_; refine t_m rfl ?_ rfl; refine t_lss rfl rfl ?_ rfl; refine t_e ?_; refine w_if rfl ?_ ?_
 ·intro h1; refine w_h ?_; (iterate 2 refine t_a rfl ?_ rfl); refine t_e ?_; refine w_r ?_; refine x_t ?_; refine x_ret2 rfl rfl rfl ?_; exact ⟨ret_two (remote_none h1), ext_trans X0 B⟩
 ·intro h1; refine w_k ?_; refine x_s ?_; refine w_h ?_; refine t_fld ln_topo_1 ‹_› fb_topo_1 rfl ?_ rfl; intro p16 hp16; refine t_lds ‹_› ab_s_link B rfl ?_ rfl; intro v17 hv17; refine t_m rfl ?_ rfl; obtain ⟨e19, he19⟩ : ∃ e, (t.links)[(idxI (findL t.links r d)).toNat]? = some e := getx (by omega); refine t_idx e_link (k := (idxI (findL t.links r d)).toNat) ‹_› he19 B rfl rfl (by first | rfl | omega) ?_ rfl; intro p19 hp19; refine t_lda ‹_› ab_link sb_link B rfl ?_ rfl; intro v20 hv20; obtain rfl := link_va hv20; refine t_w S z_link rfl ?_ rfl rfl; intro g9 w5 x6 S; have B := bx Hb B x6; refine t_stn S sb_link rfl rfl rfl rfl (by simp [Value.oneCell']) ?_; intro w7 b8 S; have B := B.trans b8; refine t_e ?_; (iterate 2 refine w_s ?_); refine w_g ?_; refine t_y fb_link_0 rfl rfl ?_ rfl; refine t_bx1 S.box ab_int rfl rfl ?_ rfl; refine t_m rfl ?_ rfl; refine t_eql rfl rfl ?_ rfl; refine t_m rfl ?_ rfl; have hR := remote_some h1 he19; refine t_partp (t := 25) rfl ?_ ?_
  ·intro h2; refine t_on rfl rfl ?_; refine t_y fb_link_1 rfl rfl ?_ rfl; refine t_on rfl rfl ?_; refine t_bx1 S.box ab_int rfl rfl ?_ rfl; refine t_on rfl rfl ?_; refine t_m rfl ?_ rfl; refine t_on rfl rfl ?_; refine t_eql rfl rfl ?_ rfl; refine t_q rfl rfl ?_ rfl; refine t_e ?_; refine w_if rfl ?_ ?_
   ·intro h3; refine w_s ?_; refine w_draw (.st .take 0 (.st .take 1 (.st .take 2 (.st .take 3 (.st .take 4 (.st .take 5 .done)))))) mixed (by kernel_rfl) ?_; intro w9 x10; have B := bx Hb B x10; have S := S.below x10; refine t_y fb_link_2 rfl rfl ?_ rfl; refine t_bx1 S.box ab_int rfl rfl ?_ rfl; refine t_y fb_link_3 rfl rfl ?_ rfl; refine t_bx1 S.box ab_int rfl rfl ?_ rfl; (iterate 2 refine t_a rfl ?_ rfl); refine t_e' ?_; refine w_r ?_; refine x_t ?_; refine x_ret2 rfl rfl rfl ?_; exact ⟨ret_two (by rw [hR, if_pos ⟨h2, h3⟩]), ext_trans X0 B⟩
   ·intro h3; refine w_k ?_; refine x_s ?_; refine w_s ?_; refine w_draw (.st .take 0 (.st .take 1 (.st .take 2 (.st .take 3 (.st .take 4 (.st .take 5 .done)))))) mixed (by kernel_rfl) ?_; intro w11 x12; have B := bx Hb B x12; have S := S.below x12; refine t_y fb_link_0 rfl rfl ?_ rfl; refine t_bx1 S.box ab_int rfl rfl ?_ rfl; refine t_y fb_link_1 rfl rfl ?_ rfl; refine t_bx1 S.box ab_int rfl rfl ?_ rfl; (iterate 2 refine t_a rfl ?_ rfl); refine t_e' ?_; refine w_r ?_; refine x_ret2 rfl rfl rfl ?_; exact ⟨ret_two (by rw [hR, if_neg fun q => h3 q.2]), ext_trans X0 B⟩
  ·intro h2; (iterate 4 refine t_off rfl rfl rfl ?_ rfl); refine t_p rfl rfl ?_ rfl; refine t_e ?_; refine w_no rfl ?_; refine w_k ?_; refine x_s ?_; refine w_s ?_; refine w_draw (.st .take 0 (.st .take 1 (.st .take 2 (.st .take 3 (.st .take 4 (.st .take 5 .done)))))) mixed (by kernel_rfl) ?_; intro w13 x14; have B := bx Hb B x14; have S := S.below x14; refine t_y fb_link_0 rfl rfl ?_ rfl; refine t_bx1 S.box ab_int rfl rfl ?_ rfl; refine t_y fb_link_1 rfl rfl ?_ rfl; refine t_bx1 S.box ab_int rfl rfl ?_ rfl; (iterate 2 refine t_a rfl ?_ rfl); refine t_e' ?_; refine w_r ?_; refine x_ret2 rfl rfl rfl ?_; exact ⟨ret_two (by rw [hR, if_neg fun q => h2 q.1]), ext_trans X0 B⟩
theorem spec_RemoteEnd (t : Topo) (v : Value) (r d : Int) (w : World) (h : VA topoT w v t) (hz : sz_topo t ≤ 1048576) : Calls Tryz.prog 140 #[v, I r, I d] w fun e w' => e = .returned (.tuple #[I (remote t r d).1, I (remote t r d).2]) ∧ Below w.heap.size w w' := by
 have hlt := idx_lt t.links r d; have X0 := Below.refl w.heap.size w; refine enter Tryz.func140 rfl Tryz.ntmps140 rfl ?_; refine w_h ?_; refine t_boxr ‹_› rfl ?_ rfl rfl; intro p3 w15 x16 hp3; replace h := h.below x16; have X0 := ext_trans X0 x16; have S := Sep.nil w15; have B := Below.refl w15.heap.size w15; have Hb := Nat.le_refl w15.heap.size; (iterate 2 refine t_a rfl ?_ rfl); refine t_k ?_; refine t_lda ‹_› ab_topo sb_topo B rfl ?_ rfl; intro v10 hv10; obtain ⟨v10_0, v10_1, rfl, hv10_0, hv10_1⟩ := topo_va hv10; (iterate 2 refine t_m rfl ?_ rfl); refine t_x Tryz.call168 rfl (va1 (by first | assumption | exact VA.below ‹_› B | exact topo_mkv (by first | assumption | exact SlR.below ‹_› B) (by first | assumption | exact SlR.below ‹_› B)) fun cs h => spec_LinkIndex _ cs _ _ _ h (by omega)) ?_ rfl rfl; intro w17 x18; have B := bx Hb B x18; have S := S.below x18; refine t_a rfl ?_ rfl; refine t_e ?_; (iterate 2 refine w_s ?_); refine w_g ?_; refine t_m rfl ?_ rfl; refine t_lss rfl rfl ?_ rfl; refine t_e ?_; refine w_if rfl ?_ ?_
 ·intro h1; refine w_h ?_; (iterate 2 refine t_a rfl ?_ rfl); refine t_e ?_; refine w_r ?_; refine x_t ?_; refine x_ret2 rfl rfl rfl ?_; exact ⟨ret_two (remote_none h1), ext_trans X0 B⟩
 ·intro h1; refine w_k ?_; refine x_s ?_; refine w_h ?_; refine t_fld ln_topo_1 ‹_› fb_topo_1 rfl ?_ rfl; intro p16 hp16; refine t_lds ‹_› ab_s_link B rfl ?_ rfl; intro v17 hv17; refine t_m rfl ?_ rfl; obtain ⟨e19, he19⟩ : ∃ e, (t.links)[(idxI (findL t.links r d)).toNat]? = some e := getx (by omega); refine t_idx e_link (k := (idxI (findL t.links r d)).toNat) ‹_› he19 B rfl rfl (by first | rfl | omega) ?_ rfl; intro p19 hp19; refine t_lda ‹_› ab_link sb_link B rfl ?_ rfl; intro v20 hv20; obtain rfl := link_va hv20; refine t_w S z_link rfl ?_ rfl rfl; intro g9 w19 x20 S; have B := bx Hb B x20; refine t_stn S sb_link rfl rfl rfl rfl (by simp [Value.oneCell']) ?_; intro w21 b22 S; have B := B.trans b22; refine t_e ?_; (iterate 2 refine w_s ?_); refine w_g ?_; refine t_y fb_link_0 rfl rfl ?_ rfl; refine t_bx1 S.box ab_int rfl rfl ?_ rfl; refine t_m rfl ?_ rfl; refine t_eql rfl rfl ?_ rfl; refine t_m rfl ?_ rfl; have hR := remote_some h1 he19; refine t_partp (t := 25) rfl ?_ ?_
  ·intro h2; refine t_on rfl rfl ?_; refine t_y fb_link_1 rfl rfl ?_ rfl; refine t_on rfl rfl ?_; refine t_bx1 S.box ab_int rfl rfl ?_ rfl; refine t_on rfl rfl ?_; refine t_m rfl ?_ rfl; refine t_on rfl rfl ?_; refine t_eql rfl rfl ?_ rfl; refine t_q rfl rfl ?_ rfl; refine t_e ?_; refine w_if rfl ?_ ?_
   ·intro h3; refine w_s ?_; refine w_draw (.st .take 0 (.st .take 1 (.st .take 2 (.st .take 3 (.st .take 4 (.st .take 5 .done)))))) mixed (by kernel_rfl) ?_; intro w23 x24; have B := bx Hb B x24; have S := S.below x24; refine t_y fb_link_2 rfl rfl ?_ rfl; refine t_bx1 S.box ab_int rfl rfl ?_ rfl; refine t_y fb_link_3 rfl rfl ?_ rfl; refine t_bx1 S.box ab_int rfl rfl ?_ rfl; (iterate 2 refine t_a rfl ?_ rfl); refine t_e' ?_; refine w_r ?_; refine x_t ?_; refine x_ret2 rfl rfl rfl ?_; exact ⟨ret_two (by rw [hR, if_pos ⟨h2, h3⟩]), ext_trans X0 B⟩
   ·intro h3; refine w_k ?_; refine x_s ?_; refine w_s ?_; refine w_draw (.st .take 0 (.st .take 1 (.st .take 2 (.st .take 3 (.st .take 4 (.st .take 5 .done)))))) mixed (by kernel_rfl) ?_; intro w25 x26; have B := bx Hb B x26; have S := S.below x26; refine t_y fb_link_0 rfl rfl ?_ rfl; refine t_bx1 S.box ab_int rfl rfl ?_ rfl; refine t_y fb_link_1 rfl rfl ?_ rfl; refine t_bx1 S.box ab_int rfl rfl ?_ rfl; (iterate 2 refine t_a rfl ?_ rfl); refine t_e' ?_; refine w_r ?_; refine x_ret2 rfl rfl rfl ?_; exact ⟨ret_two (by rw [hR, if_neg fun q => h3 q.2]), ext_trans X0 B⟩
  ·intro h2; (iterate 4 refine t_off rfl rfl rfl ?_ rfl); refine t_p rfl rfl ?_ rfl; refine t_e ?_; refine w_no rfl ?_; refine w_k ?_; refine x_s ?_; refine w_s ?_; refine w_draw (.st .take 0 (.st .take 1 (.st .take 2 (.st .take 3 (.st .take 4 (.st .take 5 .done)))))) mixed (by kernel_rfl) ?_; intro w27 x28; have B := bx Hb B x28; have S := S.below x28; refine t_y fb_link_0 rfl rfl ?_ rfl; refine t_bx1 S.box ab_int rfl rfl ?_ rfl; refine t_y fb_link_1 rfl rfl ?_ rfl; refine t_bx1 S.box ab_int rfl rfl ?_ rfl; (iterate 2 refine t_a rfl ?_ rfl); refine t_e' ?_; refine w_r ?_; refine x_ret2 rfl rfl rfl ?_; exact ⟨ret_two (by rw [hR, if_neg fun q => h2 q.1]), ext_trans X0 B⟩
theorem all_ok {f : Nat → Bool} {n : Nat} (h : ∀ j, j < n → f j = true) : (List.range n).all f = true := by
  rw [List.all_eq_true]; intro x hx; exact h x (List.mem_range.1 hx)
theorem all_no {f : Nat → Bool} {n k : Nat} (hk : k < n) (h : f k = false) : (List.range n).all f = false := by
  rw [List.all_eq_false]; exact ⟨k, List.mem_range.2 hk, by simp [h]⟩
theorem upto_succ {f : Nat → Bool} {k : Nat} (h : ∀ j, j < k → f j = true) (hk : f k = true) : ∀ j, j < k + 1 → f j = true := by
  intro j hj
  rcases Nat.lt_or_ge j k with q | q
  · exact h j q
  · have : j = k := by omega
    subst this; exact hk
def hopGood (t : Topo) (l : List Hop) (k : Nat) : Bool := match l[k]? with
  | none => true
  | some x => validHop x && isAS t x.ia && !((l.take k).map Hop.ia).contains x.ia
def hopsOk (t : Topo) (l : List Hop) : Bool := inR l.length 1 8 && (List.range l.length).all (hopGood t l)
def stepGood (t : Topo) (p : Part) (k : Nat) : Bool := match p.hops[k]?, p.hops[k + 1]? with
  | some x, some y => decide (partOut p k ≠ 0) && decide ((remote t x.ia (partOut p k)).1 = y.ia) && decide ((remote t x.ia (partOut p k)).2 = partIn p (k + 1))
  | _, _ => true
def validPart (t : Topo) (p : Part) : Bool := hopsOk t p.hops && inR p.kind 1 4 && inR p.ts 0 1000000 && inR p.beta 0 2147483646 && (List.range (p.hops.length - 1)).all (stepGood t p)
theorem hopGood_eq {t : Topo} {l : List Hop} {k : Nat} {x : Hop} (h : l[k]? = some x) : hopGood t l k = (validHop x && isAS t x.ia && !((l.take k).map Hop.ia).contains x.ia) := by unfold hopGood; rw [h]
theorem stepGood_eq {t : Topo} {p : Part} {k : Nat} {x y : Hop} (h : p.hops[k]? = some x) (h' : p.hops[k + 1]? = some y) : stepGood t p k = (decide (partOut p k ≠ 0) && decide ((remote t x.ia (partOut p k)).1 = y.ia) && decide ((remote t x.ia (partOut p k)).2 = partIn p (k + 1))) := by unfold stepGood; rw [h, h']
theorem has_take {l : List Hop} {k j : Nat} {x : Hop} {n : Int} (h : (l.take k)[j]? = some x) (e : x.ia = n) : ((l.take k).map Hop.ia).contains n = true := by
  rw [List.contains_iff_mem, List.mem_map]; exact ⟨x, List.mem_of_getElem? h, e⟩
theorem hasnt_take {l : List Hop} {n : Int} (h : ∀ (j : Nat) x, l[j]? = some x → x.ia ≠ n) : (l.map Hop.ia).contains n = false := by
  rw [Bool.eq_false_iff]; intro hc; rw [List.contains_iff_mem, List.mem_map] at hc; obtain ⟨x, hx, e⟩ := hc; obtain ⟨j, hj⟩ := List.getElem?_of_mem hx; exact h j x hj e
theorem impl_hopsOk (t : Topo) (v : Value) (l : List Hop) (u : Value) (w : World) (h : VA topoT w v t) (hl : SlR hopT w u l) (hz : sz_topo t ≤ 1048576) (hz' : l.length ≤ 1048576) : Calls Tryz.prog 151 #[v, u] w fun e w' => e = .returned (.bool (hopsOk t l)) ∧ Below w.heap.size w w' := by
 have X0 := Below.refl w.heap.size w; refine enter Tryz.func151 rfl Tryz.ntmps151 rfl ?_; refine w_h ?_; refine t_boxr ‹_› rfl ?_ rfl rfl; intro p2 w29 x30 hp2; replace h := h.below x30; replace hl := hl.below x30; have X0 := ext_trans X0 x30; have S := Sep.nil w29; have B := Below.refl w29.heap.size w29; have Hb := Nat.le_refl w29.heap.size; refine t_a rfl ?_ rfl; refine t_e ?_; (iterate 2 refine w_s ?_); refine w_g ?_; refine t_m rfl ?_ rfl; refine t_len e_hop ‹_› rfl rfl ?_ rfl; refine t_calls Tryz.call109 rfl (impl_InRange _ _ _ _) ?_ rfl rfl; refine t_notb rfl ?_ rfl; refine t_e ?_; refine w_ifb rfl ?_ ?_
 ·intro h1; refine w_h ?_; refine t_a rfl ?_ rfl; refine t_e ?_; refine w_r ?_; refine x_t ?_; refine x_ret1 rfl rfl ?_; exact ⟨ret_bool (by simp only [hopsOk]; simp at h1; simp [h1]), ext_trans X0 B⟩
 ·intro h1
  have h1' : inR l.length 1 8 = true := by simpa using h1
  refine w_k ?_; refine x_s ?_; (iterate 2 refine w_s ?_); refine w_g ?_; refine t_m rfl ?_ rfl; refine t_len e_hop ‹_› rfl rfl ?_ rfl; refine t_m rfl ?_ rfl; refine t_e ?_; refine w_block ?_; refine w_loop (X := Nat) (fun k wq => k ≤ l.length ∧ (∀ j, j < k → hopGood t l j = true) ∧ Below w29.heap.size w29 wq ∧ Sep w29.heap.size wq []) (fun k => [(15, I ((k : Int))), (1, u), (2, p2), (13, u), (14, I ((l.length : Int)))]) (fun k => l.length - k) (0) ?_ ⟨rfl, rfl, rfl, rfl, rfl, trivial⟩ ?_
  ·exact ⟨by omega, by omega, B, S⟩
  ·rintro k w31 hI; (try dsimp only at hI ⊢); obtain ⟨hk, ha, B, S⟩ := hI; refine w_h ?_; refine t_lss rfl rfl ?_ rfl; refine t_e ?_; refine w_s ?_; refine w_if rfl ?_ ?_
   ·intro hlt
    have hlt' : k < l.length := by omega
    refine w_k ?_; refine x_s ?_; refine w_s ?_; refine w_block ?_; refine w_h ?_; refine t_m rfl ?_ rfl; obtain ⟨e18, he18⟩ : ∃ e, (l)[k]? = some e := getx (by omega); refine t_idx e_hop (k := k) ‹_› he18 B rfl rfl (by first | rfl | omega) ?_ rfl; intro p18 hp18; refine t_lda ‹_› ab_hop sb_hop B rfl ?_ rfl; intro v19 hv19; obtain rfl := hop_va hv19; refine t_w S z_hop rfl ?_ rfl rfl; intro g6 w32 x33 S; have B := bx Hb B x33; refine t_a rfl ?_ rfl; refine t_stn S sb_hop rfl rfl rfl rfl (by repeat first | exact oc0 | refine oc rfl ?_) ?_; intro w34 b35 S; have B := B.trans b35; refine t_e ?_; (iterate 2 refine w_s ?_); refine w_g ?_; refine t_b S.box ab_hop sb_hop rfl rfl ?_ rfl; refine t_x Tryz.call174 rfl (impl_ValidHop e18 _) ?_ rfl rfl; intro w36 x37; have B := bx Hb B x37; have S := S.below x37; refine t_notb rfl ?_ rfl; refine t_m rfl ?_ rfl; have hG := hopGood_eq (t := t) he18; refine t_part (t := 23) rfl ?_ ?_
    ·intro h2
     have h2' : validHop e18 = false := by simpa using h2
     (iterate 5 refine t_off rfl rfl rfl ?_ rfl); refine t_q rfl rfl ?_ rfl; refine t_e ?_; refine w_yes rfl ?_; refine w_h ?_; refine t_a rfl ?_ rfl; refine t_e ?_; refine w_r ?_; refine x_t ?_; refine x_block_ret ?_; (iterate 2 refine x_t ?_); refine x_block_ret ?_; refine x_t ?_; refine x_ret1 rfl rfl ?_; exact ⟨ret_bool (by rw [hopsOk, all_no hlt' (by rw [hG, h2']; rfl)]; simp), ext_trans X0 B⟩
    ·intro h2
     have h2' : validHop e18 = true := by simpa using h2
     refine t_on rfl rfl ?_; refine t_lda ‹_› ab_topo sb_topo B rfl ?_ rfl; intro v24 hv24; obtain ⟨v24_0, v24_1, rfl, hv24_0, hv24_1⟩ := topo_va hv24; refine t_on rfl rfl ?_; refine t_y fb_hop_0 rfl rfl ?_ rfl; refine t_on rfl rfl ?_; refine t_bx1 S.box ab_int rfl rfl ?_ rfl; refine t_on rfl rfl ?_; refine t_x Tryz.call90 rfl (impl_isAS _ _ _ _ (by first | assumption | exact VA.below ‹_› B | exact topo_mkv (by first | assumption | exact SlR.below ‹_› B) (by first | assumption | exact SlR.below ‹_› B)) (by omega)) ?_ rfl rfl; intro w38 x39; have B := bx Hb B x39; have S := S.below x39; refine t_on rfl rfl ?_; refine t_notb rfl ?_ rfl; refine t_p rfl rfl ?_ rfl; refine t_e ?_; refine w_ifb rfl ?_ ?_
     ·intro h3
      have h3' : isAS t e18.ia = false := by simpa using h3
      refine w_h ?_; refine t_a rfl ?_ rfl; refine t_e ?_; refine w_r ?_; refine x_t ?_; refine x_block_ret ?_; (iterate 2 refine x_t ?_); refine x_block_ret ?_; refine x_t ?_; refine x_ret1 rfl rfl ?_; exact ⟨ret_bool (by rw [hopsOk, all_no hlt' (by rw [hG, h3']; simp)]; simp), ext_trans X0 B⟩
     ·intro h3
      have h3' : isAS t e18.ia = true := by simpa using h3
      have hln : (l.take k).length = k := by rw [List.length_take]; omega
      refine w_k ?_; refine x_s ?_; refine w_h ?_; (iterate 2 refine t_m rfl ?_ rfl); refine t_slt e_hop (k := k) ‹_› rfl rfl (by first | rfl | omega) (by omega) ?_ rfl; intro v32 hv32; refine t_len e_hop ‹_› rfl rfl ?_ rfl; refine t_m rfl ?_ rfl; refine t_e ?_; refine w_block ?_; refine w_loop (X := Nat) (fun j wq => j ≤ k ∧ (∀ i y, i < j → (l.take k)[i]? = some y → y.ia ≠ e18.ia) ∧ Below w29.heap.size w29 wq ∧ Sep w29.heap.size wq [bxO g6 87 #[I e18.ia, I e18.ing, I e18.eg, I e18.exp, I e18.mac]]) (fun j => [(34, I ((j : Int))), (15, I ((k : Int))), (1, u), (2, p2), (13, u), (14, I ((l.length : Int))), (6, .pointer (some ⟨g6, 0, none⟩)), (32, v32), (33, I (((l.take k).length : Int)))]) (fun j => k - j) (0) ?_ ⟨rfl, rfl, rfl, rfl, rfl, rfl, rfl, rfl, rfl, trivial⟩ ?_
      ·exact ⟨by omega, by omega, B, S⟩
      ·rintro j w40 hI; (try dsimp only at hI ⊢); obtain ⟨hj, hb, B, S⟩ := hI; refine w_h ?_; refine t_lss rfl rfl ?_ rfl; refine t_e ?_; refine w_s ?_; refine w_if rfl ?_ ?_
       ·intro hlt2; refine w_k ?_; refine x_s ?_; refine w_s ?_; refine w_block ?_; refine w_h ?_; obtain ⟨e36, he36⟩ : ∃ e, (l.take k)[j]? = some e := getx (by omega); refine t_idx e_hop (k := j) ‹_› he36 B rfl rfl (by first | rfl | omega) ?_ rfl; intro p36 hp36; refine t_lda ‹_› ab_hop sb_hop B rfl ?_ rfl; intro v37 hv37; obtain rfl := hop_va hv37; refine t_w S z_hop rfl ?_ rfl rfl; intro g8 w41 x42 S; have B := bx Hb B x42; refine t_stn S sb_hop rfl rfl rfl rfl (by repeat first | exact oc0 | refine oc rfl ?_) ?_; intro w43 b44 S; have B := B.trans b44; refine t_k ?_; refine t_y fb_hop_0 rfl rfl ?_ rfl; refine t_bx1 S.box ab_int rfl rfl ?_ rfl; refine t_y fb_hop_0 rfl rfl ?_ rfl; refine t_bx1 S.tail.box ab_int rfl rfl ?_ rfl; refine t_eql rfl rfl ?_ rfl; refine t_e ?_; refine w_if rfl ?_ ?_
        ·intro h4; refine w_h ?_; refine t_a rfl ?_ rfl; refine t_e ?_; refine w_r ?_; refine x_block_ret ?_; (iterate 2 refine x_t ?_); (iterate 2 refine x_block_ret ?_); (iterate 2 refine x_t ?_); refine x_block_ret ?_; refine x_t ?_; refine x_ret1 rfl rfl ?_; exact ⟨ret_bool (by rw [hopsOk, all_no hlt' (by rw [hG, has_take he36 h4]; simp)]; simp), ext_trans X0 B⟩
        ·intro h4; refine w_k ?_; refine x_b ?_; refine x_s ?_; refine w_g ?_; refine t_add rfl rfl (by omega) ?_ rfl; refine t_m rfl ?_ rfl; refine t_d ?_; have S := S.tail; refine x_r (X := Nat) (j + 1) ?_ (by exact ⟨rfl, rfl, rfl, rfl, rfl, rfl, rfl, rfl, rfl, trivial⟩) (by (try dsimp only); omega); (try dsimp only); refine ⟨by omega, fun i y hi hy => ?_, B, S⟩
         rcases Nat.lt_or_ge i j with q | q
         ·exact hb i y q hy
         ·have : i = j := by omega
          subst this; rw [he36] at hy; cases hy; exact h4
       ·intro hge2; refine w_exit ?_; (iterate 2 refine x_then_exit ?_); refine x_block_exit ?_; refine x_b ?_; refine x_s ?_; refine w_g ?_; refine t_add rfl rfl (by omega) ?_ rfl; refine t_m rfl ?_ rfl; refine t_d ?_; have S := S.tail; refine x_r (X := Nat) (k + 1) ?_ (by exact ⟨rfl, rfl, rfl, rfl, rfl, trivial⟩) (by (try dsimp only); omega); (try dsimp only); refine ⟨by omega, upto_succ ha ?_, B, S⟩; rw [hG, h2', h3', hasnt_take fun i y hy => hb i y (by have := (List.getElem?_eq_some_iff.1 hy).1; omega) hy]
        rfl
   ·intro hge; refine w_exit ?_; (iterate 2 refine x_then_exit ?_); refine x_block_exit ?_; refine x_s ?_; refine w_h ?_; refine t_a rfl ?_ rfl; refine t_e ?_; refine w_r ?_; refine x_ret1 rfl rfl ?_; exact ⟨ret_bool (by rw [hopsOk, h1', all_ok fun j hj => ha j (by omega)]; rfl), ext_trans X0 B⟩
theorem impl_ValidPart (t : Topo) (v : Value) (p : Part) (u : Value) (w : World) (h : VA topoT w v t) (hp : VA partT w u p) (hz : sz_topo t ≤ 1048576) (hz' : p.hops.length ≤ 1048576) : Calls Tryz.prog 110 #[v, u] w fun e w' => e = .returned (.bool (validPart t p)) ∧ Below w.heap.size w w' := by
 have X0 := Below.refl w.heap.size w; refine enter Tryz.func110 rfl Tryz.ntmps110 rfl ?_; refine w_h ?_; refine t_boxr ‹_› rfl ?_ rfl rfl; intro p2 w45 x46 hp2; replace h := h.below x46; replace hp := hp.below x46; have X0 := ext_trans X0 x46; refine t_boxr ‹_› rfl ?_ rfl rfl; intro p3 w47 x48 hp3; replace h := h.below x48; replace hp := hp.below x48; replace hp2 := hp2.below x48; have X0 := ext_trans X0 x48; have S := Sep.nil w47; have B := Below.refl w47.heap.size w47; have Hb := Nat.le_refl w47.heap.size; refine t_a rfl ?_ rfl; refine t_e ?_; (iterate 2 refine w_s ?_); refine w_g ?_; refine t_fld ln_part_0 ‹_› fb_part_0 rfl ?_ rfl; intro p9 hp9; refine t_ldi ‹_› ab_int B rfl ?_ rfl; refine t_calls Tryz.call109 rfl (impl_InRange _ _ _ _) ?_ rfl rfl; refine t_notb rfl ?_ rfl; refine t_m rfl ?_ rfl; refine t_part (t := 13) rfl ?_ ?_
 ·intro h1; (iterate 5 refine t_off rfl rfl rfl ?_ rfl); refine t_q rfl rfl ?_ rfl; refine t_m rfl ?_ rfl; (iterate 4 refine t_off rfl rfl rfl ?_ rfl); refine t_q rfl rfl ?_ rfl; refine t_m rfl ?_ rfl; (iterate 4 refine t_off rfl rfl rfl ?_ rfl); refine t_q rfl rfl ?_ rfl; refine t_e ?_; refine w_yes rfl ?_; refine w_h ?_; refine t_a rfl ?_ rfl; refine t_e ?_; refine w_r ?_; refine x_t ?_; refine x_ret1 rfl rfl ?_; exact ⟨ret_bool (by simp at h1; simp [validPart, h1]), ext_trans X0 B⟩
 intro h1; refine t_on rfl rfl ?_; refine t_lda ‹_› ab_topo sb_topo B rfl ?_ rfl; intro v14 hv14; obtain ⟨v14_0, v14_1, rfl, hv14_0, hv14_1⟩ := topo_va hv14; refine t_on rfl rfl ?_; refine t_fld ln_part_3 ‹_› fb_part_3 rfl ?_ rfl; intro p15 hp15; refine t_on rfl rfl ?_; refine t_lds ‹_› ab_s_hop B rfl ?_ rfl; intro v16 hv16; refine t_on rfl rfl ?_; refine t_x Tryz.call151 rfl (impl_hopsOk _ _ _ _ _ (by first | assumption | exact VA.below ‹_› B | exact topo_mkv (by first | assumption | exact SlR.below ‹_› B) (by first | assumption | exact SlR.below ‹_› B)) (by first | assumption | exact SlR.below ‹_› B) (by omega) (by omega)) ?_ rfl rfl; intro w49 x50; have B := bx Hb B x50; have S := S.below x50; refine t_on rfl rfl ?_; refine t_notb rfl ?_ rfl; refine t_p rfl rfl ?_ rfl; refine t_m rfl ?_ rfl; refine t_part (t := 20) rfl ?_ ?_
 ·intro h2; (iterate 4 refine t_off rfl rfl rfl ?_ rfl); refine t_q rfl rfl ?_ rfl; refine t_m rfl ?_ rfl; (iterate 4 refine t_off rfl rfl rfl ?_ rfl); refine t_q rfl rfl ?_ rfl; refine t_e ?_; refine w_yes rfl ?_; refine w_h ?_; refine t_a rfl ?_ rfl; refine t_e ?_; refine w_r ?_; refine x_t ?_; refine x_ret1 rfl rfl ?_; exact ⟨ret_bool (by simp at h2; simp [validPart, h2]), ext_trans X0 B⟩
 intro h2; refine t_on rfl rfl ?_; refine t_fld ln_part_1 ‹_› fb_part_1 rfl ?_ rfl; intro p21 hp21; refine t_on rfl rfl ?_; refine t_ldi ‹_› ab_int B rfl ?_ rfl; refine t_on rfl rfl ?_; refine t_calls Tryz.call109 rfl (impl_InRange _ _ _ _) ?_ rfl rfl; refine t_on rfl rfl ?_; refine t_notb rfl ?_ rfl; refine t_p rfl rfl ?_ rfl; refine t_m rfl ?_ rfl; refine t_part (t := 26) rfl ?_ ?_
 ·intro h3; (iterate 4 refine t_off rfl rfl rfl ?_ rfl); refine t_q rfl rfl ?_ rfl; refine t_e ?_; refine w_yes rfl ?_; refine w_h ?_; refine t_a rfl ?_ rfl; refine t_e ?_; refine w_r ?_; refine x_t ?_; refine x_ret1 rfl rfl ?_; exact ⟨ret_bool (by simp at h3; simp [validPart, h3]), ext_trans X0 B⟩
 intro h3; refine t_on rfl rfl ?_; refine t_fld ln_part_2 ‹_› fb_part_2 rfl ?_ rfl; intro p27 hp27; refine t_on rfl rfl ?_; refine t_ldi ‹_› ab_int B rfl ?_ rfl; refine t_on rfl rfl ?_; refine t_calls Tryz.call152 rfl (impl_isResidue _ _) ?_ rfl rfl; refine t_on rfl rfl ?_; refine t_notb rfl ?_ rfl; refine t_p rfl rfl ?_ rfl; refine t_e ?_; refine w_ifb rfl ?_ ?_
 ·intro h4; refine w_h ?_; refine t_a rfl ?_ rfl; refine t_e ?_; refine w_r ?_; refine x_t ?_; refine x_ret1 rfl rfl ?_; exact ⟨ret_bool (by simp at h4; simp [validPart, h4]), ext_trans X0 B⟩
 intro h4
 have hV : validPart t p = (List.range (p.hops.length - 1)).all (stepGood t p) := by simp at h1 h2 h3 h4; simp [validPart, h1, h2, h3, h4]
 rw [hV]; refine w_k ?_; refine x_s ?_; (iterate 2 refine w_s ?_); refine w_g ?_; refine t_a rfl ?_ rfl; refine t_e ?_; refine w_block ?_; refine w_loop (X := Nat) (fun k wq => k ≤ p.hops.length ∧ (∀ j, j < k → stepGood t p j = true) ∧ Below w47.heap.size w47 wq ∧ Sep w47.heap.size wq []) (fun k => [(5, I ((k : Int))), (2, p2), (3, p3)]) (fun k => p.hops.length - k) (0) ?_ ⟨rfl, rfl, rfl, trivial⟩ ?_
 ·exact ⟨by omega, by omega, B, S⟩
 ·rintro k w51 hI; (try dsimp only at hI ⊢); obtain ⟨hk, ha, B, S⟩ := hI; (iterate 2 refine w_s ?_); refine w_g ?_; refine t_m rfl ?_ rfl; refine t_fld ln_part_3 ‹_› fb_part_3 rfl ?_ rfl; intro p33 hp33; refine t_lds ‹_› ab_s_hop B rfl ?_ rfl; intro v34 hv34; refine t_len e_hop ‹_› rfl rfl ?_ rfl; refine t_sub rfl rfl (by omega) ?_ rfl; refine t_lss rfl rfl ?_ rfl; refine t_e ?_; refine w_if rfl ?_ ?_
  ·intro hlt
   have hlt' : k < p.hops.length - 1 := by omega
   have hk1 : ((k : Int) + 1).toNat = k + 1 := by omega
   obtain ⟨e63, he63⟩ : ∃ e, p.hops[k + 1]? = some e := getx (by omega); refine w_k ?_; refine x_s ?_; refine w_s ?_; refine w_block ?_; refine w_h ?_; refine t_lda ‹_› ab_part sb_part B rfl ?_ rfl; intro v40 hv40; obtain ⟨v40_3, rfl, hv40_3⟩ := part_va hv40; refine t_m rfl ?_ rfl; refine t_x Tryz.call65 rfl (va1 (by first | assumption | exact VA.below ‹_› B | exact part_mkv (by first | assumption | exact SlR.below ‹_› B)) fun cs h => impl_PartEgress _ cs _ _ h (by omega) (by omega)) ?_ rfl rfl; intro w52 x53; have B := bx Hb B x53; have S := S.below x53; refine t_a rfl ?_ rfl; refine t_e ?_; refine w_s ?_; refine w_draw (.st .take 0 (.st .take 1 (.st .take 2 (.st .take 3 (.st .take 4 (.st .take 5 (.st .take 6 (.st .take 7 (.st .run 8 (.st .take 9 (.st .take 10 (.st .take 11 (.st .take 12 (.st .take 13 .done)))))))))))))) mixed (by kernel_rfl) ?_; intro w54 x55; have B := bx Hb B x55; have S := S.below x55; refine t_lda ‹_› ab_topo sb_topo B rfl ?_ rfl; intro v44 hv44; obtain ⟨v44_0, v44_1, rfl, hv44_0, hv44_1⟩ := topo_va hv44; refine t_fld ln_part_3 ‹_› fb_part_3 rfl ?_ rfl; intro p45 hp45; refine t_lds ‹_› ab_s_hop B rfl ?_ rfl; intro v46 hv46; refine t_m rfl ?_ rfl
   obtain ⟨e48, he48⟩ : ∃ e, (p.hops)[k]? = some e := getx (by omega); refine t_idx e_hop (k := k) ‹_› he48 B rfl rfl (by first | rfl | omega) ?_ rfl; intro p48 hp48; refine t_fld ln_hop_0 ‹_› fb_hop_0 rfl ?_ rfl; intro p49 hp49; refine t_ldi ‹_› ab_int B rfl ?_ rfl; refine t_m rfl ?_ rfl; refine t_x Tryz.call153 rfl (impl_RemoteEnd _ _ _ _ _ (by first | assumption | exact VA.below ‹_› B | exact topo_mkv (by first | assumption | exact SlR.below ‹_› B) (by first | assumption | exact SlR.below ‹_› B)) (by omega)) ?_ rfl rfl; intro w56 x57; have B := bx Hb B x57; have S := S.below x57; refine t_m rfl ?_ rfl; (iterate 2 refine t_extract rfl rfl ?_ rfl); (iterate 2 refine t_a rfl ?_ rfl); refine t_k' ?_; refine t_m rfl ?_ rfl; refine t_eql rfl rfl ?_ rfl; refine t_m rfl ?_ rfl; have hG := stepGood_eq (t := t) he48 he63; refine t_partp (t := 57) rfl ?_ ?_
   ·intro h5; (iterate 9 refine t_off rfl rfl rfl ?_ rfl); refine t_q rfl rfl ?_ rfl; refine t_m rfl ?_ rfl; (iterate 6 refine t_off rfl rfl rfl ?_ rfl); refine t_q rfl rfl ?_ rfl; refine t_e ?_; refine w_yes rfl ?_; refine w_h ?_; refine t_a rfl ?_ rfl; refine t_e ?_; refine w_r ?_; refine x_block_ret ?_; (iterate 2 refine x_t ?_); refine x_block_ret ?_; refine x_t ?_; refine x_ret1 rfl rfl ?_; exact ⟨ret_bool (all_no hlt' (by rw [hG]; simp at h5; simp [h5])).symm, ext_trans X0 B⟩
   intro h5; refine t_on rfl rfl ?_; refine t_m rfl ?_ rfl; refine t_on rfl rfl ?_; refine t_fld ln_part_3 ‹_› fb_part_3 rfl ?_ rfl; intro p59 hp59; refine t_on rfl rfl ?_; refine t_lds ‹_› ab_s_hop B rfl ?_ rfl; intro v60 hv60; refine t_on rfl rfl ?_; refine t_m rfl ?_ rfl; refine t_on rfl rfl ?_; refine t_add rfl rfl (by omega) ?_ rfl; refine t_on rfl rfl ?_; refine t_idx e_hop (k := (k + 1)) ‹_› he63 B rfl rfl (by first | rfl | omega) ?_ rfl; intro p63 hp63; refine t_on rfl rfl ?_; refine t_fld ln_hop_0 ‹_› fb_hop_0 rfl ?_ rfl; intro p64 hp64; refine t_on rfl rfl ?_; refine t_ldi ‹_› ab_int B rfl ?_ rfl; refine t_on rfl rfl ?_; refine t_neq rfl rfl ?_ rfl; refine t_p rfl rfl ?_ rfl; refine t_m rfl ?_ rfl; refine t_partp (t := 68) rfl ?_ ?_
   ·intro h6; (iterate 6 refine t_off rfl rfl rfl ?_ rfl); refine t_q rfl rfl ?_ rfl; refine t_e ?_; refine w_yes rfl ?_; refine w_h ?_; refine t_a rfl ?_ rfl; refine t_e ?_; refine w_r ?_; refine x_block_ret ?_; (iterate 2 refine x_t ?_); refine x_block_ret ?_; refine x_t ?_; refine x_ret1 rfl rfl ?_; exact ⟨ret_bool (all_no hlt' (by rw [hG]; simp at h6; simp [h6])).symm, ext_trans X0 B⟩
   intro h6; refine t_on rfl rfl ?_; refine t_m rfl ?_ rfl; refine t_on rfl rfl ?_; refine t_lda ‹_› ab_part sb_part B rfl ?_ rfl; intro v70 hv70; obtain ⟨v70_3, rfl, hv70_3⟩ := part_va hv70; refine t_on rfl rfl ?_; refine t_m rfl ?_ rfl; refine t_on rfl rfl ?_; refine t_add rfl rfl (by omega) ?_ rfl; refine t_on rfl rfl ?_; refine t_x Tryz.call66 rfl (va1 (by first | assumption | exact VA.below ‹_› B | exact part_mkv (by first | assumption | exact SlR.below ‹_› B)) fun cs h => impl_PartIngress _ cs _ _ h (by omega) (by omega)) ?_ rfl rfl; intro w58 x59; have B := bx Hb B x59; have S := S.below x59; refine t_on rfl rfl ?_; refine t_neq rfl rfl ?_ rfl; refine t_p rfl rfl ?_ rfl; refine t_e ?_; refine w_if rfl ?_ ?_
   ·intro h7; refine w_h ?_; refine t_a rfl ?_ rfl; refine t_e ?_; refine w_r ?_; refine x_block_ret ?_; (iterate 2 refine x_t ?_); refine x_block_ret ?_; refine x_t ?_; refine x_ret1 rfl rfl ?_; exact ⟨ret_bool (all_no hlt' (by rw [hG]; rw [hk1] at h7; simp at h7; simp [h7])).symm, ext_trans X0 B⟩
   intro h7; refine w_k ?_; refine x_b ?_; refine x_s ?_; refine w_g ?_; refine t_m rfl ?_ rfl; refine t_add rfl rfl (by omega) ?_ rfl; refine t_a rfl ?_ rfl; refine t_d ?_; refine x_r (X := Nat) (k + 1) ?_ (by exact ⟨rfl, rfl, rfl, trivial⟩) (by (try dsimp only); omega); (try dsimp only); refine ⟨by omega, upto_succ ha ?_, B, S⟩; rw [hk1] at h7; rw [hG]
   simp at h5 h6 h7
   simp [h5, h6, h7]
  ·intro hge; refine w_exit ?_; (iterate 2 refine x_then_exit ?_); refine x_block_exit ?_; refine x_s ?_; refine w_h ?_; refine t_a rfl ?_ rfl; refine t_e ?_; refine w_r ?_; refine x_ret1 rfl rfl ?_; exact ⟨ret_bool (all_ok fun j hj => ha j (by omega)).symm, ext_trans X0 B⟩
theorem b_link (a b c d e : Int) (w : World) : (Instr.build 90 #[(0, I a), (1, I b), (2, I c), (3, I d), (4, I e)]).run Tryz.prog w = .ok (.agg #[I a, I b, I c, I d, I e]) w := by kernel_rfl
theorem b_asn (a : Int) (b : Bool) (c : Int) (w : World) : (Instr.build 117 #[(0, I a), (1, .bool b), (2, I c)]).run Tryz.prog w = .ok (.agg #[I a, .bool b, I c]) w := by kernel_rfl
theorem bs_link0 (w : World) : (Instr.buildSlice 25 0 #[]).run Tryz.prog w = .ok (.slice (some ⟨w.heap.size, 0, none⟩) 0 0) (w.alloc (.cells #[] 90)) := by kernel_rfl
theorem bs_link1 (c0 c1 c2 c3 c4 : Value) (w : World) : (Instr.buildSlice 25 1 #[(0, .agg #[c0, c1, c2, c3, c4])]).run Tryz.prog w = .ok (.slice (some ⟨w.heap.size, 0, none⟩) 1 1) (w.alloc (.cells #[c0, c1, c2, c3, c4] 90)) := by kernel_rfl
theorem bs_asn1 (c0 c1 c2 : Value) (w : World) : (Instr.buildSlice 24 1 #[(0, .agg #[c0, c1, c2])]).run Tryz.prog w = .ok (.slice (some ⟨w.heap.size, 0, none⟩) 1 1) (w.alloc (.cells #[c0, c1, c2] 117)) := by kernel_rfl
/-- A link more between two realms, where each has a door left. -/
def addL (L : List Lnk) (a c k : Int) : List Lnk :=
  if ((ifs L a).length : Int) + 1 ≤ 6 ∧ ((ifs L c).length : Int) + 1 ≤ 6 then L ++ [⟨a, (ifs L a).length + 1, c, (ifs L c).length + 1, k⟩] else L
theorem addL_len (L : List Lnk) (a c k : Int) : (addL L a c k).length ≤ L.length + 1 := by
  unfold addL; split <;> simp
theorem spec_l5Add {b g : Nat} {w : World} {va vl : Value} {A : List ASd} {L : List Lnk} {os : List Ow} (a c k : Int) (S : Sep b w (bxO g 27 #[va, vl] :: slO asnT 117 va A :: slO linkT 90 vl L :: os)) (hz : L.length ≤ 1000) :
  Calls Tryz.prog 137 #[.pointer (some ⟨g, 0, none⟩), I a, I c, I k] w fun e w' => ∃ v, e = .returned (.tuple #[]) ∧ Sep b w' (bxO g 27 #[va, v] :: slO asnT 117 va A :: slO linkT 90 v (addL L a c k) :: os) ∧ Below b w w' := by
 have l1 := ifs_len L a; have l2 := ifs_len L c; have X0 := Below.refl w.heap.size w; refine enter Tryz.func137 rfl Tryz.ntmps137 rfl ?_; have B := Below.refl b w; have Hb := S.base; refine w_h ?_; refine t_m rfl ?_ rfl; refine t_nilc rfl ?_ rfl; refine t_b S.box ab_topo sb_topo rfl rfl ?_ rfl; refine t_m rfl ?_ rfl; refine t_c Tryz.call166 rfl (spec_Interfaces A L _ _ _ (topo_mkv (S.tail.sl) (S.tail.tail.sl)) (by (try dsimp only); omega)) ?_ rfl rfl; rintro e w1 ⟨v14, fpv14, rfl, hOv14, x2⟩; refine ⟨_, rfl, x2, ?_⟩; have S := S.add (o := slO _ _ _ _) x2 hOv14; have B := bx Hb B x2; refine t_len e_int (S.sl) rfl rfl ?_ rfl; refine t_add rfl rfl (by omega) ?_ rfl; refine t_a rfl ?_ rfl; refine t_k ?_; refine t_m rfl ?_ rfl; refine t_nilc rfl ?_ rfl; refine t_b S.tail.box ab_topo sb_topo rfl rfl ?_ rfl; refine t_m rfl ?_ rfl; refine t_c Tryz.call166 rfl (spec_Interfaces A L _ _ _ (topo_mkv (S.tail.tail.sl) (S.tail.tail.tail.sl)) (by (try dsimp only); omega)) ?_ rfl rfl; rintro e w3 ⟨v21, fpv21, rfl, hOv21, x4⟩; refine ⟨_, rfl, x4, ?_⟩; have S := S.add (o := slO _ _ _ _) x4 hOv21; have B := bx Hb B x4; refine t_len e_int (S.sl) rfl rfl ?_ rfl; refine t_add rfl rfl (by omega) ?_ rfl
 refine t_a rfl ?_ rfl; refine t_k ?_; refine t_m rfl ?_ rfl; refine t_leq rfl rfl ?_ rfl; refine t_m rfl ?_ rfl; refine t_partp (t := 26) rfl ?_ ?_
 ·intro h1; refine t_on rfl rfl ?_; refine t_m rfl ?_ rfl; refine t_on rfl rfl ?_; refine t_leq rfl rfl ?_ rfl; refine t_q rfl rfl ?_ rfl; refine t_e ?_; refine w_if rfl ?_ ?_
  ·intro h2; refine w_g ?_; (iterate 2 refine t_m rfl ?_ rfl); refine t_nilc rfl ?_ rfl; refine t_y fb_topo_1 rfl rfl ?_ rfl; refine t_bx1 S.tail.tail.box ab_s_link rfl rfl ?_ rfl; (iterate 5 refine t_m rfl ?_ rfl); refine t_g (fun w => b_link _ _ _ _ _ w) rfl ?_ rfl; refine t_lit (T := linkT) (l := [(⟨a, ((((ifs L a)).length : Int)) + 1, c, ((((ifs L c)).length : Int)) + 1, k⟩ : Lnk)]) (css := [[I a, I (((((ifs L a)).length : Int)) + 1), I c, I (((((ifs L c)).length : Int)) + 1), I k]]) link_flat S (fun w => bs_link1 _ _ _ _ _ w) rfl rfl rfl rfl (by simp [maxLen]) (litR_one fun _ => rfl) ?_ rfl rfl; intro u41 w5 x6 S; have B := bx Hb B x6; have hR := S.sl; have S := S.f5; refine t_cat link_flat e_link S hR rfl rfl rfl (by first | omega | (simp [-List.length_flatMap]; omega)) (by (simp [maxLen, -List.length_flatMap]; try omega)) ?_ rfl; intro v42 w7 x8 S; have B := B.trans x8; clear hR; have S := S.f1.tail; refine t_nilc rfl ?_ rfl; refine t_y fb_topo_1 rfl rfl ?_ rfl; obtain ⟨Av42, cv42, rfl, _⟩ := S.sl.form; have S := S.f3; refine t_st1 S sb_s_link rfl rfl rfl rfl rfl ?_; intro w9 b10 S; have B := B.trans b10; refine t_d ?_; refine x_end1 ?_; refine x_ret0 rfl ?_
   have hq : addL L a c k = L ++ [⟨a, (ifs L a).length + 1, c, (ifs L c).length + 1, k⟩] := by rw [addL, if_pos ⟨h1, h2⟩]
   exact ⟨_, rfl, by rw [hq]; exact S.f2.tail.f2.tail.f2.f1, B⟩
  ·intro h2; refine w_k ?_; refine x_end1 ?_; refine x_ret0 rfl ?_
   have hq : addL L a c k = L := by rw [addL, if_neg fun z => h2 z.2]
   exact ⟨_, rfl, by rw [hq]; exact S.tail.tail, B⟩
 ·intro h1; (iterate 2 refine t_off rfl rfl rfl ?_ rfl); refine t_p rfl rfl ?_ rfl; refine t_e ?_; refine w_no rfl ?_; refine w_k ?_; refine x_end1 ?_; refine x_ret0 rfl ?_
  have hq : addL L a c k = L := by rw [addL, if_neg fun z => h1 z.1]
  exact ⟨_, rfl, by rw [hq]; exact S.tail.tail, B⟩
theorem as_rng {A : List ASd} {L : List Lnk} {r : Int} (h : ¬ (!(isAS (⟨A, L⟩ : Topo) r)) = true) : 0 ≤ r ∧ r < A.length := by
  have h' : inR r 0 ((A.length : Int) - 1) = true := by simpa [isAS] using h
  have := inR_iff.1 h'
  omega
theorem spec_l5LinkOk (A : List ASd) (L : List Lnk) (v u : Value) (x : Lnk) (w : World) (h : VA topoT w v ⟨A, L⟩) (h2 : VA linkT w u x) (hz : sz_topo (⟨A, L⟩ : Topo) ≤ 1000000) : Calls Tryz.prog 138 #[v, u] w fun e w' => ∃ y : Bool, e = .returned (.bool y) ∧ Below w.heap.size w w' := by
 have X0 := Below.refl w.heap.size w; refine enter Tryz.func138 rfl Tryz.ntmps138 rfl ?_; refine w_h ?_; refine t_boxr ‹_› rfl ?_ rfl rfl; intro p2 w11 x12 hp2; replace h := h.below x12; replace h2 := h2.below x12; have X0 := ext_trans X0 x12; refine t_boxr ‹_› rfl ?_ rfl rfl; intro p3 w13 x14 hp3; replace h := h.below x14; replace h2 := h2.below x14; replace hp2 := hp2.below x14; have X0 := ext_trans X0 x14; have S := Sep.nil w13; have B := Below.refl w13.heap.size w13; have Hb := Nat.le_refl w13.heap.size; refine t_a rfl ?_ rfl; refine t_e ?_; (iterate 2 refine w_s ?_); refine w_g ?_; refine t_lda ‹_› ab_topo sb_topo B rfl ?_ rfl; intro v7 hv7; obtain ⟨v7_0, v7_1, rfl, hv7_0, hv7_1⟩ := topo_va hv7; refine t_fld ln_link_0 ‹_› fb_link_0 rfl ?_ rfl; intro p8 hp8; refine t_ldi ‹_› ab_int B rfl ?_ rfl; refine t_x Tryz.call99 rfl (spec_l5Realm _ _ _ _ (by first | assumption | exact VA.below ‹_› B | exact topo_mkv (by first | assumption | exact SlR.below ‹_› B) (by first | assumption | exact SlR.below ‹_› B)) (by omega)) ?_ rfl rfl; intro w15 x16; have B := bx Hb B x16; have S := S.below x16; refine t_notb rfl ?_ rfl; refine t_m rfl ?_ rfl; refine t_part (t := 12) rfl ?_ ?_
 ·intro hp1; (iterate 5 refine t_off rfl rfl rfl ?_ rfl); refine t_q rfl rfl ?_ rfl; refine t_m rfl ?_ rfl; (iterate 5 refine t_off rfl rfl rfl ?_ rfl); refine t_q rfl rfl ?_ rfl; refine t_m rfl ?_ rfl; (iterate 4 refine t_off rfl rfl rfl ?_ rfl); refine t_q rfl rfl ?_ rfl; refine t_m rfl ?_ rfl; (iterate 4 refine t_off rfl rfl rfl ?_ rfl); refine t_q rfl rfl ?_ rfl; refine t_e ?_; refine w_yes rfl ?_; refine w_h ?_; refine t_a rfl ?_ rfl; refine t_e ?_; refine w_r ?_; refine x_t ?_; refine x_ret1 rfl rfl ?_; exact ⟨_, rfl, ext_trans X0 B⟩
 ·intro hp1; refine t_on rfl rfl ?_; refine t_lda ‹_› ab_topo sb_topo B rfl ?_ rfl; intro v13 hv13; obtain ⟨v13_0, v13_1, rfl, hv13_0, hv13_1⟩ := topo_va hv13; refine t_on rfl rfl ?_; refine t_fld ln_link_2 ‹_› fb_link_2 rfl ?_ rfl; intro p14 hp14; refine t_on rfl rfl ?_; refine t_ldi ‹_› ab_int B rfl ?_ rfl; refine t_on rfl rfl ?_; refine t_x Tryz.call99 rfl (spec_l5Realm _ _ _ _ (by first | assumption | exact VA.below ‹_› B | exact topo_mkv (by first | assumption | exact SlR.below ‹_› B) (by first | assumption | exact SlR.below ‹_› B)) (by omega)) ?_ rfl rfl; intro w17 x18; have B := bx Hb B x18; have S := S.below x18; refine t_on rfl rfl ?_; refine t_notb rfl ?_ rfl; refine t_p rfl rfl ?_ rfl; refine t_m rfl ?_ rfl; refine t_part (t := 19) rfl ?_ ?_
  ·intro hp2; (iterate 5 refine t_off rfl rfl rfl ?_ rfl); refine t_q rfl rfl ?_ rfl; refine t_m rfl ?_ rfl; (iterate 4 refine t_off rfl rfl rfl ?_ rfl); refine t_q rfl rfl ?_ rfl; refine t_m rfl ?_ rfl; (iterate 4 refine t_off rfl rfl rfl ?_ rfl); refine t_q rfl rfl ?_ rfl; refine t_e ?_; refine w_yes rfl ?_; refine w_h ?_; refine t_a rfl ?_ rfl; refine t_e ?_; refine w_r ?_; refine x_t ?_; refine x_ret1 rfl rfl ?_; exact ⟨_, rfl, ext_trans X0 B⟩
  ·intro hp2; have r1 : 0 ≤ x.a ∧ x.a < ((⟨A, L⟩ : Topo).ases.length : Int) := as_rng (L := L) (by simpa using hp1); have r2 : 0 ≤ x.b ∧ x.b < ((⟨A, L⟩ : Topo).ases.length : Int) := as_rng (L := L) (by simpa using hp2); refine t_on rfl rfl ?_; refine t_fld ln_link_0 ‹_› fb_link_0 rfl ?_ rfl; intro p20 hp20; refine t_on rfl rfl ?_; refine t_ldi ‹_› ab_int B rfl ?_ rfl; refine t_on rfl rfl ?_; refine t_fld ln_link_2 ‹_› fb_link_2 rfl ?_ rfl; intro p22 hp22; refine t_on rfl rfl ?_; refine t_ldi ‹_› ab_int B rfl ?_ rfl; refine t_on rfl rfl ?_; refine t_geq rfl rfl ?_ rfl; refine t_p rfl rfl ?_ rfl; refine t_m rfl ?_ rfl; refine t_partp (t := 26) rfl ?_ ?_
   ·intro hc1; (iterate 4 refine t_off rfl rfl rfl ?_ rfl); refine t_q rfl rfl ?_ rfl; refine t_m rfl ?_ rfl; (iterate 4 refine t_off rfl rfl rfl ?_ rfl); refine t_q rfl rfl ?_ rfl; refine t_e ?_; refine w_yes rfl ?_; refine w_h ?_; refine t_a rfl ?_ rfl; refine t_e ?_; refine w_r ?_; refine x_t ?_; refine x_ret1 rfl rfl ?_; exact ⟨_, rfl, ext_trans X0 B⟩
   ·intro hc2; refine t_on rfl rfl ?_; refine t_fld ln_link_1 ‹_› fb_link_1 rfl ?_ rfl; intro p27 hp27; refine t_on rfl rfl ?_; refine t_ldi ‹_› ab_int B rfl ?_ rfl; refine t_on rfl rfl ?_; refine t_calls Tryz.call144 rfl (spec_l1In _ _ _ _) ?_ rfl rfl; refine t_on rfl rfl ?_; refine t_notb rfl ?_ rfl; refine t_p rfl rfl ?_ rfl; refine t_m rfl ?_ rfl; refine t_part (t := 32) rfl ?_ ?_
    ·intro hc3; (iterate 4 refine t_off rfl rfl rfl ?_ rfl); refine t_q rfl rfl ?_ rfl; refine t_e ?_; refine w_yes rfl ?_; refine w_h ?_; refine t_a rfl ?_ rfl; refine t_e ?_; refine w_r ?_; refine x_t ?_; refine x_ret1 rfl rfl ?_; exact ⟨_, rfl, ext_trans X0 B⟩
    ·intro hc4; refine t_on rfl rfl ?_; refine t_fld ln_link_3 ‹_› fb_link_3 rfl ?_ rfl; intro p33 hp33; refine t_on rfl rfl ?_; refine t_ldi ‹_› ab_int B rfl ?_ rfl; refine t_on rfl rfl ?_; refine t_calls Tryz.call144 rfl (spec_l1In _ _ _ _) ?_ rfl rfl; refine t_on rfl rfl ?_; refine t_notb rfl ?_ rfl; refine t_p rfl rfl ?_ rfl; refine t_e ?_; refine w_ifb rfl ?_ ?_
     ·intro hc5; refine w_h ?_; refine t_a rfl ?_ rfl; refine t_e ?_; refine w_r ?_; refine x_t ?_; refine x_ret1 rfl rfl ?_; exact ⟨_, rfl, ext_trans X0 B⟩
     ·intro hc6; refine w_k ?_; refine x_s ?_; refine w_h ?_; refine t_fld ln_topo_0 ‹_› fb_topo_0 rfl ?_ rfl; intro p38 hp38; refine t_lds ‹_› ab_s_asn B rfl ?_ rfl; intro v39 hv39; refine t_fld ln_link_0 ‹_› fb_link_0 rfl ?_ rfl; intro p40 hp40; refine t_ldi ‹_› ab_int B rfl ?_ rfl; obtain ⟨e42, he42⟩ : ∃ e, ((⟨A, L⟩ : Topo).ases)[x.a.toNat]? = some e := getx (by omega); refine t_idx e_asn (k := x.a.toNat) ‹_› he42 B rfl rfl (by first | rfl | omega) ?_ rfl; intro p42 hp42; refine t_lda ‹_› ab_asn sb_asn B rfl ?_ rfl; intro v43 hv43; obtain rfl := asn_va hv43; refine t_w S z_asn rfl ?_ rfl rfl; intro g5 w19 x20 S; have B := bx Hb B x20; refine t_stn S sb_asn rfl rfl rfl rfl (by simp [Value.oneCell']) ?_; intro w21 b22 S; have B := B.trans b22; refine t_k ?_; refine t_fld ln_topo_0 ‹_› fb_topo_0 rfl ?_ rfl; intro p44 hp44; refine t_lds ‹_› ab_s_asn B rfl ?_ rfl; intro v45 hv45; refine t_fld ln_link_2 ‹_› fb_link_2 rfl ?_ rfl; intro p46 hp46; refine t_ldi ‹_› ab_int B rfl ?_ rfl; obtain ⟨e48, he48⟩ : ∃ e, ((⟨A, L⟩ : Topo).ases)[x.b.toNat]? = some e := getx (by omega); refine t_idx e_asn (k := x.b.toNat) ‹_› he48 B rfl rfl (by first | rfl | omega) ?_ rfl; intro p48 hp48
      refine t_lda ‹_› ab_asn sb_asn B rfl ?_ rfl; intro v49 hv49; obtain rfl := asn_va hv49; refine t_w S z_asn rfl ?_ rfl rfl; intro g6 w23 x24 S; have B := bx Hb B x24; refine t_stn S sb_asn rfl rfl rfl rfl (by simp [Value.oneCell']) ?_; intro w25 b26 S; have B := B.trans b26; refine t_e ?_; (iterate 2 refine w_s ?_); refine w_g ?_; refine t_fld ln_link_4 ‹_› fb_link_4 rfl ?_ rfl; intro p50 hp50; refine t_ldi ‹_› ab_int B rfl ?_ rfl; refine t_e ?_; refine w_block ?_; refine w_h ?_; refine t_eql rfl rfl ?_ rfl; refine t_a rfl ?_ rfl; refine t_e ?_; refine w_if rfl ?_ ?_
      ·intro hc7; refine w_h ?_; refine t_y fb_asn_1 rfl rfl ?_ rfl; refine t_bx1 S.tail.box ab_bool rfl rfl ?_ rfl; refine t_m rfl ?_ rfl; refine t_part (t := 56) rfl ?_ ?_
       ·intro hc8; refine t_on rfl rfl ?_; refine t_y fb_asn_1 rfl rfl ?_ rfl; refine t_on rfl rfl ?_; refine t_bx1 S.box ab_bool rfl rfl ?_ rfl; refine t_q rfl rfl ?_ rfl; refine t_a rfl ?_ rfl; refine t_e ?_; refine w_r ?_; refine x_block_ret ?_; refine x_t ?_; refine x_ret1 rfl rfl ?_; exact ⟨_, rfl, ext_trans X0 B⟩
       ·intro hc9; (iterate 2 refine t_off rfl rfl rfl ?_ rfl); refine t_p rfl rfl ?_ rfl; refine t_a rfl ?_ rfl; refine t_e ?_; refine w_r ?_; refine x_block_ret ?_; refine x_t ?_; refine x_ret1 rfl rfl ?_; exact ⟨_, rfl, ext_trans X0 B⟩
      ·intro hc10; refine w_h ?_; refine t_eql rfl rfl ?_ rfl; refine t_a rfl ?_ rfl; refine t_e ?_; refine w_if rfl ?_ ?_
       ·intro hc11; refine w_h ?_; refine t_y fb_asn_0 rfl rfl ?_ rfl; refine t_bx1 S.tail.box ab_int rfl rfl ?_ rfl; refine t_y fb_asn_0 rfl rfl ?_ rfl; refine t_bx1 S.box ab_int rfl rfl ?_ rfl; refine t_eql rfl rfl ?_ rfl; refine t_m rfl ?_ rfl; refine t_partp (t := 67) rfl ?_ ?_
        ·intro hc12; refine t_on rfl rfl ?_; refine t_y fb_asn_1 rfl rfl ?_ rfl; refine t_on rfl rfl ?_; refine t_bx1 S.box ab_bool rfl rfl ?_ rfl; refine t_on rfl rfl ?_; refine t_notb rfl ?_ rfl; refine t_q rfl rfl ?_ rfl; refine t_a rfl ?_ rfl; refine t_e ?_; refine w_r ?_; refine x_block_ret ?_; refine x_t ?_; refine x_ret1 rfl rfl ?_; exact ⟨_, rfl, ext_trans X0 B⟩
        ·intro hc13; (iterate 3 refine t_off rfl rfl rfl ?_ rfl); refine t_p rfl rfl ?_ rfl; refine t_a rfl ?_ rfl; refine t_e ?_; refine w_r ?_; refine x_block_ret ?_; refine x_t ?_; refine x_ret1 rfl rfl ?_; exact ⟨_, rfl, ext_trans X0 B⟩
       ·intro hc14; refine w_k ?_; refine x_b ?_; refine x_s ?_; refine w_h ?_; refine t_fld ln_link_4 ‹_› fb_link_4 rfl ?_ rfl; intro p72 hp72; refine t_ldi ‹_› ab_int B rfl ?_ rfl; refine t_eql rfl rfl ?_ rfl; refine t_m rfl ?_ rfl; refine t_partp (t := 75) rfl ?_ ?_
        ·intro hc15; refine t_on rfl rfl ?_; refine t_y fb_asn_1 rfl rfl ?_ rfl; refine t_on rfl rfl ?_; refine t_bx1 S.tail.box ab_bool rfl rfl ?_ rfl; refine t_on rfl rfl ?_; refine t_notb rfl ?_ rfl; refine t_q rfl rfl ?_ rfl; refine t_m rfl ?_ rfl; refine t_part (t := 80) rfl ?_ ?_
         ·intro hc16; refine t_on rfl rfl ?_; refine t_y fb_asn_1 rfl rfl ?_ rfl; refine t_on rfl rfl ?_; refine t_bx1 S.box ab_bool rfl rfl ?_ rfl; refine t_on rfl rfl ?_; refine t_notb rfl ?_ rfl; refine t_q rfl rfl ?_ rfl; refine t_a rfl ?_ rfl; refine t_e ?_; refine w_r ?_; refine x_ret1 rfl rfl ?_; exact ⟨_, rfl, ext_trans X0 B⟩
         ·intro hc17; (iterate 3 refine t_off rfl rfl rfl ?_ rfl); refine t_p rfl rfl ?_ rfl; refine t_a rfl ?_ rfl; refine t_e ?_; refine w_r ?_; refine x_ret1 rfl rfl ?_; exact ⟨_, rfl, ext_trans X0 B⟩
        ·intro hc18; (iterate 3 refine t_off rfl rfl rfl ?_ rfl); refine t_p rfl rfl ?_ rfl; refine t_m rfl ?_ rfl; (iterate 3 refine t_off rfl rfl rfl ?_ rfl); refine t_p rfl rfl ?_ rfl; refine t_a rfl ?_ rfl; refine t_e ?_; refine w_r ?_; refine x_ret1 rfl rfl ?_; exact ⟨_, rfl, ext_trans X0 B⟩
section
variable {P : Program} {n : Nat} {ops : Array Oper} {Q : Exit → Act → World → Prop} {L : Frm} {w : World} {l : List Oper} {T : IT} {d : Nat} {ty : TypeId} {pos : String} {af : Array Edge}
theorem p_lss {x y : Operand} {t t' : TypeId} {kd : IntKind} {a b : Int} (hx : ev L x = some (.int kd a)) (hy : ev L y = some (.int kd b)) (k : WPre P n ops Q l T ((d, .bool (decide (a < b))) :: L) w) (hn : Nat.blt d n = true) : WPre P n ops Q (⟨some d, .binOp .lss t x y t', ty, pos, af, none⟩ :: l) T L w :=
  p_read (fun e ha _ _ _ w' => by simp [execOp, ha.ev hx, ha.ev hy, eqGuard, binOp, Op.intCmp]) k hn
theorem p_fldx {g o o' off : Nat} {s i : Nat} {xo : Operand} (hf : fieldB P s i = some off) (hx : ev L xo = some (.pointer (some ⟨g, o, none⟩))) (ho : o + off = o')
    (kk : WPre P n ops Q l T ((d, .pointer (some ⟨g, o', none⟩)) :: L) w) (hn : Nat.blt d n = true) : WPre P n ops Q (⟨some d, .fieldAddr s xo i, ty, pos, af, none⟩ :: l) T L w := by
  subst ho; refine p_read (fun a ha _ _ _ w' => ?_) kk hn
  unfold fieldB at hf
  split at hf
  · rename_i fs hu
    split at hf
    · rename_i fd hfd
      split at hf
      · rename_i inf hinf
        split at hf
        · cases hf
        · rename_i hne
          cases hf
          simp [execOp, ha.ev hx, Instr.fieldAt, run_underlying hu, hfd, Instr.sureAddr, fieldPlace, sizeOf, typeInfo, hinf, hne, Addr.add_lit]
      · cases hf
    · cases hf
  · cases hf
end
theorem b_topo0 (w : World) : (Instr.build 27 #[]).run Tryz.prog w = .ok (.agg #[.slice none 0 0, .slice none 0 0]) w := by kernel_rfl
theorem rl_asn_0 {x : ASd} : ∀ (w : World) cs, asnT.R w cs x → cs[0]? = some (I x.isd) := fun w cs h => by rw [asn_form h]; rfl
theorem so_asn_0 {b : Nat} {x : ASd} {k : Int} : ∀ (w : World) cs f, asnT.O b w cs x f → asnT.O b w (cs.set 0 (I k)) { x with isd := k } f := fun w cs f h => ⟨by rw [asn_form (w := w) h.1]; rfl, h.2⟩
/-- Links as_ they grow among n realms, in at most m steps. -/
inductive Grown (n : Nat) : Nat → List Lnk → Prop
  | nil : Grown n 0 []
  | add {m : Nat} {L : List Lnk} (a c k : Int) : Grown n m L → 0 ≤ a → a < c → c < n → 1 ≤ k → k ≤ 3 → Grown n (m + 1) (addL L a c k)
theorem Grown.len {n m : Nat} {L : List Lnk} (h : Grown n m L) : L.length ≤ m := by
  induction h with
  | nil => simp
  | add a c k h _ _ _ _ _ ih => have := addL_len ‹_› a c k; omega
/-- A realm as_ it is drawn. -/
def AsK (x : ASd) : Prop := 0 ≤ x.isd ∧ x.isd ≤ 1 ∧ 1 ≤ x.key ∧ x.key ≤ 8000100
set_option maxHeartbeats 8000000 in
theorem spec_l5Draw {b n c : Nat} {w : World} {v : Value} {os : List Ow} (S : Sep b w (curO v n c 123 :: os)) (K : CodeK b w v n) : Calls Tryz.prog 97 #[.pointer (some ⟨c, 0, none⟩)] w fun e w' =>
  ∃ (va vl : Value) (A : List ASd) (L : List Lnk), e = .returned (.agg #[va, vl]) ∧ ((1 ≤ A.length ∧ A.length ≤ 8 ∧ ∀ x ∈ A, AsK x) ∧ ∃ m L0, m ≤ 60 ∧ Grown A.length m L0 ∧ L.Sublist L0) ∧ Sep b w' (slO asnT 117 va A :: slO linkT 90 vl L :: curO v n c 123 :: os) ∧ Below b w w' := by
 have X0 := Below.refl w.heap.size w; refine enter Tryz.func97 rfl Tryz.ntmps97 rfl ?_; have B := Below.refl b w; have Hb := S.base; refine w_h ?_; refine t_w S z_topo rfl ?_ rfl rfl; intro g2 w1 x2 S; have B := bx Hb B x2; refine t_k ?_; refine t_g (fun w => b_topo0 w) rfl ?_ rfl; refine t_w S z_topo rfl ?_ rfl rfl; intro g3 w3 x4 S; have B := bx Hb B x4; refine t_stn S sb_topo rfl rfl rfl rfl (by simp [Value.oneCell']) ?_; intro w5 b6 S; have B := B.trans b6; refine t_k ?_; refine t_m rfl ?_ rfl; have S := S.f2; refine t_f Tryz.call68 rfl (spec_l1Below 3 S (K.below B)) ?_ rfl; rintro e w7 ⟨y16, rfl, hf16, S, x8⟩; refine ⟨_, rfl, ?_⟩; have B := B.trans x8; refine t_add rfl rfl (by omega) ?_ rfl; refine t_a rfl ?_ rfl; refine t_k ?_; refine t_m rfl ?_ rfl; refine t_f Tryz.call68 rfl (spec_l1Below 6 S (K.below B)) ?_ rfl; rintro e w9 ⟨y19, rfl, hf19, S, x10⟩; refine ⟨_, rfl, ?_⟩; have B := B.trans x10; refine t_a rfl ?_ rfl; refine t_e ?_; (iterate 2 refine w_s ?_); refine w_g ?_; refine t_a rfl ?_ rfl; refine t_e ?_; refine w_block ?_; have S := Sep.addNil (T := linkT) (e := 90) S; have S := Sep.addNil (T := asnT) (e := 117) S; have S := S.f2.f4.f3.f3.f4
 refine w_loop (X := Nat × List ASd × Value) (fun x wq => (fun k A va => (k : Int) ≤ 1 + y16 + y19 ∧ A.length = k ∧ (∀ x ∈ A, AsK x) ∧ Below b w wq ∧ Sep b wq (bxO g3 27 #[va, .slice none 0 0] :: slO asnT 117 va A :: slO linkT 90 (.slice none 0 0) [] :: bxO g2 27 #[.slice none 0 0, .slice none 0 0] :: curO v n c 123 :: os)) x.1 x.2.1 x.2.2) (fun x => (fun k A va => [(6, I ((k : Int))), (0, .pointer (some ⟨c, 0, none⟩)), (2, .pointer (some ⟨g2, 0, none⟩)), (3, .pointer (some ⟨g3, 0, none⟩)), (4, I (1 + y16)), (5, I y19)]) x.1 x.2.1 x.2.2) (fun x => (fun k A va => (1 + y16 + y19 - k).toNat) x.1 x.2.1 x.2.2) (0, [], .slice none 0 0) ?_ ⟨rfl, rfl, rfl, rfl, rfl, rfl, trivial⟩ ?_
 ·exact ⟨by omega, rfl, fun x hx => by simp at hx, B, S⟩
 rintro ⟨k, A, va⟩ w11 hI; (try dsimp only at hI ⊢); obtain ⟨hk, hA, hK, B, S⟩ := hI; (iterate 2 refine w_s ?_); refine w_g ?_; (iterate 3 refine t_m rfl ?_ rfl); refine t_add rfl rfl (by omega) ?_ rfl; refine t_lss rfl rfl ?_ rfl; refine t_e ?_; refine w_if rfl ?_ ?_
 ·intro hlt; refine w_k ?_; refine x_s ?_; refine w_s ?_; refine w_block ?_; refine w_drawP [0, 2, 4, 5, 6, 7, 11] (.alt (.st .fin 1 (.st .fin 3 (.st .fin 8 (.st .fin 9 (.st .fin 10 (.st .fin 12 (.st .fin 13 (.st .fin 14 (.st .fin 15 (.st .fin 16 (.st .fin 17 .done))))))))))) (.st .fin 3 (.alt (.st .fin 1 (.st .fin 8 (.st .fin 9 (.st .fin 10 (.st .fin 12 (.st .fin 13 (.st .fin 14 (.st .fin 15 (.st .fin 16 (.st .fin 17 .done)))))))))) (.st .fin 8 (.alt (.st .fin 1 (.st .fin 9 (.st .fin 10 (.st .fin 12 (.st .fin 13 (.st .fin 14 (.st .fin 15 (.st .fin 16 (.st .fin 17 .done))))))))) (.st .fin 9 (.alt (.st .fin 1 (.st .fin 10 (.st .fin 12 (.st .fin 13 (.st .fin 14 (.st .fin 15 (.st .fin 16 (.st .fin 17 .done)))))))) (.st .fin 10 (.alt (.st .fin 1 (.st .fin 12 (.st .fin 13 (.st .fin 14 (.st .fin 15 (.st .fin 16 (.st .fin 17 .done))))))) (.st .fin 12 (.alt (.st .fin 1 (.st .fin 13 (.st .fin 14 (.st .fin 15 (.st .fin 16 (.st .fin 17 .done)))))) (.st .fin 13 (.alt (.st .fin 1 (.st .fin 14 (.st .fin 15 (.st .fin 16 (.st .fin 17 .done))))) (.st .fin 14 (.st .fin 1 (.st .fin 15 (.st .fin 16 (.st .fin 17 .done)))))))))))))))))) mixed (by kernel_rfl) ?_; intro w12 x13; have B := bx Hb B x13
  have S := S.below x13; refine p_fldx fb_topo_0 rfl rfl ?_ rfl; (iterate 3 refine p_move rfl ?_ rfl); refine p_lss rfl rfl ?_ rfl; (iterate 2 refine p_move rfl ?_ rfl); refine p_done ?_
  have hnew : ∀ y z : Int, ∀ q : Bool, 0 ≤ y ∧ (y < 2 ∨ y = 0) → 0 ≤ z ∧ (z < 1000000 ∨ z = 0) → ∀ x ∈ A ++ [(⟨y, q, 1 + z * 8 + k⟩ : ASd)], AsK x := by
   intro y z q hy hz x hx; rw [List.mem_append, List.mem_singleton] at hx
   rcases hx with hx | hx
   ·exact hK x hx
   ·subst hx; exact ⟨hy.1, by show y ≤ 1; omega, by show 1 ≤ 1 + z * 8 + (k : Int); omega, by show 1 + z * 8 + (k : Int) ≤ 8000100; omega⟩
  have hlen : ∀ x : ASd, ((A ++ [x]).length : Int) = ((k + 1 : Nat) : Int) := fun x => by rw [List.length_append, List.length_singleton]; omega
  refine t_alt ?_ ?_
  ·refine t_bx1 S.box ab_s_asn rfl rfl ?_ rfl; have S := S.f4; refine t_f Tryz.call68 rfl (spec_l1Below 2 S (K.below B)) ?_ rfl; rintro e w14 ⟨y30, rfl, hf30, S, x15⟩; refine ⟨_, rfl, ?_⟩; have B := B.trans x15; refine t_f Tryz.call68 rfl (spec_l1Below 1000000 S (K.below B)) ?_ rfl; rintro e w16 ⟨y35, rfl, hf35, S, x17⟩; refine ⟨_, rfl, ?_⟩; have B := B.trans x17; refine t_mul rfl rfl (by omega) ?_ rfl; refine t_add rfl rfl (by omega) ?_ rfl; refine t_add rfl rfl (by omega) ?_ rfl; refine t_g (fun w => b_asn _ _ _ w) rfl ?_ rfl; refine t_lit (T := asnT) (l := [(⟨y30, decide ((k : Int) < (1 + y16)), (1 + (y35 * 8)) + (k : Int)⟩ : ASd)]) (css := [[I y30, .bool (decide ((k : Int) < (1 + y16))), I ((1 + (y35 * 8)) + (k : Int))]]) asn_flat S (fun w => bs_asn1 _ _ _ w) rfl rfl rfl rfl (by simp [maxLen]) (litR_one fun _ => rfl) ?_ rfl rfl; intro u41 w18 x19 S; have B := bx Hb B x19; have hR := S.sl; have S := S.f3; refine t_cat asn_flat e_asn S hR rfl rfl rfl (by first | omega | (simp [-List.length_flatMap]; omega)) (by (simp [maxLen, -List.length_flatMap]; try omega)) ?_ rfl; intro v42 w20 x21 S; have B := B.trans x21; clear hR; have S := S.f1.tail; refine t_y fb_topo_0 rfl rfl ?_ rfl
   obtain ⟨Av42, cv42, rfl, _⟩ := S.sl.form; have S := S.f2; refine t_st1 S sb_s_asn rfl rfl rfl rfl rfl ?_; intro w22 b23 S; have B := B.trans b23; refine t_d' ?_; refine x_b ?_; refine x_s ?_; refine w_g ?_; refine t_m rfl ?_ rfl; refine t_add rfl rfl (by omega) ?_ rfl; refine t_a rfl ?_ rfl; refine t_d ?_; have S := S.f2.f4.f4.f4.f4; refine x_r (X := Nat × List ASd × Value) (k + 1, A ++ [(⟨y30, decide ((k : Int) < 1 + y16), 1 + y35 * 8 + (k : Int)⟩ : ASd)], .slice Av42 (A ++ ([(⟨y30, decide ((k : Int) < (1 + y16)), (1 + (y35 * 8)) + (k : Int)⟩ : ASd)])).length cv42) ?_ (by exact ⟨rfl, rfl, rfl, rfl, rfl, rfl, trivial⟩) (by (try dsimp only); omega); (try dsimp only); exact ⟨by omega, hlen _, hnew _ _ _ hf30 hf35, B, S⟩
  ·have S := S.f4; refine t_f Tryz.call68 rfl (spec_l1Below 2 S (K.below B)) ?_ rfl; rintro e w24 ⟨y30, rfl, hf30, S, x25⟩; refine ⟨_, rfl, ?_⟩; have B := B.trans x25; refine t_alt ?_ ?_
   ·refine t_bx1 S.tail.box ab_s_asn rfl rfl ?_ rfl; refine t_f Tryz.call68 rfl (spec_l1Below 1000000 S (K.below B)) ?_ rfl; rintro e w26 ⟨y35, rfl, hf35, S, x27⟩; refine ⟨_, rfl, ?_⟩; have B := B.trans x27; refine t_mul rfl rfl (by omega) ?_ rfl; refine t_add rfl rfl (by omega) ?_ rfl; refine t_add rfl rfl (by omega) ?_ rfl; refine t_g (fun w => b_asn _ _ _ w) rfl ?_ rfl; refine t_lit (T := asnT) (l := [(⟨y30, decide ((k : Int) < (1 + y16)), (1 + (y35 * 8)) + (k : Int)⟩ : ASd)]) (css := [[I y30, .bool (decide ((k : Int) < (1 + y16))), I ((1 + (y35 * 8)) + (k : Int))]]) asn_flat S (fun w => bs_asn1 _ _ _ w) rfl rfl rfl rfl (by simp [maxLen]) (litR_one fun _ => rfl) ?_ rfl rfl; intro u41 w28 x29 S; have B := bx Hb B x29; have hR := S.sl; have S := S.f3; refine t_cat asn_flat e_asn S hR rfl rfl rfl (by first | omega | (simp [-List.length_flatMap]; omega)) (by (simp [maxLen, -List.length_flatMap]; try omega)) ?_ rfl; intro v42 w30 x31 S; have B := B.trans x31; clear hR; have S := S.f1.tail; refine t_y fb_topo_0 rfl rfl ?_ rfl; obtain ⟨Av42, cv42, rfl, _⟩ := S.sl.form; have S := S.f2; refine t_st1 S sb_s_asn rfl rfl rfl rfl rfl ?_; intro w32 b33 S; have B := B.trans b33; refine t_d' ?_
    refine x_b ?_; refine x_s ?_; refine w_g ?_; refine t_m rfl ?_ rfl; refine t_add rfl rfl (by omega) ?_ rfl; refine t_a rfl ?_ rfl; refine t_d ?_; have S := S.f2.f4.f4.f4.f4; refine x_r (X := Nat × List ASd × Value) (k + 1, A ++ [(⟨y30, decide ((k : Int) < 1 + y16), 1 + y35 * 8 + (k : Int)⟩ : ASd)], .slice Av42 (A ++ ([(⟨y30, decide ((k : Int) < (1 + y16)), (1 + (y35 * 8)) + (k : Int)⟩ : ASd)])).length cv42) ?_ (by exact ⟨rfl, rfl, rfl, rfl, rfl, rfl, trivial⟩) (by (try dsimp only); omega); (try dsimp only); exact ⟨by omega, hlen _, hnew _ _ _ hf30 hf35, B, S⟩
   ·refine t_f Tryz.call68 rfl (spec_l1Below 1000000 S (K.below B)) ?_ rfl; rintro e w34 ⟨y35, rfl, hf35, S, x35⟩; refine ⟨_, rfl, ?_⟩; have B := B.trans x35; refine t_alt ?_ ?_
    ·refine t_bx1 S.tail.box ab_s_asn rfl rfl ?_ rfl; refine t_mul rfl rfl (by omega) ?_ rfl; refine t_add rfl rfl (by omega) ?_ rfl; refine t_add rfl rfl (by omega) ?_ rfl; refine t_g (fun w => b_asn _ _ _ w) rfl ?_ rfl; refine t_lit (T := asnT) (l := [(⟨y30, decide ((k : Int) < (1 + y16)), (1 + (y35 * 8)) + (k : Int)⟩ : ASd)]) (css := [[I y30, .bool (decide ((k : Int) < (1 + y16))), I ((1 + (y35 * 8)) + (k : Int))]]) asn_flat S (fun w => bs_asn1 _ _ _ w) rfl rfl rfl rfl (by simp [maxLen]) (litR_one fun _ => rfl) ?_ rfl rfl; intro u41 w36 x37 S; have B := bx Hb B x37; have hR := S.sl; have S := S.f3; refine t_cat asn_flat e_asn S hR rfl rfl rfl (by first | omega | (simp [-List.length_flatMap]; omega)) (by (simp [maxLen, -List.length_flatMap]; try omega)) ?_ rfl; intro v42 w38 x39 S; have B := B.trans x39; clear hR; have S := S.f1.tail; refine t_y fb_topo_0 rfl rfl ?_ rfl; obtain ⟨Av42, cv42, rfl, _⟩ := S.sl.form; have S := S.f2; refine t_st1 S sb_s_asn rfl rfl rfl rfl rfl ?_; intro w40 b41 S; have B := B.trans b41; refine t_d' ?_; refine x_b ?_; refine x_s ?_; refine w_g ?_; refine t_m rfl ?_ rfl; refine t_add rfl rfl (by omega) ?_ rfl; refine t_a rfl ?_ rfl; refine t_d ?_
     have S := S.f2.f4.f4.f4.f4; refine x_r (X := Nat × List ASd × Value) (k + 1, A ++ [(⟨y30, decide ((k : Int) < 1 + y16), 1 + y35 * 8 + (k : Int)⟩ : ASd)], .slice Av42 (A ++ ([(⟨y30, decide ((k : Int) < (1 + y16)), (1 + (y35 * 8)) + (k : Int)⟩ : ASd)])).length cv42) ?_ (by exact ⟨rfl, rfl, rfl, rfl, rfl, rfl, trivial⟩) (by (try dsimp only); omega); (try dsimp only); exact ⟨by omega, hlen _, hnew _ _ _ hf30 hf35, B, S⟩
    ·refine t_mul rfl rfl (by omega) ?_ rfl; refine t_alt ?_ ?_
     ·refine t_bx1 S.tail.box ab_s_asn rfl rfl ?_ rfl; refine t_add rfl rfl (by omega) ?_ rfl; refine t_add rfl rfl (by omega) ?_ rfl; refine t_g (fun w => b_asn _ _ _ w) rfl ?_ rfl; refine t_lit (T := asnT) (l := [(⟨y30, decide ((k : Int) < (1 + y16)), (1 + (y35 * 8)) + (k : Int)⟩ : ASd)]) (css := [[I y30, .bool (decide ((k : Int) < (1 + y16))), I ((1 + (y35 * 8)) + (k : Int))]]) asn_flat S (fun w => bs_asn1 _ _ _ w) rfl rfl rfl rfl (by simp [maxLen]) (litR_one fun _ => rfl) ?_ rfl rfl; intro u41 w42 x43 S; have B := bx Hb B x43; have hR := S.sl; have S := S.f3; refine t_cat asn_flat e_asn S hR rfl rfl rfl (by first | omega | (simp [-List.length_flatMap]; omega)) (by (simp [maxLen, -List.length_flatMap]; try omega)) ?_ rfl; intro v42 w44 x45 S; have B := B.trans x45; clear hR; have S := S.f1.tail; refine t_y fb_topo_0 rfl rfl ?_ rfl; obtain ⟨Av42, cv42, rfl, _⟩ := S.sl.form; have S := S.f2; refine t_st1 S sb_s_asn rfl rfl rfl rfl rfl ?_; intro w46 b47 S; have B := B.trans b47; refine t_d' ?_; refine x_b ?_; refine x_s ?_; refine w_g ?_; refine t_m rfl ?_ rfl; refine t_add rfl rfl (by omega) ?_ rfl; refine t_a rfl ?_ rfl; refine t_d ?_; have S := S.f2.f4.f4.f4.f4
      refine x_r (X := Nat × List ASd × Value) (k + 1, A ++ [(⟨y30, decide ((k : Int) < 1 + y16), 1 + y35 * 8 + (k : Int)⟩ : ASd)], .slice Av42 (A ++ ([(⟨y30, decide ((k : Int) < (1 + y16)), (1 + (y35 * 8)) + (k : Int)⟩ : ASd)])).length cv42) ?_ (by exact ⟨rfl, rfl, rfl, rfl, rfl, rfl, trivial⟩) (by (try dsimp only); omega); (try dsimp only); exact ⟨by omega, hlen _, hnew _ _ _ hf30 hf35, B, S⟩
     ·refine t_add rfl rfl (by omega) ?_ rfl; refine t_alt ?_ ?_
      ·refine t_bx1 S.tail.box ab_s_asn rfl rfl ?_ rfl; refine t_add rfl rfl (by omega) ?_ rfl; refine t_g (fun w => b_asn _ _ _ w) rfl ?_ rfl; refine t_lit (T := asnT) (l := [(⟨y30, decide ((k : Int) < (1 + y16)), (1 + (y35 * 8)) + (k : Int)⟩ : ASd)]) (css := [[I y30, .bool (decide ((k : Int) < (1 + y16))), I ((1 + (y35 * 8)) + (k : Int))]]) asn_flat S (fun w => bs_asn1 _ _ _ w) rfl rfl rfl rfl (by simp [maxLen]) (litR_one fun _ => rfl) ?_ rfl rfl; intro u41 w48 x49 S; have B := bx Hb B x49; have hR := S.sl; have S := S.f3; refine t_cat asn_flat e_asn S hR rfl rfl rfl (by first | omega | (simp [-List.length_flatMap]; omega)) (by (simp [maxLen, -List.length_flatMap]; try omega)) ?_ rfl; intro v42 w50 x51 S; have B := B.trans x51; clear hR; have S := S.f1.tail; refine t_y fb_topo_0 rfl rfl ?_ rfl; obtain ⟨Av42, cv42, rfl, _⟩ := S.sl.form; have S := S.f2; refine t_st1 S sb_s_asn rfl rfl rfl rfl rfl ?_; intro w52 b53 S; have B := B.trans b53; refine t_d' ?_; refine x_b ?_; refine x_s ?_; refine w_g ?_; refine t_m rfl ?_ rfl; refine t_add rfl rfl (by omega) ?_ rfl; refine t_a rfl ?_ rfl; refine t_d ?_; have S := S.f2.f4.f4.f4.f4
       refine x_r (X := Nat × List ASd × Value) (k + 1, A ++ [(⟨y30, decide ((k : Int) < 1 + y16), 1 + y35 * 8 + (k : Int)⟩ : ASd)], .slice Av42 (A ++ ([(⟨y30, decide ((k : Int) < (1 + y16)), (1 + (y35 * 8)) + (k : Int)⟩ : ASd)])).length cv42) ?_ (by exact ⟨rfl, rfl, rfl, rfl, rfl, rfl, trivial⟩) (by (try dsimp only); omega); (try dsimp only); exact ⟨by omega, hlen _, hnew _ _ _ hf30 hf35, B, S⟩
      ·refine t_add rfl rfl (by omega) ?_ rfl; refine t_alt ?_ ?_
       ·refine t_bx1 S.tail.box ab_s_asn rfl rfl ?_ rfl; refine t_g (fun w => b_asn _ _ _ w) rfl ?_ rfl; refine t_lit (T := asnT) (l := [(⟨y30, decide ((k : Int) < (1 + y16)), (1 + (y35 * 8)) + (k : Int)⟩ : ASd)]) (css := [[I y30, .bool (decide ((k : Int) < (1 + y16))), I ((1 + (y35 * 8)) + (k : Int))]]) asn_flat S (fun w => bs_asn1 _ _ _ w) rfl rfl rfl rfl (by simp [maxLen]) (litR_one fun _ => rfl) ?_ rfl rfl; intro u41 w54 x55 S; have B := bx Hb B x55; have hR := S.sl; have S := S.f3; refine t_cat asn_flat e_asn S hR rfl rfl rfl (by first | omega | (simp [-List.length_flatMap]; omega)) (by (simp [maxLen, -List.length_flatMap]; try omega)) ?_ rfl; intro v42 w56 x57 S; have B := B.trans x57; clear hR; have S := S.f1.tail; refine t_y fb_topo_0 rfl rfl ?_ rfl; obtain ⟨Av42, cv42, rfl, _⟩ := S.sl.form; have S := S.f2; refine t_st1 S sb_s_asn rfl rfl rfl rfl rfl ?_; intro w58 b59 S; have B := B.trans b59; refine t_d' ?_; refine x_b ?_; refine x_s ?_; refine w_g ?_; refine t_m rfl ?_ rfl; refine t_add rfl rfl (by omega) ?_ rfl; refine t_a rfl ?_ rfl; refine t_d ?_; have S := S.f2.f4.f4.f4.f4
        refine x_r (X := Nat × List ASd × Value) (k + 1, A ++ [(⟨y30, decide ((k : Int) < 1 + y16), 1 + y35 * 8 + (k : Int)⟩ : ASd)], .slice Av42 (A ++ ([(⟨y30, decide ((k : Int) < (1 + y16)), (1 + (y35 * 8)) + (k : Int)⟩ : ASd)])).length cv42) ?_ (by exact ⟨rfl, rfl, rfl, rfl, rfl, rfl, trivial⟩) (by (try dsimp only); omega); (try dsimp only); exact ⟨by omega, hlen _, hnew _ _ _ hf30 hf35, B, S⟩
       ·refine t_g (fun w => b_asn _ _ _ w) rfl ?_ rfl; refine t_alt ?_ ?_
        ·refine t_bx1 S.tail.box ab_s_asn rfl rfl ?_ rfl; refine t_lit (T := asnT) (l := [(⟨y30, decide ((k : Int) < (1 + y16)), (1 + (y35 * 8)) + (k : Int)⟩ : ASd)]) (css := [[I y30, .bool (decide ((k : Int) < (1 + y16))), I ((1 + (y35 * 8)) + (k : Int))]]) asn_flat S (fun w => bs_asn1 _ _ _ w) rfl rfl rfl rfl (by simp [maxLen]) (litR_one fun _ => rfl) ?_ rfl rfl; intro u41 w60 x61 S; have B := bx Hb B x61; have hR := S.sl; have S := S.f3; refine t_cat asn_flat e_asn S hR rfl rfl rfl (by first | omega | (simp [-List.length_flatMap]; omega)) (by (simp [maxLen, -List.length_flatMap]; try omega)) ?_ rfl; intro v42 w62 x63 S; have B := B.trans x63; clear hR; have S := S.f1.tail; refine t_y fb_topo_0 rfl rfl ?_ rfl; obtain ⟨Av42, cv42, rfl, _⟩ := S.sl.form; have S := S.f2; refine t_st1 S sb_s_asn rfl rfl rfl rfl rfl ?_; intro w64 b65 S; have B := B.trans b65; refine t_d' ?_; refine x_b ?_; refine x_s ?_; refine w_g ?_; refine t_m rfl ?_ rfl; refine t_add rfl rfl (by omega) ?_ rfl; refine t_a rfl ?_ rfl; refine t_d ?_; have S := S.f2.f4.f4.f4.f4
         refine x_r (X := Nat × List ASd × Value) (k + 1, A ++ [(⟨y30, decide ((k : Int) < 1 + y16), 1 + y35 * 8 + (k : Int)⟩ : ASd)], .slice Av42 (A ++ ([(⟨y30, decide ((k : Int) < (1 + y16)), (1 + (y35 * 8)) + (k : Int)⟩ : ASd)])).length cv42) ?_ (by exact ⟨rfl, rfl, rfl, rfl, rfl, rfl, trivial⟩) (by (try dsimp only); omega); (try dsimp only); exact ⟨by omega, hlen _, hnew _ _ _ hf30 hf35, B, S⟩
        ·refine t_lit (T := asnT) (l := [(⟨y30, decide ((k : Int) < (1 + y16)), (1 + (y35 * 8)) + (k : Int)⟩ : ASd)]) (css := [[I y30, .bool (decide ((k : Int) < (1 + y16))), I ((1 + (y35 * 8)) + (k : Int))]]) asn_flat S (fun w => bs_asn1 _ _ _ w) rfl rfl rfl rfl (by simp [maxLen]) (litR_one fun _ => rfl) ?_ rfl rfl; intro u41 w66 x67 S; have B := bx Hb B x67; refine t_bx1 S.tail.tail.box ab_s_asn rfl rfl ?_ rfl; have hR := S.sl; have S := S.f3; refine t_cat asn_flat e_asn S hR rfl rfl rfl (by first | omega | (simp [-List.length_flatMap]; omega)) (by (simp [maxLen, -List.length_flatMap]; try omega)) ?_ rfl; intro v42 w68 x69 S; have B := B.trans x69; clear hR; have S := S.f1.tail; refine t_y fb_topo_0 rfl rfl ?_ rfl; obtain ⟨Av42, cv42, rfl, _⟩ := S.sl.form; have S := S.f2; refine t_st1 S sb_s_asn rfl rfl rfl rfl rfl ?_; intro w70 b71 S; have B := B.trans b71; refine t_d' ?_; refine x_b ?_; refine x_s ?_; refine w_g ?_; refine t_m rfl ?_ rfl; refine t_add rfl rfl (by omega) ?_ rfl; refine t_a rfl ?_ rfl; refine t_d ?_; have S := S.f2.f4.f4.f4.f4
         refine x_r (X := Nat × List ASd × Value) (k + 1, A ++ [(⟨y30, decide ((k : Int) < 1 + y16), 1 + y35 * 8 + (k : Int)⟩ : ASd)], .slice Av42 (A ++ ([(⟨y30, decide ((k : Int) < (1 + y16)), (1 + (y35 * 8)) + (k : Int)⟩ : ASd)])).length cv42) ?_ (by exact ⟨rfl, rfl, rfl, rfl, rfl, rfl, trivial⟩) (by (try dsimp only); omega); (try dsimp only); exact ⟨by omega, hlen _, hnew _ _ _ hf30 hf35, B, S⟩
 ·intro hge; refine w_exit ?_; (iterate 2 refine x_then_exit ?_); refine x_block_exit ?_; refine x_s ?_; (iterate 2 refine w_s ?_); refine w_g ?_; refine t_a rfl ?_ rfl; refine t_e ?_; refine w_block ?_
  have hN : (A.length : Int) = 1 + y16 + y19 := by omega
  clear hge hk; refine w_loop (X := Nat × List Lnk × Value) (fun x wq => (fun k L vl => 1 ≤ k ∧ (k : Int) ≤ 1 + y16 ∧ (∃ m : Nat, m ≤ 2 * k ∧ Grown A.length m L) ∧ Below b w wq ∧ Sep b wq (bxO g3 27 #[va, vl] :: slO asnT 117 va A :: slO linkT 90 vl L :: bxO g2 27 #[.slice none 0 0, .slice none 0 0] :: curO v n c 123 :: os)) x.1 x.2.1 x.2.2) (fun x => (fun k L vl => [(7, I ((k : Int))), (0, .pointer (some ⟨c, 0, none⟩)), (2, .pointer (some ⟨g2, 0, none⟩)), (3, .pointer (some ⟨g3, 0, none⟩)), (4, I (1 + y16))]) x.1 x.2.1 x.2.2) (fun x => (fun k L vl => (1 + y16 - k).toNat) x.1 x.2.1 x.2.2) (1, [], .slice none 0 0) ?_ ⟨rfl, rfl, rfl, rfl, rfl, trivial⟩ ?_
  ·exact ⟨by omega, by omega, ⟨0, by omega, .nil⟩, B, S⟩
  rintro ⟨k, L, vl⟩ w72 hI; (try dsimp only at hI ⊢); obtain ⟨hk1, hk, ⟨m, hm, hG⟩, B, S⟩ := hI; have hL := hG.len; (iterate 2 refine w_s ?_); refine w_g ?_; (iterate 2 refine t_m rfl ?_ rfl); refine t_lss rfl rfl ?_ rfl; refine t_e ?_; refine w_if rfl ?_ ?_
  ·intro hlt; refine w_k ?_; refine x_s ?_; refine w_s ?_; refine w_block ?_; refine w_h ?_; (iterate 2 refine t_m rfl ?_ rfl); have S := S.f4; refine t_f Tryz.call68 rfl (spec_l1Below (k : Int) S (K.below B)) ?_ rfl; rintro e w73 ⟨y51, rfl, hf51, S, x74⟩; refine ⟨_, rfl, ?_⟩; have B := B.trans x74; refine t_m rfl ?_ rfl; have S := S.f3.f3.f3; refine t_f Tryz.call137 rfl (spec_l5Add y51 (k : Int) 1 S (by omega)) ?_ rfl; rintro e w75 ⟨v53, rfl, S, x76⟩; refine ⟨_, rfl, ?_⟩; have B := B.trans x76; refine t_k ?_; refine t_m rfl ?_ rfl; have S := S.f3; refine t_f Tryz.call70 rfl (spec_l1Once 2 S (K.below B)) ?_ rfl; rintro e w77 ⟨y55, rfl, hf55, S, x78⟩; refine ⟨_, rfl, ?_⟩; have B := B.trans x78; refine t_e ?_; have hG2 := hG.add y51 k 1 (by omega) (by omega) (by omega) (by omega) (by omega); have hL2 := hG2.len; refine w_if rfl ?_ ?_
   ·intro hone; refine w_g ?_; (iterate 2 refine t_m rfl ?_ rfl); refine t_f Tryz.call68 rfl (spec_l1Below (k : Int) S (K.below B)) ?_ rfl; rintro e w79 ⟨y58, rfl, hf58, S, x80⟩; refine ⟨_, rfl, ?_⟩; have B := B.trans x80; refine t_m rfl ?_ rfl; have S := S.f3.f3.f3; refine t_f Tryz.call137 rfl (spec_l5Add y58 (k : Int) 1 S (by omega)) ?_ rfl; rintro e w81 ⟨v60, rfl, S, x82⟩; refine ⟨_, rfl, ?_⟩; have B := B.trans x82; refine t_d ?_; refine x_b ?_; refine x_s ?_; refine w_g ?_; refine t_m rfl ?_ rfl; refine t_add rfl rfl (by omega) ?_ rfl; refine t_a rfl ?_ rfl; refine t_d ?_; have hG3 := hG2.add y58 k 1 (by omega) (by omega) (by omega) (by omega) (by omega); have S := S.f3.f4.f4.f4.f4; refine x_r (X := Nat × List Lnk × Value) (k + 1, addL (addL L y51 (k : Int) 1) y58 (k : Int) 1, v60) ?_ (by exact ⟨rfl, rfl, rfl, rfl, rfl, trivial⟩) (by (try dsimp only); omega); (try dsimp only); exact ⟨by omega, by omega, ⟨_, by omega, hG3⟩, B, S⟩
   ·intro hone; refine w_k ?_; refine x_b ?_; refine x_s ?_; refine w_g ?_; refine t_m rfl ?_ rfl; refine t_add rfl rfl (by omega) ?_ rfl; refine t_a rfl ?_ rfl; refine t_d ?_; have S := S.f4.f4.f4.f4; refine x_r (X := Nat × List Lnk × Value) (k + 1, addL L y51 (k : Int) 1, v53) ?_ (by exact ⟨rfl, rfl, rfl, rfl, rfl, trivial⟩) (by (try dsimp only); omega); (try dsimp only); exact ⟨by omega, by omega, ⟨_, by omega, hG2⟩, B, S⟩
  ·intro hge; refine w_exit ?_; (iterate 2 refine x_then_exit ?_); refine x_block_exit ?_; refine x_s ?_; (iterate 2 refine w_s ?_); refine w_g ?_; refine t_m rfl ?_ rfl; refine t_a rfl ?_ rfl; refine t_e ?_; refine w_block ?_; obtain ⟨N, hNN⟩ : ∃ N, N = A.length := ⟨_, rfl⟩; rw [← hNN] at hG hN; have hA := hNN.symm; clear hNN; refine w_loop (X := Int × List ASd × Value × List Lnk × Value) (fun x wq => (fun k A va L vl => 1 ≤ k ∧ 1 + y16 ≤ k ∧ k ≤ N ∧ A.length = N ∧ (∀ x ∈ A, AsK x) ∧ (∃ m : Nat, (m : Int) ≤ 6 + 3 * k ∧ Grown N m L) ∧ Below b w wq ∧ Sep b wq (bxO g3 27 #[va, vl] :: slO asnT 117 va A :: slO linkT 90 vl L :: bxO g2 27 #[.slice none 0 0, .slice none 0 0] :: curO v n c 123 :: os)) x.1 x.2.1 x.2.2.1 x.2.2.2.1 x.2.2.2.2) (fun x => (fun k A va L vl => [(8, I k), (0, .pointer (some ⟨c, 0, none⟩)), (2, .pointer (some ⟨g2, 0, none⟩)), (3, .pointer (some ⟨g3, 0, none⟩)), (4, I (1 + y16))]) x.1 x.2.1 x.2.2.1 x.2.2.2.1 x.2.2.2.2) (fun x => (fun k A va L vl => ((N : Int) - k).toNat) x.1 x.2.1 x.2.2.1 x.2.2.2.1 x.2.2.2.2) (1 + y16, A, va, L, vl) ?_ ⟨rfl, rfl, rfl, rfl, rfl, trivial⟩ ?_
   ·exact ⟨by omega, by omega, by omega, hA, hK, ⟨m, by omega, hG⟩, B, S⟩
   rintro ⟨k, A, va, L, vl⟩ w83 hI; (try dsimp only at hI ⊢); obtain ⟨hk1, hk2, hk, hA, hK, ⟨m, hm, hG⟩, B, S⟩ := hI; (iterate 2 refine w_s ?_); refine w_g ?_; refine t_m rfl ?_ rfl; refine t_y fb_topo_0 rfl rfl ?_ rfl; refine t_bx1 S.box ab_s_asn rfl rfl ?_ rfl; refine t_len e_asn (S.tail.sl) rfl rfl ?_ rfl; refine t_lss rfl rfl ?_ rfl; refine t_e ?_; refine w_if rfl ?_ ?_
   ·intro hlt; refine w_k ?_; refine x_s ?_; refine w_s ?_; refine w_block ?_; (iterate 2 refine w_s ?_); refine w_g ?_; refine t_m rfl ?_ rfl; have S := S.f4; refine t_f Tryz.call68 rfl (spec_l1Below 2 S (K.below B)) ?_ rfl; rintro e w84 ⟨y70, rfl, hf70, S, x85⟩; refine ⟨_, rfl, ?_⟩; have B := B.trans x85; refine t_add rfl rfl (by omega) ?_ rfl; refine t_a rfl ?_ rfl; refine t_e ?_; refine w_block ?_; refine w_loop (X := Int × List ASd × Value × List Lnk × Value) (fun x wq => (fun j A2 va2 L2 vl2 => 0 ≤ j ∧ j ≤ 2 ∧ A2.length = N ∧ (∀ x ∈ A2, AsK x) ∧ (∃ m : Nat, (m : Int) ≤ 6 + 3 * k + (2 - j) ∧ Grown N m L2) ∧ Below b w wq ∧ Sep b wq (bxO g3 27 #[va2, vl2] :: slO asnT 117 va2 A2 :: slO linkT 90 vl2 L2 :: bxO g2 27 #[.slice none 0 0, .slice none 0 0] :: curO v n c 123 :: os)) x.1 x.2.1 x.2.2.1 x.2.2.2.1 x.2.2.2.2) (fun x => (fun j A2 va2 L2 vl2 => [(9, I j), (8, I k), (0, .pointer (some ⟨c, 0, none⟩)), (2, .pointer (some ⟨g2, 0, none⟩)), (3, .pointer (some ⟨g3, 0, none⟩)), (4, I (1 + y16))]) x.1 x.2.1 x.2.2.1 x.2.2.2.1 x.2.2.2.2) (fun x => (fun j A2 va2 L2 vl2 => j.toNat) x.1 x.2.1 x.2.2.1 x.2.2.2.1 x.2.2.2.2) (1 + y70, A, va, L, vl) ?_ ⟨rfl, rfl, rfl, rfl, rfl, rfl, trivial⟩ ?_
    ·exact ⟨by omega, by omega, hA, hK, ⟨m, by omega, hG⟩, B, S.f4.f4.f4.f4⟩
    rintro ⟨j, A2, va2, L2, vl2⟩ w86 hI; (try dsimp only at hI ⊢); obtain ⟨hj0, hj2, hA2, hK2, ⟨m2, hm2, hG2⟩, B, S⟩ := hI; have hL2 := hG2.len; (iterate 2 refine w_s ?_); refine w_g ?_; refine t_m rfl ?_ rfl; refine t_gtr rfl rfl ?_ rfl; refine t_e ?_; refine w_if rfl ?_ ?_
    ·intro hj; have S := S.f1; obtain ⟨Gva2, Cva2, rfl⟩ := S.addr (by omega); refine w_k ?_; refine x_s ?_; refine w_s ?_; refine w_block ?_; refine w_h ?_; (iterate 2 refine t_m rfl ?_ rfl); have S := S.f4; refine t_f Tryz.call68 rfl (spec_l1Below k S (K.below B)) ?_ rfl; rintro e w87 ⟨y78, rfl, hf78, S, x88⟩; refine ⟨_, rfl, ?_⟩; have B := B.trans x88; refine t_a rfl ?_ rfl; refine t_e ?_; (iterate 2 refine w_s ?_); refine w_g ?_; refine t_m rfl ?_ rfl; refine t_f Tryz.call70 rfl (spec_l1Once 5 S (K.below B)) ?_ rfl; rintro e w89 ⟨y80, rfl, hf80, S, x90⟩; refine ⟨_, rfl, ?_⟩; have B := B.trans x90; refine t_not rfl ?_ rfl; refine t_e ?_; obtain ⟨ea, hea⟩ := getx (l := A2) (k := y78.toNat) (by omega); obtain ⟨eb, heb⟩ := getx (l := A2) (k := k.toNat) (by omega); have hadd := hG2.add y78 k 2 (by omega) (by omega) (by omega) (by omega) (by omega); refine w_if rfl ?_ ?_
     ·intro ho; refine w_draw (.st .take 0 (.st .take 1 (.st .take 2 (.st .take 3 (.st .take 4 (.st .take 5 (.st .take 6 (.st .take 7 (.st .take 8 (.st .take 9 (.st .take 10 (.st .fin 11 .done)))))))))))) mixed (by kernel_rfl) ?_; intro w91 x92; have B := bx Hb B x92; have S := S.below x92; refine t_y fb_topo_0 rfl rfl ?_ rfl; refine t_bx1 S.tail.tail.box ab_s_asn rfl rfl ?_ rfl; refine t_m rfl ?_ rfl; refine t_y fb_topo_0 rfl rfl ?_ rfl; refine t_bx1 S.tail.tail.box ab_s_asn rfl rfl ?_ rfl; refine t_m rfl ?_ rfl; refine t_idxx e_asn (k := y78.toNat) rfl rfl (by first | rfl | omega) (by omega) rfl ?_ rfl; refine t_y fb_asn_0 rfl rfl ?_ rfl; have S := S.f1; refine t_ldS (T := asnT) (j := 0) S ab_int rfl hea rfl rl_asn_0 ?_ rfl; refine t_idxx e_asn (k := k.toNat) rfl rfl (by first | rfl | omega) (by omega) rfl ?_ rfl; refine t_y fb_asn_0 rfl rfl ?_ rfl; refine t_stS (T := asnT) (j := 0) (x' := { eb with isd := ea.isd }) S (by first | rfl | ((try simp only [List.length_set]); first | omega | simp)) sb_int rfl rfl heb rfl (by decide) rfl rfl so_asn_0 ?_; intro w93 b94 S; have B := B.trans b94; have hq95 := set_at (y := { eb with isd := ea.isd }) heb; refine t_e' ?_; refine w_s ?_
      refine w_draw (.st .take 0 (.st .take 1 (.st .take 2 (.st .take 3 (.st .take 4 (.st .take 5 (.st .take 6 (.st .take 7 (.st .take 8 (.st .take 9 (.st .take 10 (.st .take 11 (.st .take 12 .done))))))))))))) mixed (by kernel_rfl) ?_; intro w96 x97; have B := bx Hb B x97; have S := S.below x97; refine t_y fb_topo_0 rfl rfl ?_ rfl; refine t_bx1 S.tail.tail.box ab_s_asn rfl rfl ?_ rfl; refine t_m rfl ?_ rfl; refine t_idxx e_asn (k := y78.toNat) rfl rfl (by first | rfl | omega) (by omega) rfl ?_ rfl; refine t_y fb_asn_0 rfl rfl ?_ rfl
      have hea2 : (A2.set k.toNat { eb with isd := ea.isd })[y78.toNat]? = some ea := by rw [List.getElem?_set_ne (by omega)]; exact hea
      have hKs : ∀ x ∈ A2.set k.toNat { eb with isd := ea.isd }, AsK x := by
       intro x hx
       rcases List.mem_or_eq_of_mem_set hx with hx | rfl
       ·exact hK2 x hx
       ·have q1 := hK2 ea (List.mem_of_getElem? hea); have q2 := hK2 eb (List.mem_of_getElem? heb); exact ⟨q1.1, q1.2.1, q2.2.2.1, q2.2.2.2⟩
      refine t_ldS (T := asnT) (j := 0) S ab_int rfl hea2 rfl rl_asn_0 ?_ rfl; refine t_y fb_topo_0 rfl rfl ?_ rfl; refine t_bx1 S.tail.tail.box ab_s_asn rfl rfl ?_ rfl; refine t_m rfl ?_ rfl; refine t_idxx e_asn (k := k.toNat) rfl rfl (by first | rfl | omega) (by omega) rfl ?_ rfl; refine t_y fb_asn_0 rfl rfl ?_ rfl; refine t_ldS (T := asnT) (j := 0) S ab_int rfl hq95 rfl rl_asn_0 ?_ rfl; refine t_eql rfl rfl ?_ rfl; refine t_e' ?_; refine w_if rfl ?_ ?_
      ·intro hi; refine w_g ?_; (iterate 2 refine t_m rfl ?_ rfl); have S := S.f3.f1.f3; refine t_f Tryz.call137 rfl (spec_l5Add y78 k 2 S (by omega)) ?_ rfl; rintro e w98 ⟨v108, rfl, S, x99⟩; refine ⟨_, rfl, ?_⟩; have B := B.trans x99; refine t_d ?_; refine x_b ?_; refine x_s ?_; refine w_g ?_; refine t_m rfl ?_ rfl; refine t_sub rfl rfl (by omega) ?_ rfl; refine t_a rfl ?_ rfl; refine t_d ?_; have S := S.f3.f4.f4.f4.f4; refine x_r (X := Int × List ASd × Value × List Lnk × Value) (j - 1, A2.set k.toNat { eb with isd := ea.isd }, (.slice (some ⟨Gva2, 0, none⟩) A2.length Cva2), addL L2 y78 k 2, v108) ?_ (by exact ⟨rfl, rfl, rfl, rfl, rfl, rfl, trivial⟩) (by (try dsimp only); omega); (try dsimp only); exact ⟨by omega, by omega, by rw [List.length_set]; exact hA2, hKs, ⟨_, by omega, hadd⟩, B, S⟩
      ·intro hi; refine w_k ?_; refine x_b ?_; refine x_s ?_; refine w_g ?_; refine t_m rfl ?_ rfl; refine t_sub rfl rfl (by omega) ?_ rfl; refine t_a rfl ?_ rfl; refine t_d ?_; have S := S.f1.f4.f4.f3.f4; refine x_r (X := Int × List ASd × Value × List Lnk × Value) (j - 1, A2.set k.toNat { eb with isd := ea.isd }, (.slice (some ⟨Gva2, 0, none⟩) A2.length Cva2), L2, vl2) ?_ (by exact ⟨rfl, rfl, rfl, rfl, rfl, rfl, trivial⟩) (by (try dsimp only); omega); (try dsimp only); exact ⟨by omega, by omega, by rw [List.length_set]; exact hA2, hKs, ⟨m2, by omega, hG2⟩, B, S⟩
     ·intro ho; refine w_k ?_; refine x_s ?_; refine w_s ?_; refine w_draw (.st .take 0 (.st .take 1 (.st .take 2 (.st .take 3 (.st .take 4 (.st .take 5 (.st .take 6 (.st .take 7 (.st .take 8 (.st .take 9 (.st .take 10 (.st .take 11 (.st .take 12 .done))))))))))))) mixed (by kernel_rfl) ?_; intro w100 x101; have B := bx Hb B x101; have S := S.below x101; refine t_y fb_topo_0 rfl rfl ?_ rfl; refine t_bx1 S.tail.tail.box ab_s_asn rfl rfl ?_ rfl; refine t_m rfl ?_ rfl; refine t_idxx e_asn (k := y78.toNat) rfl rfl (by first | rfl | omega) (by omega) rfl ?_ rfl; refine t_y fb_asn_0 rfl rfl ?_ rfl; have S := S.f1; refine t_ldS (T := asnT) (j := 0) S ab_int rfl hea rfl rl_asn_0 ?_ rfl; refine t_y fb_topo_0 rfl rfl ?_ rfl; refine t_bx1 S.tail.tail.box ab_s_asn rfl rfl ?_ rfl; refine t_m rfl ?_ rfl; refine t_idxx e_asn (k := k.toNat) rfl rfl (by first | rfl | omega) (by omega) rfl ?_ rfl; refine t_y fb_asn_0 rfl rfl ?_ rfl; refine t_ldS (T := asnT) (j := 0) S ab_int rfl heb rfl rl_asn_0 ?_ rfl; refine t_eql rfl rfl ?_ rfl; refine t_e' ?_; refine w_if rfl ?_ ?_
      ·intro hi; refine w_g ?_; (iterate 2 refine t_m rfl ?_ rfl); have S := S.f3.f1.f3; refine t_f Tryz.call137 rfl (spec_l5Add y78 k 2 S (by omega)) ?_ rfl; rintro e w102 ⟨v108, rfl, S, x103⟩; refine ⟨_, rfl, ?_⟩; have B := B.trans x103; refine t_d ?_; refine x_b ?_; refine x_s ?_; refine w_g ?_; refine t_m rfl ?_ rfl; refine t_sub rfl rfl (by omega) ?_ rfl; refine t_a rfl ?_ rfl; refine t_d ?_; have S := S.f3.f4.f4.f4.f4; refine x_r (X := Int × List ASd × Value × List Lnk × Value) (j - 1, A2, (.slice (some ⟨Gva2, 0, none⟩) A2.length Cva2), addL L2 y78 k 2, v108) ?_ (by exact ⟨rfl, rfl, rfl, rfl, rfl, rfl, trivial⟩) (by (try dsimp only); omega); (try dsimp only); exact ⟨by omega, by omega, hA2, hK2, ⟨_, by omega, hadd⟩, B, S⟩
      ·intro hi; refine w_k ?_; refine x_b ?_; refine x_s ?_; refine w_g ?_; refine t_m rfl ?_ rfl; refine t_sub rfl rfl (by omega) ?_ rfl; refine t_a rfl ?_ rfl; refine t_d ?_; have S := S.f1.f4.f4.f3.f4; refine x_r (X := Int × List ASd × Value × List Lnk × Value) (j - 1, A2, (.slice (some ⟨Gva2, 0, none⟩) A2.length Cva2), L2, vl2) ?_ (by exact ⟨rfl, rfl, rfl, rfl, rfl, rfl, trivial⟩) (by (try dsimp only); omega); (try dsimp only); exact ⟨by omega, by omega, hA2, hK2, ⟨m2, by omega, hG2⟩, B, S⟩
    ·intro hj; refine w_exit ?_; (iterate 2 refine x_then_exit ?_); refine x_block_exit ?_; refine x_s ?_; refine w_h ?_; (iterate 4 refine t_m rfl ?_ rfl); refine t_sub rfl rfl (by omega) ?_ rfl; refine t_add rfl rfl (by omega) ?_ rfl; have S := S.f4; refine t_f Tryz.call68 rfl (spec_l1Below ((k - (1 + y16)) + 1) S (K.below B)) ?_ rfl; rintro e w104 ⟨y115, rfl, hf115, S, x105⟩; refine ⟨_, rfl, ?_⟩; have B := B.trans x105; refine t_add rfl rfl (by omega) ?_ rfl; refine t_a rfl ?_ rfl; refine t_k ?_; (iterate 2 refine t_m rfl ?_ rfl); refine t_lss rfl rfl ?_ rfl; refine t_m rfl ?_ rfl
     have hadd : (1 + y16) + y115 < k → Grown N (m2 + 1) (addL L2 ((1 + y16) + y115) k 3) := fun h => hG2.add _ k 3 (by omega) h (by omega) (by omega) (by omega)
     refine t_partp (t := 120) rfl ?_ ?_
     ·intro h1; refine t_on rfl rfl ?_; refine t_m rfl ?_ rfl; refine t_on rfl rfl ?_; refine t_f Tryz.call70 rfl (spec_l1Once 3 S (K.below B)) ?_ rfl; rintro e w106 ⟨y122, rfl, hf122, S, x107⟩; refine ⟨_, rfl, ?_⟩; have B := B.trans x107; refine t_q rfl rfl ?_ rfl; refine t_e ?_; refine w_if rfl ?_ ?_
      ·intro h2; refine w_g ?_; (iterate 2 refine t_m rfl ?_ rfl); have S := S.f3.f3.f3; refine t_f Tryz.call137 rfl (spec_l5Add ((1 + y16) + y115) k 3 S (by omega)) ?_ rfl; rintro e w108 ⟨v126, rfl, S, x109⟩; refine ⟨_, rfl, ?_⟩; have B := B.trans x109; refine t_d ?_; refine x_b ?_; refine x_s ?_; refine w_g ?_; refine t_m rfl ?_ rfl; refine t_add rfl rfl (by omega) ?_ rfl; refine t_a rfl ?_ rfl; refine t_d ?_; have S := S.f3.f4.f4.f4.f4; refine x_r (X := Int × List ASd × Value × List Lnk × Value) (k + 1, A2, va2, addL L2 ((1 + y16) + y115) k 3, v126) ?_ (by exact ⟨rfl, rfl, rfl, rfl, rfl, trivial⟩) (by (try dsimp only); omega); (try dsimp only); exact ⟨by omega, by omega, by omega, hA2, hK2, ⟨_, by omega, hadd h1⟩, B, S⟩
      ·intro h2; refine w_k ?_; refine x_b ?_; refine x_s ?_; refine w_g ?_; refine t_m rfl ?_ rfl; refine t_add rfl rfl (by omega) ?_ rfl; refine t_a rfl ?_ rfl; refine t_d ?_; have S := S.f4.f4.f4.f4; refine x_r (X := Int × List ASd × Value × List Lnk × Value) (k + 1, A2, va2, L2, vl2) ?_ (by exact ⟨rfl, rfl, rfl, rfl, rfl, trivial⟩) (by (try dsimp only); omega); (try dsimp only); exact ⟨by omega, by omega, by omega, hA2, hK2, ⟨m2, by omega, hG2⟩, B, S⟩
     ·intro h1; (iterate 2 refine t_off rfl rfl rfl ?_ rfl); refine t_p rfl rfl ?_ rfl; refine t_e ?_; refine w_no rfl ?_; refine w_k ?_; refine x_b ?_; refine x_s ?_; refine w_g ?_; refine t_m rfl ?_ rfl; refine t_add rfl rfl (by omega) ?_ rfl; refine t_a rfl ?_ rfl; refine t_d ?_; have S := S.f4.f4.f4.f4; refine x_r (X := Int × List ASd × Value × List Lnk × Value) (k + 1, A2, va2, L2, vl2) ?_ (by exact ⟨rfl, rfl, rfl, rfl, rfl, trivial⟩) (by (try dsimp only); omega); (try dsimp only); exact ⟨by omega, by omega, by omega, hA2, hK2, ⟨m2, by omega, hG2⟩, B, S⟩
   ·intro hge3; refine w_exit ?_; (iterate 2 refine x_then_exit ?_); refine x_block_exit ?_; refine x_s ?_; refine w_h ?_; refine t_lit (T := linkT) (css := []) (l := []) link_flat S bs_link0 rfl rfl rfl rfl (Nat.zero_le _) litR_nil ?_ rfl rfl; intro u127 w110 x111 S; have B := bx Hb B x111; refine t_a rfl ?_ rfl; refine t_e ?_; (iterate 2 refine w_s ?_); refine w_g ?_; refine t_a rfl ?_ rfl; refine t_e ?_; refine w_block ?_; have hL := hG.len; refine w_loop (X := Nat × List Lnk × Value) (fun x wq => (fun k2 L2 vl2 => k2 ≤ L.length ∧ L2.Sublist (L.take k2) ∧ Below b w wq ∧ Sep b wq (slO linkT 90 vl2 L2 :: bxO g3 27 #[va, vl] :: slO asnT 117 va A :: slO linkT 90 vl L :: bxO g2 27 #[.slice none 0 0, .slice none 0 0] :: curO v n c 123 :: os)) x.1 x.2.1 x.2.2) (fun x => (fun k2 L2 vl2 => [(13, I ((k2 : Int))), (12, vl2), (2, .pointer (some ⟨g2, 0, none⟩)), (3, .pointer (some ⟨g3, 0, none⟩))]) x.1 x.2.1 x.2.2) (fun x => (fun k2 L2 vl2 => L.length - k2) x.1 x.2.1 x.2.2) (0, [], _) ?_ ⟨rfl, rfl, rfl, rfl, trivial⟩ ?_
    ·exact ⟨by omega, by simp, B, S⟩
    rintro ⟨k2, L2, vl2⟩ w112 hI; (try dsimp only at hI ⊢); obtain ⟨hk5, hsub, B, S⟩ := hI; have hl2 := hsub.length_le; rw [List.length_take] at hl2; (iterate 2 refine w_s ?_); refine w_g ?_; refine t_m rfl ?_ rfl; refine t_y fb_topo_1 rfl rfl ?_ rfl; refine t_bx1 S.tail.box ab_s_link rfl rfl ?_ rfl; refine t_len e_link (S.tail.tail.tail.sl) rfl rfl ?_ rfl; refine t_lss rfl rfl ?_ rfl; refine t_e ?_; refine w_if rfl ?_ ?_
    ·intro hlt5; refine w_k ?_; refine x_s ?_; refine w_s ?_; refine w_block ?_; refine w_s ?_; refine w_draw (.st .take 0 (.st .take 1 (.st .take 2 (.st .take 3 (.st .take 4 (.st .take 5 (.st .run 6 .done))))))) mixed (by kernel_rfl) ?_; intro w113 x114; have B := bx Hb B x114; have S := S.below x114; refine t_b S.tail.box ab_topo sb_topo rfl rfl ?_ rfl; refine t_y fb_topo_1 rfl rfl ?_ rfl; refine t_bx1 S.tail.box ab_s_link rfl rfl ?_ rfl; refine t_m rfl ?_ rfl; obtain ⟨e139, he139⟩ : ∃ e, (L)[k2]? = some e := getx (by omega); refine t_idx e_link (k := k2) (S.tail.tail.tail.sl) he139 (Below.refl _ _) rfl rfl (by first | rfl | omega) ?_ rfl; intro p139 hp139; refine t_lda ‹_› ab_link sb_link (Below.refl _ _) rfl ?_ rfl; intro v140 hv140; obtain rfl := link_va hv140; refine t_c Tryz.call138 rfl (spec_l5LinkOk A L _ _ _ _ (topo_mkv (S.tail.tail.sl) (S.tail.tail.tail.sl)) (by first | assumption | exact VA.below ‹_› B) (by simp only [sz_topo]; omega)) ?_ rfl rfl; rintro e w115 ⟨y141, rfl, x116⟩; refine ⟨_, rfl, x116, ?_⟩; have B := bx Hb B x116; have S := S.below x116; replace hp139 := hp139.below x116; refine t_e' ?_
     have hsub2 : L2.Sublist (L.take (k2 + 1)) := hsub.trans (List.take_sublist_take_left (by omega)); refine w_ifb rfl ?_ ?_
     ·intro hb; refine w_g ?_; refine t_m rfl ?_ rfl; refine t_y fb_topo_1 rfl rfl ?_ rfl; refine t_bx1 S.tail.box ab_s_link rfl rfl ?_ rfl; refine t_m rfl ?_ rfl; refine t_idx e_link (k := k2) (S.tail.tail.tail.sl) he139 (Below.refl _ _) rfl rfl (by first | rfl | omega) ?_ rfl; intro p146 hp146; refine t_lda ‹_› ab_link sb_link (Below.refl _ _) rfl ?_ rfl; intro v147 hv147; obtain rfl := link_va hv147; refine t_lit (T := linkT) (l := [(e139 : Lnk)]) (css := [[I e139.a, I e139.ai, I e139.b, I e139.bi, I e139.kind]]) link_flat S (fun w => bs_link1 _ _ _ _ _ w) rfl rfl rfl rfl (by simp [maxLen]) (litR_one fun _ => rfl) ?_ rfl rfl; intro u148 w117 x118 S; have B := bx Hb B x118; have hR := S.sl; have S := S.f1; refine t_cat link_flat e_link S hR rfl rfl rfl (by first | omega | (simp [-List.length_flatMap]; omega)) (by (simp [maxLen, -List.length_flatMap]; try omega)) ?_ rfl; intro v149 w119 x120 S; have B := B.trans x120; clear hR; have S := S.f1.tail; refine t_a rfl ?_ rfl; refine t_d ?_; refine x_b ?_; refine x_s ?_; refine w_g ?_; refine t_m rfl ?_ rfl; refine t_add rfl rfl (by omega) ?_ rfl; refine t_a rfl ?_ rfl; refine t_d ?_
      refine x_r (X := Nat × List Lnk × Value) (k2 + 1, L2 ++ [e139], v149) ?_ (by exact ⟨rfl, rfl, rfl, rfl, trivial⟩) (by (try dsimp only); omega); (try dsimp only); refine ⟨by omega, ?_, B, S⟩; rw [take_succ he139]; exact hsub.append (List.Sublist.refl _)
     ·intro hb; refine w_k ?_; refine x_b ?_; refine x_s ?_; refine w_g ?_; refine t_m rfl ?_ rfl; refine t_add rfl rfl (by omega) ?_ rfl; refine t_a rfl ?_ rfl; refine t_d ?_; refine x_r (X := Nat × List Lnk × Value) (k2 + 1, L2, vl2) ?_ (by exact ⟨rfl, rfl, rfl, rfl, trivial⟩) (by (try dsimp only); omega); (try dsimp only); exact ⟨by omega, hsub2, B, S⟩
    ·intro hge5; refine w_exit ?_; (iterate 2 refine x_then_exit ?_); refine x_block_exit ?_; refine x_s ?_; refine w_h ?_; refine t_m rfl ?_ rfl; refine t_y fb_topo_1 rfl rfl ?_ rfl; obtain ⟨Avl2, cvl2, rfl, _⟩ := S.sl.form; have S := S.f1; refine t_st1 S sb_s_link rfl rfl rfl rfl rfl ?_; intro w121 b122 S; have B := B.trans b122; refine t_k ?_; refine t_b S.box ab_topo sb_topo rfl rfl ?_ rfl; have S := S.f4; refine t_stn S sb_topo rfl rfl rfl rfl (by repeat first | exact oc0 | refine oc rfl ?_ | refine oc (SlR.cells (S.tail.tail.tail.sl)).2 ?_ | refine oc (SlR.cells (S.tail.tail.sl)).2 ?_) ?_; intro w123 b124 S; have B := B.trans b124; refine t_e ?_; refine w_r ?_; refine x_retc rfl rfl S.box ab_topo sb_topo rfl ?_; exact ⟨va, _, A, L2, rfl, ⟨⟨by omega, by omega, hK⟩, m, L, by omega, by rw [hA]; exact hG, by rw [List.take_of_length_le (by omega)] at hsub; exact hsub⟩, S.tail.tail.f2.tail.f1, B⟩
/-- A link as_ it is drawn, among n realms. -/
def LnkK (n : Nat) (x : Lnk) : Prop := 0 ≤ x.a ∧ x.a < x.b ∧ x.b < n ∧ 1 ≤ x.ai ∧ x.ai ≤ 6 ∧ 1 ≤ x.bi ∧ x.bi ≤ 6 ∧ 1 ≤ x.kind ∧ x.kind ≤ 3
theorem Grown.mem {n m : Nat} {L : List Lnk} (h : Grown n m L) : ∀ x ∈ L, LnkK n x := by
  induction h with
  | nil => simp
  | add a c k h h1 h2 h3 h4 h5 ih =>
    intro x hx
    unfold addL at hx
    split at hx
    · rename_i hc
      rw [List.mem_append, List.mem_singleton] at hx
      rcases hx with hx | rfl
      · exact ih x hx
      · refine ⟨h1, h2, h3, ?_, hc.1, ?_, hc.2, h4, h5⟩ <;> dsimp only <;> omega
    · exact ih x hx
theorem hops_sz {p : Path} {k : Nat} {x : Part} (h : p[k]? = some x) : x.hops.length ≤ sz_path p := by
  have := sz_parts_mem (List.mem_of_getElem? h)
  unfold sz_part at this
  show x.hops.length ≤ sz_parts p
  omega
def verifyPath (t : Topo) (p : Path) : Bool := p.all (verifyPart t)
theorem allF_succ {α : Type} {f : α → Bool} {l : List α} {k : Nat} {x : α} (h : l[k]? = some x) (ha : (l.take k).all f = true) (hx : f x = true) : (l.take (k + 1)).all f = true := by
  rw [take_succ h, List.all_append, ha, List.all_cons, hx]; rfl
theorem allF_bad {α : Type} {f : α → Bool} {l : List α} {k : Nat} {x : α} (h : l[k]? = some x) (hx : f x = false) : l.all f = false := by
  rw [List.all_eq_false]; exact ⟨x, List.mem_of_getElem? h, by simp [hx]⟩
theorem allF_end {α : Type} {f : α → Bool} {l : List α} {k : Nat} (hk : l.length ≤ k) (ha : (l.take k).all f = true) : l.all f = true := by
  rwa [List.take_of_length_le hk] at ha
theorem impl_VerifyPath (t : Topo) (v : Value) (p : Path) (u : Value) (w : World) (h : VA topoT w v t) (hp : VA pathT w u p) (hz : sz_topo t ≤ 1048576) (hz' : sz_path p ≤ 1048576) : Calls Tryz.prog 56 #[v, u] w fun e w' => e = .returned (.bool (verifyPath t p)) ∧ Below w.heap.size w w' := by
 have hpl : List.length p ≤ sz_path p := by show List.length p ≤ List.length p + _; omega
 have X0 := Below.refl w.heap.size w; refine enter Tryz.func56 rfl Tryz.ntmps56 rfl ?_; refine w_h ?_; refine t_boxr ‹_› rfl ?_ rfl rfl; intro p2 w1 x2 hp2; replace h := h.below x2; replace hp := hp.below x2; have X0 := ext_trans X0 x2; refine t_boxr ‹_› rfl ?_ rfl rfl; intro p3 w3 x4 hp3; replace h := h.below x4; replace hp := hp.below x4; replace hp2 := hp2.below x4; have X0 := ext_trans X0 x4; have S := Sep.nil w3; have B := Below.refl w3.heap.size w3; have Hb := Nat.le_refl w3.heap.size; refine t_a rfl ?_ rfl; refine t_e ?_; (iterate 2 refine w_s ?_); refine w_g ?_; refine t_fld ln_path_0 ‹_› fb_path_0 rfl ?_ rfl; intro p7 hp7; refine t_lds ‹_› ab_s_part B rfl ?_ rfl; intro v8 hv8; refine t_len e_part ‹_› rfl rfl ?_ rfl; refine t_m rfl ?_ rfl; refine t_e ?_; refine w_block ?_; refine w_loop (X := Nat) (fun k wq => k ≤ List.length p ∧ (p.take k).all (verifyPart t) = true ∧ Below w3.heap.size w3 wq ∧ Sep w3.heap.size wq []) (fun k => [(10, I ((k : Int))), (2, p2), (8, v8), (9, I ((p.length : Int)))]) (fun k => List.length p - k) (0) ?_ ⟨rfl, rfl, rfl, rfl, trivial⟩ ?_
 ·exact ⟨by omega, rfl, B, S⟩
 ·rintro k w5 hI; (try dsimp only at hI ⊢); obtain ⟨hk, ha, B, S⟩ := hI; refine w_h ?_; refine t_lss rfl rfl ?_ rfl; refine t_e ?_; refine w_s ?_; refine w_if rfl ?_ ?_
  ·intro hlt; obtain ⟨e12, he12⟩ : ∃ e, p[k]? = some e := getx (by omega); have hhl := hops_sz he12; refine w_k ?_; refine x_s ?_; refine w_s ?_; refine w_block ?_; refine w_h ?_; refine t_idx e_part (k := k) ‹_› he12 B rfl rfl (by first | rfl | omega) ?_ rfl; intro p12 hp12; refine t_lda ‹_› ab_part sb_part B rfl ?_ rfl; intro v13 hv13; obtain ⟨v13_3, rfl, hv13_3⟩ := part_va hv13; refine t_w S z_part rfl ?_ rfl rfl; intro g6 w6 x7 S; have B := bx Hb B x7; refine t_stn S sb_part rfl rfl rfl rfl (by repeat first | exact oc0 | refine oc rfl ?_ | refine oc (SlR.cells ‹_›).2 ?_) ?_; intro w8 b9 S; have B := B.trans b9; refine t_k ?_; refine t_lda ‹_› ab_topo sb_topo B rfl ?_ rfl; intro v14 hv14; obtain ⟨v14_0, v14_1, rfl, hv14_0, hv14_1⟩ := topo_va hv14; refine t_b S.box ab_part sb_part rfl rfl ?_ rfl; refine t_x Tryz.call108 rfl (impl_VerifyPart _ _ _ _ _ (by first | assumption | exact VA.below ‹_› B | exact topo_mkv (by first | assumption | exact SlR.below ‹_› B) (by first | assumption | exact SlR.below ‹_› B)) (by first | assumption | exact VA.below ‹_› B | exact part_mkv (by first | assumption | exact SlR.below ‹_› B)) (by omega) (by omega)) ?_ rfl rfl; intro w10 x11
   have B := bx Hb B x11; have S := S.below x11; refine t_notb rfl ?_ rfl; refine t_e ?_; refine w_ifb rfl ?_ ?_
   ·intro hv; refine w_h ?_; refine t_a rfl ?_ rfl; refine t_e ?_; refine w_r ?_; refine x_block_ret ?_; (iterate 2 refine x_t ?_); refine x_block_ret ?_; refine x_t ?_; refine x_ret1 rfl rfl ?_; exact ⟨ret_bool (allF_bad he12 (by simpa using hv)).symm, ext_trans X0 B⟩
   ·intro hv; refine w_k ?_; refine x_b ?_; refine x_s ?_; refine w_g ?_; refine t_add rfl rfl (by omega) ?_ rfl; refine t_m rfl ?_ rfl; refine t_d ?_; have S := S.tail; refine x_r (X := Nat) (k + 1) ?_ (by exact ⟨rfl, rfl, rfl, rfl, trivial⟩) (by (try dsimp only); omega); (try dsimp only); exact ⟨by omega, allF_succ he12 ha (by simpa using hv), B, S⟩
  ·intro hge; refine w_exit ?_; (iterate 2 refine x_then_exit ?_); refine x_block_exit ?_; refine x_s ?_; refine w_h ?_; refine t_a rfl ?_ rfl; refine t_e ?_; refine w_r ?_; refine x_ret1 rfl rfl ?_; exact ⟨ret_bool (allF_end (by omega) ha).symm, ext_trans X0 B⟩
theorem kinds (a : Int) : a = 5 ∨ a = 2 ∨ a = 3 ∨ a = 1 ∨ ((a == 5) = false ∧ (a == 2) = false ∧ (a == 3) = false ∧ (a == 1) = false) := by
  simp only [beq_eq_false_iff_ne, ne_eq]; omega
def leastStep (o : Option Int) (h : Hop) : Option Int := match o with
  | none => some h.exp
  | some m => some (if h.exp < m then h.exp else m)
def leastO (hs : List Hop) : Option Int := hs.foldl leastStep none
/-- The least expiry, 0 if there is no hop. -/
def leastE (hs : List Hop) : Int := (leastO hs).getD 0
theorem leastO_snoc (hs : List Hop) (x : Hop) : leastO (hs ++ [x]) = leastStep (leastO hs) x := by unfold leastO; rw [List.foldl_append]; rfl
theorem leastO_none (hs : List Hop) : leastO hs = none ↔ hs = [] := by
  constructor
  · intro h
    rcases List.eq_nil_or_concat hs with h1 | ⟨t, x, h1⟩
    · exact h1
    · rw [h1, List.concat_eq_append, leastO_snoc] at h
      unfold leastStep at h
      split at h <;> cases h
  · rintro rfl
    rfl
theorem leastE_snoc {hs : List Hop} (x : Hop) (h : hs ≠ []) : leastE (hs ++ [x]) = if x.exp < leastE hs then x.exp else leastE hs := by
  unfold leastE
  rw [leastO_snoc]; cases ho : leastO hs with
  | none => exact absurd ((leastO_none hs).1 ho) h
  | some m => rfl
def place (k : Int) : Int := if k = 1 then 1 else if k = 2 then 2 else if k = 3 then 2 else 3
def lastIa (y : Part) : Int := match y.hops[y.hops.length - 1]? with
  | some h => h.ia
  | none => 0
def firstIa (y : Part) : Int := match y.hops[0]? with
  | some h => h.ia
  | none => 0
def joinOk (p : Path) (k : Nat) : Bool := match p[k]?, p[k + 1]? with
  | some y, some x => decide (place y.kind < place x.kind) && decide (lastIa y = firstIa x)
  | _, _ => true
def wellFormed (t : Topo) (p : Path) : Bool := inR (List.length p) 1 3 && p.all (validPart t) && (List.range (List.length p - 1)).all (joinOk p)
theorem joinOk_eq {p : Path} {k : Nat} {x y : Part} (h : p[k]? = some y) (h' : p[k + 1]? = some x) : joinOk p k = (decide (place y.kind < place x.kind) && decide (lastIa y = firstIa x)) := by unfold joinOk; rw [h, h']
theorem valid_len {t : Topo} {x : Part} (h : validPart t x = true) : 1 ≤ x.hops.length := by
  unfold validPart hopsOk at h
  simp only [Bool.and_eq_true] at h
  have := (inR_iff.1 h.1.1.1.1.1).1
  omega
def fresh (l : List Int) (k : Nat) : Bool := match l[k]? with
  | some x => !(l.take k).contains x
  | none => true
def simplePath (t : Topo) (p : Path) : Bool := wellFormed t p && (List.range (nums (pathSteps p)).length).all (fresh (nums (pathSteps p)))
def partNow (now : Int) (x : Part) : Bool := decide (x.ts ≤ now) && decide (now ≤ leastE x.hops)
def usable (t : Topo) (p : Path) (now : Int) : Bool := simplePath t p && verifyPath t p && p.all (partNow now)
theorem ends_iff {x : Lnk} {r d : Int} : ends x r d = true ↔ (x.a = r ∧ x.ai = d) ∨ (x.b = r ∧ x.bi = d) := by
  unfold ends; simp
theorem mem_ifsStep {r : Int} {acc : List Int} {x : Lnk} {d : Int} : d ∈ ifsStep r acc x ↔ d ∈ acc ∨ ends x r d = true := by
  rw [ends_iff]
  unfold ifsStep
  dsimp only
  by_cases ha : x.a = r <;> by_cases hb : x.b = r <;> simp only [ha, hb, if_true, if_false, mem_putL, true_and, false_and, or_false, false_or]
  · exact ⟨fun h => h.elim (fun h => .inr (.inr h.symm)) fun h => h.elim (fun h => .inr (.inl h.symm)) .inl, fun h => h.elim (fun h => .inr (.inr h)) fun h => h.elim (fun h => .inr (.inl h.symm)) fun h => .inl h.symm⟩
  · exact ⟨fun h => h.elim (fun h => .inr h.symm) .inl, fun h => h.elim .inr fun h => .inl h.symm⟩
  · exact ⟨fun h => h.elim (fun h => .inr h.symm) .inl, fun h => h.elim .inr fun h => .inl h.symm⟩
theorem mem_ifs {L : List Lnk} {r d : Int} : d ∈ ifs L r ↔ ∃ x ∈ L, ends x r d = true := by
  suffices h : ∀ (L : List Lnk) acc, d ∈ L.foldl (ifsStep r) acc ↔ d ∈ acc ∨ ∃ x ∈ L, ends x r d = true by
    have := h L []
    simpa [ifs] using this
  intro L
  induction L with
  | nil => simp
  | cons a t ih =>
    intro acc; rw [List.foldl_cons, ih, mem_ifsStep]
    simp [or_assoc]
theorem findL_of {L : List Lnk} {r d : Int} {x : Lnk} (hx : x ∈ L) (he : ends x r d = true) : ∃ i y, findL L r d = some i ∧ L[i]? = some y ∧ y ∈ L ∧ ends y r d = true := by
  unfold findL
  cases h : L.findIdx? (fun x => ends x r d) with
  | none =>
    rw [List.findIdx?_eq_none_iff] at h; rw [h x hx] at he; cases he
  | some i =>
    rw [List.findIdx?_eq_some_iff_getElem] at h; obtain ⟨hlt, hp, _⟩ := h; exact ⟨i, L[i], rfl, List.getElem?_eq_getElem hlt, List.getElem_mem hlt, hp⟩
theorem remote_of {t : Topo} {r d : Int} {i : Nat} {y : Lnk} (h1 : findL t.links r d = some i) (h2 : t.links[i]? = some y) : remote t r d = if y.a = r ∧ y.ai = d then (y.b, y.bi) else (y.a, y.ai) := by
  unfold remote
  rw [h1, Option.bind_some, h2]
theorem remote_in {A : List ASd} {L : List Lnk} (hK : ∀ x ∈ L, LnkK A.length x) {r d : Int} (hd : d ∈ ifs L r) : (0 ≤ (remote ⟨A, L⟩ r d).1 ∧ (remote ⟨A, L⟩ r d).1 < A.length) ∧ 1 ≤ (remote ⟨A, L⟩ r d).2 ∧ (remote ⟨A, L⟩ r d).2 ≤ 6 := by
  obtain ⟨x, hx, he⟩ := mem_ifs.1 hd; obtain ⟨i, y, h1, h2, h3, h4⟩ := findL_of hx he; rw [remote_of (t := ⟨A, L⟩) h1 h2]; obtain ⟨k1, k2, k3, k4, k5, k6, k7, k8, k9⟩ := hK y h3
  split
  · exact ⟨⟨by dsimp only; omega, k3⟩, k6, k7⟩
  · exact ⟨⟨k1, by dsimp only; omega⟩, k4, k5⟩
theorem ifs_in {n : Nat} {L : List Lnk} (hK : ∀ x ∈ L, LnkK n x) {r d : Int} (hd : d ∈ ifs L r) : 1 ≤ d ∧ d ≤ 6 := by
  obtain ⟨x, hx, he⟩ := mem_ifs.1 hd; obtain ⟨k1, k2, k3, k4, k5, k6, k7, k8, k9⟩ := hK x hx
  rcases ends_iff.1 he with ⟨_, rfl⟩ | ⟨_, rfl⟩ <;> omega
theorem ifsK_in {n : Nat} {A : List ASd} {L : List Lnk} (hK : ∀ x ∈ L, LnkK n x) {r k d : Int} (hd : d ∈ ifsK ⟨A, L⟩ r k) : d ∈ ifs L r ∧ (1 ≤ d ∧ d ≤ 6) := by
  unfold ifsK at hd
  have := (List.mem_filter.1 hd).1; exact ⟨this, ifs_in hK this⟩
/-- A topology as_ it is drawn. -/
def TopK (A : List ASd) (L : List Lnk) : Prop := (1 ≤ A.length ∧ A.length ≤ 8 ∧ ∀ x ∈ A, AsK x) ∧ ∃ m L0, m ≤ 60 ∧ Grown A.length m L0 ∧ L.Sublist L0
theorem TopK.lnk {A : List ASd} {L : List Lnk} (h : TopK A L) : ∀ x ∈ L, LnkK A.length x := by
  obtain ⟨_, m, L0, _, hG, hs⟩ := h
  exact fun x hx => hG.mem x (hs.subset hx)
theorem TopK.len {A : List ASd} {L : List Lnk} (h : TopK A L) : L.length ≤ 60 := by
  obtain ⟨_, m, L0, hm, hG, hs⟩ := h; exact Nat.le_trans (Nat.le_trans hs.length_le hG.len) hm
theorem mac_in (key ts beta : Int) (h : Hop) : 0 ≤ hopMac key ts beta h ∧ hopMac key ts beta h ≤ 2147483646 := by
  have := digest_bd ([key] ++ [ts, beta, h.ia, h.ing, h.eg, h.exp] ++ [key])
  unfold hopMac computeMac
  omega
theorem isAS_iff {A : List ASd} {L : List Lnk} {r : Int} : isAS ⟨A, L⟩ r = true ↔ 0 ≤ r ∧ r < A.length := by
  unfold isAS
  rw [inR_iff]
  show 0 ≤ r ∧ r ≤ (A.length : Int) - 1 ↔ _
  omega
theorem asKey_of {A : List ASd} {L : List Lnk} {r : Int} {x : ASd} (h : A[r.toNat]? = some x) : asKey ⟨A, L⟩ r = x.key := by
  unfold asKey
  rw [h]
/-- Hops that are sealed right, one after the other. -/
inductive SealK (t : Topo) (ts beta : Int) : List Hop → Prop
  | nil : SealK t ts beta []
  | snoc {l : List Hop} {h : Hop} : SealK t ts beta l → verifyHop t ts (chainAdd beta (l.map Hop.mac)) h = true → SealK t ts beta (l ++ [h])
/-- A segment as_ it is drawn. -/
def SegK (t : Topo) (s : Seg) : Prop := (0 ≤ s.ts ∧ s.ts ≤ 49 ∧ 0 ≤ s.beta ∧ s.beta ≤ 999999 ∧ s.hops.length ≤ 5) ∧ SealK t s.ts s.beta s.hops
theorem SealK.seg {t : Topo} {ts beta : Int} {l : List Hop} (h : SealK t ts beta l) (h0 : 0 ≤ ts) (h1 : ts ≤ 49) (h2 : 0 ≤ beta) (h3 : beta ≤ 999999) (hl : l.length ≤ 5) : SegK t ⟨ts, beta, l⟩ := ⟨⟨h0, h1, h2, h3, hl⟩, h⟩
theorem SealK.hop {t : Topo} {ts beta : Int} {l : List Hop} (h : SealK t ts beta l) : ∀ x ∈ l, validHop x = true := by
  induction h with
  | nil => simp
  | snoc _ h2 ih =>
    intro x hx; rw [List.mem_append, List.mem_singleton] at hx
    rcases hx with hx | rfl
    · exact ih x hx
    · unfold verifyHop at h2
      rw [Bool.and_eq_true] at h2; exact h2.1
theorem segBeta_all (ts beta : Int) (l : List Hop) : segBeta ⟨ts, beta, l⟩ l.length = chainAdd beta (l.map Hop.mac) := by
  unfold segBeta
  rw [if_pos (inR_iff.2 ⟨by omega, by show (l.length : Int) ≤ l.length; omega⟩)]
  show chainAdd beta ((l.take (l.length : Int).toNat).map Hop.mac) = _
  rw [show (l.length : Int).toNat = l.length by omega, List.take_length]
theorem seal_next {A : List ASd} {L : List Lnk} {ts beta : Int} {l : List Hop} (hS : SealK ⟨A, L⟩ ts beta l) {r i e x m : Int} {as' : ASd} (hA : A.length ≤ 8) (hr : 0 ≤ r ∧ r < A.length) (ha : A[r.toNat]? = some as') (hi : 0 ≤ i ∧ i ≤ 6) (he : 0 ≤ e ∧ e ≤ 6) (hne : i ≠ e) (hx : 0 ≤ x ∧ x ≤ 1000000) (hm : m = hopMac as'.key ts (segBeta ⟨ts, beta, l⟩ l.length) ⟨r, i, e, x, 0⟩) : SealK ⟨A, L⟩ ts beta (l ++ [⟨r, i, e, x, m⟩]) := by
  refine .snoc hS ?_; rw [segBeta_all] at hm; have hmi := mac_in as'.key ts (chainAdd beta (l.map Hop.mac)) ⟨r, i, e, x, 0⟩; rw [← hm] at hmi
  unfold verifyHop
  rw [Bool.and_eq_true, Bool.and_eq_true, decide_eq_true_eq]; refine ⟨?_, isAS_iff.2 hr, ?_⟩
  · unfold validHop
    simp only [Bool.and_eq_true, inR_iff, bne_iff_ne, ne_eq]
    exact ⟨⟨⟨⟨⟨by omega, hi⟩, he⟩, hne⟩, hx⟩, hmi⟩
  · show m = hopMac (asKey ⟨A, L⟩ r) ts _ _
    rw [asKey_of ha]; exact hm
def Res (n : Int) : Prop := 0 ≤ n ∧ n ≤ 2147483646
theorem addM_in (b s : Int) : Res (addM b s) := by
  unfold addM Res
  split
  · constructor
    · exact Int.emod_nonneg _ (by omega)
    · have := Int.emod_lt_of_pos (b + s) (b := 2147483647) (by omega); omega
  · omega
theorem chain_in {b : Int} (hb : Res b) : ∀ l : List Int, Res (chainAdd b l) := by
  intro l
  unfold chainAdd
  induction l generalizing b with
  | nil => exact hb
  | cons a t ih => rw [List.foldl_cons]; exact ih (addM_in b a)
theorem sub_add {c m : Int} (hc : Res c) (hm : Res m) : subM (addM c m) m = c := by
  have h1 := addM_in c m
  have e1 : addM c m = (c + m) % 2147483647 := by
    unfold addM
    rw [inR_iff.2 hc, inR_iff.2 hm]; rfl
  have e2 : subM (addM c m) m = (addM c m - m + 2147483647) % 2147483647 := by
    unfold subM
    rw [inR_iff.2 h1, inR_iff.2 hm]; rfl
  rw [e2, e1]
  unfold Res at *
  omega
theorem fold_add (b : Int) (l : List Hop) : l.foldl (betaStep false) b = chainAdd b (l.map Hop.mac) := by
  unfold chainAdd
  rw [List.foldl_map]
  rfl
theorem SealK.at_ {t : Topo} {ts beta : Int} {l : List Hop} (h : SealK t ts beta l) : ∀ (k : Nat) x, l[k]? = some x → verifyHop t ts (chainAdd beta ((l.take k).map Hop.mac)) x = true := by
  induction h with
  | nil => intro k x hx; simp at hx
  | snoc _ h2 ih =>
    rename_i l h _
    intro k x hx
    rcases Nat.lt_or_ge k l.length with q | q
    · rw [List.getElem?_append_left q] at hx
      rw [List.take_append_of_le_length (by omega)]; exact ih k x hx
    · have hlt := (List.getElem?_eq_some_iff.1 hx).1
      rw [List.length_append, List.length_singleton] at hlt
      have e : k = l.length := by omega
      subst e; rw [List.getElem?_append_right q, Nat.sub_self] at hx; cases hx; rw [List.take_left']
      · exact h2
      · rfl
theorem SealK.mac {t : Topo} {ts beta : Int} {l : List Hop} (h : SealK t ts beta l) {x : Hop} (hx : x ∈ l) : Res x.mac := by
  have := h.hop x hx
  unfold validHop at this
  simp only [Bool.and_eq_true] at this
  exact inR_iff.1 this.2
theorem chain_take {b : Int} {l : List Hop} {k : Nat} {x : Hop} (h : l[k]? = some x) : chainAdd b ((l.take (k + 1)).map Hop.mac) = addM (chainAdd b ((l.take k).map Hop.mac)) x.mac := by
  rw [take_succ h, List.map_append]
  unfold chainAdd
  rw [List.foldl_append]; rfl
/-- Going back from the end undoes what was added. -/
theorem fold_back {b : Int} (hb : Res b) {l : List Hop} (hm : ∀ x ∈ l, Res x.mac) (i : Nat) : ∀ j, j ≤ l.length - i → ((l.drop i).reverse.take j).foldl (betaStep true) (chainAdd b (l.map Hop.mac)) = chainAdd b ((l.take (l.length - j)).map Hop.mac) := by
  intro j
  induction j with
  | zero => intro _; rw [List.take_zero, Nat.sub_zero, List.take_length]; rfl
  | succ j ih =>
    intro hj; have hx := List.getElem?_eq_getElem (l := l) (i := l.length - 1 - j) (by omega)
    have hr : (l.drop i).reverse[j]? = some l[l.length - 1 - j] := by
      rw [List.getElem?_reverse (by rw [List.length_drop]; omega), List.length_drop, List.getElem?_drop]; rw [show i + (l.length - i - 1 - j) = l.length - 1 - j by omega]; exact hx
    rw [take_succ hr, List.foldl_append, ih (by omega)]
    show subM (chainAdd b _) _ = _
    rw [show l.length - j = (l.length - 1 - j) + 1 by omega, chain_take hx]; rw [sub_add (chain_in hb _) (hm _ (List.mem_of_getElem? hx)), show l.length - (j + 1) = l.length - 1 - j by omega]
theorem verify_make {t : Topo} {s : Seg} (h : SegK t s) (kind i : Int) : verifyPart t (makePart s kind i) = true := by
 obtain ⟨⟨_, _, hb0, hb1, _⟩, hS⟩ := h; have hb : Res s.beta := ⟨hb0, by omega⟩
 have hmac := fun x hx => hS.mac (x := x) hx
 unfold makePart
 split
 ·rename_i hc
  rw [Bool.and_eq_true] at hc; have hi := inR_iff.1 hc.1
  have hall : ∀ n : Nat, n ≤ s.hops.length → segBeta s n = chainAdd s.beta ((s.hops.take n).map Hop.mac) := fun n hn => by
   unfold segBeta
   rw [if_pos (inR_iff.2 ⟨by omega, by omega⟩), Int.toNat_natCast]
  split
  ·rename_i hr
   refine verify_all fun k x hx => ?_
   dsimp only at hx ⊢; have hk := (List.getElem?_eq_some_iff.1 hx).1; rw [List.length_reverse, List.length_drop] at hk
   unfold hopBeta betaAfter betaFold
   dsimp only; rw [hr]
   simp only [if_true]
   rw [if_pos (inR_iff.2 ⟨by omega, by rw [List.length_reverse, List.length_drop]; omega⟩), show ((k : Int) + 1).toNat = k + 1 by omega]; rw [hall _ (Nat.le_refl _), List.take_length, fold_back hb hmac _ _ (by omega)]; rw [List.getElem?_reverse (by rw [List.length_drop]; omega), List.length_drop, List.getElem?_drop] at hx; have := hS.at_ _ x hx; rw [show i.toNat + (s.hops.length - i.toNat - 1 - k) = s.hops.length - (k + 1) by omega] at this; exact this
  ·rename_i hr
   have hr' : isRev kind = false := by simpa using hr
   refine verify_all fun k x hx => ?_
   dsimp only at hx ⊢; have hk := (List.getElem?_eq_some_iff.1 hx).1; rw [List.length_drop] at hk
   unfold hopBeta betaAfter betaFold
   dsimp only; rw [hr']
   simp only [Bool.false_eq_true, if_false]
   rw [if_pos (inR_iff.2 ⟨by omega, by rw [List.length_drop]; omega⟩), Int.toNat_natCast, fold_add]; have h1 := hall i.toNat (by omega); rw [show ((i.toNat : Nat) : Int) = i by omega] at h1; rw [h1]; rw [List.getElem?_drop] at hx; have := hS.at_ _ x hx; rw [List.take_add, List.map_append] at this
   unfold chainAdd at this ⊢
   rw [List.foldl_append] at this; exact this
 ·exact verify_all fun k x hx => by simp at hx
/-- The ends of a path. -/
def endA (p : Path) : Int := if (pathSteps p).length = 0 then -1 else (firstOf (pathSteps p)).ia
def endB (p : Path) : Int := if (pathSteps p).length = 0 then -1 else (lastOf (pathSteps p)).ia
set_option maxRecDepth 100000 in
set_option maxHeartbeats 1000000 in
theorem impl_Endpoints (p : Path) (cs : List Value) (w : World) (h : pathT.R w cs p) (hz : sz_path p ≤ 1048576) (hl : lenOk_path p) (hg : rng_path p) :
  Calls Tryz.prog 55 #[.agg cs.toArray] w fun e w' => e = .returned (.tuple #[I (endA p), I (endB p)]) ∧ Below w.heap.size w w' := by
 have h0 := h; obtain ⟨A, c, rfl, _⟩ := path_form h; have hsl := Nat.le_trans (pathSteps_len p) hz
 have HC := hid fun w' (hw : Below w.heap.size w w') => impl_PathSteps p _ w' (pathT.kp h0 hw) hz hl hg
 clear hz hl hg h h0; have hb0 : Below w.heap.size w (w.alloc (.cells #[.slice A (List.length p) c] 38)) := ext_alloc1 _ _; obtain ⟨a, Ha⟩ : ∃ a, Hid (a = endA p) := ⟨_, rfl⟩; obtain ⟨b, Hb⟩ : ∃ b, Hid (b = endB p) := ⟨_, rfl⟩; rw [← Ha.out, ← Hb.out]
 go_enter Tryz.func55, Tryz.ntmps55
 go_wp2_with (fail)
 refine (HC.out _ hb0).mono ?_; rintro e w1 ⟨v1, fp1, rfl, hO1, hb1⟩; obtain ⟨Av, cv, ev, _⟩ := hO1.form; subst ev; obtain ⟨l, Hl⟩ : ∃ l, Hid (l = pathSteps p) := ⟨_, rfl⟩; rw [← Hl.out] at hO1 hsl ⊢; have x1 := hid (ext_trans hb0 hb1); clear hb0 hb1 HC
 rcases Nat.eq_zero_or_pos l.length with hl0 | hl0
 ·have HA : Hid (a = -1) := by show _ = _; rw [Ha.out]; unfold endA; rw [← Hl.out, if_pos hl0]
  have HB : Hid (b = -1) := by show _ = _; rw [Hb.out]; unfold endB; rw [← Hl.out, if_pos hl0]
  rw [hl0]; clear hl0 hO1 hsl
  go_wp2_with (fail)
  go_ret2
  exact ⟨by rw [HA.out, HB.out]; rfl, x1.out⟩
 ·obtain ⟨L, HL⟩ : ∃ L, l.length = L + 1 := ⟨l.length - 1, by omega⟩; obtain ⟨g, o, q, sf, e1, hg1, hsf, r0, r1, r2⟩ := step_at (k := 0) hO1.read (by omega); cases e1; obtain ⟨g', o', q', sg, e2, hg2, hsg, s0, s1, s2⟩ := step_at (k := L) hO1.read (by omega); cases e2
  simp only [Nat.zero_mul, Nat.add_zero] at r0 r1 r2
  have HA : Hid (a = sf.ia) := by show _ = _; rw [Ha.out]; unfold endA; rw [← Hl.out, if_neg (by omega), firstOf_at hsf.out]
  have HB : Hid (b = sg.ia) := by show _ = _; rw [Hb.out]; unfold endB; rw [← Hl.out, if_neg (by omega), lastOf_at (by rw [HL]; exact hsg.out)]
  have hL2 : L ≤ 1048576 := by omega
  have hL3 : L < L + 1 := Nat.lt_succ_self L; rw [HL] at hO1 ⊢; clear hl0 HL r1 r2 s1 s2 hsl
  go_wp2_with (fail)
  go_quiet (fail)
  go_wp2_with (fail)
  go_ret2
  exact ⟨by rw [HA.out, HB.out]; rfl, below_drewN x1.out _⟩
/-- One step leads on to the next. -/
def LeadsTo (t : Topo) (s s' : Stp) : Prop := s.eg ≠ 0 ∧ s'.ing ≠ 0 ∧ remote t s.ia s.eg = (s'.ia, s'.ing)
def ChainK (t : Topo) (l : List Stp) : Prop := ∀ (k : Nat) s s', l[k]? = some s → l[k + 1]? = some s' → LeadsTo t s s'
theorem ChainK.nil {t : Topo} : ChainK t [] := fun k s s' h => by simp at h
theorem ChainK.snoc {t : Topo} {l : List Stp} {x : Stp} (h : ChainK t l) (hx : ∀ s, l[l.length - 1]? = some s → LeadsTo t s x) : ChainK t (l ++ [x]) := by
  intro k s s' h1 h2; have hlt := (List.getElem?_eq_some_iff.1 h2).1; rw [List.length_append, List.length_singleton] at hlt; rw [List.getElem?_append_left (by omega)] at h1
  rcases Nat.lt_or_ge (k + 1) l.length with q | q
  · rw [List.getElem?_append_left q] at h2
    exact h k s s' h1 h2
  · have e : k + 1 = l.length := by omega
    rw [List.getElem?_append_right q, e, Nat.sub_self] at h2; cases h2; exact hx s (by rw [← e]; exact h1)
theorem ChainK.setLast {t : Topo} {l : List Stp} {y x : Stp} (h : ChainK t l) (hy : l[l.length - 1]? = some y) (ha : x.ia = y.ia) (hi : x.ing = y.ing) : ChainK t (l.set (l.length - 1) x) := by
  intro k s s' h1 h2; have hlt := (List.getElem?_eq_some_iff.1 h2).1; rw [List.length_set] at hlt; rw [List.getElem?_set_ne (by omega)] at h1
  by_cases e : k + 1 = l.length - 1
  · rw [e, List.getElem?_set_self (by omega)] at h2
    cases h2; have := h k s y h1 (by rw [e]; exact hy)
    unfold LeadsTo at *
    rw [ha, hi]; exact this
  · rw [List.getElem?_set_ne (by omega)] at h2
    exact h k s s' h1 h2
theorem remote_door {t : Topo} (hK : ∀ x ∈ t.links, 1 ≤ x.ai ∧ 1 ≤ x.bi) {r d : Int} (h : 0 ≤ (remote t r d).1) : 1 ≤ (remote t r d).2 := by
  unfold remote at *
  split
  · rename_i he; rw [he] at h; simp at h
  · rename_i l he
    rw [he] at h; cases hf : findL t.links r d with
    | none => rw [hf] at he; simp at he
    | some i =>
      rw [hf, Option.bind_some] at he; obtain ⟨h1, h2⟩ := hK l (List.mem_of_getElem? he)
      split <;> assumption
theorem hopIa_good {t : Topo} {x : Part} (h : validPart t x = true) {j : Nat} (hj : j < x.hops.length) : 0 ≤ hopIa x j := by
  unfold validPart hopsOk at h
  simp only [Bool.and_eq_true, List.all_eq_true, List.mem_range] at h
  have hg := h.1.1.1.1.2 j hj; have e := List.getElem?_eq_getElem hj; rw [hopGood_eq e] at hg
  simp only [Bool.and_eq_true] at hg
  rw [hopIa_at e]; have := inR_iff.1 hg.1.2; exact this.1
theorem step_leads {t : Topo} (hK : ∀ x ∈ t.links, 1 ≤ x.ai ∧ 1 ≤ x.bi) {x : Part} (h : validPart t x = true) {j : Nat} (hj : j + 1 < x.hops.length) {s : Stp} (ha : s.ia = hopIa x j) (he : s.eg = partOut x j) : LeadsTo t s ⟨hopIa x (j + 1), partIn x (j + 1), partOut x (j + 1)⟩ := by
  have hn := hopIa_good h hj; have h' := h
  unfold validPart at h'
  simp only [Bool.and_eq_true, List.all_eq_true, List.mem_range] at h'
  have hg := h'.2 j (by omega); have e1 := List.getElem?_eq_getElem (l := x.hops) (i := j) (by omega); have e2 := List.getElem?_eq_getElem hj; rw [stepGood_eq e1 e2] at hg
  simp only [Bool.and_eq_true, decide_eq_true_eq] at hg
  rw [hopIa_at e1] at ha; rw [hopIa_at e2] at hn ⊢; have hd := remote_door hK (r := (x.hops[j]).ia) (d := partOut x j) (by rw [hg.1.2]; exact hn); refine ⟨by rw [he]; exact hg.1.1, ?_, ?_⟩
  · show partIn x (j + 1) ≠ 0
    rw [← hg.2]; omega
  · rw [ha, he]
    exact Prod.ext hg.1.2 hg.2
theorem hops_chain {t : Topo} (hK : ∀ x ∈ t.links, 1 ≤ x.ai ∧ 1 ≤ x.bi) {i : Nat} {x : Part} {l : List Stp} (hv : validPart t x = true) (hl : ChainK t l) (h0 : i = 0 → l = []) (h1 : 0 < i → 0 < l.length ∧ (lastOf l).ia = hopIa x 0) : ∀ j, j ≤ x.hops.length → ChainK t (hopsTo i x l j) ∧ (0 < j → 0 < (hopsTo i x l j).length ∧ ∃ s, (hopsTo i x l j)[(hopsTo i x l j).length - 1]? = some s ∧ s.ia = hopIa x (j - 1) ∧ s.eg = partOut x (j - 1)) := by
 intro j
 induction j with
 | zero => exact fun _ => ⟨hl, by omega⟩
 | succ j ih =>
  intro hj; obtain ⟨hc, hp⟩ := ih (by omega); rw [hopsTo_succ]
  generalize hq : hopsTo i x l j = q at hc hp ⊢
  cases hb : joinAt i x q j with
  | true =>
   rw [addHop_join hb]
   unfold joinAt at hb
   simp only [Bool.and_eq_true, decide_eq_true_eq, beq_iff_eq] at hb
   obtain ⟨_, hj0, hql, hia⟩ := hb
   have hs : q[q.length - 1]? = some (lastOf q) := by
    have := List.getElem?_eq_getElem (l := q) (i := q.length - 1) (by omega); rw [lastOf_at this]; exact this
   refine ⟨hc.setLast hs rfl rfl, fun _ => ⟨by rw [List.length_set]; exact hql, { lastOf q with eg := partOut x j }, ?_, ?_, ?_⟩⟩
   ·rw [List.length_set, List.getElem?_set_self (by omega)]
   ·show (lastOf q).ia = _
    rw [Nat.add_sub_cancel]; exact hia
   ·show partOut x j = _
    rw [Nat.add_sub_cancel]
  | false =>
   rw [addHop_new hb]; refine ⟨hc.snoc fun s hs => ?_, fun _ => ⟨by simp, _, by rw [List.length_append, List.length_singleton, Nat.add_sub_cancel, List.getElem?_append_right (Nat.le_refl _), Nat.sub_self]; rfl, by rw [Nat.add_sub_cancel], by rw [Nat.add_sub_cancel]⟩⟩
   rcases Nat.eq_zero_or_pos j with hj0 | hj0
   ·subst hj0
    exfalso
    have hql : q = l := by rw [← hq]; rfl
    rw [hql] at hs hb
    rcases Nat.eq_zero_or_pos i with hi | hi
    ·rw [h0 hi] at hs; simp at hs
    ·obtain ⟨k1, k2⟩ := h1 hi
     have : joinAt i x l 0 = true := by
      unfold joinAt
      simp only [Bool.and_eq_true, decide_eq_true_eq, beq_iff_eq]
      exact ⟨hi, trivial, k1, k2⟩
     rw [this] at hb; cases hb
   ·obtain ⟨_, s', hs', ha, he⟩ := hp hj0; rw [hs] at hs'; cases hs'; obtain ⟨m, rfl⟩ : ∃ m, j = m + 1 := ⟨j - 1, by omega⟩; rw [Nat.add_sub_cancel] at ha he; exact step_leads hK hv hj ha he
theorem wf_parts {t : Topo} {p : Path} (h : wellFormed t p = true) : (1 ≤ List.length p ∧ List.length p ≤ 3) ∧ (∀ x ∈ p, validPart t x = true) ∧ ∀ (k : Nat) y x, p[k]? = some y → p[k + 1]? = some x → place y.kind < place x.kind ∧ lastIa y = firstIa x := by
  unfold wellFormed at h
  simp only [Bool.and_eq_true, List.all_eq_true, List.mem_range] at h
  obtain ⟨⟨h1, h2⟩, h3⟩ := h; have := inR_iff.1 h1; refine ⟨by omega, h2, fun k y x hy hx => ?_⟩; have hlt := (List.getElem?_eq_some_iff.1 hx).1; have := h3 k (by omega); rw [joinOk_eq hy hx] at this
  simpa using this
theorem fIa_hop (y : Part) : firstIa y = hopIa y 0 := by
  unfold firstIa hopIa
  cases y.hops[0]? <;> rfl
theorem lIa_hop (y : Part) : lastIa y = hopIa y (y.hops.length - 1) := by
  unfold lastIa hopIa
  cases y.hops[y.hops.length - 1]? <;> rfl
theorem raw_chain {t : Topo} (hK : ∀ x ∈ t.links, 1 ≤ x.ai ∧ 1 ≤ x.bi) {p : Path} (h : wellFormed t p = true) : ∀ k, k ≤ List.length p → ChainK t (rawSteps p k) ∧ (k = 0 → rawSteps p k = []) ∧ (0 < k → 0 < (rawSteps p k).length ∧ ∀ x, p[k - 1]? = some x → (lastOf (rawSteps p k)).ia = lastIa x) := by
  obtain ⟨_, hv, hj⟩ := wf_parts h; intro k
  induction k with
  | zero => exact fun _ => ⟨ChainK.nil, fun _ => rfl, by omega⟩
  | succ k ih =>
    intro hk; obtain ⟨hc, h0, h1⟩ := ih (by omega); have hx := List.getElem?_eq_getElem (l := p) (i := k) (by omega); have hvx := hv _ (List.mem_of_getElem? hx); have hlen := valid_len hvx
    have hh := hops_chain (i := k) hK hvx hc h0 (fun hk0 => ⟨(h1 hk0).1, by
      have hy := List.getElem?_eq_getElem (l := p) (i := k - 1) (by omega); rw [(h1 hk0).2 _ hy, (hj (k - 1) _ _ hy (by rw [show k - 1 + 1 = k by omega]; exact hx)).2]
      exact fIa_hop _⟩) (p[k]).hops.length (Nat.le_refl _)
    rw [rawSteps_succ hx]; refine ⟨hh.1, by omega, fun _ => ⟨(hh.2 (by omega)).1, fun x hx' => ?_⟩⟩; rw [Nat.add_sub_cancel, hx] at hx'; cases hx'; obtain ⟨_, s, hs, ha, _⟩ := hh.2 (by omega); rw [lastOf_at hs, ha]; exact (lIa_hop _).symm
theorem cut_at_ (l : List Stp) (hl : 0 < l.length) : (cutLast (cutFirst l)).length = l.length ∧ ∀ (k : Nat) s, (cutLast (cutFirst l))[k]? = some s → ∃ r, l[k]? = some r ∧ s.ia = r.ia ∧ s.ing = (if k = 0 then 0 else r.ing) ∧ s.eg = (if k + 1 = l.length then 0 else r.eg) := by
  have hF : (cutFirst l).length = l.length := by unfold cutFirst; rw [List.length_set]
  have e0 := List.getElem?_eq_getElem (l := l) (i := 0) hl
  have hFa : ∀ (k : Nat) s, (cutFirst l)[k]? = some s → ∃ r, l[k]? = some r ∧ s.ia = r.ia ∧ s.ing = (if k = 0 then 0 else r.ing) ∧ s.eg = r.eg := by
    intro k s hs
    unfold cutFirst at hs
    rw [firstOf_at e0] at hs
    by_cases hk : k = 0
    · subst hk
      rw [List.getElem?_set_self hl] at hs; cases hs; exact ⟨_, e0, rfl, rfl, rfl⟩
    · rw [List.getElem?_set_ne (by omega)] at hs
      exact ⟨s, hs, rfl, by rw [if_neg hk], rfl⟩
  refine ⟨by unfold cutLast; rw [List.length_set, hF], fun k s hs => ?_⟩
  unfold cutLast at hs
  rw [hF] at hs; obtain ⟨z, hz⟩ : ∃ z, (cutFirst l)[l.length - 1]? = some z := ⟨_, List.getElem?_eq_getElem (by omega)⟩
  have hz' : (cutFirst l)[(cutFirst l).length - 1]? = some z := by rw [hF]; exact hz
  rw [lastOf_at hz'] at hs
  by_cases hk : k = l.length - 1
  · subst hk
    rw [List.getElem?_set_self (by omega)] at hs; cases hs; obtain ⟨r, h1, h2, h3, h4⟩ := hFa _ _ hz; exact ⟨r, h1, h2, h3, by rw [if_pos (by omega)]⟩
  · rw [List.getElem?_set_ne (by omega)] at hs
    obtain ⟨r, h1, h2, h3, h4⟩ := hFa k s hs; have := (List.getElem?_eq_some_iff.1 h1).1; exact ⟨r, h1, h2, h3, by rw [if_neg (by omega)]; exact h4⟩
section
variable {P : Program} {n : Nat} {Q : Exit → Act → World → Prop} {L : Frm} {w : World}
theorem w_cut {X : Type} (I : X → World → Prop) (F : X → Frm) {x y : Code} (hx : W P n (Exit.then (fun a w' => ∃ z, I z w' ∧ Env n (F z) a) Q) x L w) (hy : ∀ z w', I z w' → W P n Q y (F z) w') : W P n (Exit.then (y.wp P Q) Q) x L w := by
  intro a ha
  refine wp_mono (hx a ha) fun e a' w' hq => ?_
  cases e with
  | normal => obtain ⟨z, h1, h2⟩ := hq; exact hy z w' h1 a' h2
  | _ => exact hq
theorem x_cut {X : Type} {I : X → World → Prop} {F : X → Frm} (z : X) (hI : I z w) (hs : Sub (F z) L) : WX n (Exit.then (fun a w' => ∃ z, I z w' ∧ Env n (F z) a) Q) .normal L w := fun a ha => ⟨z, hI, ha.sub hs⟩
end
theorem t_offu {P : Program} {n : Nat} {ops : Array Oper} {Q : Exit → Act → World → Prop} {L : Frm} {w : World} {m : Md} {r : IT} {d : Nat} {ty : TypeId} {pos : String} {af : Array Edge} {op : Op} {j tj : Nat} {b : Bool} (hj : (ops[j]?).bind (·.dst) = some tj) (hg : look L tj = some undef) (k : WT P n ops Q r ((d, undef) :: L) w) (hn : Nat.blt d n = true) : WT P n ops Q (.st m ⟨some d, op, ty, pos, af, some (j, b)⟩ r) L w := by
  intro a ha
  have hy : yielded ops a.tmps j = none := by
    unfold yielded
    rw [hj, Option.bind_some, ha.at_ _ _ hg]
    rfl
  have hw : Region.wanted (⟨some d, op, ty, pos, af, some (j, b)⟩ : Oper) (yielded ops a.tmps) = false := by
    simp only [Region.wanted, hy]
    cases b <;> rfl
  have hk := k _ (ha.put hn undef); cases m with
  | take => exact ⟨undef, .inr ⟨hw, rfl⟩, hk⟩
  | run => simp only [wpT, hw]; exact hk
  | fin => simp only [wpT, hw]; exact hk
theorem b_seg2 (a b : Int) (w : World) : (Instr.build 67 #[(0, I a), (1, I b)]).run Tryz.prog w = .ok (.agg #[I a, I b, .slice none 0 0]) w := by kernel_rfl
theorem b_hop4 (a b c d : Int) (w : World) : (Instr.build 87 #[(0, I a), (1, I b), (2, I c), (3, I d)]).run Tryz.prog w = .ok (.agg #[I a, I b, I c, I d, I 0]) w := by kernel_rfl
def authHop (key ts beta : Int) (h : Hop) : Hop := { h with mac := hopMac key ts beta h }
theorem spec_AuthenticateHop (key ts beta : Int) (x : Hop) (w : World) : Calls Tryz.prog 142 #[I key, I ts, I beta, .agg #[I x.ia, I x.ing, I x.eg, I x.exp, I x.mac]] w fun e w' => e = .returned (.agg #[I (authHop key ts beta x).ia, I (authHop key ts beta x).ing, I (authHop key ts beta x).eg, I (authHop key ts beta x).exp, I (authHop key ts beta x).mac]) ∧ Below w.heap.size w w' := by
 have X0 := Below.refl w.heap.size w; refine enter Tryz.func142 rfl Tryz.ntmps142 rfl ?_; have S := Sep.nil w; have B := Below.refl w.heap.size w; have Hb := Nat.le_refl w.heap.size; refine w_h ?_; refine t_boxo S rfl rfl ?_ rfl rfl; intro g7 w1 x2 S; have B := bx Hb B x2; refine t_w S z_hop rfl ?_ rfl rfl; intro g8 w3 x4 S; have B := bx Hb B x4; refine t_k ?_; refine t_b S.tail.box ab_hop sb_hop rfl rfl ?_ rfl; refine t_w S z_hop rfl ?_ rfl rfl; intro g9 w5 x6 S; have B := bx Hb B x6; refine t_stn S sb_hop rfl rfl rfl rfl (by repeat first | exact oc0 | refine oc rfl ?_) ?_; intro w7 b8 S; have B := B.trans b8; refine t_k ?_; (iterate 3 refine t_m rfl ?_ rfl); refine t_b S.tail.tail.box ab_hop sb_hop rfl rfl ?_ rfl; refine t_x Tryz.call169 rfl (spec_HopMAC _ _ _ _ _) ?_ rfl rfl; intro w9 x10; have B := bx Hb B x10; have S := S.below x10; refine t_y fb_hop_4 rfl rfl ?_ rfl; refine t_st1 S sb_int rfl rfl rfl rfl rfl ?_; intro w11 b12 S; have B := B.trans b12; refine t_k ?_; refine t_b S.box ab_hop sb_hop rfl rfl ?_ rfl; have S := S.f1; refine t_stn S sb_hop rfl rfl rfl rfl (by repeat first | exact oc0 | refine oc rfl ?_) ?_; intro w13 b14 S; have B := B.trans b14; refine t_e ?_
 refine w_r ?_; refine x_retc rfl rfl S.box ab_hop sb_hop rfl ?_; exact ⟨rfl, ext_trans X0 B⟩
set_option maxHeartbeats 8000000 in
theorem spec_l9Grow {b n c : Nat} {w : World} {v va vl : Value} {A : List ASd} {L : List Lnk} {os : List Ow} (kd : Int) (T : TopK A L) (S : Sep b w (curO v n c 123 :: slO asnT 117 va A :: slO linkT 90 vl L :: os)) (K : CodeK b w v n) : Calls Tryz.prog 98 #[.pointer (some ⟨c, 0, none⟩), .agg #[va, vl], I kd] w fun e w' =>
  ∃ (vh : Value) (s : Seg), e = .returned (.agg #[I s.ts, I s.beta, vh]) ∧ SegK ⟨A, L⟩ s ∧ Sep b w' (slO hopT 87 vh s.hops :: curO v n c 123 :: slO asnT 117 va A :: slO linkT 90 vl L :: os) ∧ Below b w w' := by
 have hA1 := T.1.1; have hA8 := T.1.2.1; have hL := T.len; have hK := T.lnk
 have hst : sz_topo (⟨A, L⟩ : Topo) ≤ 500000 := by simp only [sz_topo]; omega
 have X0 := Below.refl w.heap.size w; refine enter Tryz.func98 rfl Tryz.ntmps98 rfl ?_; have B := Below.refl b w; have Hb := S.base; refine w_h ?_; refine t_boxo S rfl rfl ?_ rfl rfl; intro g4 w15 x16 S; have B := bx Hb B x16; refine t_w S z_seg rfl ?_ rfl rfl; intro g6 w17 x18 S; have B := bx Hb B x18; refine t_k ?_; refine t_lit (T := intT) (css := []) (l := []) int_flat S bs_int0 rfl rfl rfl rfl (Nat.zero_le _) litR_nil ?_ rfl rfl; intro u18 w19 x20 S; have B := bx Hb B x20; refine t_a rfl ?_ rfl; refine t_e ?_; (iterate 2 refine w_s ?_); refine w_g ?_; refine t_a rfl ?_ rfl; refine t_e ?_; refine w_block ?_
 refine w_loop (X := Nat × List Int × Value) (fun x wq => (fun k q vq => k ≤ A.length ∧ (∀ x : Int, x ∈ q → 0 ≤ x ∧ x < A.length) ∧ q.length ≤ k ∧ Below b w wq ∧ Sep b wq (slO intT 3 vq q :: bxO g6 67 #[I 0, I 0, .slice none 0 0] :: bxO g4 27 #[va, vl] :: curO v n c 123 :: slO asnT 117 va A :: slO linkT 90 vl L :: os)) x.1 x.2.1 x.2.2) (fun x => (fun k q vq => [(8, I ((k : Int))), (7, vq), (0, .pointer (some ⟨c, 0, none⟩)), (2, I kd), (4, .pointer (some ⟨g4, 0, none⟩)), (6, .pointer (some ⟨g6, 0, none⟩))]) x.1 x.2.1 x.2.2) (fun x => (fun k q vq => A.length - k) x.1 x.2.1 x.2.2) (0, [], _) ?_ ⟨rfl, rfl, rfl, rfl, rfl, rfl, trivial⟩ ?_
 ·exact ⟨by omega, by simp, by simp, B, S⟩
 rintro ⟨k, q, vq⟩ w21 hI; (try dsimp only at hI ⊢); obtain ⟨hk, hq, hql, B, S⟩ := hI; (iterate 2 refine w_s ?_); refine w_g ?_; refine t_m rfl ?_ rfl; refine t_y fb_topo_0 rfl rfl ?_ rfl; refine t_bx1 S.tail.tail.box ab_s_asn rfl rfl ?_ rfl; refine t_len e_asn (S.t4.sl) rfl rfl ?_ rfl; refine t_lss rfl rfl ?_ rfl; refine t_e ?_; refine w_if rfl ?_ ?_
 ·intro hlt; refine w_k ?_; refine x_s ?_; refine w_s ?_; refine w_block ?_; refine w_h ?_; refine t_y fb_topo_0 rfl rfl ?_ rfl; refine t_bx1 S.tail.tail.box ab_s_asn rfl rfl ?_ rfl; refine t_m rfl ?_ rfl; obtain ⟨e29, he29⟩ : ∃ e, (A)[k]? = some e := getx (by omega); refine t_idx e_asn (k := k) (S.t4.sl) he29 (Below.refl _ _) rfl rfl (by first | rfl | omega) ?_ rfl; intro p29 hp29; refine t_fld ln_asn_1 ‹_› fb_asn_1 rfl ?_ rfl; intro p30 hp30; refine t_ldb ‹_› ab_bool (Below.refl _ _) rfl ?_ rfl; refine t_e ?_; refine w_ifb rfl ?_ ?_
  ·intro hc; refine w_g ?_; (iterate 2 refine t_m rfl ?_ rfl); refine t_lit (T := intT) (l := [(k : Int)]) (css := ([(k : Int)]).map fun a => [I a]) int_flat S (fun w => bs_int1 _ w) rfl rfl rfl rfl (by simp [maxLen]) (litR_int _) ?_ rfl rfl; intro u34 w22 x23 S; have B := bx Hb B x23; have hR := S.sl; have S := S.f1; refine t_cat int_flat e_int S hR rfl rfl rfl (by first | omega | (simp [-List.length_flatMap]; omega)) (by (simp [maxLen, -List.length_flatMap]; try omega)) ?_ rfl; intro v35 w24 x25 S; have B := B.trans x25; clear hR; have S := S.f1.tail; refine t_a rfl ?_ rfl; refine t_d ?_; refine x_b ?_; refine x_s ?_; refine w_g ?_; refine t_m rfl ?_ rfl; refine t_add rfl rfl (by omega) ?_ rfl; refine t_a rfl ?_ rfl; refine t_d ?_; refine x_r (X := Nat × List Int × Value) (k + 1, q ++ [(k : Int)], v35) ?_ (by exact ⟨rfl, rfl, rfl, rfl, rfl, rfl, trivial⟩) (by (try dsimp only); omega); (try dsimp only); refine ⟨by omega, fun x hx => ?_, by rw [List.length_append, List.length_singleton]; omega, B, S⟩; rw [List.mem_append, List.mem_singleton] at hx
   rcases hx with hx | rfl
   ·exact hq x hx
   ·omega
  ·intro hc; refine w_k ?_; refine x_b ?_; refine x_s ?_; refine w_g ?_; refine t_m rfl ?_ rfl; refine t_add rfl rfl (by omega) ?_ rfl; refine t_a rfl ?_ rfl; refine t_d ?_; refine x_r (X := Nat × List Int × Value) (k + 1, q, vq) ?_ (by exact ⟨rfl, rfl, rfl, rfl, rfl, rfl, trivial⟩) (by (try dsimp only); omega); (try dsimp only); exact ⟨by omega, hq, by omega, B, S⟩
 ·intro hge; refine w_exit ?_; (iterate 2 refine x_then_exit ?_); refine x_block_exit ?_; refine x_s ?_; refine w_h ?_; refine t_m rfl ?_ rfl; have S := S.f3; refine t_f Tryz.call68 rfl (spec_l1Below 50 S (K.below B)) ?_ rfl; rintro e w26 ⟨y37, rfl, hf37, S, x27⟩; refine ⟨_, rfl, ?_⟩; have B := B.trans x27; refine t_m rfl ?_ rfl; refine t_f Tryz.call68 rfl (spec_l1Below 1000000 S (K.below B)) ?_ rfl; rintro e w28 ⟨y39, rfl, hf39, S, x29⟩; refine ⟨_, rfl, ?_⟩; have B := B.trans x29; refine t_g (fun w => b_seg2 _ _ w) rfl ?_ rfl; refine t_w S z_seg rfl ?_ rfl rfl; intro g9 w30 x31 S; have B := bx Hb B x31; refine t_stn S sb_seg rfl rfl rfl rfl (by simp [Value.oneCell']) ?_; intro w32 b33 S; have B := B.trans b33; refine t_e ?_; (iterate 2 refine w_s ?_); refine w_g ?_; refine t_m rfl ?_ rfl; refine t_len e_int (S.tail.tail.sl) rfl rfl ?_ rfl; refine t_eql rfl rfl ?_ rfl; refine t_e ?_; refine w_if rfl ?_ ?_
  ·intro h0; refine w_h ?_; refine t_b S.box ab_seg sb_seg rfl rfl ?_ rfl; have S := S.f3; refine t_stn S sb_seg rfl rfl rfl rfl (by simp [Value.oneCell']) ?_; intro w34 b35 S; have B := B.trans b35; refine t_e ?_; refine w_r ?_; refine x_t ?_; refine x_retc rfl rfl S.box ab_seg sb_seg rfl ?_; have S := S.tail.tail.f1.tail.f1.tail.f2.f2.f2; have S := Sep.addNil (T := hopT) (e := 87) S; exact ⟨_, ⟨y37, y39, []⟩, rfl, SealK.nil.seg (by omega) (by omega) (by omega) (by omega) (by simp), S, B⟩
  ·intro h0; refine w_k ?_; refine x_s ?_; refine w_h ?_; (iterate 3 refine t_m rfl ?_ rfl); refine t_len e_int (S.tail.tail.sl) rfl rfl ?_ rfl; have S := S.f1; refine t_f Tryz.call68 rfl (spec_l1Below (q.length : Int) S (K.below B)) ?_ rfl; rintro e w36 ⟨y49, rfl, hf49, S, x37⟩; refine ⟨_, rfl, ?_⟩; have B := B.trans x37; obtain ⟨e50, he50⟩ : ∃ e, (q)[y49.toNat]? = some e := getx (by omega); refine t_idx e_int (k := y49.toNat) (S.tail.tail.sl) he50 (Below.refl _ _) rfl rfl (by first | rfl | omega) ?_ rfl; intro p50 hp50; refine t_ldi ‹_› ab_int (Below.refl _ _) rfl ?_ rfl; refine t_a rfl ?_ rfl; refine t_k ?_; refine t_a rfl ?_ rfl; refine t_e ?_; (iterate 2 refine w_s ?_); refine w_g ?_; refine t_a rfl ?_ rfl; refine t_e ?_; refine w_block ?_; have hr0 := hq e50 (List.mem_of_getElem? he50); clear hge hk h0; have S := Sep.addNil (T := hopT) (e := 87) S; have S := S.f7.f7.f3.f7.f7.f7.f7.f7
   refine w_loop (X := Nat × Int × Int × List Hop × Value) (fun x wq => (fun k r i hs vh => k ≤ 5 ∧ (0 ≤ r ∧ r < (A.length : Int)) ∧ (0 ≤ i ∧ i ≤ 6) ∧ List.length hs ≤ k ∧ SealK ⟨A, L⟩ y37 y39 hs ∧ Below b w wq ∧ Sep b wq (slO hopT 87 vh hs :: bxO g9 67 #[I y37, I y39, vh] :: slO intT 3 vq q :: bxO g6 67 #[I 0, I 0, .slice none 0 0] :: bxO g4 27 #[va, vl] :: curO v n c 123 :: slO asnT 117 va A :: slO linkT 90 vl L :: os)) x.1 x.2.1 x.2.2.1 x.2.2.2.1 x.2.2.2.2) (fun x => (fun k r i hs vh => [(12, I ((k : Int))), (10, I r), (11, I i), (0, .pointer (some ⟨c, 0, none⟩)), (2, I kd), (4, .pointer (some ⟨g4, 0, none⟩)), (6, .pointer (some ⟨g6, 0, none⟩)), (9, .pointer (some ⟨g9, 0, none⟩))]) x.1 x.2.1 x.2.2.1 x.2.2.2.1 x.2.2.2.2) (fun x => (fun k r i hs vh => 5 - k) x.1 x.2.1 x.2.2.1 x.2.2.2.1 x.2.2.2.2) (0, e50, 0, [], .slice none 0 0) ?_ ⟨rfl, rfl, rfl, rfl, rfl, rfl, rfl, rfl, trivial⟩ ?_
   ·exact ⟨by omega, hr0, by dsimp only; omega, by simp, .nil, B, S⟩
   rintro ⟨k, r, i, hs, vh⟩ w38 hI; (try dsimp only at hI ⊢); obtain ⟨hk, hr, hi, hhl, hS, B, S⟩ := hI; (iterate 2 refine w_s ?_); refine w_g ?_; refine t_m rfl ?_ rfl; refine t_lss rfl rfl ?_ rfl; refine t_e ?_; refine w_if rfl ?_ ?_
   ·intro hlt; have hsl : (⟨y37, y39, hs⟩ : Seg).hops.length ≤ 5 := (show hs.length ≤ 5 by omega); refine w_k ?_; refine x_s ?_; refine w_s ?_; refine w_block ?_; refine w_h ?_; refine t_a rfl ?_ rfl; refine t_k ?_; refine t_b S.t4.box ab_topo sb_topo rfl rfl ?_ rfl; (iterate 2 refine t_m rfl ?_ rfl); refine t_c Tryz.call139 rfl (spec_InterfacesOfKind _ _ _ _ _ (topo_mkv (S.t4.tail.tail.sl) (S.t4.tail.tail.tail.sl)) ‹_›) ?_ rfl rfl; rintro e w39 ⟨v59, fpv59, rfl, hOv59, x40⟩; refine ⟨_, rfl, x40, ?_⟩; have S := S.add (o := slO _ _ _ _) x40 hOv59; have B := bx Hb B x40; refine t_a rfl ?_ rfl; refine t_e ?_; refine w_s ?_; refine w_cut (X := Int) (fun o wq => (o = 0 ∨ o ∈ ifsK ⟨A, L⟩ r kd) ∧ Below b w wq ∧ Sep b wq (slO intT 3 v59 (ifsK ⟨A, L⟩ r kd) :: slO hopT 87 vh hs :: bxO g9 67 #[I y37, I y39, vh] :: slO intT 3 vq q :: bxO g6 67 #[I 0, I 0, .slice none 0 0] :: bxO g4 27 #[va, vl] :: curO v n c 123 :: slO asnT 117 va A :: slO linkT 90 vl L :: os)) (fun o => [(13, I o), (12, I ((k : Int))), (10, I r), (11, I i), (0, .pointer (some ⟨c, 0, none⟩)), (2, I kd), (4, .pointer (some ⟨g4, 0, none⟩)), (6, .pointer (some ⟨g6, 0, none⟩)), (9, .pointer (some ⟨g9, 0, none⟩))]) ?_ ?_
    ·refine w_s ?_; refine w_g ?_; refine t_m rfl ?_ rfl; refine t_len e_int (S.sl) rfl rfl ?_ rfl; refine t_gtr rfl rfl ?_ rfl; refine t_m rfl ?_ rfl; refine t_partp (t := 63) rfl ?_ ?_
     ·intro hp1; refine t_on rfl rfl ?_; refine t_m rfl ?_ rfl; refine t_on rfl rfl ?_; have S := S.f6; refine t_f Tryz.call70 rfl (spec_l1Once 5 S (K.below B)) ?_ rfl; rintro e w41 ⟨y65, rfl, hf65, S, x42⟩; refine ⟨_, rfl, ?_⟩; have B := B.trans x42; refine t_on rfl rfl ?_; refine t_not rfl ?_ rfl; refine t_q rfl rfl ?_ rfl; refine t_e ?_; refine w_if rfl ?_ ?_
      ·intro ho; refine w_g ?_; (iterate 3 refine t_m rfl ?_ rfl); refine t_len e_int (S.tail.sl) rfl rfl ?_ rfl; refine t_f Tryz.call68 rfl (spec_l1Below ((((ifsK (⟨A, L⟩ : Topo) r kd)).length : Int)) S (K.below B)) ?_ rfl; rintro e w43 ⟨y72, rfl, hf72, S, x44⟩; refine ⟨_, rfl, ?_⟩; have B := B.trans x44; obtain ⟨e73, he73⟩ : ∃ e, ((ifsK (⟨A, L⟩ : Topo) r kd))[y72.toNat]? = some e := getx (by omega); refine t_idx e_int (k := y72.toNat) (S.tail.sl) he73 (Below.refl _ _) rfl rfl (by first | rfl | omega) ?_ rfl; intro p73 hp73; refine t_ldi ‹_› ab_int (Below.refl _ _) rfl ?_ rfl; refine t_a rfl ?_ rfl; refine t_d ?_; have S := S.f8.f8.f2.f8.f8.f8.f8.f8.f8; refine x_cut (X := Int) (e73) ?_ ?_; rotate_left
       ·exact ⟨rfl, rfl, rfl, rfl, rfl, rfl, rfl, rfl, rfl, trivial⟩
       (try dsimp only); exact ⟨.inr (List.mem_of_getElem? he73), B, S⟩
      ·intro ho; refine w_k ?_; have S := S.f8.f8.f2.f8.f8.f8.f8.f8.f8; refine x_cut (X := Int) (0) ?_ ?_; rotate_left
       ·exact ⟨rfl, rfl, rfl, rfl, rfl, rfl, rfl, rfl, rfl, trivial⟩
       (try dsimp only); exact ⟨.inl rfl, B, S⟩
     ·intro hp1; (iterate 3 refine t_off rfl rfl rfl ?_ rfl); refine t_p rfl rfl ?_ rfl; refine t_e ?_; refine w_no rfl ?_; refine w_k ?_; refine x_cut (X := Int) (0) ?_ ?_; rotate_left
      ·exact ⟨rfl, rfl, rfl, rfl, rfl, rfl, rfl, rfl, rfl, trivial⟩
      (try dsimp only); exact ⟨.inl rfl, B, S⟩
    rintro o w45 hI; (try dsimp only at hI ⊢); obtain ⟨ho, B, S⟩ := hI
    have hor : 0 ≤ o ∧ o ≤ 6 := by
     rcases ho with rfl | ho
     ·omega
     ·have := (ifsK_in hK ho).2; omega
    have hrem : o ≠ 0 → (0 ≤ (remote ⟨A, L⟩ r o).1 ∧ (remote ⟨A, L⟩ r o).1 < A.length) ∧ 1 ≤ (remote ⟨A, L⟩ r o).2 ∧ (remote ⟨A, L⟩ r o).2 ≤ 6 := fun hz => by
     rcases ho with rfl | ho
     ·omega
     ·exact remote_in hK (ifsK_in hK ho).1
    refine w_h ?_; refine t_b S.t4.tail.box ab_topo sb_topo rfl rfl ?_ rfl; (iterate 2 refine t_m rfl ?_ rfl); refine t_x Tryz.call140 rfl (spec_RemoteEnd (⟨A, L⟩ : Topo) _ _ _ _ (topo_mkv (S.t4.tail.tail.tail.sl) (S.t4.t4.sl)) (by omega)) ?_ rfl rfl; intro w46 x47; have B := bx Hb B x47; have S := S.below x47; refine t_m rfl ?_ rfl; (iterate 2 refine t_extract rfl rfl ?_ rfl); (iterate 2 refine t_a rfl ?_ rfl); refine t_e ?_; refine w_s ?_; refine w_cut (X := Int) (fun z wq => (z = 0 ∨ z = o) ∧ i ≠ z ∧ Below b w wq ∧ Sep b wq (slO hopT 87 vh hs :: bxO g9 67 #[I y37, I y39, vh] :: slO intT 3 vq q :: bxO g6 67 #[I 0, I 0, .slice none 0 0] :: bxO g4 27 #[va, vl] :: curO v n c 123 :: slO asnT 117 va A :: slO linkT 90 vl L :: os)) (fun z => [(13, I z), (12, I ((k : Int))), (10, I r), (11, I i), (0, .pointer (some ⟨c, 0, none⟩)), (2, I kd), (4, .pointer (some ⟨g4, 0, none⟩)), (6, .pointer (some ⟨g6, 0, none⟩)), (9, .pointer (some ⟨g9, 0, none⟩)), (15, I ((remote (⟨A, L⟩ : Topo) r o).1)), (16, I ((remote (⟨A, L⟩ : Topo) r o).2))]) ?_ ?_
    ·refine w_s ?_; refine w_g ?_; refine t_m rfl ?_ rfl; refine t_neq rfl rfl ?_ rfl; refine t_m rfl ?_ rfl; refine t_partp (t := 84) rfl ?_ ?_
     ·intro hc1; refine t_on rfl rfl ?_; refine t_b S.tail.tail.box ab_seg sb_seg rfl rfl ?_ rfl; refine t_on rfl rfl ?_; refine t_c Tryz.call141 rfl (spec_SegmentASes (⟨y37, y39, hs⟩ : Seg) _ _ (seg_mkv (x := (⟨y37, y39, hs⟩ : Seg)) (S.tail.sl)) (by (try dsimp only); omega)) ?_ rfl rfl; rintro e w48 ⟨v86, fpv86, rfl, hOv86, x49⟩; refine ⟨_, rfl, x49, ?_⟩; have S := S.add (o := slO _ _ _ _) x49 hOv86; have B := bx Hb B x49; refine t_on rfl rfl ?_; refine t_m rfl ?_ rfl; refine t_on rfl rfl ?_; refine t_calls Tryz.call82 rfl (spec_l9Has _ _ _ _ (S.sl) (by (try rw [List.length_take]); (try rw [List.length_map]); omega)) ?_ rfl rfl; refine t_on rfl rfl ?_; refine t_m rfl ?_ rfl; refine t_part (t := 89) rfl ?_ ?_
      ·intro hc2; (iterate 3 refine t_off rfl rfl rfl ?_ rfl); refine t_on rfl rfl ?_; (iterate 2 refine t_q rfl rfl ?_ rfl); refine t_m rfl ?_ rfl; (iterate 3 refine t_off rfl rfl rfl ?_ rfl); refine t_q rfl rfl ?_ rfl; refine t_e ?_; refine w_yes rfl ?_; (iterate 2 refine w_s ?_); refine w_g ?_; refine t_m rfl ?_ rfl; refine t_eql rfl rfl ?_ rfl; refine t_e ?_; refine w_if rfl ?_ ?_
       ·intro hc3; refine w_h ?_; refine t_b S.tail.tail.tail.box ab_seg sb_seg rfl rfl ?_ rfl; have S := S.f5; refine t_stn S sb_seg rfl rfl rfl rfl (by repeat first | exact oc0 | refine oc rfl ?_ | refine oc (SlR.cells (S.tail.tail.tail.sl)).2 ?_) ?_; intro w50 b51 S; have B := B.trans b51; refine t_e ?_; refine w_r ?_; (iterate 2 refine x_t ?_); refine x_block_ret ?_; (iterate 2 refine x_t ?_); refine x_block_ret ?_; refine x_t ?_; refine x_retc rfl rfl S.box ab_seg sb_seg rfl ?_; have S := S.tail.tail.tail.f1.tail.f1.tail.f1.tail.f3.f3.f3.f3; exact ⟨_, ⟨y37, y39, hs⟩, rfl, hS.seg (by omega) (by omega) (by omega) (by omega) (by omega), S, B⟩
       ·intro hc4; refine w_k ?_; refine x_s ?_; refine w_g ?_; refine t_a rfl ?_ rfl; refine t_d ?_; have S := S.tail.tail; refine x_cut (X := Int) (0) ?_ ?_; rotate_left
        ·exact ⟨rfl, rfl, rfl, rfl, rfl, rfl, rfl, rfl, rfl, rfl, rfl, trivial⟩
        (try dsimp only); exact ⟨by omega, by omega, B, S⟩
      ·intro hc5; refine t_on rfl rfl ?_; refine t_m rfl ?_ rfl; refine t_on rfl rfl ?_; refine t_m rfl ?_ rfl; refine t_on rfl rfl ?_; refine t_eql rfl rfl ?_ rfl; refine t_on rfl rfl ?_; refine t_p rfl rfl ?_ rfl; refine t_q rfl rfl ?_ rfl; refine t_m rfl ?_ rfl; refine t_partp (t := 95) rfl ?_ ?_
       ·intro hc6; (iterate 3 refine t_off rfl rfl rfl ?_ rfl); refine t_q rfl rfl ?_ rfl; refine t_e ?_; refine w_yes rfl ?_; (iterate 2 refine w_s ?_); refine w_g ?_; refine t_m rfl ?_ rfl; refine t_eql rfl rfl ?_ rfl; refine t_e ?_; refine w_if rfl ?_ ?_
        ·intro hc7; refine w_h ?_; refine t_b S.tail.tail.tail.box ab_seg sb_seg rfl rfl ?_ rfl; have S := S.f5; refine t_stn S sb_seg rfl rfl rfl rfl (by repeat first | exact oc0 | refine oc rfl ?_ | refine oc (SlR.cells (S.tail.tail.tail.sl)).2 ?_) ?_; intro w52 b53 S; have B := B.trans b53; refine t_e ?_; refine w_r ?_; (iterate 2 refine x_t ?_); refine x_block_ret ?_; (iterate 2 refine x_t ?_); refine x_block_ret ?_; refine x_t ?_; refine x_retc rfl rfl S.box ab_seg sb_seg rfl ?_; have S := S.tail.tail.tail.f1.tail.f1.tail.f1.tail.f3.f3.f3.f3; exact ⟨_, ⟨y37, y39, hs⟩, rfl, hS.seg (by omega) (by omega) (by omega) (by omega) (by omega), S, B⟩
        ·intro hc8; refine w_k ?_; refine x_s ?_; refine w_g ?_; refine t_a rfl ?_ rfl; refine t_d ?_; have S := S.tail.tail; refine x_cut (X := Int) (0) ?_ ?_; rotate_left
         ·exact ⟨rfl, rfl, rfl, rfl, rfl, rfl, rfl, rfl, rfl, rfl, rfl, trivial⟩
         (try dsimp only); exact ⟨by omega, by omega, B, S⟩
       ·intro hc9; refine t_on rfl rfl ?_; refine t_m rfl ?_ rfl; refine t_on rfl rfl ?_; refine t_m rfl ?_ rfl; refine t_on rfl rfl ?_; refine t_eql rfl rfl ?_ rfl; refine t_p rfl rfl ?_ rfl; refine t_e ?_; refine w_if rfl ?_ ?_
        ·intro hc10; (iterate 2 refine w_s ?_); refine w_g ?_; refine t_m rfl ?_ rfl; refine t_eql rfl rfl ?_ rfl; refine t_e ?_; refine w_if rfl ?_ ?_
         ·intro hc11; refine w_h ?_; refine t_b S.tail.tail.tail.box ab_seg sb_seg rfl rfl ?_ rfl; have S := S.f5; refine t_stn S sb_seg rfl rfl rfl rfl (by repeat first | exact oc0 | refine oc rfl ?_ | refine oc (SlR.cells (S.tail.tail.tail.sl)).2 ?_) ?_; intro w54 b55 S; have B := B.trans b55; refine t_e ?_; refine w_r ?_; (iterate 2 refine x_t ?_); refine x_block_ret ?_; (iterate 2 refine x_t ?_); refine x_block_ret ?_; refine x_t ?_; refine x_retc rfl rfl S.box ab_seg sb_seg rfl ?_; have S := S.tail.tail.tail.f1.tail.f1.tail.f1.tail.f3.f3.f3.f3; exact ⟨_, ⟨y37, y39, hs⟩, rfl, hS.seg (by omega) (by omega) (by omega) (by omega) (by omega), S, B⟩
         ·intro hc12; refine w_k ?_; refine x_s ?_; refine w_g ?_; refine t_a rfl ?_ rfl; refine t_d ?_; have S := S.tail.tail; refine x_cut (X := Int) (0) ?_ ?_; rotate_left
          ·exact ⟨rfl, rfl, rfl, rfl, rfl, rfl, rfl, rfl, rfl, rfl, rfl, trivial⟩
          (try dsimp only); exact ⟨by omega, by omega, B, S⟩
        ·intro hc13; refine w_k ?_; have S := S.tail.tail; refine x_cut (X := Int) (o) ?_ ?_; rotate_left
         ·exact ⟨rfl, rfl, rfl, rfl, rfl, rfl, rfl, rfl, rfl, rfl, rfl, trivial⟩
         (try dsimp only); exact ⟨by omega, by omega, B, S⟩
     ·intro hc14; (iterate 5 refine t_off rfl rfl rfl ?_ rfl); (iterate 3 refine t_offu rfl rfl ?_ rfl); refine t_off rfl rfl rfl ?_ rfl; refine t_p rfl rfl ?_ rfl; refine t_m rfl ?_ rfl; refine t_on rfl rfl ?_; refine t_m rfl ?_ rfl; refine t_on rfl rfl ?_; refine t_m rfl ?_ rfl; refine t_on rfl rfl ?_; refine t_eql rfl rfl ?_ rfl; refine t_p rfl rfl ?_ rfl; refine t_e ?_; refine w_if rfl ?_ ?_
      ·intro hc15; (iterate 2 refine w_s ?_); refine w_g ?_; refine t_m rfl ?_ rfl; refine t_eql rfl rfl ?_ rfl; refine t_e ?_; refine w_if rfl ?_ ?_
       ·intro hc16; refine w_h ?_; refine t_b S.tail.tail.box ab_seg sb_seg rfl rfl ?_ rfl; have S := S.f4; refine t_stn S sb_seg rfl rfl rfl rfl (by repeat first | exact oc0 | refine oc rfl ?_ | refine oc (SlR.cells (S.tail.tail.sl)).2 ?_) ?_; intro w56 b57 S; have B := B.trans b57; refine t_e ?_; refine w_r ?_; (iterate 2 refine x_t ?_); refine x_block_ret ?_; (iterate 2 refine x_t ?_); refine x_block_ret ?_; refine x_t ?_; refine x_retc rfl rfl S.box ab_seg sb_seg rfl ?_; have S := S.tail.tail.f1.tail.f1.tail.f1.tail.f3.f3.f3.f3; exact ⟨_, ⟨y37, y39, hs⟩, rfl, hS.seg (by omega) (by omega) (by omega) (by omega) (by omega), S, B⟩
       ·intro hc17; refine w_k ?_; refine x_s ?_; refine w_g ?_; refine t_a rfl ?_ rfl; refine t_d ?_; have S := S.tail; refine x_cut (X := Int) (0) ?_ ?_; rotate_left
        ·exact ⟨rfl, rfl, rfl, rfl, rfl, rfl, rfl, rfl, rfl, rfl, rfl, trivial⟩
        (try dsimp only); exact ⟨by omega, by omega, B, S⟩
      ·intro hc18; refine w_k ?_; have S := S.tail; refine x_cut (X := Int) (o) ?_ ?_; rotate_left
       ·exact ⟨rfl, rfl, rfl, rfl, rfl, rfl, rfl, rfl, rfl, rfl, rfl, trivial⟩
       (try dsimp only); exact ⟨by omega, by omega, B, S⟩
    rintro z w58 hI; (try dsimp only at hI ⊢); obtain ⟨hz, hiz, B, S⟩ := hI
    have hzr : 0 ≤ z ∧ z ≤ 6 := by omega
    refine w_s ?_; refine w_cut (X := Int × Nat) (fun x wq => (fun x g => (0 ≤ x ∧ x ≤ 1000) ∧ Below b w wq ∧ Sep b wq (bxO g 87 #[I r, I i, I z, I x, I 0] :: slO hopT 87 vh hs :: bxO g9 67 #[I y37, I y39, vh] :: slO intT 3 vq q :: bxO g6 67 #[I 0, I 0, .slice none 0 0] :: bxO g4 27 #[va, vl] :: curO v n c 123 :: slO asnT 117 va A :: slO linkT 90 vl L :: os)) x.1 x.2) (fun x => (fun x g => [(17, .pointer (some ⟨g, 0, none⟩)), (13, I z), (12, I ((k : Int))), (10, I r), (11, I i), (0, .pointer (some ⟨c, 0, none⟩)), (2, I kd), (4, .pointer (some ⟨g4, 0, none⟩)), (6, .pointer (some ⟨g6, 0, none⟩)), (9, .pointer (some ⟨g9, 0, none⟩)), (15, I ((remote (⟨A, L⟩ : Topo) r o).1)), (16, I ((remote (⟨A, L⟩ : Topo) r o).2))]) x.1 x.2) ?_ ?_
    ·refine w_drawP [0, 1, 2, 3, 6] (.alt (.st .fin 4 (.alt (.st .fin 5 (.alt (.st .fin 7 (.alt (.st .fin 8 (.alt (.st .fin 9 (.st .fin 10 (.st .fin 11 .done))) (.st .fin 10 (.st .fin 9 (.st .fin 11 .done))))) (.st .fin 10 (.st .fin 8 (.st .fin 9 (.st .fin 11 .done)))))) (.st .fin 10 (.st .fin 7 (.st .fin 8 (.st .fin 9 (.st .fin 11 .done))))))) (.alt (.st .fin 7 (.alt (.st .fin 5 (.alt (.st .fin 8 (.alt (.st .fin 9 (.st .fin 10 (.st .fin 11 .done))) (.st .fin 10 (.st .fin 9 (.st .fin 11 .done))))) (.st .fin 10 (.st .fin 8 (.st .fin 9 (.st .fin 11 .done)))))) (.st .fin 10 (.st .fin 5 (.st .fin 8 (.st .fin 9 (.st .fin 11 .done))))))) (.st .fin 10 (.alt (.st .fin 5 (.st .fin 7 (.st .fin 8 (.st .fin 9 (.st .fin 11 .done))))) (.st .fin 7 (.st .fin 5 (.st .fin 8 (.st .fin 9 (.st .fin 11 .done)))))))))) (.alt (.st .fin 7 (.alt (.st .fin 4 (.alt (.st .fin 5 (.alt (.st .fin 8 (.alt (.st .fin 9 (.st .fin 10 (.st .fin 11 .done))) (.st .fin 10 (.st .fin 9 (.st .fin 11 .done))))) (.st .fin 10 (.st .fin 8 (.st .fin 9 (.st .fin 11 .done)))))) (.st .fin 10 (.st .fin 5 (.st .fin 8 (.st .fin 9 (.st .fin 11 .done))))))) (.st .fin 10 (.st .fin 4 (.st .fin 5 (.st .fin 8 (.st .fin 9 (.st .fin 11 .done)))))))) (.st .fin 10 (.alt (.st .fin 4 (.alt (.st .fin 5 (.st .fin 7 (.st .fin 8 (.st .fin 9 (.st .fin 11 .done))))) (.st .fin 7 (.st .fin 5 (.st .fin 8 (.st .fin 9 (.st .fin 11 .done))))))) (.st .fin 7 (.st .fin 4 (.st .fin 5 (.st .fin 8 (.st .fin 9 (.st .fin 11 .done)))))))))) mixed (by kernel_rfl) ?_
     intro w59 x60; have B := bx Hb B x60; have S := S.below x60; (iterate 3 refine p_move rfl ?_ rfl); refine p_fldx fb_seg_0 rfl rfl ?_ rfl; refine p_move rfl ?_ rfl; refine p_done ?_; refine t_alt ?_ (t_alt ?_ ?_)
     ·refine t_bx1 S.tail.box ab_int rfl rfl ?_ rfl; refine t_alt ?_ (t_alt ?_ ?_)
      ·refine t_add rfl rfl (by omega) ?_ rfl; refine t_alt ?_ ?_
       ·have S := S.f5; refine t_f Tryz.call68 rfl (spec_l1Below 50 S (K.below B)) ?_ rfl; rintro e w61 ⟨y110, rfl, hf110, S, x62⟩; refine ⟨_, rfl, ?_⟩; have B := B.trans x62; refine t_alt ?_ ?_
        ·refine t_add rfl rfl (by omega) ?_ rfl; refine t_alt ?_ ?_
         ·refine t_g (fun w => b_hop4 _ _ _ _ w) rfl ?_ rfl; refine t_w S z_hop rfl ?_ rfl rfl; intro g17 w63 x64 S; have B := bx Hb B x64; refine t_stn S sb_hop rfl rfl rfl rfl (by repeat first | exact oc0 | refine oc rfl ?_) ?_; intro w65 b66 S; have B := B.trans b66; refine t_d' ?_; have S := S.f8.f8.f3.f8.f8.f8.f8.f8.f8; refine x_cut (X := Int × Nat) ((y37 + 50) + y110, g17) ?_ ?_; rotate_left
          ·exact ⟨rfl, rfl, rfl, rfl, rfl, rfl, rfl, rfl, rfl, rfl, rfl, rfl, trivial⟩
          (try dsimp only); exact ⟨by omega, B, S⟩
         ·refine t_w S z_hop rfl ?_ rfl rfl; intro g17 w67 x68 S; have B := bx Hb B x68; refine t_g (fun w => b_hop4 _ _ _ _ w) rfl ?_ rfl; refine t_stn S sb_hop rfl rfl rfl rfl (by repeat first | exact oc0 | refine oc rfl ?_) ?_; intro w69 b70 S; have B := B.trans b70; refine t_d' ?_; have S := S.f8.f8.f3.f8.f8.f8.f8.f8.f8; refine x_cut (X := Int × Nat) ((y37 + 50) + y110, g17) ?_ ?_; rotate_left
          ·exact ⟨rfl, rfl, rfl, rfl, rfl, rfl, rfl, rfl, rfl, rfl, rfl, rfl, trivial⟩
          (try dsimp only); exact ⟨by omega, B, S⟩
        ·refine t_w S z_hop rfl ?_ rfl rfl; intro g17 w71 x72 S; have B := bx Hb B x72; refine t_add rfl rfl (by omega) ?_ rfl; refine t_g (fun w => b_hop4 _ _ _ _ w) rfl ?_ rfl; refine t_stn S sb_hop rfl rfl rfl rfl (by repeat first | exact oc0 | refine oc rfl ?_) ?_; intro w73 b74 S; have B := B.trans b74; refine t_d' ?_; have S := S.f8.f8.f3.f8.f8.f8.f8.f8.f8; refine x_cut (X := Int × Nat) ((y37 + 50) + y110, g17) ?_ ?_; rotate_left
         ·exact ⟨rfl, rfl, rfl, rfl, rfl, rfl, rfl, rfl, rfl, rfl, rfl, rfl, trivial⟩
         (try dsimp only); exact ⟨by omega, B, S⟩
       ·refine t_w S z_hop rfl ?_ rfl rfl; intro g17 w75 x76 S; have B := bx Hb B x76; have S := S.f6; refine t_f Tryz.call68 rfl (spec_l1Below 50 S (K.below B)) ?_ rfl; rintro e w77 ⟨y110, rfl, hf110, S, x78⟩; refine ⟨_, rfl, ?_⟩; have B := B.trans x78; refine t_add rfl rfl (by omega) ?_ rfl; refine t_g (fun w => b_hop4 _ _ _ _ w) rfl ?_ rfl; have S := S.f1; refine t_stn S sb_hop rfl rfl rfl rfl (by repeat first | exact oc0 | refine oc rfl ?_) ?_; intro w79 b80 S; have B := B.trans b80; refine t_d' ?_; have S := S.f8.f8.f3.f8.f8.f8.f8.f8.f8; refine x_cut (X := Int × Nat) ((y37 + 50) + y110, g17) ?_ ?_; rotate_left
        ·exact ⟨rfl, rfl, rfl, rfl, rfl, rfl, rfl, rfl, rfl, rfl, rfl, rfl, trivial⟩
        (try dsimp only); exact ⟨by omega, B, S⟩
      ·have S := S.f5; refine t_f Tryz.call68 rfl (spec_l1Below 50 S (K.below B)) ?_ rfl; rintro e w81 ⟨y110, rfl, hf110, S, x82⟩; refine ⟨_, rfl, ?_⟩; have B := B.trans x82; refine t_alt ?_ ?_
       ·refine t_add rfl rfl (by omega) ?_ rfl; refine t_alt ?_ ?_
        ·refine t_add rfl rfl (by omega) ?_ rfl; refine t_alt ?_ ?_
         ·refine t_g (fun w => b_hop4 _ _ _ _ w) rfl ?_ rfl; refine t_w S z_hop rfl ?_ rfl rfl; intro g17 w83 x84 S; have B := bx Hb B x84; refine t_stn S sb_hop rfl rfl rfl rfl (by repeat first | exact oc0 | refine oc rfl ?_) ?_; intro w85 b86 S; have B := B.trans b86; refine t_d' ?_; have S := S.f8.f8.f3.f8.f8.f8.f8.f8.f8; refine x_cut (X := Int × Nat) ((y37 + 50) + y110, g17) ?_ ?_; rotate_left
          ·exact ⟨rfl, rfl, rfl, rfl, rfl, rfl, rfl, rfl, rfl, rfl, rfl, rfl, trivial⟩
          (try dsimp only); exact ⟨by omega, B, S⟩
         ·refine t_w S z_hop rfl ?_ rfl rfl; intro g17 w87 x88 S; have B := bx Hb B x88; refine t_g (fun w => b_hop4 _ _ _ _ w) rfl ?_ rfl; refine t_stn S sb_hop rfl rfl rfl rfl (by repeat first | exact oc0 | refine oc rfl ?_) ?_; intro w89 b90 S; have B := B.trans b90; refine t_d' ?_; have S := S.f8.f8.f3.f8.f8.f8.f8.f8.f8; refine x_cut (X := Int × Nat) ((y37 + 50) + y110, g17) ?_ ?_; rotate_left
          ·exact ⟨rfl, rfl, rfl, rfl, rfl, rfl, rfl, rfl, rfl, rfl, rfl, rfl, trivial⟩
          (try dsimp only); exact ⟨by omega, B, S⟩
        ·refine t_w S z_hop rfl ?_ rfl rfl; intro g17 w91 x92 S; have B := bx Hb B x92; refine t_add rfl rfl (by omega) ?_ rfl; refine t_g (fun w => b_hop4 _ _ _ _ w) rfl ?_ rfl; refine t_stn S sb_hop rfl rfl rfl rfl (by repeat first | exact oc0 | refine oc rfl ?_) ?_; intro w93 b94 S; have B := B.trans b94; refine t_d' ?_; have S := S.f8.f8.f3.f8.f8.f8.f8.f8.f8; refine x_cut (X := Int × Nat) ((y37 + 50) + y110, g17) ?_ ?_; rotate_left
         ·exact ⟨rfl, rfl, rfl, rfl, rfl, rfl, rfl, rfl, rfl, rfl, rfl, rfl, trivial⟩
         (try dsimp only); exact ⟨by omega, B, S⟩
       ·refine t_w S z_hop rfl ?_ rfl rfl; intro g17 w95 x96 S; have B := bx Hb B x96; refine t_add rfl rfl (by omega) ?_ rfl; refine t_add rfl rfl (by omega) ?_ rfl; refine t_g (fun w => b_hop4 _ _ _ _ w) rfl ?_ rfl; refine t_stn S sb_hop rfl rfl rfl rfl (by repeat first | exact oc0 | refine oc rfl ?_) ?_; intro w97 b98 S; have B := B.trans b98; refine t_d' ?_; have S := S.f8.f8.f3.f8.f8.f8.f8.f8.f8; refine x_cut (X := Int × Nat) ((y37 + 50) + y110, g17) ?_ ?_; rotate_left
        ·exact ⟨rfl, rfl, rfl, rfl, rfl, rfl, rfl, rfl, rfl, rfl, rfl, rfl, trivial⟩
        (try dsimp only); exact ⟨by omega, B, S⟩
      ·refine t_w S z_hop rfl ?_ rfl rfl; intro g17 w99 x100 S; have B := bx Hb B x100; refine t_alt ?_ ?_
       ·refine t_add rfl rfl (by omega) ?_ rfl; have S := S.f6; refine t_f Tryz.call68 rfl (spec_l1Below 50 S (K.below B)) ?_ rfl; rintro e w101 ⟨y110, rfl, hf110, S, x102⟩; refine ⟨_, rfl, ?_⟩; have B := B.trans x102; refine t_add rfl rfl (by omega) ?_ rfl; refine t_g (fun w => b_hop4 _ _ _ _ w) rfl ?_ rfl; have S := S.f1; refine t_stn S sb_hop rfl rfl rfl rfl (by repeat first | exact oc0 | refine oc rfl ?_) ?_; intro w103 b104 S; have B := B.trans b104; refine t_d' ?_; have S := S.f8.f8.f3.f8.f8.f8.f8.f8.f8; refine x_cut (X := Int × Nat) ((y37 + 50) + y110, g17) ?_ ?_; rotate_left
        ·exact ⟨rfl, rfl, rfl, rfl, rfl, rfl, rfl, rfl, rfl, rfl, rfl, rfl, trivial⟩
        (try dsimp only); exact ⟨by omega, B, S⟩
       ·have S := S.f6; refine t_f Tryz.call68 rfl (spec_l1Below 50 S (K.below B)) ?_ rfl; rintro e w105 ⟨y110, rfl, hf110, S, x106⟩; refine ⟨_, rfl, ?_⟩; have B := B.trans x106; refine t_add rfl rfl (by omega) ?_ rfl; refine t_add rfl rfl (by omega) ?_ rfl; refine t_g (fun w => b_hop4 _ _ _ _ w) rfl ?_ rfl; have S := S.f1; refine t_stn S sb_hop rfl rfl rfl rfl (by repeat first | exact oc0 | refine oc rfl ?_) ?_; intro w107 b108 S; have B := B.trans b108; refine t_d' ?_; have S := S.f8.f8.f3.f8.f8.f8.f8.f8.f8; refine x_cut (X := Int × Nat) ((y37 + 50) + y110, g17) ?_ ?_; rotate_left
        ·exact ⟨rfl, rfl, rfl, rfl, rfl, rfl, rfl, rfl, rfl, rfl, rfl, rfl, trivial⟩
        (try dsimp only); exact ⟨by omega, B, S⟩
     ·have S := S.f5; refine t_f Tryz.call68 rfl (spec_l1Below 50 S (K.below B)) ?_ rfl; rintro e w109 ⟨y110, rfl, hf110, S, x110⟩; refine ⟨_, rfl, ?_⟩; have B := B.trans x110; refine t_alt ?_ ?_
      ·refine t_bx1 S.tail.tail.box ab_int rfl rfl ?_ rfl; refine t_alt ?_ ?_
       ·refine t_add rfl rfl (by omega) ?_ rfl; refine t_alt ?_ ?_
        ·refine t_add rfl rfl (by omega) ?_ rfl; refine t_alt ?_ ?_
         ·refine t_g (fun w => b_hop4 _ _ _ _ w) rfl ?_ rfl; refine t_w S z_hop rfl ?_ rfl rfl; intro g17 w111 x112 S; have B := bx Hb B x112; refine t_stn S sb_hop rfl rfl rfl rfl (by repeat first | exact oc0 | refine oc rfl ?_) ?_; intro w113 b114 S; have B := B.trans b114; refine t_d' ?_; have S := S.f8.f8.f3.f8.f8.f8.f8.f8.f8; refine x_cut (X := Int × Nat) ((y37 + 50) + y110, g17) ?_ ?_; rotate_left
          ·exact ⟨rfl, rfl, rfl, rfl, rfl, rfl, rfl, rfl, rfl, rfl, rfl, rfl, trivial⟩
          (try dsimp only); exact ⟨by omega, B, S⟩
         ·refine t_w S z_hop rfl ?_ rfl rfl; intro g17 w115 x116 S; have B := bx Hb B x116; refine t_g (fun w => b_hop4 _ _ _ _ w) rfl ?_ rfl; refine t_stn S sb_hop rfl rfl rfl rfl (by repeat first | exact oc0 | refine oc rfl ?_) ?_; intro w117 b118 S; have B := B.trans b118; refine t_d' ?_; have S := S.f8.f8.f3.f8.f8.f8.f8.f8.f8; refine x_cut (X := Int × Nat) ((y37 + 50) + y110, g17) ?_ ?_; rotate_left
          ·exact ⟨rfl, rfl, rfl, rfl, rfl, rfl, rfl, rfl, rfl, rfl, rfl, rfl, trivial⟩
          (try dsimp only); exact ⟨by omega, B, S⟩
        ·refine t_w S z_hop rfl ?_ rfl rfl; intro g17 w119 x120 S; have B := bx Hb B x120; refine t_add rfl rfl (by omega) ?_ rfl; refine t_g (fun w => b_hop4 _ _ _ _ w) rfl ?_ rfl; refine t_stn S sb_hop rfl rfl rfl rfl (by repeat first | exact oc0 | refine oc rfl ?_) ?_; intro w121 b122 S; have B := B.trans b122; refine t_d' ?_; have S := S.f8.f8.f3.f8.f8.f8.f8.f8.f8; refine x_cut (X := Int × Nat) ((y37 + 50) + y110, g17) ?_ ?_; rotate_left
         ·exact ⟨rfl, rfl, rfl, rfl, rfl, rfl, rfl, rfl, rfl, rfl, rfl, rfl, trivial⟩
         (try dsimp only); exact ⟨by omega, B, S⟩
       ·refine t_w S z_hop rfl ?_ rfl rfl; intro g17 w123 x124 S; have B := bx Hb B x124; refine t_add rfl rfl (by omega) ?_ rfl; refine t_add rfl rfl (by omega) ?_ rfl; refine t_g (fun w => b_hop4 _ _ _ _ w) rfl ?_ rfl; refine t_stn S sb_hop rfl rfl rfl rfl (by repeat first | exact oc0 | refine oc rfl ?_) ?_; intro w125 b126 S; have B := B.trans b126; refine t_d' ?_; have S := S.f8.f8.f3.f8.f8.f8.f8.f8.f8; refine x_cut (X := Int × Nat) ((y37 + 50) + y110, g17) ?_ ?_; rotate_left
        ·exact ⟨rfl, rfl, rfl, rfl, rfl, rfl, rfl, rfl, rfl, rfl, rfl, rfl, trivial⟩
        (try dsimp only); exact ⟨by omega, B, S⟩
      ·refine t_w S z_hop rfl ?_ rfl rfl; intro g17 w127 x128 S; have B := bx Hb B x128; refine t_bx1 S.tail.tail.tail.box ab_int rfl rfl ?_ rfl; refine t_add rfl rfl (by omega) ?_ rfl; refine t_add rfl rfl (by omega) ?_ rfl; refine t_g (fun w => b_hop4 _ _ _ _ w) rfl ?_ rfl; refine t_stn S sb_hop rfl rfl rfl rfl (by repeat first | exact oc0 | refine oc rfl ?_) ?_; intro w129 b130 S; have B := B.trans b130; refine t_d' ?_; have S := S.f8.f8.f3.f8.f8.f8.f8.f8.f8; refine x_cut (X := Int × Nat) ((y37 + 50) + y110, g17) ?_ ?_; rotate_left
       ·exact ⟨rfl, rfl, rfl, rfl, rfl, rfl, rfl, rfl, rfl, rfl, rfl, rfl, trivial⟩
       (try dsimp only); exact ⟨by omega, B, S⟩
     ·refine t_w S z_hop rfl ?_ rfl rfl; intro g17 w131 x132 S; have B := bx Hb B x132; refine t_alt ?_ ?_
      ·refine t_bx1 S.tail.tail.box ab_int rfl rfl ?_ rfl; refine t_alt ?_ ?_
       ·refine t_add rfl rfl (by omega) ?_ rfl; have S := S.f6; refine t_f Tryz.call68 rfl (spec_l1Below 50 S (K.below B)) ?_ rfl; rintro e w133 ⟨y110, rfl, hf110, S, x134⟩; refine ⟨_, rfl, ?_⟩; have B := B.trans x134; refine t_add rfl rfl (by omega) ?_ rfl; refine t_g (fun w => b_hop4 _ _ _ _ w) rfl ?_ rfl; have S := S.f1; refine t_stn S sb_hop rfl rfl rfl rfl (by repeat first | exact oc0 | refine oc rfl ?_) ?_; intro w135 b136 S; have B := B.trans b136; refine t_d' ?_; have S := S.f8.f8.f3.f8.f8.f8.f8.f8.f8; refine x_cut (X := Int × Nat) ((y37 + 50) + y110, g17) ?_ ?_; rotate_left
        ·exact ⟨rfl, rfl, rfl, rfl, rfl, rfl, rfl, rfl, rfl, rfl, rfl, rfl, trivial⟩
        (try dsimp only); exact ⟨by omega, B, S⟩
       ·have S := S.f6; refine t_f Tryz.call68 rfl (spec_l1Below 50 S (K.below B)) ?_ rfl; rintro e w137 ⟨y110, rfl, hf110, S, x138⟩; refine ⟨_, rfl, ?_⟩; have B := B.trans x138; refine t_add rfl rfl (by omega) ?_ rfl; refine t_add rfl rfl (by omega) ?_ rfl; refine t_g (fun w => b_hop4 _ _ _ _ w) rfl ?_ rfl; have S := S.f1; refine t_stn S sb_hop rfl rfl rfl rfl (by repeat first | exact oc0 | refine oc rfl ?_) ?_; intro w139 b140 S; have B := B.trans b140; refine t_d' ?_; have S := S.f8.f8.f3.f8.f8.f8.f8.f8.f8; refine x_cut (X := Int × Nat) ((y37 + 50) + y110, g17) ?_ ?_; rotate_left
        ·exact ⟨rfl, rfl, rfl, rfl, rfl, rfl, rfl, rfl, rfl, rfl, rfl, rfl, trivial⟩
        (try dsimp only); exact ⟨by omega, B, S⟩
      ·have S := S.f6; refine t_f Tryz.call68 rfl (spec_l1Below 50 S (K.below B)) ?_ rfl; rintro e w141 ⟨y110, rfl, hf110, S, x142⟩; refine ⟨_, rfl, ?_⟩; have B := B.trans x142; refine t_bx1 S.tail.tail.tail.box ab_int rfl rfl ?_ rfl; refine t_add rfl rfl (by omega) ?_ rfl; refine t_add rfl rfl (by omega) ?_ rfl; refine t_g (fun w => b_hop4 _ _ _ _ w) rfl ?_ rfl; have S := S.f1; refine t_stn S sb_hop rfl rfl rfl rfl (by repeat first | exact oc0 | refine oc rfl ?_) ?_; intro w143 b144 S; have B := B.trans b144; refine t_d' ?_; have S := S.f8.f8.f3.f8.f8.f8.f8.f8.f8; refine x_cut (X := Int × Nat) ((y37 + 50) + y110, g17) ?_ ?_; rotate_left
       ·exact ⟨rfl, rfl, rfl, rfl, rfl, rfl, rfl, rfl, rfl, rfl, rfl, rfl, trivial⟩
       (try dsimp only); exact ⟨by omega, B, S⟩
    rintro ⟨x, g⟩ w145 hI; (try dsimp only at hI ⊢); obtain ⟨hx, B, S⟩ := hI; obtain ⟨ea, hea⟩ := getx (l := A) (k := r.toNat) (by omega); refine w_s ?_; refine w_cut (X := List Hop × Value) (fun x wq => (fun hs2 vh2 => hs2.length ≤ k + 1 ∧ SealK ⟨A, L⟩ y37 y39 hs2 ∧ Below b w wq ∧ Sep b wq (slO hopT 87 vh2 hs2 :: bxO g9 67 #[I y37, I y39, vh2] :: slO intT 3 vq q :: bxO g6 67 #[I 0, I 0, .slice none 0 0] :: bxO g4 27 #[va, vl] :: curO v n c 123 :: slO asnT 117 va A :: slO linkT 90 vl L :: os)) x.1 x.2) (fun x => (fun hs2 vh2 => [(13, I z), (12, I ((k : Int))), (10, I r), (11, I i), (0, .pointer (some ⟨c, 0, none⟩)), (2, I kd), (4, .pointer (some ⟨g4, 0, none⟩)), (6, .pointer (some ⟨g6, 0, none⟩)), (9, .pointer (some ⟨g9, 0, none⟩)), (15, I ((remote (⟨A, L⟩ : Topo) r o).1)), (16, I ((remote (⟨A, L⟩ : Topo) r o).2))]) x.1 x.2) ?_ ?_
    ·refine w_draw (.st .take 0 (.st .take 1 (.st .take 2 (.st .take 3 (.st .take 4 (.st .take 5 (.st .take 6 (.st .take 7 (.st .take 8 (.st .take 9 (.st .take 10 (.st .take 11 (.st .take 12 (.st .take 13 (.st .take 15 (.st .run 14 (.st .run 16 (.st .run 17 (.st .fin 18 (.st .fin 19 (.st .fin 20 .done))))))))))))))))))))) mixed (by kernel_rfl) ?_; intro w146 x147; have B := bx Hb B x147; have S := S.below x147; refine t_y fb_seg_2 rfl rfl ?_ rfl; refine t_bx1 S.tail.tail.box ab_s_hop rfl rfl ?_ rfl; refine t_y fb_topo_0 rfl rfl ?_ rfl; refine t_bx1 S.t4.tail.box ab_s_asn rfl rfl ?_ rfl; refine t_m rfl ?_ rfl; refine t_idx e_asn (k := r.toNat) (S.t4.tail.tail.tail.sl) hea (Below.refl _ _) rfl rfl (by first | rfl | omega) ?_ rfl; intro p118 hp118; refine t_fld ln_asn_2 ‹_› fb_asn_2 rfl ?_ rfl; intro p119 hp119; refine t_ldi ‹_› ab_int (Below.refl _ _) rfl ?_ rfl; refine t_y fb_seg_0 rfl rfl ?_ rfl; refine t_bx1 S.tail.tail.box ab_int rfl rfl ?_ rfl; refine t_b S.tail.tail.box ab_seg sb_seg rfl rfl ?_ rfl; refine t_y fb_seg_2 rfl rfl ?_ rfl; refine t_bx1 S.tail.tail.box ab_s_hop rfl rfl ?_ rfl; refine t_len e_hop (S.tail.sl) rfl rfl ?_ rfl; refine t_b S.box ab_hop sb_hop rfl rfl ?_ rfl
     refine t_x Tryz.call143 rfl (spec_BetaAt (⟨y37, y39, hs⟩ : Seg) _ _ _ (seg_mkv (x := (⟨y37, y39, hs⟩ : Seg)) (S.tail.sl)) (by (try dsimp only); omega)) ?_ rfl rfl; intro w148 x149; have B := bx Hb B x149; have S := S.below x149; replace hp118 := hp118.below x149; replace hp119 := hp119.below x149; refine t_x Tryz.call142 rfl (spec_AuthenticateHop _ _ _ (⟨r, i, z, x, 0⟩) _) ?_ rfl rfl; intro w150 x151; have B := bx Hb B x151; have S := S.below x151; replace hp118 := hp118.below x151; replace hp119 := hp119.below x151
     refine t_lit (T := hopT) (l := [((authHop ea.key y37 (segBeta (⟨y37, y39, hs⟩ : Seg) (hs.length : Int)) (⟨r, i, z, x, 0⟩)) : Hop)]) (css := [[I (((authHop ea.key y37 (segBeta (⟨y37, y39, hs⟩ : Seg) (hs.length : Int)) (⟨r, i, z, x, 0⟩))).ia), I (((authHop ea.key y37 (segBeta (⟨y37, y39, hs⟩ : Seg) (hs.length : Int)) (⟨r, i, z, x, 0⟩))).ing), I (((authHop ea.key y37 (segBeta (⟨y37, y39, hs⟩ : Seg) (hs.length : Int)) (⟨r, i, z, x, 0⟩))).eg), I (((authHop ea.key y37 (segBeta (⟨y37, y39, hs⟩ : Seg) (hs.length : Int)) (⟨r, i, z, x, 0⟩))).exp), I (((authHop ea.key y37 (segBeta (⟨y37, y39, hs⟩ : Seg) (hs.length : Int)) (⟨r, i, z, x, 0⟩))).mac)]]) hop_flat S (fun w => bs_hop1 _ _ _ _ _ w) rfl rfl rfl rfl (by simp [maxLen]) (litR_one fun _ => rfl) ?_ rfl rfl; intro u130 w152 x153 S; have B := bx Hb B x153; have hR := S.sl; have S := S.f2; refine t_cat hop_flat e_hop S hR rfl rfl rfl (by first | omega | (simp [-List.length_flatMap]; omega)) (by (simp [maxLen, -List.length_flatMap]; try omega)) ?_ rfl; intro v131 w154 x155 S; have B := B.trans x155; clear hR; have S := S.f1.tail; refine t_y fb_seg_2 rfl rfl ?_ rfl; obtain ⟨Av131, cv131, rfl, _⟩ := S.sl.form; have S := S.f2
     refine t_st1 S sb_s_hop rfl rfl rfl rfl rfl ?_; intro w156 b157 S; have B := B.trans b157; refine t_d' ?_; have S := S.f2.tail.f7.f7.f7.f7.f7.f7.f6.f7; refine x_cut (X := List Hop × Value) (hs ++ [authHop ea.key y37 (segBeta ⟨y37, y39, hs⟩ hs.length) ⟨r, i, z, x, 0⟩], .slice Av131 (hs ++ ([((authHop ea.key y37 (segBeta (⟨y37, y39, hs⟩ : Seg) (hs.length : Int)) (⟨r, i, z, x, 0⟩)) : Hop)])).length cv131) ?_ ?_; rotate_left
     ·exact ⟨rfl, rfl, rfl, rfl, rfl, rfl, rfl, rfl, rfl, rfl, rfl, trivial⟩
     (try dsimp only); exact ⟨by rw [List.length_append, List.length_singleton]; omega, seal_next (r := r) (i := i) (e := z) (x := x) hS hA8 hr hea hi hzr hiz (by omega) rfl, B, S⟩
    rintro ⟨hs2, vh2⟩ w158 hI; (try dsimp only at hI ⊢); obtain ⟨hl2, hS2, B, S⟩ := hI; (iterate 2 refine w_s ?_); refine w_g ?_; refine t_m rfl ?_ rfl; refine t_eql rfl rfl ?_ rfl; refine t_e ?_; refine w_if rfl ?_ ?_
    ·intro hz0; refine w_h ?_; refine t_b S.tail.box ab_seg sb_seg rfl rfl ?_ rfl; have S := S.f3; refine t_stn S sb_seg rfl rfl rfl rfl (by repeat first | exact oc0 | refine oc rfl ?_ | refine oc (SlR.cells (S.tail.sl)).2 ?_) ?_; intro w159 b160 S; have B := B.trans b160; refine t_e ?_; refine w_r ?_; refine x_t ?_; refine x_block_ret ?_; (iterate 2 refine x_t ?_); refine x_block_ret ?_; refine x_t ?_; refine x_retc rfl rfl S.box ab_seg sb_seg rfl ?_; have S := S.tail.f1.tail.f1.tail.f1.tail.f3.f3.f3.f3; exact ⟨_, ⟨y37, y39, hs2⟩, rfl, hS2.seg (by omega) (by omega) (by omega) (by omega) (by omega), S, B⟩
    ·intro hz0; refine w_k ?_; refine x_s ?_; refine w_h ?_; refine t_m rfl ?_ rfl; refine t_a rfl ?_ rfl; refine t_e ?_; refine w_g ?_; refine t_m rfl ?_ rfl; refine t_a rfl ?_ rfl; refine t_d ?_; refine x_b ?_; refine x_s ?_; refine w_g ?_; refine t_m rfl ?_ rfl; refine t_add rfl rfl (by omega) ?_ rfl; refine t_a rfl ?_ rfl; refine t_d ?_
     have hzo : z = o := by omega
     have hrem2 := hrem (by omega); refine x_r (X := Nat × Int × Int × List Hop × Value) (k + 1, (remote ⟨A, L⟩ r o).1, (remote ⟨A, L⟩ r o).2, hs2, vh2) ?_ (by exact ⟨rfl, rfl, rfl, rfl, rfl, rfl, rfl, rfl, trivial⟩) (by (try dsimp only); omega); (try dsimp only); exact ⟨by omega, hrem2.1, by omega, hl2, hS2, B, S⟩
   ·intro hge; refine w_exit ?_; (iterate 2 refine x_then_exit ?_); refine x_block_exit ?_; refine x_s ?_; refine w_h ?_; refine t_b S.tail.box ab_seg sb_seg rfl rfl ?_ rfl; have S := S.f3; refine t_stn S sb_seg rfl rfl rfl rfl (by repeat first | exact oc0 | refine oc rfl ?_ | refine oc (SlR.cells (S.tail.sl)).2 ?_) ?_; intro w161 b162 S; have B := B.trans b162; refine t_e ?_; refine w_r ?_; refine x_retc rfl rfl S.box ab_seg sb_seg rfl ?_; have S := S.tail.f1.tail.f1.tail.f1.tail.f3.f3.f3.f3; exact ⟨_, ⟨y37, y39, hs⟩, rfl, hS.seg (by omega) (by omega) (by omega) (by omega) (by omega), S, B⟩
section
variable {P : Program} {n : Nat} {L : Frm} {w : World}
theorem x_retcc {fn : Func} {R : Ending → World → Prop} {t0 g0 sz0 : Nat} {tt0 tb0 : TypeId} {C0 : Array Value} {t1 g1 sz1 : Nat} {tt1 tb1 : TypeId} {C1 : Array Value} (hr : fn.results = #[.cell t0 tt0, .cell t1 tt1]) (h0 : look L t0 = some (.pointer (some ⟨g0, 0, none⟩))) (hb0 : w.heap[g0]? = some (.cells C0 tb0 (0, 0))) (ha0 : aggB P tt0 = some true) (hs0 : sizeB P tt0 = some sz0) (hz0 : C0.size = sz0) (h1 : look L t1 = some (.pointer (some ⟨g1, 0, none⟩))) (hb1 : w.heap[g1]? = some (.cells C1 tb1 (0, 0))) (ha1 : aggB P tt1 = some true) (hs1 : sizeB P tt1 = some sz1) (hz1 : C1.size = sz1) (h : R (.returned (.tuple #[.agg C0, .agg C1])) w) : WX n (bodyPost P fn R) .ret L w := by
  intro a hE; subst hz0; subst hz1; have k0 := hE.at_ _ _ h0; have k1 := hE.at_ _ _ h1; refine bodyPost_ret ?_ hE.defers h
  simp [results, hr, k0, asAddr, run_loadBox hb0 ha0 hs0, k1, run_loadBox hb1 ha1 hs1]
end
/-- The AS at either end of a segment. -/
def firstS (s : Seg) : Int := match s.hops[0]? with
  | some h => h.ia
  | none => -1
def lastS (s : Seg) : Int := match s.hops[s.hops.length - 1]? with
  | some h => h.ia
  | none => -1
theorem impl_FirstAS (s : Seg) (v : Value) (w : World) (h : VA segT w v s) (hz : s.hops.length ≤ 1048576) : Calls Tryz.prog 96 #[v] w fun e w' => e = .returned (I (firstS s)) ∧ Below w.heap.size w w' := by
 have X0 := Below.refl w.heap.size w; refine enter Tryz.func96 rfl Tryz.ntmps96 rfl ?_; refine w_h ?_; refine t_boxr ‹_› rfl ?_ rfl rfl; intro p1 w1 x2 hp1; replace h := h.below x2; have X0 := ext_trans X0 x2; have S := Sep.nil w1; have B := Below.refl w1.heap.size w1; have Hb := Nat.le_refl w1.heap.size; refine t_a rfl ?_ rfl; refine t_e ?_; (iterate 2 refine w_s ?_); refine w_g ?_; refine t_fld ln_seg_2 ‹_› fb_seg_2 rfl ?_ rfl; intro p3 hp3; refine t_lds ‹_› ab_s_hop B rfl ?_ rfl; intro v4 hv4; refine t_len e_hop ‹_› rfl rfl ?_ rfl; refine t_eql rfl rfl ?_ rfl; refine t_e ?_; refine w_if rfl ?_ ?_
 ·intro h0; refine w_h ?_; refine t_a rfl ?_ rfl; refine t_e ?_; refine w_r ?_; refine x_t ?_; refine x_ret1 rfl rfl ?_; have e : s.hops = [] := List.length_eq_zero_iff.1 (by omega); exact ⟨ret_int (by unfold firstS; rw [e]; rfl), ext_trans X0 B⟩
 ·intro h0; refine w_k ?_; refine x_s ?_; refine w_h ?_; refine t_fld ln_seg_2 ‹_› fb_seg_2 rfl ?_ rfl; intro p7 hp7; refine t_lds ‹_› ab_s_hop B rfl ?_ rfl; intro v8 hv8; obtain ⟨e9, he9⟩ : ∃ e, (s.hops)[0]? = some e := getx (by omega); refine t_idx e_hop (k := 0) ‹_› he9 B rfl rfl (by first | rfl | omega) ?_ rfl; intro p9 hp9; refine t_fld ln_hop_0 ‹_› fb_hop_0 rfl ?_ rfl; intro p10 hp10; refine t_ldi ‹_› ab_int B rfl ?_ rfl; refine t_a rfl ?_ rfl; refine t_e ?_; refine w_r ?_; refine x_ret1 rfl rfl ?_; exact ⟨ret_int (by unfold firstS; rw [he9]), ext_trans X0 B⟩
theorem impl_LastAS (s : Seg) (v : Value) (w : World) (h : VA segT w v s) (hz : s.hops.length ≤ 1048576) : Calls Tryz.prog 132 #[v] w fun e w' => e = .returned (I (lastS s)) ∧ Below w.heap.size w w' := by
 have X0 := Below.refl w.heap.size w; refine enter Tryz.func132 rfl Tryz.ntmps132 rfl ?_; refine w_h ?_; refine t_boxr ‹_› rfl ?_ rfl rfl; intro p1 w3 x4 hp1; replace h := h.below x4; have X0 := ext_trans X0 x4; have S := Sep.nil w3; have B := Below.refl w3.heap.size w3; have Hb := Nat.le_refl w3.heap.size; refine t_a rfl ?_ rfl; refine t_e ?_; (iterate 2 refine w_s ?_); refine w_g ?_; refine t_fld ln_seg_2 ‹_› fb_seg_2 rfl ?_ rfl; intro p3 hp3; refine t_lds ‹_› ab_s_hop B rfl ?_ rfl; intro v4 hv4; refine t_len e_hop ‹_› rfl rfl ?_ rfl; refine t_eql rfl rfl ?_ rfl; refine t_e ?_; refine w_if rfl ?_ ?_
 ·intro h0; refine w_h ?_; refine t_a rfl ?_ rfl; refine t_e ?_; refine w_r ?_; refine x_t ?_; refine x_ret1 rfl rfl ?_; have e : s.hops = [] := List.length_eq_zero_iff.1 (by omega); exact ⟨ret_int (by unfold lastS; rw [e]; rfl), ext_trans X0 B⟩
 ·intro h0; refine w_k ?_; refine x_s ?_; refine w_h ?_; refine t_fld ln_seg_2 ‹_› fb_seg_2 rfl ?_ rfl; intro p7 hp7; refine t_lds ‹_› ab_s_hop B rfl ?_ rfl; intro v8 hv8; refine t_fld ln_seg_2 ‹_› fb_seg_2 rfl ?_ rfl; intro p9 hp9; refine t_lds ‹_› ab_s_hop B rfl ?_ rfl; intro v10 hv10; refine t_len e_hop ‹_› rfl rfl ?_ rfl; refine t_sub rfl rfl (by omega) ?_ rfl; obtain ⟨e13, he13⟩ : ∃ e, (s.hops)[s.hops.length - 1]? = some e := getx (by omega); refine t_idx e_hop (k := s.hops.length - 1) ‹_› he13 B rfl rfl (by first | rfl | omega) ?_ rfl; intro p13 hp13; refine t_fld ln_hop_0 ‹_› fb_hop_0 rfl ?_ rfl; intro p14 hp14; refine t_ldi ‹_› ab_int B rfl ?_ rfl; refine t_a rfl ?_ rfl; refine t_e ?_; refine w_r ?_; refine x_ret1 rfl rfl ?_; exact ⟨ret_int (by unfold lastS; rw [he13]), ext_trans X0 B⟩
theorem spec_FirstAS (s : Seg) (v : Value) (w : World) (h : VA segT w v s) (hz : s.hops.length ≤ 1048576) : Calls Tryz.prog 103 #[v] w fun e w' => e = .returned (I (firstS s)) ∧ Below w.heap.size w w' := by
 have X0 := Below.refl w.heap.size w; refine enter Tryz.func103 rfl Tryz.ntmps103 rfl ?_; refine w_h ?_; refine t_boxr ‹_› rfl ?_ rfl rfl; intro p1 w5 x6 hp1; replace h := h.below x6; have X0 := ext_trans X0 x6; have S := Sep.nil w5; have B := Below.refl w5.heap.size w5; have Hb := Nat.le_refl w5.heap.size; refine t_a rfl ?_ rfl; refine t_e ?_; (iterate 2 refine w_s ?_); refine w_g ?_; refine t_fld ln_seg_2 ‹_› fb_seg_2 rfl ?_ rfl; intro p3 hp3; refine t_lds ‹_› ab_s_hop B rfl ?_ rfl; intro v4 hv4; refine t_len e_hop ‹_› rfl rfl ?_ rfl; refine t_eql rfl rfl ?_ rfl; refine t_e ?_; refine w_if rfl ?_ ?_
 ·intro h0; refine w_h ?_; refine t_a rfl ?_ rfl; refine t_e ?_; refine w_r ?_; refine x_t ?_; refine x_ret1 rfl rfl ?_; have e : s.hops = [] := List.length_eq_zero_iff.1 (by omega); exact ⟨ret_int (by unfold firstS; rw [e]; rfl), ext_trans X0 B⟩
 ·intro h0; refine w_k ?_; refine x_s ?_; refine w_h ?_; refine t_fld ln_seg_2 ‹_› fb_seg_2 rfl ?_ rfl; intro p7 hp7; refine t_lds ‹_› ab_s_hop B rfl ?_ rfl; intro v8 hv8; obtain ⟨e9, he9⟩ : ∃ e, (s.hops)[0]? = some e := getx (by omega); refine t_idx e_hop (k := 0) ‹_› he9 B rfl rfl (by first | rfl | omega) ?_ rfl; intro p9 hp9; refine t_fld ln_hop_0 ‹_› fb_hop_0 rfl ?_ rfl; intro p10 hp10; refine t_ldi ‹_› ab_int B rfl ?_ rfl; refine t_a rfl ?_ rfl; refine t_e ?_; refine w_r ?_; refine x_ret1 rfl rfl ?_; exact ⟨ret_int (by unfold firstS; rw [he9]), ext_trans X0 B⟩
theorem spec_LastAS (s : Seg) (v : Value) (w : World) (h : VA segT w v s) (hz : s.hops.length ≤ 1048576) : Calls Tryz.prog 114 #[v] w fun e w' => e = .returned (I (lastS s)) ∧ Below w.heap.size w w' := by
 have X0 := Below.refl w.heap.size w; refine enter Tryz.func114 rfl Tryz.ntmps114 rfl ?_; refine w_h ?_; refine t_boxr ‹_› rfl ?_ rfl rfl; intro p1 w7 x8 hp1; replace h := h.below x8; have X0 := ext_trans X0 x8; have S := Sep.nil w7; have B := Below.refl w7.heap.size w7; have Hb := Nat.le_refl w7.heap.size; refine t_a rfl ?_ rfl; refine t_e ?_; (iterate 2 refine w_s ?_); refine w_g ?_; refine t_fld ln_seg_2 ‹_› fb_seg_2 rfl ?_ rfl; intro p3 hp3; refine t_lds ‹_› ab_s_hop B rfl ?_ rfl; intro v4 hv4; refine t_len e_hop ‹_› rfl rfl ?_ rfl; refine t_eql rfl rfl ?_ rfl; refine t_e ?_; refine w_if rfl ?_ ?_
 ·intro h0; refine w_h ?_; refine t_a rfl ?_ rfl; refine t_e ?_; refine w_r ?_; refine x_t ?_; refine x_ret1 rfl rfl ?_; have e : s.hops = [] := List.length_eq_zero_iff.1 (by omega); exact ⟨ret_int (by unfold lastS; rw [e]; rfl), ext_trans X0 B⟩
 ·intro h0; refine w_k ?_; refine x_s ?_; refine w_h ?_; refine t_fld ln_seg_2 ‹_› fb_seg_2 rfl ?_ rfl; intro p7 hp7; refine t_lds ‹_› ab_s_hop B rfl ?_ rfl; intro v8 hv8; refine t_fld ln_seg_2 ‹_› fb_seg_2 rfl ?_ rfl; intro p9 hp9; refine t_lds ‹_› ab_s_hop B rfl ?_ rfl; intro v10 hv10; refine t_len e_hop ‹_› rfl rfl ?_ rfl; refine t_sub rfl rfl (by omega) ?_ rfl; obtain ⟨e13, he13⟩ : ∃ e, (s.hops)[s.hops.length - 1]? = some e := getx (by omega); refine t_idx e_hop (k := s.hops.length - 1) ‹_› he13 B rfl rfl (by first | rfl | omega) ?_ rfl; intro p13 hp13; refine t_fld ln_hop_0 ‹_› fb_hop_0 rfl ?_ rfl; intro p14 hp14; refine t_ldi ‹_› ab_int B rfl ?_ rfl; refine t_a rfl ?_ rfl; refine t_e ?_; refine w_r ?_; refine x_ret1 rfl rfl ?_; exact ⟨ret_int (by unfold lastS; rw [he13]), ext_trans X0 B⟩
/-- A part as_ it is drawn; a path. -/
def PartK (t : Topo) (x : Part) : Prop := ∃ s kind i, SegK t s ∧ 1 ≤ kind ∧ kind ≤ 4 ∧ x = makePart s kind i
def PathK (t : Topo) (p : Path) : Prop := List.length p ≤ 3 ∧ ∀ x ∈ p, PartK t x
theorem SegK.len {t : Topo} {s : Seg} (h : SegK t s) : s.hops.length ≤ 5 := h.1.2.2.2.2
/-- A door of a realm is an end of one link. -/
def Uniq (L : List Lnk) : Prop := ∀ x ∈ L, ∀ y ∈ L, ∀ r d, ends x r d = true → ends y r d = true → x = y
def Dense (L : List Lnk) : Prop := ∀ r d, d ∈ ifs L r → d ≤ (ifs L r).length
theorem putL_new {l : List Int} {n : Int} (h : n ∉ l) : (putL l n).length = l.length + 1 := by
  induction l with
  | nil => rfl
  | cons a t ih =>
    rw [List.mem_cons, not_or] at h
    unfold putL
    split
    · rw [List.length_cons, ih h.2, List.length_cons]
    · rw [if_neg (Ne.symm h.1)]; rfl
theorem ifs_snoc (L : List Lnk) (x : Lnk) (r : Int) : ifs (L ++ [x]) r = ifsStep r (ifs L r) x := by
  unfold ifs; rw [List.foldl_append]; rfl
theorem addL_grow {L : List Lnk} (hU : Uniq L) (hD : Dense L) {a c : Int} (hac : a < c) (k : Int) : Uniq (addL L a c k) ∧ Dense (addL L a c k) := by
 unfold addL
 split
 ·have na : ∀ {r : Int}, ((ifs L r).length : Int) + 1 ∉ ifs L r := fun {r} h => by have := hD r _ h; omega
  refine ⟨?_, ?_⟩
  ·have key : ∀ y ∈ L, ∀ r d, ends ⟨a, (ifs L a).length + 1, c, (ifs L c).length + 1, k⟩ r d = true → ends y r d = true → False := by
    intro y hy r d h1 h2; have hm : d ∈ ifs L r := mem_ifs.2 ⟨y, hy, h2⟩
    rcases ends_iff.1 h1 with ⟨e1, e2⟩ | ⟨e1, e2⟩
    ·simp only at e1 e2; subst e1; subst e2; exact na hm
    ·simp only at e1 e2; subst e1; subst e2; exact na hm
   intro x hx y hy r d h1 h2; rw [List.mem_append, List.mem_singleton] at hx hy
   rcases hx with hx | hx <;> rcases hy with hy | hy
   ·exact hU x hx y hy r d h1 h2
   ·subst hy; exact absurd (key x hx r d h2 h1) id
   ·subst hx; exact absurd (key y hy r d h1 h2) id
   ·rw [hx, hy]
  ·intro r d hd; rw [ifs_snoc] at hd ⊢
   have hl : (ifs L r).length ≤ (ifsStep r (ifs L r) ⟨a, (ifs L a).length + 1, c, (ifs L c).length + 1, k⟩).length ∧ ((r = a ∨ r = c) → (ifsStep r (ifs L r) ⟨a, (ifs L a).length + 1, c, (ifs L c).length + 1, k⟩).length = (ifs L r).length + 1) := by
    unfold ifsStep
    dsimp only
    by_cases h1 : a = r
    ·have h2 : ¬ c = r := by omega
     rw [if_pos h1, if_neg h2]; subst h1; rw [putL_new na]; exact ⟨by omega, fun _ => rfl⟩
    ·rw [if_neg h1]
     by_cases h2 : c = r
     ·rw [if_pos h2]; subst h2; rw [putL_new na]; exact ⟨by omega, fun _ => rfl⟩
     ·rw [if_neg h2]; exact ⟨Nat.le_refl _, fun z => by omega⟩
   rcases mem_ifsStep.1 hd with hd | hd
   ·have := hD r d hd; omega
   ·rcases ends_iff.1 hd with ⟨e1, e2⟩ | ⟨e1, e2⟩
    ·simp only at e1 e2
     rw [hl.2 (.inl e1.symm)]; subst e1; omega
    ·simp only at e1 e2
     rw [hl.2 (.inr e1.symm)]; subst e1; omega
 ·exact ⟨hU, hD⟩
theorem Grown.uniq {n m : Nat} {L : List Lnk} (h : Grown n m L) : Uniq L ∧ Dense L := by
  induction h with
  | nil => exact ⟨fun x hx => by simp at hx, fun r d h => by simp [ifs] at h⟩
  | add a c k _ _ hac _ _ _ ih => exact addL_grow ih.1 ih.2 hac k
theorem TopK.uniq {A : List ASd} {L : List Lnk} (h : TopK A L) : Uniq L := by
  obtain ⟨_, m, L0, _, hg, hs⟩ := h
  exact fun x hx y hy => hg.uniq.1 x (hs.subset hx) y (hs.subset hy)
theorem link_of {t : Topo} {r d q e : Int} (h : remote t r d = (q, e)) (hq : 0 ≤ q) : ∃ i x, findL t.links r d = some i ∧ t.links[i]? = some x ∧ x ∈ t.links ∧ ends x r d = true ∧ (if x.a = r ∧ x.ai = d then (x.b, x.bi) else (x.a, x.ai)) = (q, e) := by
  unfold remote at h
  cases hf : findL t.links r d with
  | none => rw [hf] at h; cases h; omega
  | some i =>
    rw [hf, Option.bind_some] at h; have hf' := hf
    unfold findL at hf'
    rw [List.findIdx?_eq_some_iff_getElem] at hf'; obtain ⟨hlt, hp, _⟩ := hf'; rw [List.getElem?_eq_getElem hlt] at h; exact ⟨i, _, rfl, List.getElem?_eq_getElem hlt, List.getElem_mem hlt, hp, h⟩
theorem find_at {t : Topo} (hU : Uniq t.links) {x : Lnk} (hx : x ∈ t.links) {q e : Int} (he : ends x q e = true) : ∃ i, findL t.links q e = some i ∧ t.links[i]? = some x := by
  obtain ⟨i, y, h1, h2, h3, h4⟩ := findL_of hx he; have := hU x hx y h3 q e he h4; subst this; exact ⟨i, h1, h2⟩
/-- A link can be walked both ways. -/
theorem remote_sym {t : Topo} (hU : Uniq t.links) (hK : ∀ x ∈ t.links, x.a < x.b) {r d q e : Int} (h : remote t r d = (q, e)) (hq : 0 ≤ q) : remote t q e = (r, d) := by
  obtain ⟨i, x, h1, h2, h3, h4, h5⟩ := link_of h hq; have hlt := hK x h3
  have hf : ends x q e = true := by
    rw [ends_iff]
    split at h5
    · cases h5; exact .inr ⟨rfl, rfl⟩
    · cases h5; exact .inl ⟨rfl, rfl⟩
  obtain ⟨j, k1, k2⟩ := find_at hU h3 hf; rw [remote_of k1 k2]
  rcases ends_iff.1 h4 with ⟨e1, e2⟩ | ⟨e1, e2⟩
  · rw [if_pos ⟨e1, e2⟩] at h5
    cases h5; rw [if_neg fun z => by omega, e1, e2]
  · rw [if_neg fun z => by omega] at h5
    cases h5; rw [if_pos ⟨rfl, rfl⟩, e1, e2]
/-- A well formed segment. -/
structure WfS (t : Topo) (s : Seg) : Prop where
  len : 1 ≤ s.hops.length ∧ s.hops.length ≤ 8
  ok : ∀ x ∈ s.hops, validHop x = true ∧ isAS t x.ia = true
  nd : (s.hops.map Hop.ia).Nodup
  ing : ∀ x, s.hops[0]? = some x → x.ing = 0
  link : ∀ (i : Nat) x y, s.hops[i]? = some x → s.hops[i + 1]? = some y → x.eg ≠ 0 ∧ remote t x.ia x.eg = (y.ia, y.ing)
theorem hopsOk_of {t : Topo} {l : List Hop} (h1 : 1 ≤ l.length) (h8 : l.length ≤ 8) (hv : ∀ x ∈ l, validHop x = true ∧ isAS t x.ia = true) (hn : (l.map Hop.ia).Nodup) : hopsOk t l = true := by
  unfold hopsOk
  rw [inR_yes (by omega) (by omega), Bool.true_and]
  refine all_ok fun j hj => ?_
  have e := List.getElem?_eq_getElem hj; rw [hopGood_eq e]; obtain ⟨a1, a2⟩ := hv _ (List.getElem_mem hj); rw [a1, a2, Bool.true_and, Bool.true_and]
  have : (List.map Hop.ia (List.take j l)).contains l[j].ia = false := by
    rw [Bool.eq_false_iff]; intro hc; rw [List.contains_iff_mem] at hc; rw [← List.take_append_drop j l, List.drop_eq_getElem_cons hj, List.map_append, List.map_cons, List.nodup_append] at hn; exact hn.2.2 _ hc _ (List.mem_cons_self ..) rfl
  rw [this]; rfl
theorem seg_res {t : Topo} {s : Seg} (h : SegK t s) (i : Int) : Res (segBeta s i) := by
  unfold segBeta
  split
  · exact chain_in ⟨h.1.2.2.1, by have := h.1.2.2.2.1; omega⟩ _
  · exact ⟨by omega, by omega⟩
/-- What makePart takes of a well formed segment is a valid part. -/
theorem part_valid {t : Topo} (hU : Uniq t.links) (hK : ∀ x ∈ t.links, x.a < x.b ∧ 1 ≤ x.ai ∧ 1 ≤ x.bi) {s : Seg} (K : SegK t s) (W : WfS t s) {kind : Int} (hk : 1 ≤ kind ∧ kind ≤ 4) {i : Int} (hi : 0 ≤ i ∧ i < s.hops.length) : validPart t (makePart s kind i) = true := by
 have g1 : inR i 0 ((s.hops.length : Int) - 1) = true := inR_yes (by omega) (by omega); have g2 : inR kind 1 4 = true := inR_yes hk.1 hk.2; obtain ⟨n, rfl⟩ : ∃ n : Nat, i = n := ⟨i.toNat, by omega⟩; have hd : (s.hops.drop n).length = s.hops.length - n := List.length_drop ..; have hW := W.len; have t1 : inR s.ts 0 1000000 = true := inR_yes K.1.1 (by have := K.1.2.1; omega)
 have nd : ((s.hops.drop n).map Hop.ia).Nodup := by
  rw [List.map_drop]; exact W.nd.sublist (List.drop_sublist ..)
 cases hr : isRev kind with
 | false =>
  rw [make_fwd g1 g2 hr]
  have b1 : inR (segBeta s n) 0 2147483646 = true := by have := seg_res K n; exact inR_yes this.1 this.2
  unfold validPart
  dsimp only; rw [Int.toNat_natCast, hopsOk_of (by omega) (by omega) (fun x hx => W.ok x (List.mem_of_mem_drop hx)) nd, g2, t1, b1]
  simp only [Bool.true_and, Bool.and_true]
  refine all_ok fun j hj => ?_
  obtain ⟨x, hx⟩ : ∃ x, s.hops[n + j]? = some x := getx (by omega); obtain ⟨y, hy⟩ : ∃ y, s.hops[n + j + 1]? = some y := getx (by omega)
  have hx' : (s.hops.drop n)[j]? = some x := by rw [List.getElem?_drop]; exact hx
  have hy' : (s.hops.drop n)[j + 1]? = some y := by rw [List.getElem?_drop]; exact hy
  obtain ⟨l1, l2⟩ := W.link _ x y hx hy; rw [stepGood_eq (p := ⟨kind, s.ts, segBeta s n, s.hops.drop n⟩) hx' hy']
  have p1 : partOut ⟨kind, s.ts, segBeta s n, s.hops.drop n⟩ j = x.eg := by unfold partOut; dsimp only; rw [hx', hr]; rfl
  have p2 : partIn ⟨kind, s.ts, segBeta s n, s.hops.drop n⟩ (j + 1) = y.ing := by unfold partIn; dsimp only; rw [hy', hr]; rfl
  rw [p1, p2, l2]
  simp [l1]
 | true =>
  rw [make_rev g1 g2 hr]
  have b1 : inR (segBeta s s.hops.length) 0 2147483646 = true := by have := seg_res K s.hops.length; exact inR_yes this.1 this.2
  unfold validPart
  dsimp only; rw [Int.toNat_natCast, hopsOk_of (by rw [List.length_reverse]; omega) (by rw [List.length_reverse]; omega) (fun x hx => W.ok x (List.mem_of_mem_drop (List.mem_reverse.1 hx))) (by rw [List.map_reverse]; exact List.pairwise_reverse.2 (nd.imp Ne.symm)), g2, t1, b1]
  simp only [Bool.true_and, Bool.and_true]
  refine all_ok fun j hj => ?_
  rw [List.length_reverse] at hj; obtain ⟨y, hy⟩ : ∃ y, s.hops[s.hops.length - 1 - j]? = some y := getx (by omega); obtain ⟨x, hx⟩ : ∃ x, s.hops[s.hops.length - 1 - j - 1]? = some x := getx (by omega)
  have hy' : (s.hops.drop n).reverse[j]? = some y := by
   rw [List.getElem?_reverse (by omega), List.getElem?_drop, hd, ← hy]; congr 1; omega
  have hx' : (s.hops.drop n).reverse[j + 1]? = some x := by
   rw [List.getElem?_reverse (by omega), List.getElem?_drop, hd, ← hx]; congr 1; omega
  obtain ⟨l1, l2⟩ := W.link _ x y hx (by rw [show s.hops.length - 1 - j - 1 + 1 = s.hops.length - 1 - j by omega]; exact hy); have hyA := (W.ok y (List.mem_of_getElem? hy)).2; have hy0 : 0 ≤ y.ia := (inR_iff.1 hyA).1; have l3 := remote_sym hU (fun x hx => (hK x hx).1) l2 hy0
  have l4 : 1 ≤ y.ing := by
   have := remote_door (t := t) (fun x hx => (hK x hx).2) (r := x.ia) (d := x.eg) (by rw [l2]; exact hy0); rw [l2] at this; exact this
  rw [stepGood_eq (p := ⟨kind, s.ts, segBeta s s.hops.length, (s.hops.drop n).reverse⟩) hy' hx']
  have p1 : partOut ⟨kind, s.ts, segBeta s s.hops.length, (s.hops.drop n).reverse⟩ j = y.ing := by unfold partOut; dsimp only; rw [hy', hr]; rfl
  have p2 : partIn ⟨kind, s.ts, segBeta s s.hops.length, (s.hops.drop n).reverse⟩ (j + 1) = x.eg := by unfold partIn; dsimp only; rw [hx', hr]; rfl
  rw [p1, p2, l3]
  have : y.ing ≠ 0 := by omega
  simp [this]
theorem addHop_first (i : Nat) (x : Part) {l : List Stp} (j : Nat) (h : 0 < l.length) : 0 < (addHop i x l j).length ∧ (firstOf (addHop i x l j)).ia = (firstOf l).ia := by
  have e0 := List.getElem?_eq_getElem h; cases hb : joinAt i x l j with
  | true =>
    rw [addHop_join hb]; refine ⟨by rw [List.length_set]; exact h, ?_⟩
    rcases Nat.lt_or_ge 1 l.length with q | q
    · rw [firstOf_at (s := l[0]) (by rw [List.getElem?_set_ne (by omega)]; exact e0), firstOf_at e0]
    · have hl : l.length - 1 = 0 := by omega
      rw [hl, firstOf_at (s := { lastOf l with eg := partOut x j }) (by rw [List.getElem?_set_self h]), firstOf_at e0]
      show (lastOf l).ia = _
      rw [lastOf_at (by rw [hl]; exact e0)]
  | false =>
    rw [addHop_new hb]; refine ⟨by simp, ?_⟩; rw [firstOf_at (s := l[0]) (by rw [List.getElem?_append_left h]; exact e0), firstOf_at e0]
theorem hopsTo_first (i : Nat) (x : Part) {l : List Stp} (h : 0 < l.length) : ∀ j, 0 < (hopsTo i x l j).length ∧ (firstOf (hopsTo i x l j)).ia = (firstOf l).ia
  | 0 => ⟨h, rfl⟩
  | j + 1 => by
    have ih := hopsTo_first i x h j; rw [hopsTo_succ]; have := addHop_first i x j ih.1; exact ⟨this.1, by rw [this.2, ih.2]⟩
theorem hopsTo_zero (x : Part) : ∀ j, 0 < j → 0 < (hopsTo 0 x [] j).length ∧ (firstOf (hopsTo 0 x [] j)).ia = hopIa x 0
  | 1, _ => by
    rw [hopsTo_succ]; have hb : joinAt 0 x (hopsTo 0 x [] 0) 0 = false := rfl; rw [addHop_new hb]; exact ⟨by simp, rfl⟩
  | j + 2, _ => by
    have ih := hopsTo_zero x (j + 1) (by omega); rw [hopsTo_succ]; have := addHop_first 0 x (j + 1) ih.1; exact ⟨this.1, by rw [this.2, ih.2]⟩
theorem raw_first {t : Topo} {p : Path} (h : wellFormed t p = true) {x : Part} (hx : p[0]? = some x) : ∀ k, 0 < k → k ≤ List.length p → 0 < (rawSteps p k).length ∧ (firstOf (rawSteps p k)).ia = firstIa x
  | 1, _, hk => by
    have hv := (wf_parts h).2.1 x (List.mem_of_getElem? hx); rw [rawSteps_succ hx]; have := hopsTo_zero x x.hops.length (valid_len hv); rw [fIa_hop]; exact this
  | k + 2, _, hk => by
    have ih := raw_first h hx (k + 1) (by omega) (by omega); have hy := List.getElem?_eq_getElem (l := p) (i := k + 1) (by omega); rw [rawSteps_succ hy]; have := hopsTo_first (k + 1) (p[k + 1]) ih.1 (p[k + 1]).hops.length; exact ⟨this.1, by rw [this.2, ih.2]⟩
/-- The ends of a well formed path are those of its first and its last part. -/
theorem ends_wf {t : Topo} (hK : ∀ x ∈ t.links, 1 ≤ x.ai ∧ 1 ≤ x.bi) {p : Path} (h : wellFormed t p = true) {x y : Part} (hx : p[0]? = some x) (hy : p[List.length p - 1]? = some y) : endA p = firstIa x ∧ endB p = lastIa y := by
  have hp := (wf_parts h).1; obtain ⟨_, _, h1⟩ := raw_chain hK h (List.length p) (Nat.le_refl _); obtain ⟨hpos, hlast⟩ := h1 (by omega); have hlast := hlast y hy; obtain ⟨_, hfirst⟩ := raw_first h hx (List.length p) (by omega) (Nat.le_refl _); obtain ⟨hlen, hat⟩ := cut_at_ _ hpos
  unfold endA endB pathSteps
  generalize rawSteps p p.length = l at *
  rw [if_neg (by omega), if_neg (by omega), ← hfirst, ← hlast]; refine ⟨?_, ?_⟩
  · have e := List.getElem?_eq_getElem (l := cutLast (cutFirst l)) (i := 0) (by omega)
    obtain ⟨r, hr, ha, _⟩ := hat 0 _ e; rw [firstOf_at e, firstOf_at hr, ha]
  · obtain ⟨s, e⟩ : ∃ s, (cutLast (cutFirst l))[l.length - 1]? = some s := getx (by omega)
    obtain ⟨r, hr, ha, _⟩ := hat _ _ e; rw [lastOf_at (l := cutLast (cutFirst l)) (s := s) (by rw [hlen]; exact e), lastOf_at hr, ha]
/-- A part that leads from a to b. -/
def PartG (t : Topo) (a b : Int) (x : Part) : Prop := validPart t x = true ∧ verifyPart t x = true ∧ firstIa x = a ∧ lastIa x = b
/-- A path that leads from a to b. -/
def PathG (t : Topo) (a b : Int) (p : Path) : Prop := wellFormed t p = true ∧ verifyPath t p = true ∧ endA p = a ∧ endB p = b
theorem path1 {t : Topo} (hK : ∀ x ∈ t.links, 1 ≤ x.ai ∧ 1 ≤ x.bi) {a b : Int} {x : Part} (h : PartG t a b x) : PathG t a b [x] := by
  have w : wellFormed t [x] = true := by
    unfold wellFormed
    rw [inR_yes (by simp) (by simp)]
    simp [h.1]
  have e := ends_wf hK w (x := x) (y := x) rfl rfl; exact ⟨w, by simp [verifyPath, h.2.1], by rw [e.1]; exact h.2.2.1, by rw [e.2]; exact h.2.2.2⟩
theorem path2 {t : Topo} (hK : ∀ x ∈ t.links, 1 ≤ x.ai ∧ 1 ≤ x.bi) {a m b : Int} {x y : Part} (h : PartG t a m x) (h' : PartG t m b y) (hp : place x.kind < place y.kind) : PathG t a b [x, y] := by
  have w : wellFormed t [x, y] = true := by
    unfold wellFormed
    rw [inR_yes (by simp) (by simp)]
    simp only [Bool.true_and, Bool.and_eq_true, List.all_eq_true]
    refine ⟨fun z hz => ?_, fun k hk => ?_⟩
    · rcases List.mem_cons.1 hz with rfl | hz
      · exact h.1
      · rw [List.mem_singleton] at hz; subst hz; exact h'.1
    · have : k = 0 := by simpa using hk
      subst this; rw [joinOk_eq (p := [x, y]) (y := x) (x := y) rfl rfl]
      simp [hp, h.2.2.2, h'.2.2.1]
  have e := ends_wf hK w (x := x) (y := y) rfl rfl; exact ⟨w, by simp [verifyPath, h.2.1, h'.2.1], by rw [e.1]; exact h.2.2.1, by rw [e.2]; exact h'.2.2.2⟩
theorem path3 {t : Topo} (hK : ∀ x ∈ t.links, 1 ≤ x.ai ∧ 1 ≤ x.bi) {a m n b : Int} {x y z : Part} (h : PartG t a m x) (h' : PartG t m n y) (h'' : PartG t n b z) (hp : place x.kind < place y.kind) (hp' : place y.kind < place z.kind) : PathG t a b [x, y, z] := by
  have w : wellFormed t [x, y, z] = true := by
    unfold wellFormed
    rw [inR_yes (by simp) (by simp)]
    simp only [Bool.true_and, Bool.and_eq_true, List.all_eq_true]
    refine ⟨fun u hu => ?_, fun k hk => ?_⟩
    · rcases List.mem_cons.1 hu with rfl | hu
      · exact h.1
      · rcases List.mem_cons.1 hu with rfl | hu
        · exact h'.1
        · rw [List.mem_singleton] at hu; subst hu; exact h''.1
    · have : k = 0 ∨ k = 1 := by have := List.mem_range.1 hk; simp at this; omega
      rcases this with rfl | rfl
      · rw [joinOk_eq (p := [x, y, z]) (y := x) (x := y) rfl rfl]
        simp [hp, h.2.2.2, h'.2.2.1]
      · rw [joinOk_eq (p := [x, y, z]) (y := y) (x := z) rfl rfl]
        simp [hp', h'.2.2.2, h''.2.2.1]
  have e := ends_wf hK w (x := x) (y := z) rfl rfl; exact ⟨w, by simp [verifyPath, h.2.1, h'.2.1, h''.2.1], by rw [e.1]; exact h.2.2.1, by rw [e.2]; exact h''.2.2.2⟩
/-- The first place of a realm among hops; -1: none. -/
def firstH (l : List Hop) (r : Int) : Int := idxI (l.findIdx? fun x => decide (x.ia = r))
def downs (k : Sdb) (r : Int) : List Seg := k.down.filter fun s => decide (lastS s = r)
def betw (k : Sdb) (a b : Int) : List Seg := k.core.filter fun s => decide (firstS s = a) && decide (lastS s = b)
def seg0 : Seg := ⟨0, 0, []⟩
def cores (k : Sdb) (up : Seg) (a b : Int) (dn : Seg) : List Path := (betw k a b).map (fun s => joinT up s false dn) ++ (betw k b a).map (fun s => joinT up s true dn)
def alone1 (l : List Seg) (kind r : Int) : List Path := l.flatMap fun s => if 0 ≤ firstH s.hops r then [[makePart s kind (firstH s.hops r)]] else []
def pairs1 (u : Seg) (ds : List Seg) : List Path := ds.flatMap fun d => if (joinUD u d).length = 0 then [] else [joinUD u d]
def coreAt (t : Topo) (r : Int) : Bool := match t.ases[r.toNat]? with
  | none => false
  | some x => x.core
def combL (t : Topo) (k : Sdb) (a b : Int) (us ds : List Seg) : List Path :=
  (((((alone1 us 1 b ++ alone1 ds 4 a) ++ cores k seg0 a b seg0) ++ us.flatMap fun u => pairs1 u ds) ++ (if coreAt t a then ds.flatMap fun d => cores k seg0 a (firstS d) d else [])) ++ (if coreAt t b then us.flatMap fun u => cores k u (firstS u) b seg0 else [])) ++ us.flatMap fun u => ds.flatMap fun d => cores k u (firstS u) (firstS d) d
/-- All paths from a to b. -/
def comb (t : Topo) (k : Sdb) (a b : Int) : List Path := if a = b ∨ isAS t a = false ∨ isAS t b = false then [] else combL t k a b (downs k a) (downs k b)
structure DbK (t : Topo) (k : Sdb) : Prop where
  down : ∀ s ∈ k.down, SegK t s ∧ WfS t s
  core : ∀ s ∈ k.core, SegK t s ∧ WfS t s
theorem firstH_at {l : List Hop} {r : Int} (h : 0 ≤ firstH l r) : ∃ x, l[(firstH l r).toNat]? = some x ∧ x.ia = r ∧ firstH l r < l.length := by
  unfold firstH at *
  cases hf : l.findIdx? (fun x => decide (x.ia = r)) with
  | none => rw [hf] at h; simp [idxI] at h
  | some i =>
    rw [hf] at h; rw [List.findIdx?_eq_some_iff_getElem] at hf; obtain ⟨hlt, hp, _⟩ := hf; exact ⟨l[i], List.getElem?_eq_getElem hlt, by simpa using hp, by show (i : Int) < _; omega⟩
theorem lastS_at {s : Seg} {x : Hop} (h : s.hops[s.hops.length - 1]? = some x) : lastS s = x.ia := by unfold lastS; rw [h]
theorem firstS_at {s : Seg} {x : Hop} (h : s.hops[0]? = some x) : firstS s = x.ia := by unfold firstS; rw [h]
theorem make_kind {s : Seg} {kind : Int} (hk : 1 ≤ kind ∧ kind ≤ 4) {i : Int} (hi : 0 ≤ i ∧ i < s.hops.length) : (makePart s kind i).kind = kind := by
  have g1 : inR i 0 ((s.hops.length : Int) - 1) = true := inR_yes (by omega) (by omega); have g2 : inR kind 1 4 = true := inR_yes hk.1 hk.2; cases hr : isRev kind with
  | true => rw [make_rev g1 g2 hr]
  | false => rw [make_fwd g1 g2 hr]
/-- A part of a segment, from its end to a hop of it, or the other way. -/
theorem make_G {t : Topo} (hU : Uniq t.links) (hK : ∀ x ∈ t.links, x.a < x.b ∧ 1 ≤ x.ai ∧ 1 ≤ x.bi) {s : Seg} (K : SegK t s) (W : WfS t s) {kind : Int} (hk : 1 ≤ kind ∧ kind ≤ 4) {i : Int} (hi : 0 ≤ i) {x : Hop} (hx : s.hops[i.toNat]? = some x) : PartG t (if isRev kind then lastS s else x.ia) (if isRev kind then x.ia else lastS s) (makePart s kind i) := by
  have hlt := (List.getElem?_eq_some_iff.1 hx).1
  have hi' : i < s.hops.length := by omega
  have g1 : inR i 0 ((s.hops.length : Int) - 1) = true := inR_yes (by omega) (by omega); have g2 : inR kind 1 4 = true := inR_yes hk.1 hk.2; refine ⟨part_valid hU hK K W hk ⟨hi, hi'⟩, verify_make K kind i, ?_⟩; obtain ⟨y, hy⟩ : ∃ y, s.hops[s.hops.length - 1]? = some y := getx (by omega); rw [lastS_at hy]; have hd : (s.hops.drop i.toNat).length = s.hops.length - i.toNat := List.length_drop ..
  have d0 : (s.hops.drop i.toNat)[0]? = some x := by rw [List.getElem?_drop]; exact hx
  have d1 : (s.hops.drop i.toNat)[s.hops.length - i.toNat - 1]? = some y := by
    rw [List.getElem?_drop, ← hy]; congr 1; omega
  cases hr : isRev kind with
  | true =>
    rw [make_rev g1 g2 hr]
    simp only [if_true]
    unfold firstIa lastIa
    dsimp only; rw [List.length_reverse, hd, List.getElem?_reverse (by omega), List.getElem?_reverse (by omega), hd, Nat.sub_zero, d1, show s.hops.length - i.toNat - 1 - (s.hops.length - i.toNat - 1) = 0 by omega, d0]; exact ⟨rfl, rfl⟩
  | false =>
    rw [make_fwd g1 g2 hr]
    simp only [Bool.false_eq_true, if_false]
    unfold firstIa lastIa
    dsimp only; rw [hd, d0, d1]; exact ⟨rfl, rfl⟩
section
variable {t : Topo} (hU : Uniq t.links) (hK : ∀ x ∈ t.links, x.a < x.b ∧ 1 ≤ x.ai ∧ 1 ≤ x.bi)
include hU hK
theorem up_G {s : Seg} (K : SegK t s) (W : WfS t s) {i : Int} (hi : 0 ≤ i) {x : Hop} (hx : s.hops[i.toNat]? = some x) : PartG t (lastS s) x.ia (makePart s 1 i) := make_G hU hK K W (kind := 1) (by omega) hi hx
theorem down_G {s : Seg} (K : SegK t s) (W : WfS t s) {i : Int} (hi : 0 ≤ i) {x : Hop} (hx : s.hops[i.toNat]? = some x) : PartG t x.ia (lastS s) (makePart s 4 i) := make_G hU hK K W (kind := 4) (by omega) hi hx
theorem whole_G {s : Seg} (K : SegK t s) (W : WfS t s) {kind : Int} (hk : 1 ≤ kind ∧ kind ≤ 4) : PartG t (if isRev kind then lastS s else firstS s) (if isRev kind then firstS s else lastS s) (makePart s kind 0) := by
  obtain ⟨x, hx⟩ : ∃ x, s.hops[0]? = some x := getx (by have := W.len; omega); rw [firstS_at hx]; exact make_G hU hK K W hk (Int.le_refl _) hx
theorem alone_up {l : List Seg} {a b : Int} (hl : ∀ s ∈ l, (SegK t s ∧ WfS t s) ∧ lastS s = a) : ∀ p ∈ alone1 l 1 b, PathG t a b p := by
  intro p hp
  unfold alone1 at hp
  rw [List.mem_flatMap] at hp; obtain ⟨s, hs, hp⟩ := hp; obtain ⟨⟨K, W⟩, e⟩ := hl s hs
  split at hp
  · rename_i h0
    rw [List.mem_singleton] at hp; obtain ⟨x, hx, e2, _⟩ := firstH_at h0; have := up_G hU hK K W h0 hx; rw [e, e2] at this; rw [hp]; exact path1 (fun x hx => (hK x hx).2) this
  · simp at hp
theorem alone_down {l : List Seg} {a b : Int} (hl : ∀ s ∈ l, (SegK t s ∧ WfS t s) ∧ lastS s = b) : ∀ p ∈ alone1 l 4 a, PathG t a b p := by
  intro p hp
  unfold alone1 at hp
  rw [List.mem_flatMap] at hp; obtain ⟨s, hs, hp⟩ := hp; obtain ⟨⟨K, W⟩, e⟩ := hl s hs
  split at hp
  · rename_i h0
    rw [List.mem_singleton] at hp; obtain ⟨x, hx, e2, _⟩ := firstH_at h0; have := down_G hU hK K W h0 hx; rw [e, e2] at this; rw [hp]; exact path1 (fun x hx => (hK x hx).2) this
  · simp at hp
theorem core_G {k : Sdb} (D : DbK t k) {a b : Int} {s : Seg} {rev : Bool} (h : s ∈ (if rev then betw k b a else betw k a b)) : PartG t a b (makePart s (if rev then 3 else 2) 0) := by
  cases rev with
  | true =>
    simp only [if_true] at h
    unfold betw at h
    rw [List.mem_filter] at h; obtain ⟨hs, e⟩ := h
    simp only [Bool.and_eq_true, decide_eq_true_eq] at e
    have := whole_G hU hK (D.core s hs).1 (D.core s hs).2 (kind := 3) (by omega); rw [show isRev 3 = true from rfl] at this
    simp only [if_true] at this
    rw [e.1, e.2] at this; exact this
  | false =>
    simp only [Bool.false_eq_true, if_false] at h
    unfold betw at h
    rw [List.mem_filter] at h; obtain ⟨hs, e⟩ := h
    simp only [Bool.and_eq_true, decide_eq_true_eq] at e
    have := whole_G hU hK (D.core s hs).1 (D.core s hs).2 (kind := 2) (by omega); rw [show isRev 2 = false from rfl] at this
    simp only [Bool.false_eq_true, if_false] at this
    rw [e.1, e.2] at this; exact this
end
theorem mem_cores {k : Sdb} {up dn : Seg} {a b : Int} {p : Path} (h : p ∈ cores k up a b dn) : ∃ s rev, s ∈ (if rev then betw k b a else betw k a b) ∧ p = joinT up s rev dn := by
  unfold cores at h
  rw [List.mem_append, List.mem_map, List.mem_map] at h
  rcases h with ⟨s, hs, e⟩ | ⟨s, hs, e⟩
  · exact ⟨s, false, hs, e.symm⟩
  · exact ⟨s, true, hs, e.symm⟩
theorem core_pos {t : Topo} {k : Sdb} (D : DbK t k) {a b : Int} {s : Seg} {rev : Bool} (h : s ∈ (if rev then betw k b a else betw k a b)) : 0 < (s.hops.length : Int) := by
  have hm : s ∈ k.core := by
    unfold betw at h
    cases rev <;> simp only [Bool.false_eq_true, if_false, if_true] at h <;> exact (List.mem_filter.1 h).1
  have := (D.core s hm).2.len
  omega
theorem addP_yes {s : Seg} (h : 0 < (s.hops.length : Int)) (k : Int) : addP s k = [makePart s k 0] := if_pos h
theorem addP_no (k : Int) : addP seg0 k = [] := rfl
theorem lastI_at (l : List Hop) (r : Int) : ∀ n : Nat, 0 ≤ lastI l r n → ∃ x, l[(lastI l r n).toNat]? = some x ∧ x.ia = r
  | 0, h => by simp [lastI] at h
  | n + 1, h => by
    unfold lastI at h ⊢
    split at h
    · rename_i x hx
      split at h
      · rename_i e
        simp only [e, if_true]
        exact ⟨x, by rw [Int.toNat_natCast]; exact hx, e⟩
      · rename_i e
        simp only [if_neg e]
        exact lastI_at l r n h
    · exact lastI_at l r n h
theorem meet_at (u d : Seg) : ∀ n : Nat, (meet u d n).length ≠ 0 → ∃ (i : Nat) (j : Int) (x y : Hop), meet u d n = [makePart u 1 i, makePart d 4 j] ∧ u.hops[i]? = some x ∧ 0 ≤ j ∧ d.hops[j.toNat]? = some y ∧ y.ia = x.ia
  | 0, h => by simp [meet] at h
  | n + 1, h => by
    unfold meet at h ⊢
    split at h
    · simp at h
    · rename_i x hx
      split at h
      · rename_i e
        obtain ⟨y, hy, e2⟩ := lastI_at d.hops x.ia _ e
        simp only [if_pos e]
        exact ⟨n, _, x, y, rfl, hx, e, hy, e2⟩
      · rename_i e
        simp only [if_neg e]
        exact meet_at u d n h
/-- Every path of a book leads from a to b, is well formed, and seals right. -/
theorem comb_good {t : Topo} (hU : Uniq t.links) (hK : ∀ x ∈ t.links, x.a < x.b ∧ 1 ≤ x.ai ∧ 1 ≤ x.bi) {k : Sdb} (D : DbK t k) {a b : Int} : ∀ p ∈ comb t k a b, PathG t a b p := by
 have hK' : ∀ x ∈ t.links, 1 ≤ x.ai ∧ 1 ≤ x.bi := fun x hx => (hK x hx).2
 have hu : ∀ r, ∀ s ∈ downs k r, (SegK t s ∧ WfS t s) ∧ lastS s = r := fun r s hs => by
  unfold downs at hs
  rw [List.mem_filter, decide_eq_true_eq] at hs; exact ⟨D.down s hs.1, hs.2⟩
 have pos : ∀ {s}, SegK t s ∧ WfS t s → 0 < (s.hops.length : Int) := fun h => by have := h.2.len; omega
 have upW : ∀ {r s}, s ∈ downs k r → PartG t r (firstS s) (makePart s 1 0) := fun {r s} h => by
  have h1 := hu r s h; have := whole_G hU hK h1.1.1 h1.1.2 (kind := 1) (by omega); rw [show isRev 1 = true from rfl] at this
  simp only [if_true] at this
  rw [h1.2] at this; exact this
 have dnW : ∀ {r s}, s ∈ downs k r → PartG t (firstS s) r (makePart s 4 0) := fun {r s} h => by
  have h1 := hu r s h; have := whole_G hU hK h1.1.1 h1.1.2 (kind := 4) (by omega); rw [show isRev 4 = false from rfl] at this
  simp only [Bool.false_eq_true, if_false] at this
  rw [h1.2] at this; exact this
 have kd : ∀ {s : Seg} {kind : Int}, SegK t s ∧ WfS t s → 1 ≤ kind ∧ kind ≤ 4 → (makePart s kind 0).kind = kind := fun {s kind} h hk => make_kind hk ⟨Int.le_refl _, pos h⟩
 have kc : ∀ {x y : Int} {s : Seg} {rev : Bool}, s ∈ (if rev then betw k y x else betw k x y) → (makePart s (if rev then 3 else 2) 0).kind = (if rev then 3 else 2) := fun {x y s rev} h => by
  have := core_pos D h; exact make_kind (by cases rev <;> simp) ⟨Int.le_refl _, this⟩
 have pc : ∀ rev : Bool, place (if rev then 3 else 2) = 2 := fun rev => by cases rev <;> rfl
 intro p hp
 unfold comb at hp
 split at hp
 ·simp at hp
 ·unfold combL at hp
  rw [List.mem_append, List.mem_append, List.mem_append, List.mem_append, List.mem_append, List.mem_append] at hp
  rcases hp with (((((hp | hp) | hp) | hp) | hp) | hp) | hp
  ·exact alone_up hU hK (hu a) p hp
  ·exact alone_down hU hK (hu b) p hp
  ·obtain ⟨s, rev, hs, rfl⟩ := mem_cores hp
   unfold joinT
   rw [addP_no, addP_no, addP_yes (core_pos D hs)]; exact path1 hK' (core_G hU hK D hs)
  ·rw [List.mem_flatMap] at hp; obtain ⟨u, huu, hp⟩ := hp
   unfold pairs1 at hp
   rw [List.mem_flatMap] at hp; obtain ⟨d, hdd, hp⟩ := hp
   split at hp
   ·simp at hp
   ·rename_i hne
    rw [List.mem_singleton] at hp; obtain ⟨i, j, x, y, e, hx, hj, hy, e2⟩ := meet_at u d u.hops.length hne
    unfold joinUD at hp
    rw [hp, e]; have h1 := hu a u huu; have h2 := hu b d hdd; have g1 := up_G hU hK h1.1.1 h1.1.2 (i := (i : Int)) (by omega) (x := x) (by rw [Int.toNat_natCast]; exact hx); have g2 := down_G hU hK h2.1.1 h2.1.2 hj hy; rw [h1.2] at g1; rw [h2.2, e2] at g2; have l1 := (List.getElem?_eq_some_iff.1 hx).1; have l2 := (List.getElem?_eq_some_iff.1 hy).1; refine path2 hK' g1 g2 ?_; rw [make_kind (by omega) (by omega), make_kind (by omega) (by omega)]
    decide
  ·split at hp
   ·rw [List.mem_flatMap] at hp; obtain ⟨d, hdd, hp⟩ := hp; obtain ⟨s, rev, hs, rfl⟩ := mem_cores hp
    unfold joinT
    rw [addP_no, addP_yes (core_pos D hs), addP_yes (pos (hu b d hdd).1)]; refine path2 hK' (core_G hU hK D hs) (dnW hdd) ?_; rw [kc hs, kd (hu b d hdd).1 (by omega), pc]
    decide
   ·simp at hp
  ·split at hp
   ·rw [List.mem_flatMap] at hp; obtain ⟨u, huu, hp⟩ := hp; obtain ⟨s, rev, hs, rfl⟩ := mem_cores hp
    unfold joinT
    rw [addP_no, addP_yes (core_pos D hs), addP_yes (pos (hu a u huu).1)]; refine path2 hK' (upW huu) (core_G hU hK D hs) ?_; rw [kc hs, kd (hu a u huu).1 (by omega), pc]
    decide
   ·simp at hp
  ·rw [List.mem_flatMap] at hp; obtain ⟨u, huu, hp⟩ := hp; rw [List.mem_flatMap] at hp; obtain ⟨d, hdd, hp⟩ := hp; obtain ⟨s, rev, hs, rfl⟩ := mem_cores hp
   unfold joinT
   rw [addP_yes (core_pos D hs), addP_yes (pos (hu a u huu).1), addP_yes (pos (hu b d hdd).1)]; refine path3 hK' (upW huu) (core_G hU hK D hs) (dnW hdd) ?_ ?_
   ·rw [kc hs, kd (hu a u huu).1 (by omega), pc]
    decide
   ·rw [kc hs, kd (hu b d hdd).1 (by omega), pc]
    decide
theorem impl_copySegment (s : Seg) (u : Value) (w : World) (h : VA segT w u s) (hz : s.hops.length ≤ 1048576) : Calls Tryz.prog 133 #[u] w fun e w' => ∃ cs fp, e = .returned (.agg cs.toArray) ∧ segT.O w.heap.size w' cs s fp ∧ Below w.heap.size w w' := by
 obtain ⟨v2, rfl, h2⟩ := seg_va h; have X0 := Below.refl w.heap.size w; refine enter Tryz.func133 rfl Tryz.ntmps133 rfl ?_; refine w_h ?_; have S := Sep.nil w; have B := Below.refl w.heap.size w; have Hb := Nat.le_refl w.heap.size; refine t_boxo S rfl rfl ?_ rfl rfl; intro g1 w1 x2 S; have B := bx Hb B x2; refine t_w S z_seg rfl ?_ rfl rfl; intro g2 w3 x4 S; have B := bx Hb B x4; refine t_k ?_; refine t_y fb_seg_2 rfl rfl ?_ rfl; refine t_bx1 S.tail.box ab_s_hop rfl rfl ?_ rfl; refine t_c Tryz.call125 rfl (impl_copyHops _ _ _ (by first | assumption | exact SlR.below ‹_› B) (by omega)) ?_ rfl rfl; rintro e w5 ⟨v5, fpv5, rfl, hOv5, x6⟩; refine ⟨_, rfl, x6, ?_⟩; have S := S.add (o := slO _ _ _ _) x6 hOv5; have B := bx Hb B x6; refine t_y fb_seg_2 rfl rfl ?_ rfl; obtain ⟨Av5, cv5, rfl, _⟩ := S.sl.form; have S := S.f2; refine t_st1 S sb_s_hop rfl rfl rfl rfl rfl ?_; intro w7 b8 S; have B := B.trans b8; refine t_k ?_; refine t_b S.box ab_seg sb_seg rfl rfl ?_ rfl; have S := S.f2; refine t_stn S sb_seg rfl rfl rfl rfl (by repeat first | exact oc0 | refine oc rfl ?_ | refine oc (SlR.cells (S.tail.tail.sl)).2 ?_) ?_; intro w9 b10 S; have B := B.trans b10; refine t_e ?_; refine w_r ?_
 refine x_retc rfl rfl S.box ab_seg sb_seg rfl ?_; have S := S.f2; have S := S.segShut (x := s); obtain ⟨fp, hO⟩ := (S.mono X0.size).head; exact ⟨_, fp, rfl, hO, ext_trans X0 B⟩
theorem spec_l9Copy (s : Seg) (u : Value) (w : World) (h : VA segT w u s) (hz : s.hops.length ≤ 1048576) : Calls Tryz.prog 146 #[u] w fun e w' => ∃ cs fp, e = .returned (.agg cs.toArray) ∧ segT.O w.heap.size w' cs s fp ∧ Below w.heap.size w w' := by
 have X0 := Below.refl w.heap.size w; refine enter Tryz.func146 rfl Tryz.ntmps146 rfl ?_; refine w_h ?_; refine t_boxr ‹_› rfl ?_ rfl rfl; intro p1 w11 x12 hp1; replace h := h.below x12; have X0 := ext_trans X0 x12; have S := Sep.nil w11; have B := Below.refl w11.heap.size w11; have Hb := Nat.le_refl w11.heap.size; refine t_w S z_seg rfl ?_ rfl rfl; intro g2 w13 x14 S; have B := bx Hb B x14; refine t_e ?_; refine w_s ?_; refine w_drawP [] (.st .take 0 (.st .take 1 (.st .take 2 (.st .take 3 (.st .take 5 (.st .take 6 (.st .run 4 (.st .run 7 (.st .take 8 (.st .fin 9 .done)))))))))) mixed (by kernel_rfl) ?_; intro w15 x16; have B := bx Hb B x16; have S := S.below x16; refine t_fld ln_seg_0 ‹_› fb_seg_0 rfl ?_ rfl; intro p3 hp3; refine t_ldi ‹_› ab_int B rfl ?_ rfl; refine t_fld ln_seg_1 ‹_› fb_seg_1 rfl ?_ rfl; intro p5 hp5; refine t_ldi ‹_› ab_int B rfl ?_ rfl; refine t_fld ln_seg_2 ‹_› fb_seg_2 rfl ?_ rfl; intro p8 hp8; refine t_lds ‹_› ab_s_hop B rfl ?_ rfl; intro v9 hv9; refine t_lit0 (T := hopT) S bs_hop0 rfl ?_ rfl rfl; intro A7 w17 x18 S; have B := bx Hb B x18
 refine t_cat0 hop_flat e_hop S (by first | assumption | exact SlR.below ‹_› B) rfl rfl rfl (by first | omega | (simp [-List.length_flatMap]; omega)) (by (simp [maxLen, -List.length_flatMap]; try omega)) ?_ rfl; intro v10 w19 x20 S; have B := bx Hb B x20; obtain ⟨Av10, cv10, rfl, _⟩ := S.sl.form; refine t_g (fun w => b_seg _ _ _ _ _ w) rfl ?_ rfl; have S := S.f1; refine t_stn S sb_seg rfl rfl rfl rfl (by repeat first | exact oc0 | refine oc rfl ?_ | refine oc (SlR.cells (S.tail.sl)).2 ?_) ?_; intro w21 b22 S; have B := B.trans b22; refine t_e' ?_; refine w_r ?_; refine x_retc rfl rfl S.box ab_seg sb_seg rfl ?_; have S := S.f1; have S := S.segShut (x := s); obtain ⟨fp, hO⟩ := (S.mono X0.size).head; exact ⟨_, fp, rfl, hO, ext_trans X0 B⟩
theorem firstH_yes {l : List Hop} {r : Int} {k : Nat} {x : Hop} (h : l[k]? = some x) (hp : ∀ (j : Nat) y, j < k → l[j]? = some y → y.ia ≠ r) (e : x.ia = r) : firstH l r = k := by
  unfold firstH
  have hk := List.getElem?_eq_some_iff.1 h
  have : l.findIdx? (fun x => decide (x.ia = r)) = some k := by
    rw [List.findIdx?_eq_some_iff_getElem]; have hkl := hk.1; refine ⟨hk.1, by rw [hk.2]; simp [e], fun j hj => ?_⟩; have := hp j (l[j]'(by omega)) hj (List.getElem?_eq_getElem (by omega))
    simp [this]
  rw [this]; rfl
theorem firstH_no {l : List Hop} {r : Int} (hp : ∀ (j : Nat) y, j < l.length → l[j]? = some y → y.ia ≠ r) : firstH l r = -1 := by
  unfold firstH
  have : l.findIdx? (fun x => decide (x.ia = r)) = none := by
    rw [List.findIdx?_eq_none_iff]; intro x hx; obtain ⟨j, hj, e⟩ := List.mem_iff_getElem.1 hx; have := hp j x hj (by rw [List.getElem?_eq_getElem hj, e])
    simp [this]
  rw [this]; rfl
theorem flat_succ {α β : Type} {l : List α} {k : Nat} {x : α} (f : α → List β) (h : l[k]? = some x) : (l.take (k + 1)).flatMap f = (l.take k).flatMap f ++ f x := by
  rw [take_succ h, List.flatMap_append]; simp
theorem sz_segs_app (a b : List Seg) : sz_segs (a ++ b) = sz_segs a + sz_segs b := by
  unfold sz_segs
  rw [List.length_append, List.map_append, List.sum_append]
  omega
theorem sz_segs_mem {l : List Seg} {s : Seg} (h : s ∈ l) : 1 + s.hops.length ≤ sz_segs l := by
  have := le_sum_of_mem (List.mem_map.2 ⟨s, h, rfl⟩ : sz_seg s ∈ l.map sz_seg); have h0 : 0 < l.length := List.length_pos_of_mem h
  unfold sz_segs
  have e : sz_seg s = s.hops.length := rfl
  omega
theorem sz_filter (f : Seg → Bool) (l : List Seg) : sz_segs (l.filter f) ≤ sz_segs l := by
  induction l with
  | nil => exact Nat.le_refl _
  | cons a t ih =>
    have e : sz_segs (a :: t) = 1 + sz_seg a + sz_segs t := by unfold sz_segs; simp; omega
    rw [List.filter_cons]
    split
    · have e2 : sz_segs (a :: t.filter f) = 1 + sz_seg a + sz_segs (t.filter f) := by unfold sz_segs; simp; omega
      omega
    · omega
theorem hp_succ {l : List Hop} {r : Int} {k : Nat} {x : Hop} (h : l[k]? = some x) (hp : ∀ (j : Nat) y, j < k → l[j]? = some y → y.ia ≠ r) (e : x.ia ≠ r) : ∀ (j : Nat) y, j < k + 1 → l[j]? = some y → y.ia ≠ r := by
  intro j y hj hy
  rcases Nat.lt_or_ge j k with q | q
  · exact hp j y q hy
  · have : j = k := by omega
    subst this; rw [h] at hy; cases hy; exact e
theorem impl_firstHopOf (s : Seg) (v : Value) (r : Int) (w : World) (h : VA segT w v s) (hz : s.hops.length ≤ 1048576) : Calls Tryz.prog 92 #[v, I r] w fun e w' => e = .returned (I (firstH s.hops r)) ∧ Below w.heap.size w w' := by
 have X0 := Below.refl w.heap.size w; refine enter Tryz.func92 rfl Tryz.ntmps92 rfl ?_; refine w_h ?_; refine t_boxr ‹_› rfl ?_ rfl rfl; intro p2 w23 x24 hp2; replace h := h.below x24; have X0 := ext_trans X0 x24; have S := Sep.nil w23; have B := Below.refl w23.heap.size w23; have Hb := Nat.le_refl w23.heap.size; refine t_a rfl ?_ rfl; refine t_e ?_; (iterate 2 refine w_s ?_); refine w_g ?_; refine t_fld ln_seg_2 ‹_› fb_seg_2 rfl ?_ rfl; intro p7 hp7; refine t_lds ‹_› ab_s_hop B rfl ?_ rfl; intro v8 hv8; refine t_len e_hop ‹_› rfl rfl ?_ rfl; refine t_m rfl ?_ rfl; refine t_e ?_; refine w_block ?_; refine w_loop (X := Nat) (fun k wq => k ≤ s.hops.length ∧ (∀ (j : Nat) y, j < k → s.hops[j]? = some y → y.ia ≠ r) ∧ Below w23.heap.size w23 wq ∧ Sep w23.heap.size wq []) (fun k => [(10, I ((k : Int))), (1, I r), (8, v8), (9, I ((s.hops.length : Int)))]) (fun k => s.hops.length - k) (0) ?_ ⟨rfl, rfl, rfl, rfl, trivial⟩ ?_
 ·exact ⟨by omega, fun j y hj => by omega, B, S⟩
 ·rintro k w25 hI; (try dsimp only at hI ⊢); obtain ⟨hk, hp, B, S⟩ := hI; refine w_h ?_; refine t_lss rfl rfl ?_ rfl; refine t_e ?_; refine w_s ?_; refine w_if rfl ?_ ?_
  ·intro hlt; obtain ⟨x, hx⟩ : ∃ e, s.hops[k]? = some e := getx (by omega); refine w_k ?_; refine x_s ?_; refine w_s ?_; refine w_block ?_; refine w_h ?_; refine t_m rfl ?_ rfl; refine t_idx e_hop (k := k) ‹_› hx B rfl rfl (by first | rfl | omega) ?_ rfl; intro p13 hp13; refine t_lda ‹_› ab_hop sb_hop B rfl ?_ rfl; intro v14 hv14; obtain rfl := hop_va hv14; refine t_w S z_hop rfl ?_ rfl rfl; intro g6 w26 x27 S; have B := bx Hb B x27; refine t_a rfl ?_ rfl; refine t_stn S sb_hop rfl rfl rfl rfl (by repeat first | exact oc0 | refine oc rfl ?_) ?_; intro w28 b29 S; have B := B.trans b29; refine t_k ?_; refine t_y fb_hop_0 rfl rfl ?_ rfl; refine t_bx1 S.box ab_int rfl rfl ?_ rfl; refine t_m rfl ?_ rfl; refine t_eql rfl rfl ?_ rfl; refine t_e ?_; refine w_if rfl ?_ ?_
   ·intro he; refine w_h ?_; refine t_m rfl ?_ rfl; refine t_a rfl ?_ rfl; refine t_e ?_; refine w_r ?_; refine x_block_ret ?_; (iterate 2 refine x_t ?_); refine x_block_ret ?_; refine x_t ?_; refine x_ret1 rfl rfl ?_; exact ⟨ret_int (firstH_yes hx hp he).symm, ext_trans X0 B⟩
   ·intro he; refine w_k ?_; refine x_b ?_; refine x_s ?_; refine w_g ?_; refine t_add rfl rfl (by omega) ?_ rfl; refine t_m rfl ?_ rfl; refine t_d ?_; have S := S.tail; refine x_r (X := Nat) (k + 1) ?_ (by exact ⟨rfl, rfl, rfl, rfl, trivial⟩) (by (try dsimp only); omega); (try dsimp only); exact ⟨by omega, hp_succ hx hp he, B, S⟩
  ·intro hge; refine w_exit ?_; (iterate 2 refine x_then_exit ?_); refine x_block_exit ?_; refine x_s ?_; refine w_h ?_; refine t_a rfl ?_ rfl; refine t_e ?_; refine w_r ?_; refine x_ret1 rfl rfl ?_; exact ⟨ret_int (firstH_no fun j y hj => hp j y (by omega)).symm, ext_trans X0 B⟩
theorem spec_l23Index (s : Seg) (v : Value) (r : Int) (w : World) (h : VA segT w v s) (hz : s.hops.length ≤ 1048576) : Calls Tryz.prog 145 #[v, I r] w fun e w' => e = .returned (I (firstH s.hops r)) ∧ Below w.heap.size w w' := by
 have X0 := Below.refl w.heap.size w; refine enter Tryz.func145 rfl Tryz.ntmps145 rfl ?_; refine w_h ?_; refine t_boxr ‹_› rfl ?_ rfl rfl; intro p2 w30 x31 hp2; replace h := h.below x31; have X0 := ext_trans X0 x31; have S := Sep.nil w30; have B := Below.refl w30.heap.size w30; have Hb := Nat.le_refl w30.heap.size; refine t_a rfl ?_ rfl; refine t_e ?_; (iterate 2 refine w_s ?_); refine w_g ?_; refine t_a rfl ?_ rfl; refine t_e ?_; refine w_block ?_; refine w_loop (X := Nat) (fun k wq => k ≤ s.hops.length ∧ (∀ (j : Nat) y, j < k → s.hops[j]? = some y → y.ia ≠ r) ∧ Below w30.heap.size w30 wq ∧ Sep w30.heap.size wq []) (fun k => [(5, I ((k : Int))), (1, I r), (2, p2)]) (fun k => s.hops.length - k) (0) ?_ ⟨rfl, rfl, rfl, trivial⟩ ?_
 ·exact ⟨by omega, fun j y hj => by omega, B, S⟩
 ·rintro k w32 hI; (try dsimp only at hI ⊢); obtain ⟨hk, hp, B, S⟩ := hI; (iterate 2 refine w_s ?_); refine w_g ?_; refine t_m rfl ?_ rfl; refine t_fld ln_seg_2 ‹_› fb_seg_2 rfl ?_ rfl; intro p7 hp7; refine t_lds ‹_› ab_s_hop B rfl ?_ rfl; intro v8 hv8; refine t_len e_hop ‹_› rfl rfl ?_ rfl; refine t_lss rfl rfl ?_ rfl; refine t_e ?_; refine w_if rfl ?_ ?_
  ·intro hlt; obtain ⟨x, hx⟩ : ∃ e, s.hops[k]? = some e := getx (by omega); refine w_k ?_; refine x_s ?_; refine w_s ?_; refine w_block ?_; refine w_h ?_; refine t_fld ln_seg_2 ‹_› fb_seg_2 rfl ?_ rfl; intro p13 hp13; refine t_lds ‹_› ab_s_hop B rfl ?_ rfl; intro v14 hv14; refine t_m rfl ?_ rfl; refine t_idx e_hop (k := k) ‹_› hx B rfl rfl (by first | rfl | omega) ?_ rfl; intro p16 hp16; refine t_fld ln_hop_0 ‹_› fb_hop_0 rfl ?_ rfl; intro p17 hp17; refine t_ldi ‹_› ab_int B rfl ?_ rfl; refine t_m rfl ?_ rfl; refine t_eql rfl rfl ?_ rfl; refine t_e ?_; refine w_if rfl ?_ ?_
   ·intro he; refine w_h ?_; refine t_m rfl ?_ rfl; refine t_a rfl ?_ rfl; refine t_e ?_; refine w_r ?_; refine x_block_ret ?_; (iterate 2 refine x_t ?_); refine x_block_ret ?_; refine x_t ?_; refine x_ret1 rfl rfl ?_; exact ⟨ret_int (firstH_yes hx hp he).symm, ext_trans X0 B⟩
   ·intro he; refine w_k ?_; refine x_b ?_; refine x_s ?_; refine w_g ?_; refine t_m rfl ?_ rfl; refine t_add rfl rfl (by omega) ?_ rfl; refine t_a rfl ?_ rfl; refine t_d ?_; refine x_r (X := Nat) (k + 1) ?_ (by exact ⟨rfl, rfl, rfl, trivial⟩) (by (try dsimp only); omega); (try dsimp only); exact ⟨by omega, hp_succ hx hp he, B, S⟩
  ·intro hge; refine w_exit ?_; (iterate 2 refine x_then_exit ?_); refine x_block_exit ?_; refine x_s ?_; refine w_h ?_; refine t_a rfl ?_ rfl; refine t_e ?_; refine w_r ?_; refine x_ret1 rfl rfl ?_; exact ⟨ret_int (firstH_no fun j y hj => hp j y (by omega)).symm, ext_trans X0 B⟩
theorem sz_take (l : List Seg) (k : Nat) : sz_segs (l.take k) ≤ sz_segs l := by
  have := sz_segs_app (l.take k) (l.drop k); rw [List.take_append_drop] at this
  omega
theorem impl_DownSegments (q : Sdb) (v : Value) (r : Int) (w : World) (h : VA sdbT w v q) (hz : sz_sdb q ≤ 1048576) : Calls Tryz.prog 91 #[v, I r] w fun e w' => ∃ v fp, e = .returned v ∧ SlO segT 67 w.heap.size w' v (downs q r) fp ∧ Below w.heap.size w w' := by
 have hz1 : sz_segs q.down ≤ 1048576 := by unfold sz_sdb at hz; omega
 have hl1 : q.down.length ≤ 1048576 := by unfold sz_segs at hz1; omega
 have X0 := Below.refl w.heap.size w; refine enter Tryz.func91 rfl Tryz.ntmps91 rfl ?_; refine w_h ?_; refine t_boxr ‹_› rfl ?_ rfl rfl; intro p2 w33 x34 hp2; replace h := h.below x34; have X0 := ext_trans X0 x34; have S := Sep.nil w33; have B := Below.refl w33.heap.size w33; have Hb := Nat.le_refl w33.heap.size; refine t_a rfl ?_ rfl; refine t_k ?_; refine t_a rfl ?_ rfl; refine t_e ?_; (iterate 2 refine w_s ?_); refine w_g ?_; refine t_fld ln_sdb_0 ‹_› fb_sdb_0 rfl ?_ rfl; intro p8 hp8; refine t_lds ‹_› ab_s_seg B rfl ?_ rfl; intro v9 hv9; refine t_len e_seg ‹_› rfl rfl ?_ rfl; refine t_m rfl ?_ rfl; refine t_e ?_; refine w_block ?_; refine w_loop (X := Nat × List Seg × Value) (fun x wq => (fun k out u => k ≤ q.down.length ∧ out = downs ⟨q.down.take k, q.core⟩ r ∧ Below w33.heap.size w33 wq ∧ Sep w33.heap.size wq [slO segT 67 u out]) x.1 x.2.1 x.2.2) (fun x => (fun k out u => [(11, I ((k : Int))), (5, u), (1, I r), (4, .slice none 0 0), (9, v9), (10, I ((q.down.length : Int)))]) x.1 x.2.1 x.2.2) (fun x => (fun k out u => q.down.length - k) x.1 x.2.1 x.2.2) (0, [], _) ?_ ⟨rfl, rfl, rfl, rfl, rfl, rfl, trivial⟩ ?_
 ·exact ⟨by omega, rfl, B, S.addNil⟩
 ·rintro ⟨k, out, u⟩ w35 hI; (try dsimp only at hI ⊢); obtain ⟨hk, ho, B, S⟩ := hI
  have hso : sz_segs out ≤ 1048576 := by
   rw [ho]; unfold downs; exact Nat.le_trans (Nat.le_trans (sz_filter _ _) (sz_take _ _)) hz1
  have hol : out.length ≤ 1048576 := by unfold sz_segs at hso; omega
  refine w_h ?_; refine t_lss rfl rfl ?_ rfl; refine t_e ?_; refine w_s ?_; refine w_if rfl ?_ ?_
  ·intro hlt; obtain ⟨x, hx⟩ : ∃ e, q.down[k]? = some e := getx (by omega); have hxz := sz_segs_mem (List.mem_of_getElem? hx); refine w_k ?_; refine x_s ?_; refine w_s ?_; refine w_block ?_; refine w_h ?_; refine t_idx e_seg (k := k) ‹_› hx B rfl rfl (by first | rfl | omega) ?_ rfl; intro p13 hp13; refine t_lda ‹_› ab_seg sb_seg B rfl ?_ rfl; intro v14 hv14; obtain ⟨v14_2, rfl, hv14_2⟩ := seg_va hv14; refine t_w S z_seg rfl ?_ rfl rfl; intro g7 w36 x37 S; have B := bx Hb B x37; refine t_stn S sb_seg rfl rfl rfl rfl (by repeat first | exact oc0 | refine oc rfl ?_ | refine oc (SlR.cells ‹_›).2 ?_) ?_; intro w38 b39 S; have B := B.trans b39; refine t_k ?_; refine t_b S.box ab_seg sb_seg rfl rfl ?_ rfl; refine t_x Tryz.call132 rfl (impl_LastAS x _ _ (by first | assumption | exact VA.below ‹_› B | exact seg_mkv (by first | assumption | exact SlR.below ‹_› B)) (by omega)) ?_ rfl rfl; intro w40 x41; have B := bx Hb B x41; have S := S.below x41; refine t_m rfl ?_ rfl; refine t_eql rfl rfl ?_ rfl; refine t_e ?_; refine w_if rfl ?_ ?_
   ·intro he; refine w_g ?_; refine t_m rfl ?_ rfl; refine t_b S.box ab_seg sb_seg rfl rfl ?_ rfl; refine t_c Tryz.call133 rfl (impl_copySegment _ _ _ (by first | assumption | exact VA.below ‹_› B | exact seg_mkv (by first | assumption | exact SlR.below ‹_› B)) (by omega)) ?_ rfl rfl; rintro e w42 ⟨cs21, fp21, rfl, hO21, x43⟩; refine ⟨_, rfl, x43, ?_⟩; have S := S.add (o := tyO segT _ _) x43 hO21; have B := bx Hb B x43; obtain ⟨u21_2, rfl, S2⟩ := S.segOpen; have S := S2; refine t_lit1 (fun w => bs_seg1 _ _ _ w) rfl ?_ rfl rfl; intro A22 w44 x45 hA22; have B := bx Hb B x45; have S := S.below x45; have S := S.segShut (x := x); have S := S.f2; refine t_snoc e_seg S hA22 rfl rfl rfl (by first | omega | (simp; done) | (simp; omega)) (by (simp only [maxLen]); first | omega | (simp; done) | (simp; omega)) ?_ rfl; intro v23 w46 x47 S; have B := B.trans x47; refine t_a rfl ?_ rfl; refine t_d ?_; refine x_b ?_; refine x_s ?_; refine w_g ?_; refine t_add rfl rfl (by omega) ?_ rfl; refine t_m rfl ?_ rfl; refine t_d ?_; have S := S.f1.tail; refine x_r (X := Nat × List Seg × Value) (k + 1, out ++ [x], v23) ?_ (by exact ⟨rfl, rfl, rfl, rfl, rfl, rfl, trivial⟩) (by (try dsimp only); omega)
    (try dsimp only); exact ⟨by omega, by rw [ho]; unfold downs; rw [filt_succ _ hx, if_pos (by simpa using he)], B, S⟩
   ·intro he; refine w_k ?_; refine x_b ?_; refine x_s ?_; refine w_g ?_; refine t_add rfl rfl (by omega) ?_ rfl; refine t_m rfl ?_ rfl; refine t_d ?_; have S := S.tail; refine x_r (X := Nat × List Seg × Value) (k + 1, out, u) ?_ (by exact ⟨rfl, rfl, rfl, rfl, rfl, rfl, trivial⟩) (by (try dsimp only); omega); (try dsimp only); exact ⟨by omega, by rw [ho]; unfold downs; rw [filt_succ _ hx, if_neg (by simpa using he), List.append_nil], B, S⟩
  ·intro hge; refine w_exit ?_; (iterate 2 refine x_then_exit ?_); refine x_block_exit ?_; refine x_s ?_; refine w_h ?_; refine t_m rfl ?_ rfl; refine t_a rfl ?_ rfl; refine t_e ?_; refine w_r ?_; refine x_ret1 rfl rfl ?_; obtain ⟨fp, hO⟩ := (S.mono X0.size).head; rw [ho, List.take_of_length_le (by omega)] at hO; exact ⟨_, fp, rfl, hO, ext_trans X0 B⟩
theorem spec_DownSegments (q : Sdb) (v : Value) (r : Int) (w : World) (h : VA sdbT w v q) (hz : sz_sdb q ≤ 1048576) : Calls Tryz.prog 101 #[v, I r] w fun e w' => ∃ v fp, e = .returned v ∧ SlO segT 67 w.heap.size w' v (downs q r) fp ∧ Below w.heap.size w w' := by
 have hz1 : sz_segs q.down ≤ 1048576 := by unfold sz_sdb at hz; omega
 have hl1 : q.down.length ≤ 1048576 := by unfold sz_segs at hz1; omega
 have X0 := Below.refl w.heap.size w; refine enter Tryz.func101 rfl Tryz.ntmps101 rfl ?_; refine w_h ?_; refine t_boxr ‹_› rfl ?_ rfl rfl; intro p2 w48 x49 hp2; replace h := h.below x49; have X0 := ext_trans X0 x49; have S := Sep.nil w48; have B := Below.refl w48.heap.size w48; have Hb := Nat.le_refl w48.heap.size; refine t_a rfl ?_ rfl; refine t_k ?_; refine t_lit0 (T := segT) S bs_seg0 rfl ?_ rfl rfl; intro A7 w50 x51 S; have B := bx Hb B x51; refine t_a rfl ?_ rfl; refine t_e ?_; (iterate 2 refine w_s ?_); refine w_g ?_; refine t_a rfl ?_ rfl; refine t_e ?_; refine w_block ?_; refine w_loop (X := Nat × List Seg × Value) (fun x wq => (fun k out u => k ≤ q.down.length ∧ out = downs ⟨q.down.take k, q.core⟩ r ∧ Below w48.heap.size w48 wq ∧ Sep w48.heap.size wq [slO segT 67 u out]) x.1 x.2.1 x.2.2) (fun x => (fun k out u => [(6, I ((k : Int))), (5, u), (1, I r), (2, p2), (4, .slice none 0 0)]) x.1 x.2.1 x.2.2) (fun x => (fun k out u => q.down.length - k) x.1 x.2.1 x.2.2) (0, [], _) ?_ ⟨rfl, rfl, rfl, rfl, rfl, trivial⟩ ?_
 ·exact ⟨by omega, rfl, B, S⟩
 ·rintro ⟨k, out, u⟩ w52 hI; (try dsimp only at hI ⊢); obtain ⟨hk, ho, B, S⟩ := hI
  have hso : sz_segs out ≤ 1048576 := by
   rw [ho]; unfold downs; exact Nat.le_trans (Nat.le_trans (sz_filter _ _) (sz_take _ _)) hz1
  have hol : out.length ≤ 1048576 := by unfold sz_segs at hso; omega
  (iterate 2 refine w_s ?_); refine w_g ?_; refine t_m rfl ?_ rfl; refine t_fld ln_sdb_0 ‹_› fb_sdb_0 rfl ?_ rfl; intro p9 hp9; refine t_lds ‹_› ab_s_seg B rfl ?_ rfl; intro v10 hv10; refine t_len e_seg ‹_› rfl rfl ?_ rfl; refine t_lss rfl rfl ?_ rfl; refine t_e ?_; refine w_if rfl ?_ ?_
  ·intro hlt; obtain ⟨x, hx⟩ : ∃ e, q.down[k]? = some e := getx (by omega); have hxz := sz_segs_mem (List.mem_of_getElem? hx); refine w_k ?_; refine x_s ?_; refine w_s ?_; refine w_block ?_; refine w_h ?_; refine t_fld ln_sdb_0 ‹_› fb_sdb_0 rfl ?_ rfl; intro p15 hp15; refine t_lds ‹_› ab_s_seg B rfl ?_ rfl; intro v16 hv16; refine t_m rfl ?_ rfl; refine t_idx e_seg (k := k) ‹_› hx B rfl rfl (by first | rfl | omega) ?_ rfl; intro p18 hp18; refine t_lda ‹_› ab_seg sb_seg B rfl ?_ rfl; intro v19 hv19; obtain ⟨v19_2, rfl, hv19_2⟩ := seg_va hv19; refine t_x Tryz.call114 rfl (spec_LastAS x _ _ (by first | assumption | exact VA.below ‹_› B | exact seg_mkv (by first | assumption | exact SlR.below ‹_› B)) (by omega)) ?_ rfl rfl; intro w53 x54; have B := bx Hb B x54; have S := S.below x54; refine t_m rfl ?_ rfl; refine t_eql rfl rfl ?_ rfl; refine t_e ?_; refine w_if rfl ?_ ?_
   ·intro he; refine w_g ?_; refine t_m rfl ?_ rfl; refine t_fld ln_sdb_0 ‹_› fb_sdb_0 rfl ?_ rfl; intro p24 hp24; refine t_lds ‹_› ab_s_seg B rfl ?_ rfl; intro v25 hv25; refine t_m rfl ?_ rfl; refine t_idx e_seg (k := k) ‹_› hx B rfl rfl (by first | rfl | omega) ?_ rfl; intro p27 hp27; refine t_lda ‹_› ab_seg sb_seg B rfl ?_ rfl; intro v28 hv28; obtain ⟨v28_2, rfl, hv28_2⟩ := seg_va hv28; refine t_c Tryz.call146 rfl (spec_l9Copy _ _ _ (by first | assumption | exact VA.below ‹_› B | exact seg_mkv (by first | assumption | exact SlR.below ‹_› B)) (by omega)) ?_ rfl rfl; rintro e w55 ⟨cs29, fp29, rfl, hO29, x56⟩; refine ⟨_, rfl, x56, ?_⟩; have S := S.add (o := tyO segT _ _) x56 hO29; have B := bx Hb B x56; obtain ⟨u29_2, rfl, S2⟩ := S.segOpen; have S := S2; refine t_lit1 (fun w => bs_seg1 _ _ _ w) rfl ?_ rfl rfl; intro A30 w57 x58 hA30; have B := bx Hb B x58; have S := S.below x58; have S := S.segShut (x := x); have S := S.f1; refine t_snoc e_seg S hA30 rfl rfl rfl (by first | omega | (simp; done) | (simp; omega)) (by (simp only [maxLen]); first | omega | (simp; done) | (simp; omega)) ?_ rfl; intro v31 w59 x60 S; have B := B.trans x60; refine t_a rfl ?_ rfl; refine t_d ?_
    refine x_b ?_; refine x_s ?_; refine w_g ?_; refine t_m rfl ?_ rfl; refine t_add rfl rfl (by omega) ?_ rfl; refine t_a rfl ?_ rfl; refine t_d ?_; refine x_r (X := Nat × List Seg × Value) (k + 1, out ++ [x], v31) ?_ (by exact ⟨rfl, rfl, rfl, rfl, rfl, trivial⟩) (by (try dsimp only); omega); (try dsimp only); exact ⟨by omega, by rw [ho]; unfold downs; rw [filt_succ _ hx, if_pos (by simpa using he)], B, S⟩
   ·intro he; refine w_k ?_; refine x_b ?_; refine x_s ?_; refine w_g ?_; refine t_m rfl ?_ rfl; refine t_add rfl rfl (by omega) ?_ rfl; refine t_a rfl ?_ rfl; refine t_d ?_; refine x_r (X := Nat × List Seg × Value) (k + 1, out, u) ?_ (by exact ⟨rfl, rfl, rfl, rfl, rfl, trivial⟩) (by (try dsimp only); omega); (try dsimp only); exact ⟨by omega, by rw [ho]; unfold downs; rw [filt_succ _ hx, if_neg (by simpa using he), List.append_nil], B, S⟩
  ·intro hge; refine w_exit ?_; (iterate 2 refine x_then_exit ?_); refine x_block_exit ?_; refine x_s ?_; refine w_h ?_; refine t_m rfl ?_ rfl; refine t_a rfl ?_ rfl; refine t_e ?_; refine w_r ?_; refine x_ret1 rfl rfl ?_; obtain ⟨fp, hO⟩ := (S.mono X0.size).head; rw [ho, List.take_of_length_le (by omega)] at hO; exact ⟨_, fp, rfl, hO, ext_trans X0 B⟩
theorem impl_coreFrom (q : Sdb) (v : Value) (a b : Int) (w : World) (h : VA sdbT w v q) (hz : sz_sdb q ≤ 1048576) : Calls Tryz.prog 136 #[v, I a, I b] w fun e w' => ∃ v fp, e = .returned v ∧ SlO segT 67 w.heap.size w' v (betw q a b) fp ∧ Below w.heap.size w w' := by
 have hz1 : sz_segs q.core ≤ 1048576 := by unfold sz_sdb at hz; omega
 have hl1 : q.core.length ≤ 1048576 := by unfold sz_segs at hz1; omega
 have X0 := Below.refl w.heap.size w; refine enter Tryz.func136 rfl Tryz.ntmps136 rfl ?_; refine w_h ?_; refine t_boxr ‹_› rfl ?_ rfl rfl; intro p3 w61 x62 hp3; replace h := h.below x62; have X0 := ext_trans X0 x62; have S := Sep.nil w61; have B := Below.refl w61.heap.size w61; have Hb := Nat.le_refl w61.heap.size; refine t_a rfl ?_ rfl; refine t_k ?_; refine t_a rfl ?_ rfl; refine t_e ?_; (iterate 2 refine w_s ?_); refine w_g ?_; refine t_fld ln_sdb_1 ‹_› fb_sdb_1 rfl ?_ rfl; intro p10 hp10; refine t_lds ‹_› ab_s_seg B rfl ?_ rfl; intro v11 hv11; refine t_len e_seg ‹_› rfl rfl ?_ rfl; refine t_m rfl ?_ rfl; refine t_e ?_; refine w_block ?_; refine w_loop (X := Nat × List Seg × Value) (fun x wq => (fun k out u => k ≤ q.core.length ∧ out = betw ⟨q.down, q.core.take k⟩ a b ∧ Below w61.heap.size w61 wq ∧ Sep w61.heap.size wq [slO segT 67 u out]) x.1 x.2.1 x.2.2) (fun x => (fun k out u => [(13, I ((k : Int))), (7, u), (1, I a), (2, I b), (6, .slice none 0 0), (11, v11), (12, I ((q.core.length : Int)))]) x.1 x.2.1 x.2.2) (fun x => (fun k out u => q.core.length - k) x.1 x.2.1 x.2.2) (0, [], _) ?_ ⟨rfl, rfl, rfl, rfl, rfl, rfl, rfl, trivial⟩ ?_
 ·exact ⟨by omega, rfl, B, S.addNil⟩
 ·rintro ⟨k, out, u⟩ w63 hI; (try dsimp only at hI ⊢); obtain ⟨hk, ho, B, S⟩ := hI
  have hso : sz_segs out ≤ 1048576 := by
   rw [ho]; unfold betw; exact Nat.le_trans (Nat.le_trans (sz_filter _ _) (sz_take _ _)) hz1
  have hol : out.length ≤ 1048576 := by unfold sz_segs at hso; omega
  refine w_h ?_; refine t_lss rfl rfl ?_ rfl; refine t_e ?_; refine w_s ?_; refine w_if rfl ?_ ?_
  ·intro hlt; obtain ⟨x, hx⟩ : ∃ e, q.core[k]? = some e := getx (by omega); have hxz := sz_segs_mem (List.mem_of_getElem? hx); refine w_k ?_; refine x_s ?_; refine w_s ?_; refine w_block ?_; refine w_h ?_; refine t_idx e_seg (k := k) ‹_› hx B rfl rfl (by first | rfl | omega) ?_ rfl; intro p15 hp15; refine t_lda ‹_› ab_seg sb_seg B rfl ?_ rfl; intro v16 hv16; obtain ⟨v16_2, rfl, hv16_2⟩ := seg_va hv16; refine t_w S z_seg rfl ?_ rfl rfl; intro g9 w64 x65 S; have B := bx Hb B x65; refine t_stn S sb_seg rfl rfl rfl rfl (by repeat first | exact oc0 | refine oc rfl ?_ | refine oc (SlR.cells ‹_›).2 ?_) ?_; intro w66 b67 S; have B := B.trans b67; refine t_k ?_; refine t_b S.box ab_seg sb_seg rfl rfl ?_ rfl; refine t_x Tryz.call96 rfl (impl_FirstAS x _ _ (by first | assumption | exact VA.below ‹_› B | exact seg_mkv (by first | assumption | exact SlR.below ‹_› B)) (by omega)) ?_ rfl rfl; intro w68 x69; have B := bx Hb B x69; have S := S.below x69; refine t_m rfl ?_ rfl; refine t_eql rfl rfl ?_ rfl; refine t_m rfl ?_ rfl; refine t_partp (t := 21) rfl ?_ ?_
   ·intro h1; refine t_on rfl rfl ?_; refine t_b S.box ab_seg sb_seg rfl rfl ?_ rfl; refine t_on rfl rfl ?_; refine t_x Tryz.call132 rfl (impl_LastAS x _ _ (by first | assumption | exact VA.below ‹_› B | exact seg_mkv (by first | assumption | exact SlR.below ‹_› B)) (by omega)) ?_ rfl rfl; intro w70 x71; have B := bx Hb B x71; have S := S.below x71; refine t_on rfl rfl ?_; refine t_m rfl ?_ rfl; refine t_on rfl rfl ?_; refine t_eql rfl rfl ?_ rfl; refine t_q rfl rfl ?_ rfl; refine t_e ?_; refine w_if rfl ?_ ?_
    ·intro h2; refine w_g ?_; refine t_m rfl ?_ rfl; refine t_b S.box ab_seg sb_seg rfl rfl ?_ rfl; refine t_c Tryz.call133 rfl (impl_copySegment _ _ _ (by first | assumption | exact VA.below ‹_› B | exact seg_mkv (by first | assumption | exact SlR.below ‹_› B)) (by omega)) ?_ rfl rfl; rintro e w72 ⟨cs29, fp29, rfl, hO29, x73⟩; refine ⟨_, rfl, x73, ?_⟩; have S := S.add (o := tyO segT _ _) x73 hO29; have B := bx Hb B x73; obtain ⟨u29_2, rfl, S2⟩ := S.segOpen; have S := S2; refine t_lit1 (fun w => bs_seg1 _ _ _ w) rfl ?_ rfl rfl; intro A30 w74 x75 hA30; have B := bx Hb B x75; have S := S.below x75; have S := S.segShut (x := x); have S := S.f2; refine t_snoc e_seg S hA30 rfl rfl rfl (by first | omega | (simp; done) | (simp; omega)) (by (simp only [maxLen]); first | omega | (simp; done) | (simp; omega)) ?_ rfl; intro v31 w76 x77 S; have B := B.trans x77; refine t_a rfl ?_ rfl; refine t_d ?_; refine x_b ?_; refine x_s ?_; refine w_g ?_; refine t_add rfl rfl (by omega) ?_ rfl; refine t_m rfl ?_ rfl; refine t_d ?_; have S := S.f1.tail; refine x_r (X := Nat × List Seg × Value) (k + 1, out ++ [x], v31) ?_ (by exact ⟨rfl, rfl, rfl, rfl, rfl, rfl, rfl, trivial⟩) (by (try dsimp only); omega)
     (try dsimp only); exact ⟨by omega, by rw [ho]; unfold betw; rw [filt_succ _ hx, if_pos (by simp [h1, h2])], B, S⟩
    ·intro h2; refine w_k ?_; refine x_b ?_; refine x_s ?_; refine w_g ?_; refine t_add rfl rfl (by omega) ?_ rfl; refine t_m rfl ?_ rfl; refine t_d ?_; have S := S.tail; refine x_r (X := Nat × List Seg × Value) (k + 1, out, u) ?_ (by exact ⟨rfl, rfl, rfl, rfl, rfl, rfl, rfl, trivial⟩) (by (try dsimp only); omega); (try dsimp only); exact ⟨by omega, by rw [ho]; unfold betw; rw [filt_succ _ hx, if_neg (by simp [h1, h2]), List.append_nil], B, S⟩
   ·intro h1; (iterate 4 refine t_off rfl rfl rfl ?_ rfl); refine t_p rfl rfl ?_ rfl; refine t_e ?_; refine w_no rfl ?_; refine w_k ?_; refine x_b ?_; refine x_s ?_; refine w_g ?_; refine t_add rfl rfl (by omega) ?_ rfl; refine t_m rfl ?_ rfl; refine t_d ?_; have S := S.tail; refine x_r (X := Nat × List Seg × Value) (k + 1, out, u) ?_ (by exact ⟨rfl, rfl, rfl, rfl, rfl, rfl, rfl, trivial⟩) (by (try dsimp only); omega); (try dsimp only); exact ⟨by omega, by rw [ho]; unfold betw; rw [filt_succ _ hx, if_neg (by simp [h1]), List.append_nil], B, S⟩
  ·intro hge; refine w_exit ?_; (iterate 2 refine x_then_exit ?_); refine x_block_exit ?_; refine x_s ?_; refine w_h ?_; refine t_m rfl ?_ rfl; refine t_a rfl ?_ rfl; refine t_e ?_; refine w_r ?_; refine x_ret1 rfl rfl ?_; obtain ⟨fp, hO⟩ := (S.mono X0.size).head; rw [ho, List.take_of_length_le (by omega)] at hO; exact ⟨_, fp, rfl, hO, ext_trans X0 B⟩
theorem spec_l16Between (q : Sdb) (v : Value) (a b : Int) (w : World) (h : VA sdbT w v q) (hz : sz_sdb q ≤ 1048576) : Calls Tryz.prog 147 #[v, I a, I b] w fun e w' => ∃ v fp, e = .returned v ∧ SlO segT 67 w.heap.size w' v (betw q a b) fp ∧ Below w.heap.size w w' := by
 have hz1 : sz_segs q.core ≤ 1048576 := by unfold sz_sdb at hz; omega
 have hl1 : q.core.length ≤ 1048576 := by unfold sz_segs at hz1; omega
 have X0 := Below.refl w.heap.size w; refine enter Tryz.func147 rfl Tryz.ntmps147 rfl ?_; refine w_h ?_; refine t_boxr ‹_› rfl ?_ rfl rfl; intro p3 w78 x79 hp3; replace h := h.below x79; have X0 := ext_trans X0 x79; have S := Sep.nil w78; have B := Below.refl w78.heap.size w78; have Hb := Nat.le_refl w78.heap.size; refine t_a rfl ?_ rfl; refine t_k ?_; refine t_lit0 (T := segT) S bs_seg0 rfl ?_ rfl rfl; intro A9 w80 x81 S; have B := bx Hb B x81; refine t_a rfl ?_ rfl; refine t_e ?_; (iterate 2 refine w_s ?_); refine w_g ?_; refine t_a rfl ?_ rfl; refine t_e ?_; refine w_block ?_; refine w_loop (X := Nat × List Seg × Value) (fun x wq => (fun k out u => k ≤ q.core.length ∧ out = betw ⟨q.down, q.core.take k⟩ a b ∧ Below w78.heap.size w78 wq ∧ Sep w78.heap.size wq [slO segT 67 u out]) x.1 x.2.1 x.2.2) (fun x => (fun k out u => [(8, I ((k : Int))), (7, u), (1, I a), (2, I b), (3, p3), (6, .slice none 0 0)]) x.1 x.2.1 x.2.2) (fun x => (fun k out u => q.core.length - k) x.1 x.2.1 x.2.2) (0, [], _) ?_ ⟨rfl, rfl, rfl, rfl, rfl, rfl, trivial⟩ ?_
 ·exact ⟨by omega, rfl, B, S⟩
 ·rintro ⟨k, out, u⟩ w82 hI; (try dsimp only at hI ⊢); obtain ⟨hk, ho, B, S⟩ := hI
  have hso : sz_segs out ≤ 1048576 := by
   rw [ho]; unfold betw; exact Nat.le_trans (Nat.le_trans (sz_filter _ _) (sz_take _ _)) hz1
  have hol : out.length ≤ 1048576 := by unfold sz_segs at hso; omega
  (iterate 2 refine w_s ?_); refine w_g ?_; refine t_m rfl ?_ rfl; refine t_fld ln_sdb_1 ‹_› fb_sdb_1 rfl ?_ rfl; intro p11 hp11; refine t_lds ‹_› ab_s_seg B rfl ?_ rfl; intro v12 hv12; refine t_len e_seg ‹_› rfl rfl ?_ rfl; refine t_lss rfl rfl ?_ rfl; refine t_e ?_; refine w_if rfl ?_ ?_
  ·intro hlt; obtain ⟨x, hx⟩ : ∃ e, q.core[k]? = some e := getx (by omega); have hxz := sz_segs_mem (List.mem_of_getElem? hx); refine w_k ?_; refine x_s ?_; refine w_s ?_; refine w_block ?_; refine w_h ?_; refine t_fld ln_sdb_1 ‹_› fb_sdb_1 rfl ?_ rfl; intro p17 hp17; refine t_lds ‹_› ab_s_seg B rfl ?_ rfl; intro v18 hv18; refine t_m rfl ?_ rfl; refine t_idx e_seg (k := k) ‹_› hx B rfl rfl (by first | rfl | omega) ?_ rfl; intro p20 hp20; refine t_lda ‹_› ab_seg sb_seg B rfl ?_ rfl; intro v21 hv21; obtain ⟨v21_2, rfl, hv21_2⟩ := seg_va hv21; refine t_x Tryz.call103 rfl (spec_FirstAS x _ _ (by first | assumption | exact VA.below ‹_› B | exact seg_mkv (by first | assumption | exact SlR.below ‹_› B)) (by omega)) ?_ rfl rfl; intro w83 x84; have B := bx Hb B x84; have S := S.below x84; refine t_m rfl ?_ rfl; refine t_eql rfl rfl ?_ rfl; refine t_m rfl ?_ rfl; refine t_partp (t := 25) rfl ?_ ?_
   ·intro h1; refine t_on rfl rfl ?_; refine t_fld ln_sdb_1 ‹_› fb_sdb_1 rfl ?_ rfl; intro p26 hp26; refine t_on rfl rfl ?_; refine t_lds ‹_› ab_s_seg B rfl ?_ rfl; intro v27 hv27; refine t_on rfl rfl ?_; refine t_m rfl ?_ rfl; refine t_on rfl rfl ?_; refine t_idx e_seg (k := k) ‹_› hx B rfl rfl (by first | rfl | omega) ?_ rfl; intro p29 hp29; refine t_on rfl rfl ?_; refine t_lda ‹_› ab_seg sb_seg B rfl ?_ rfl; intro v30 hv30; obtain ⟨v30_2, rfl, hv30_2⟩ := seg_va hv30; refine t_on rfl rfl ?_; refine t_x Tryz.call114 rfl (spec_LastAS x _ _ (by first | assumption | exact VA.below ‹_› B | exact seg_mkv (by first | assumption | exact SlR.below ‹_› B)) (by omega)) ?_ rfl rfl; intro w85 x86; have B := bx Hb B x86; have S := S.below x86; refine t_on rfl rfl ?_; refine t_m rfl ?_ rfl; refine t_on rfl rfl ?_; refine t_eql rfl rfl ?_ rfl; refine t_q rfl rfl ?_ rfl; refine t_e ?_; refine w_if rfl ?_ ?_
    ·intro h2; refine w_g ?_; refine t_m rfl ?_ rfl; refine t_fld ln_sdb_1 ‹_› fb_sdb_1 rfl ?_ rfl; intro p36 hp36; refine t_lds ‹_› ab_s_seg B rfl ?_ rfl; intro v37 hv37; refine t_m rfl ?_ rfl; refine t_idx e_seg (k := k) ‹_› hx B rfl rfl (by first | rfl | omega) ?_ rfl; intro p39 hp39; refine t_lda ‹_› ab_seg sb_seg B rfl ?_ rfl; intro v40 hv40; obtain ⟨v40_2, rfl, hv40_2⟩ := seg_va hv40; refine t_c Tryz.call146 rfl (spec_l9Copy _ _ _ (by first | assumption | exact VA.below ‹_› B | exact seg_mkv (by first | assumption | exact SlR.below ‹_› B)) (by omega)) ?_ rfl rfl; rintro e w87 ⟨cs41, fp41, rfl, hO41, x88⟩; refine ⟨_, rfl, x88, ?_⟩; have S := S.add (o := tyO segT _ _) x88 hO41; have B := bx Hb B x88; obtain ⟨u41_2, rfl, S2⟩ := S.segOpen; have S := S2; refine t_lit1 (fun w => bs_seg1 _ _ _ w) rfl ?_ rfl rfl; intro A42 w89 x90 hA42; have B := bx Hb B x90; have S := S.below x90; have S := S.segShut (x := x); have S := S.f1; refine t_snoc e_seg S hA42 rfl rfl rfl (by first | omega | (simp; done) | (simp; omega)) (by (simp only [maxLen]); first | omega | (simp; done) | (simp; omega)) ?_ rfl; intro v43 w91 x92 S; have B := B.trans x92; refine t_a rfl ?_ rfl; refine t_d ?_
     refine x_b ?_; refine x_s ?_; refine w_g ?_; refine t_m rfl ?_ rfl; refine t_add rfl rfl (by omega) ?_ rfl; refine t_a rfl ?_ rfl; refine t_d ?_; refine x_r (X := Nat × List Seg × Value) (k + 1, out ++ [x], v43) ?_ (by exact ⟨rfl, rfl, rfl, rfl, rfl, rfl, trivial⟩) (by (try dsimp only); omega); (try dsimp only); exact ⟨by omega, by rw [ho]; unfold betw; rw [filt_succ _ hx, if_pos (by simp [h1, h2])], B, S⟩
    ·intro h2; refine w_k ?_; refine x_b ?_; refine x_s ?_; refine w_g ?_; refine t_m rfl ?_ rfl; refine t_add rfl rfl (by omega) ?_ rfl; refine t_a rfl ?_ rfl; refine t_d ?_; refine x_r (X := Nat × List Seg × Value) (k + 1, out, u) ?_ (by exact ⟨rfl, rfl, rfl, rfl, rfl, rfl, trivial⟩) (by (try dsimp only); omega); (try dsimp only); exact ⟨by omega, by rw [ho]; unfold betw; rw [filt_succ _ hx, if_neg (by simp [h1, h2]), List.append_nil], B, S⟩
   ·intro h1; (iterate 8 refine t_off rfl rfl rfl ?_ rfl); refine t_p rfl rfl ?_ rfl; refine t_e ?_; refine w_no rfl ?_; refine w_k ?_; refine x_b ?_; refine x_s ?_; refine w_g ?_; refine t_m rfl ?_ rfl; refine t_add rfl rfl (by omega) ?_ rfl; refine t_a rfl ?_ rfl; refine t_d ?_; refine x_r (X := Nat × List Seg × Value) (k + 1, out, u) ?_ (by exact ⟨rfl, rfl, rfl, rfl, rfl, rfl, trivial⟩) (by (try dsimp only); omega); (try dsimp only); exact ⟨by omega, by rw [ho]; unfold betw; rw [filt_succ _ hx, if_neg (by simp [h1]), List.append_nil], B, S⟩
  ·intro hge; refine w_exit ?_; (iterate 2 refine x_then_exit ?_); refine x_block_exit ?_; refine x_s ?_; refine w_h ?_; refine t_m rfl ?_ rfl; refine t_a rfl ?_ rfl; refine t_e ?_; refine w_r ?_; refine x_ret1 rfl rfl ?_; obtain ⟨fp, hO⟩ := (S.mono X0.size).head; rw [ho, List.take_of_length_le (by omega)] at hO; exact ⟨_, fp, rfl, hO, ext_trans X0 B⟩
def btw (k : Sdb) (rev : Bool) (a b : Int) : List Seg := if rev then betw k b a else betw k a b
def coreP (s : Seg) (rev : Bool) : Part := makePart s (if rev then 3 else 2) 0
/-- A path of a book. -/
inductive Comb (t : Topo) (k : Sdb) (a b : Int) : Path → Prop
  | up (s : Seg) : s ∈ downs k a → 0 ≤ firstH s.hops b → Comb t k a b [makePart s 1 (firstH s.hops b)]
  | down (s : Seg) : s ∈ downs k b → 0 ≤ firstH s.hops a → Comb t k a b [makePart s 4 (firstH s.hops a)]
  | core (s : Seg) (rev : Bool) : s ∈ btw k rev a b → Comb t k a b [coreP s rev]
  | meet (u d : Seg) : u ∈ downs k a → d ∈ downs k b → (joinUD u d).length ≠ 0 → Comb t k a b (joinUD u d)
  | coreDown (s d : Seg) (rev : Bool) : coreAt t a = true → d ∈ downs k b → s ∈ btw k rev a (firstS d) → Comb t k a b [coreP s rev, makePart d 4 0]
  | upCore (u s : Seg) (rev : Bool) : coreAt t b = true → u ∈ downs k a → s ∈ btw k rev (firstS u) b → Comb t k a b [makePart u 1 0, coreP s rev]
  | three (u s d : Seg) (rev : Bool) : u ∈ downs k a → d ∈ downs k b → s ∈ btw k rev (firstS u) (firstS d) → Comb t k a b [makePart u 1 0, coreP s rev, makePart d 4 0]
theorem mem_cores' {k : Sdb} {up dn : Seg} {a b : Int} {p : Path} : p ∈ cores k up a b dn ↔ ∃ s rev, s ∈ btw k rev a b ∧ p = joinT up s rev dn := by
  unfold cores btw
  rw [List.mem_append, List.mem_map, List.mem_map]
  constructor
  · rintro (⟨s, hs, e⟩ | ⟨s, hs, e⟩)
    · exact ⟨s, false, hs, e.symm⟩
    · exact ⟨s, true, hs, e.symm⟩
  · rintro ⟨s, rev, hs, e⟩
    cases rev with
    | false => exact .inl ⟨s, hs, e.symm⟩
    | true => exact .inr ⟨s, hs, e.symm⟩
theorem downs_mem {t : Topo} {k : Sdb} (D : DbK t k) {r : Int} {s : Seg} (h : s ∈ downs k r) : s ∈ k.down ∧ (SegK t s ∧ WfS t s) ∧ lastS s = r := by
  unfold downs at h
  rw [List.mem_filter, decide_eq_true_eq] at h; exact ⟨h.1, D.down s h.1, h.2⟩
theorem btw_mem {t : Topo} {k : Sdb} (D : DbK t k) {rev : Bool} {a b : Int} {s : Seg} (h : s ∈ btw k rev a b) : s ∈ k.core ∧ (SegK t s ∧ WfS t s) := by
  have hm : s ∈ k.core := by
    unfold btw betw at h
    cases rev <;> simp only [Bool.false_eq_true, if_false, if_true] at h <;> exact (List.mem_filter.1 h).1
  exact ⟨hm, D.core s hm⟩
theorem seg_pos {t : Topo} {s : Seg} (h : SegK t s ∧ WfS t s) : 0 < (s.hops.length : Int) := by have := h.2.len; omega
theorem comb_iff {t : Topo} {k : Sdb} (D : DbK t k) {a b : Int} {p : Path} : p ∈ comb t k a b ↔ (¬ (a = b ∨ isAS t a = false ∨ isAS t b = false)) ∧ Comb t k a b p := by
 have pb : ∀ {x y : Int} {s : Seg} {rev : Bool}, s ∈ btw k rev x y → 0 < (s.hops.length : Int) := fun h => seg_pos (btw_mem D h).2
 have pd : ∀ {r : Int} {s : Seg}, s ∈ downs k r → 0 < (s.hops.length : Int) := fun h => seg_pos (downs_mem D h).2.1
 unfold comb
 split
 ·rename_i h; exact ⟨fun z => by simp at z, fun z => absurd h z.1⟩
 ·rename_i h
  unfold combL
  rw [List.mem_append, List.mem_append, List.mem_append, List.mem_append, List.mem_append, List.mem_append]
  constructor
  ·intro hp; refine ⟨h, ?_⟩
   rcases hp with (((((hp | hp) | hp) | hp) | hp) | hp) | hp
   ·unfold alone1 at hp
    rw [List.mem_flatMap] at hp; obtain ⟨s, hs, hp⟩ := hp
    split at hp
    ·rw [List.mem_singleton] at hp; rw [hp]; exact .up s hs ‹_›
    ·simp at hp
   ·unfold alone1 at hp
    rw [List.mem_flatMap] at hp; obtain ⟨s, hs, hp⟩ := hp
    split at hp
    ·rw [List.mem_singleton] at hp; rw [hp]; exact .down s hs ‹_›
    ·simp at hp
   ·obtain ⟨s, rev, hs, rfl⟩ := mem_cores'.1 hp
    unfold joinT
    rw [addP_no, addP_no, addP_yes (pb hs)]; exact .core s rev hs
   ·rw [List.mem_flatMap] at hp; obtain ⟨u, hu, hp⟩ := hp
    unfold pairs1 at hp
    rw [List.mem_flatMap] at hp; obtain ⟨d, hd, hp⟩ := hp
    split at hp
    ·simp at hp
    ·rw [List.mem_singleton] at hp; rw [hp]; exact .meet u d hu hd ‹_›
   ·split at hp
    ·rw [List.mem_flatMap] at hp; obtain ⟨d, hd, hp⟩ := hp; obtain ⟨s, rev, hs, rfl⟩ := mem_cores'.1 hp
     unfold joinT
     rw [addP_no, addP_yes (pb hs), addP_yes (pd hd)]; exact .coreDown s d rev ‹_› hd hs
    ·simp at hp
   ·split at hp
    ·rw [List.mem_flatMap] at hp; obtain ⟨u, hu, hp⟩ := hp; obtain ⟨s, rev, hs, rfl⟩ := mem_cores'.1 hp
     unfold joinT
     rw [addP_no, addP_yes (pb hs), addP_yes (pd hu)]; exact .upCore u s rev ‹_› hu hs
    ·simp at hp
   ·rw [List.mem_flatMap] at hp; obtain ⟨u, hu, hp⟩ := hp; rw [List.mem_flatMap] at hp; obtain ⟨d, hd, hp⟩ := hp; obtain ⟨s, rev, hs, rfl⟩ := mem_cores'.1 hp
    unfold joinT
    rw [addP_yes (pb hs), addP_yes (pd hu), addP_yes (pd hd)]; exact .three u s d rev hu hd hs
  ·rintro ⟨_, hp⟩; cases hp with
   | up s hs h0 => exact .inl (.inl (.inl (.inl (.inl (.inl (by unfold alone1; rw [List.mem_flatMap]; exact ⟨s, hs, by rw [if_pos h0]; exact List.mem_singleton.2 rfl⟩))))))
   | down s hs h0 => exact .inl (.inl (.inl (.inl (.inl (.inr (by unfold alone1; rw [List.mem_flatMap]; exact ⟨s, hs, by rw [if_pos h0]; exact List.mem_singleton.2 rfl⟩))))))
   | core s rev hs => exact .inl (.inl (.inl (.inl (.inr (mem_cores'.2 ⟨s, rev, hs, by unfold joinT; rw [addP_no, addP_no, addP_yes (pb hs)]; rfl⟩)))))
   | meet u d hu hd hne => exact .inl (.inl (.inl (.inr (by rw [List.mem_flatMap]; exact ⟨u, hu, by unfold pairs1; rw [List.mem_flatMap]; exact ⟨d, hd, by rw [if_neg hne]; exact List.mem_singleton.2 rfl⟩⟩))))
   | coreDown s d rev hc hd hs => exact .inl (.inl (.inr (by rw [if_pos hc, List.mem_flatMap]; exact ⟨d, hd, mem_cores'.2 ⟨s, rev, hs, by unfold joinT; rw [addP_no, addP_yes (pb hs), addP_yes (pd hd)]; rfl⟩⟩)))
   | upCore u s rev hc hu hs => exact .inl (.inr (by rw [if_pos hc, List.mem_flatMap]; exact ⟨u, hu, mem_cores'.2 ⟨s, rev, hs, by unfold joinT; rw [addP_no, addP_yes (pb hs), addP_yes (pd hu)]; rfl⟩⟩))
   | three u s d rev hu hd hs => exact .inr (by rw [List.mem_flatMap]; exact ⟨u, hu, by rw [List.mem_flatMap]; exact ⟨d, hd, mem_cores'.2 ⟨s, rev, hs, by unfold joinT; rw [addP_yes (pb hs), addP_yes (pd hu), addP_yes (pd hd)]; rfl⟩⟩⟩)
/-- A part of a book's path: of a segment down, either way, or of a core's, either way. -/
def PartOf (k : Sdb) (x : Part) : Prop := ∃ s kind i, 0 ≤ i ∧ i < (s.hops.length : Int) ∧ x = makePart s kind i ∧ ((s ∈ k.down ∧ (kind = 1 ∨ kind = 4)) ∨ (s ∈ k.core ∧ (kind = 2 ∨ kind = 3)))
theorem comb_parts {t : Topo} {k : Sdb} (D : DbK t k) {a b : Int} {p : Path} (h : Comb t k a b p) : ∀ x ∈ p, PartOf k x := by
  have fd : ∀ {r : Int} {s : Seg} (kind i : Int), s ∈ downs k r → (kind = 1 ∨ kind = 4) → 0 ≤ i → i < (s.hops.length : Int) → PartOf k (makePart s kind i) := fun {r s} kind i h hk h0 h1 => ⟨s, kind, i, h0, h1, rfl, .inl ⟨(downs_mem D h).1, hk⟩⟩
  have fw : ∀ {r : Int} {s : Seg} (kind : Int), s ∈ downs k r → (kind = 1 ∨ kind = 4) → PartOf k (makePart s kind 0) := fun {r s} kind h hk => fd kind 0 h hk (Int.le_refl _) (seg_pos (downs_mem D h).2.1)
  have fc : ∀ {x y : Int} {s : Seg} {rev : Bool}, s ∈ btw k rev x y → PartOf k (coreP s rev) := fun {x y s rev} h => ⟨s, _, 0, Int.le_refl _, seg_pos (btw_mem D h).2, rfl, .inr ⟨(btw_mem D h).1, by cases rev <;> simp⟩⟩
  cases h with
  | up s hs h0 =>
    obtain ⟨_, _, _, hl⟩ := firstH_at h0
    simp only [List.mem_singleton, forall_eq]; exact fd 1 _ hs (.inl rfl) h0 hl
  | down s hs h0 =>
    obtain ⟨_, _, _, hl⟩ := firstH_at h0
    simp only [List.mem_singleton, forall_eq]; exact fd 4 _ hs (.inr rfl) h0 hl
  | core s rev hs => simp only [List.mem_singleton, forall_eq]; exact fc hs
  | meet u d hu hd hne =>
    obtain ⟨i, j, x, y, e, hx, hj, hy, e2⟩ := meet_at u d u.hops.length hne
    unfold joinUD
    rw [e]; have l1 := (List.getElem?_eq_some_iff.1 hx).1; have l2 := (List.getElem?_eq_some_iff.1 hy).1; intro z hz
    rcases List.mem_cons.1 hz with rfl | hz
    · exact fd 1 _ hu (.inl rfl) (by omega) (by omega)
    · rw [List.mem_singleton] at hz; rw [hz]; exact fd 4 _ hd (.inr rfl) hj (by omega)
  | coreDown s d rev hc hd hs =>
    intro z hz
    rcases List.mem_cons.1 hz with rfl | hz
    · exact fc hs
    · rw [List.mem_singleton] at hz; rw [hz]; exact fw 4 hd (.inr rfl)
  | upCore u s rev hc hu hs =>
    intro z hz
    rcases List.mem_cons.1 hz with rfl | hz
    · exact fw 1 hu (.inl rfl)
    · rw [List.mem_singleton] at hz; rw [hz]; exact fc hs
  | three u s d rev hu hd hs =>
    intro z hz
    rcases List.mem_cons.1 hz with rfl | hz
    · exact fw 1 hu (.inl rfl)
    · rcases List.mem_cons.1 hz with rfl | hz
      · exact fc hs
      · rw [List.mem_singleton] at hz; rw [hz]; exact fw 4 hd (.inr rfl)
/-- A book whose segments down are links down and whose core segments are links of a core. -/
structure DbL (t : Topo) (k : Sdb) : Prop where
  db : DbK t k
  down : ∀ s ∈ k.down, ∀ (i : Nat) x y, s.hops[i]? = some x → s.hops[i + 1]? = some y → ifKind t x.ia x.eg = 2
  core : ∀ s ∈ k.core, ∀ (i : Nat) x y, s.hops[i]? = some x → s.hops[i + 1]? = some y → ifKind t x.ia x.eg = 1
section
variable {t : Topo} (hU : Uniq t.links) (hK : ∀ x ∈ t.links, x.a < x.b ∧ 1 ≤ x.ai ∧ 1 ≤ x.bi)
include hU hK
end
def wfHop (t : Topo) (l : List Hop) (k : Nat) : Bool := match l[k]? with
  | none => true
  | some x => (validHop x && isAS t x.ia && !((l.take k).map Hop.ia).contains x.ia && !(decide (x.eg = 0) && decide ((k : Int) < (l.length : Int) - 1))) && (if k = 0 then true else match l[k - 1]? with
    | none => true
    | some y => decide ((remote t y.ia y.eg).1 = x.ia) && decide ((remote t y.ia y.eg).2 = x.ing))
def firstIng (l : List Hop) : Bool := match l[0]? with
  | none => true
  | some x => decide (x.ing = 0)
/-- What WellFormed answers. -/
def wfSeg (t : Topo) (s : Seg) : Bool := inR s.hops.length 1 8 && firstIng s.hops && (List.range s.hops.length).all (wfHop t s.hops)
theorem wfSeg_S {t : Topo} {s : Seg} (h : wfSeg t s = true) : WfS t s := by
  unfold wfSeg at h
  simp only [Bool.and_eq_true, List.all_eq_true, List.mem_range] at h
  obtain ⟨⟨h1, h2⟩, h3⟩ := h; have hl := inR_iff.1 h1
  have at_ : ∀ (k : Nat) x, s.hops[k]? = some x → (((validHop x = true ∧ isAS t x.ia = true) ∧ x.ia ∉ (s.hops.take k).map Hop.ia) ∧ (x.eg = 0 → ¬ ((k : Int) < (s.hops.length : Int) - 1))) ∧ (∀ y, 0 < k → s.hops[k - 1]? = some y → (remote t y.ia y.eg).1 = x.ia ∧ (remote t y.ia y.eg).2 = x.ing) := by
    intro k x hx; have hk := (List.getElem?_eq_some_iff.1 hx).1; have := h3 k hk
    unfold wfHop at this
    rw [hx] at this
    simp only [Bool.and_eq_true, Bool.not_eq_true', ← Bool.not_eq_true, List.contains_iff_mem] at this
    obtain ⟨⟨⟨a1, a2⟩, a3⟩, a4⟩ := this; refine ⟨⟨⟨a1, a2⟩, fun e hc => by simp [e] at a3; omega⟩, fun y hk0 hy => ?_⟩; rw [if_neg (by omega), hy] at a4
    simpa using a4
  refine ⟨by omega, fun x hx => ?_, ?_, fun x hx => ?_, fun i x y hx hy => ?_⟩
  · obtain ⟨k, hk, e⟩ := List.mem_iff_getElem.1 hx
    exact (at_ k x (by rw [List.getElem?_eq_getElem hk, e])).1.1.1
  · rw [List.Nodup, List.pairwise_iff_getElem]
    intro i j hi hj hij e; rw [List.length_map] at hi hj; have := (at_ j _ (List.getElem?_eq_getElem hj)).1.1.2; refine this ?_; rw [List.getElem_map, List.getElem_map] at e; rw [← e]; exact List.mem_map.2 ⟨_, List.mem_take_iff_getElem.2 ⟨i, by omega, rfl⟩, rfl⟩
  · unfold firstIng at h2
    rw [hx] at h2
    simpa using h2
  · have hlt := (List.getElem?_eq_some_iff.1 hy).1
    obtain ⟨e1, e2⟩ := (at_ (i + 1) y hy).2 x (by omega) (by rw [Nat.add_sub_cancel]; exact hx); exact ⟨fun z => (at_ i x hx).1.2 z (by omega), Prod.ext e1 e2⟩
/-- The one kind of the links of hops, from kind c on; -1: there are two. -/
def kindF (t : Topo) : List Hop → Int → Int
  | [], c => c
  | x :: l, c => if x.eg = 0 then kindF t l c else if c ≠ 0 ∧ ifKind t x.ia x.eg ≠ c then -1 else kindF t l (ifKind t x.ia x.eg)
theorem kindF_all {t : Topo} {r : Int} (hr : r = 1 ∨ r = 2) : ∀ (l : List Hop) (c : Int), (∀ x ∈ l, x.eg ≠ 0 → ifKind t x.ia x.eg = 0 → False) → kindF t l c = r → (c = 0 ∨ c = r) ∧ ∀ x ∈ l, x.eg ≠ 0 → ifKind t x.ia x.eg = r
  | [], c, _, h => ⟨.inr h, fun x hx => by simp at hx⟩
  | x :: l, c, h0, h => by
    unfold kindF at h
    have h0' : ∀ x ∈ l, x.eg ≠ 0 → ifKind t x.ia x.eg = 0 → False := fun y hy => h0 y (List.mem_cons_of_mem _ hy)
    split at h
    · rename_i he
      obtain ⟨a1, a2⟩ := kindF_all hr l c h0' h; refine ⟨a1, fun y hy hy0 => ?_⟩
      rcases List.mem_cons.1 hy with rfl | hy
      · exact absurd he hy0
      · exact a2 y hy hy0
    · rename_i he
      split at h
      · omega
      · rename_i hc
        obtain ⟨a1, a2⟩ := kindF_all hr l _ h0' h
        have hk : ifKind t x.ia x.eg = r := by
          rcases a1 with a1 | a1
          · exact absurd a1 (fun z => h0 x (List.mem_cons_self ..) he z)
          · exact a1
        refine ⟨by omega, fun y hy hy0 => ?_⟩
        rcases List.mem_cons.1 hy with rfl | hy
        · exact hk
        · exact a2 y hy hy0
/-- What SegmentKind answers. -/
def segKind (t : Topo) (s : Seg) : Int := if wfSeg t s = true ∧ coreAt t (firstS s) = true then (if kindF t s.hops 0 = 1 then 1 else if kindF t s.hops 0 = 2 then 2 else 0) else 0
/-- What FirstInvalidHop answers. -/
def badHop (t : Topo) (s : Seg) : Int := idxI ((List.range s.hops.length).findIdx? fun i : Nat => match s.hops[i]? with
  | none => false
  | some x => !verifyHop t s.ts (segBeta s i) x)
def validSeg (t : Topo) (s : Seg) : Bool := wfSeg t s && decide (badHop t s < 0) && decide (segKind t s ≠ 0) && inR s.ts 0 1000000 && inR s.beta 0 2147483646
def termS (s : Seg) : Bool := match s.hops[s.hops.length - 1]? with
  | none => false
  | some x => decide (x.eg = 0)
def addSeg (t : Topo) (k : Sdb) (s : Seg) : Sdb := if validSeg t s = true ∧ termS s = true ∧ ¬ s ∈ k.down ∧ ¬ s ∈ k.core then (if segKind t s = 2 then ⟨k.down ++ [s], k.core⟩ else ⟨k.down, k.core ++ [s]⟩) else k
theorem kind_ne {t : Topo} (hk : ∀ x ∈ t.links, 1 ≤ x.kind ∧ x.kind ≤ 3) {r d q e : Int} (h : remote t r d = (q, e)) (hq : 0 ≤ q) (hd : d ≠ 0) : ifKind t r d ≠ 0 := by
  obtain ⟨i, x, h1, h2, h3, h4, h5⟩ := link_of h hq; have := hk x h3
  unfold ifKind
  rw [if_neg hd, h1, Option.bind_some, h2]; dsimp only
  by_cases c1 : x.kind = 1
  · rw [if_pos c1]; omega
  · rw [if_neg c1]
    by_cases c3 : x.kind = 3
    · rw [if_pos c3]; omega
    · rw [if_neg c3, if_pos (by omega)]
      split <;> omega
/-- AddSegment keeps a book good. -/
theorem addSeg_L {t : Topo} (hk : ∀ x ∈ t.links, 1 ≤ x.kind ∧ x.kind ≤ 3) {k : Sdb} (D : DbL t k) {s : Seg} (K : SegK t s) : DbL t (addSeg t k s) := by
 unfold addSeg
 split
 ·rename_i hc
  obtain ⟨hv, ht, _, _⟩ := hc
  unfold validSeg at hv
  simp only [Bool.and_eq_true, decide_eq_true_eq] at hv
  obtain ⟨⟨⟨⟨v1, _⟩, v3⟩, _⟩, _⟩ := hv; have W := wfSeg_S v1
  have eg0 : ∀ (i : Nat) x y, s.hops[i]? = some x → s.hops[i + 1]? = some y → x.eg ≠ 0 ∧ ifKind t x.ia x.eg ≠ 0 := fun i x y hx hy => by
   obtain ⟨l1, l2⟩ := W.link i x y hx hy; have hy0 : 0 ≤ y.ia := (inR_iff.1 (W.ok y (List.mem_of_getElem? hy)).2).1; exact ⟨l1, kind_ne hk l2 hy0 l1⟩
  have nz : ∀ x ∈ s.hops, x.eg ≠ 0 → ifKind t x.ia x.eg = 0 → False := fun x hx he hz => by
   obtain ⟨i, hi, e⟩ := List.mem_iff_getElem.1 hx
   have hx' : s.hops[i]? = some x := by rw [List.getElem?_eq_getElem hi, e]
   rcases Nat.lt_or_ge (i + 1) s.hops.length with q | q
   ·obtain ⟨y, hy⟩ : ∃ y, s.hops[i + 1]? = some y := getx q; exact (eg0 i x y hx' hy).2 hz
   ·unfold termS at ht
    rw [show s.hops.length - 1 = i by omega, hx'] at ht; exact he (by simpa using ht)
  have kinds : ∀ r, (r = 1 ∨ r = 2) → kindF t s.hops 0 = r → ∀ (i : Nat) x y, s.hops[i]? = some x → s.hops[i + 1]? = some y → ifKind t x.ia x.eg = r := fun r hr h i x y hx hy => (kindF_all hr s.hops 0 nz h).2 x (List.mem_of_getElem? hx) (eg0 i x y hx hy).1
  unfold segKind at v3 ⊢
  split at v3
  ·rename_i hw
   rw [if_pos hw]
   by_cases k1 : kindF t s.hops 0 = 1
   ·rw [if_pos k1, if_neg (by omega)]; refine ⟨⟨D.db.down, fun x hx => ?_⟩, D.down, fun x hx => ?_⟩
    ·rcases List.mem_append.1 hx with hx | hx
     ·exact D.db.core x hx
     ·rw [List.mem_singleton] at hx; rw [hx]; exact ⟨K, W⟩
    ·rcases List.mem_append.1 hx with hx | hx
     ·exact D.core x hx
     ·rw [List.mem_singleton] at hx; rw [hx]; exact kinds 1 (.inl rfl) k1
   ·rw [if_neg k1] at v3 ⊢
    by_cases k2 : kindF t s.hops 0 = 2
    ·rw [if_pos k2, if_pos rfl]; refine ⟨⟨fun x hx => ?_, D.db.core⟩, fun x hx => ?_, D.core⟩
     ·rcases List.mem_append.1 hx with hx | hx
      ·exact D.db.down x hx
      ·rw [List.mem_singleton] at hx; rw [hx]; exact ⟨K, W⟩
     ·rcases List.mem_append.1 hx with hx | hx
      ·exact D.down x hx
      ·rw [List.mem_singleton] at hx; rw [hx]; exact kinds 2 (.inr rfl) k2
    ·rw [if_neg k2] at v3; exact absurd rfl v3
  ·exact absurd rfl v3
 ·exact D
theorem DbL.nil (t : Topo) : DbL t ⟨[], []⟩ := ⟨⟨fun s h => by simp at h, fun s h => by simp at h⟩, fun s h => by simp at h, fun s h => by simp at h⟩
theorem eqF_step {P : Program} {d : Nat} {f : Field} {fs : List Field} {xs ys : Array Value} {a b : Int} (hn : f.name ≠ "_") (ht : P.underlying f.type = some (.int .i64)) (ha : ∀ w, (part f.type xs f.offset).run P w = .ok (I a) w) (hb : ∀ w, (part f.type ys f.offset).run P w = .ok (I b) w) (w : World) : (Op.eqFields (d + 1) xs ys (f :: fs)).run P w = if a = b then (Op.eqFields (d + 1) xs ys fs).run P w else .ok false w := by
  simp only [Op.eqFields, if_pos hn, Sem.run_bind, ha, hb, Result.andThen_ok, run_equalIn_int (w := w) _ _ _ _ _ _ ht, Sem.run_ite]
  by_cases h : a = b <;> simp [h]
theorem flds_hop : (Tryz.prog.fieldsOf 87).toList = [(Tryz.prog.fieldsOf 87).getD 0 default, (Tryz.prog.fieldsOf 87).getD 1 default, (Tryz.prog.fieldsOf 87).getD 2 default, (Tryz.prog.fieldsOf 87).getD 3 default, (Tryz.prog.fieldsOf 87).getD 4 default] := by kernel_rfl
theorem run_eq_hop (x y : Hop) (w : World) : (Op.equal 87 (.agg #[I x.ia, I x.ing, I x.eg, I x.exp, I x.mac]) (.agg #[I y.ia, I y.ing, I y.eg, I y.exp, I y.mac])).run Tryz.prog w = .ok (decide (x = y)) w := by
  unfold Op.equal
  obtain ⟨d, hd⟩ : ∃ d, Op.maxDepth = (d + 1) + 1 := ⟨9998, rfl⟩; rw [hd, run_equalIn_struct w (d + 1) 87 _ _ (by kernel_rfl) (by kernel_rfl), flds_hop]; rw [eqF_step (a := x.ia) (b := y.ia) (of_decide_eq_true (by kernel_rfl)) (by kernel_rfl) (fun w => by kernel_rfl) (fun w => by kernel_rfl)]; rw [eqF_step (a := x.ing) (b := y.ing) (of_decide_eq_true (by kernel_rfl)) (by kernel_rfl) (fun w => by kernel_rfl) (fun w => by kernel_rfl)]; rw [eqF_step (a := x.eg) (b := y.eg) (of_decide_eq_true (by kernel_rfl)) (by kernel_rfl) (fun w => by kernel_rfl) (fun w => by kernel_rfl)]; rw [eqF_step (a := x.exp) (b := y.exp) (of_decide_eq_true (by kernel_rfl)) (by kernel_rfl) (fun w => by kernel_rfl) (fun w => by kernel_rfl)]; rw [eqF_step (a := x.mac) (b := y.mac) (of_decide_eq_true (by kernel_rfl)) (by kernel_rfl) (fun w => by kernel_rfl) (fun w => by kernel_rfl)]; obtain ⟨x0, x1, x2, x3, x4⟩ := x; obtain ⟨y0, y1, y2, y3, y4⟩ := y
  by_cases h0 : x0 = y0 <;> by_cases h1 : x1 = y1 <;> by_cases h2 : x2 = y2 <;> by_cases h3 : x3 = y3 <;> by_cases h4 : x4 = y4 <;> simp [h0, h1, h2, h3, h4, Op.eqFields]
section
variable {P : Program} {n : Nat} {ops : Array Oper} {Q : Exit → Act → World → Prop} {L : Frm} {w w0 : World} {m : Md} {r : IT} {d : Nat} {ty : TypeId} {pos : String} {af : Array Edge}
theorem t_neqv {x y : Operand} {t t' : TypeId} {a b : Array Value} {p : Prop} {dp : Decidable p} (hg : P.eqGuardType P.depth t = false) (he : ∀ w, (Op.equal t (.agg a) (.agg b)).run P w = .ok (decide p) w) (hx : ev L x = some (.agg a)) (hy : ev L y = some (.agg b)) (k : WT P n ops Q r ((d, .bool (decide (¬ p))) :: L) w) (hn : Nat.blt d n = true) : WT P n ops Q (.st m ⟨some d, .binOp .neq t x y t', ty, pos, af, none⟩ r) L w :=
  t_read (fun e ha _ _ _ w' _ => by
    have h := he w'
    simp [execOp, ha.ev hx, ha.ev hy, eqGuard, binOp, h, hg]) k hn
end
theorem eq_step {α : Type} {a b : List α} {k : Nat} {x y : α} (h : a.take k = b.take k) (ha : a[k]? = some x) (hb : b[k]? = some y) (e : x = y) : a.take (k + 1) = b.take (k + 1) := by
  subst e; rw [take_succ ha, take_succ hb, h]
theorem eq_not {α : Type} {a b : List α} {k : Nat} {x y : α} (ha : a[k]? = some x) (hb : b[k]? = some y) (e : ¬ x = y) : ¬ a = b := by
  rintro rfl; rw [ha] at hb; exact e (Option.some.inj hb)
theorem eq_end {α : Type} {a b : List α} {k : Nat} (h : a.take k = b.take k) (hk : a.length ≤ k) (hl : a.length = b.length) : a = b := by
  rw [List.take_of_length_le hk, List.take_of_length_le (by omega)] at h; exact h
theorem laws_sameHops (a b : List Hop) (v u : Value) (w : World) (h : SlR hopT w v a) (h2 : SlR hopT w u b) (hz : a.length ≤ 4611686018427387904) (hz2 : b.length ≤ 4611686018427387904) : Calls Tryz.prog 131 #[v, u] w fun e w' => e = .returned (.bool (decide (a = b))) ∧ Below w.heap.size w w' := by
 have X0 := Below.refl w.heap.size w; refine enter Tryz.func131 rfl Tryz.ntmps131 rfl ?_; refine w_h ?_; have S := Sep.nil w; have B := Below.refl w.heap.size w; have Hb := Nat.le_refl w.heap.size; refine t_a rfl ?_ rfl; refine t_e ?_; (iterate 2 refine w_s ?_); refine w_g ?_; refine t_m rfl ?_ rfl; refine t_len e_hop ‹_› rfl rfl ?_ rfl; refine t_m rfl ?_ rfl; refine t_len e_hop ‹_› rfl rfl ?_ rfl; refine t_neq rfl rfl ?_ rfl; refine t_e ?_; refine w_if rfl ?_ ?_
 ·intro hl; refine w_h ?_; refine t_a rfl ?_ rfl; refine t_e ?_; refine w_r ?_; refine x_t ?_; refine x_ret1 rfl rfl ?_; exact ⟨ret_bool (decide_eq_false (fun e => hl (by rw [e]))).symm, ext_trans X0 B⟩
 ·intro hl; refine w_k ?_; refine x_s ?_; (iterate 2 refine w_s ?_); refine w_g ?_; refine t_a rfl ?_ rfl; refine t_e ?_; refine w_block ?_; refine w_loop (X := Nat) (fun k wq => k ≤ a.length ∧ a.take k = b.take k ∧ Below w.heap.size w wq ∧ Sep w.heap.size wq []) (fun k => [(5, I ((k : Int))), (0, v), (1, u)]) (fun k => a.length - k) (0) ?_ ⟨rfl, rfl, rfl, trivial⟩ ?_
  ·exact ⟨by omega, rfl, B, S⟩
  rintro k w1 hI; (try dsimp only at hI ⊢); obtain ⟨hk, hab, B, S⟩ := hI; (iterate 2 refine w_s ?_); refine w_g ?_; (iterate 2 refine t_m rfl ?_ rfl); refine t_len e_hop ‹_› rfl rfl ?_ rfl; refine t_lss rfl rfl ?_ rfl; refine t_e ?_; refine w_if rfl ?_ ?_
  ·intro hlt; refine w_k ?_; refine x_s ?_; refine w_s ?_; refine w_block ?_; refine w_s ?_; refine w_draw (.st .take 0 (.st .take 1 (.st .take 2 (.st .take 3 (.st .take 4 (.st .take 5 (.st .take 6 (.st .take 7 (.st .take 8 .done))))))))) mixed (by kernel_rfl) ?_; intro w2 x3; have B := bx Hb B x3; have S := S.below x3; (iterate 2 refine t_m rfl ?_ rfl); obtain ⟨e19, he19⟩ : ∃ e, (a)[k]? = some e := getx (by omega); refine t_idx e_hop (k := k) ‹_› he19 B rfl rfl (by first | rfl | omega) ?_ rfl; intro p19 hp19; refine t_lda ‹_› ab_hop sb_hop B rfl ?_ rfl; intro v20 hv20; obtain rfl := hop_va hv20; (iterate 2 refine t_m rfl ?_ rfl); obtain ⟨e23, he23⟩ : ∃ e, (b)[k]? = some e := getx (by omega); refine t_idx e_hop (k := k) ‹_› he23 B rfl rfl (by first | rfl | omega) ?_ rfl; intro p23 hp23; refine t_lda ‹_› ab_hop sb_hop B rfl ?_ rfl; intro v24 hv24; obtain rfl := hop_va hv24; refine t_neqv (by kernel_rfl) (fun w => run_eq_hop e19 e23 w) rfl rfl ?_ rfl; refine t_e' ?_; refine w_if rfl ?_ ?_
   ·intro hne; refine w_h ?_; refine t_a rfl ?_ rfl; refine t_e ?_; refine w_r ?_; refine x_block_ret ?_; (iterate 2 refine x_t ?_); refine x_block_ret ?_; refine x_t ?_; refine x_ret1 rfl rfl ?_
    have hne2 : ¬ e19 = e23 := fun e => hne (by rw [e])
    exact ⟨ret_bool (decide_eq_false (eq_not he19 he23 hne2)).symm, ext_trans X0 B⟩
   ·intro hne; refine w_k ?_; refine x_b ?_; refine x_s ?_; refine w_g ?_; refine t_m rfl ?_ rfl; refine t_add rfl rfl (by omega) ?_ rfl; refine t_a rfl ?_ rfl; refine t_d ?_; refine x_r (X := Nat) (k + 1) ?_ (by exact ⟨rfl, rfl, rfl, trivial⟩) (by (try dsimp only); omega); (try dsimp only)
    have heq : e19 = e23 := by first | exact Classical.not_not.1 hne | exact UInt8.toNat_inj.1 (by omega)
    exact ⟨by omega, eq_step hab he19 he23 heq, B, S⟩
  ·intro hge; refine w_exit ?_; (iterate 2 refine x_then_exit ?_); refine x_block_exit ?_; refine x_s ?_; refine w_h ?_; refine t_a rfl ?_ rfl; refine t_e ?_; refine w_r ?_; refine x_ret1 rfl rfl ?_; exact ⟨ret_bool (decide_eq_true (eq_end hab (by omega) (by omega))).symm, ext_trans X0 B⟩
theorem part_eqh {x y : Part} (h1 : x.kind = y.kind) (h2 : x.ts = y.ts) (h3 : x.beta = y.beta) : x.hops = y.hops ↔ x = y := by
  obtain ⟨a, b, c, d⟩ := x; obtain ⟨a', b', c', d'⟩ := y; dsimp only at h1 h2 h3 ⊢; subst h1 h2 h3
  simp
theorem laws_samePart (x y : Part) (v u : Value) (w : World) (h : VA partT w v x) (h2 : VA partT w u y) (hz : x.hops.length ≤ 4611686018427387904) (hz2 : y.hops.length ≤ 4611686018427387904) : Calls Tryz.prog 88 #[v, u] w fun e w' => e = .returned (.bool (decide (x = y))) ∧ Below w.heap.size w w' := by
 have X0 := Below.refl w.heap.size w; refine enter Tryz.func88 rfl Tryz.ntmps88 rfl ?_; refine w_h ?_; refine t_boxr ‹_› rfl ?_ rfl rfl; intro p2 w4 x5 hp2; replace h := h.below x5; replace h2 := h2.below x5; have X0 := ext_trans X0 x5; refine t_boxr ‹_› rfl ?_ rfl rfl; intro p3 w6 x7 hp3; replace h := h.below x7; replace h2 := h2.below x7; replace hp2 := hp2.below x7; have X0 := ext_trans X0 x7; have S := Sep.nil w6; have B := Below.refl w6.heap.size w6; have Hb := Nat.le_refl w6.heap.size; refine t_a rfl ?_ rfl; refine t_k ?_; refine t_fld ln_part_0 ‹_› fb_part_0 rfl ?_ rfl; intro p5 hp5; refine t_ldi ‹_› ab_int B rfl ?_ rfl; refine t_fld ln_part_0 ‹_› fb_part_0 rfl ?_ rfl; intro p7 hp7; refine t_ldi ‹_› ab_int B rfl ?_ rfl; refine t_eql rfl rfl ?_ rfl; refine t_m rfl ?_ rfl; refine t_partp (t := 10) rfl ?_ ?_
 ·intro hc1; refine t_on rfl rfl ?_; refine t_fld ln_part_1 ‹_› fb_part_1 rfl ?_ rfl; intro p11 hp11; refine t_on rfl rfl ?_; refine t_ldi ‹_› ab_int B rfl ?_ rfl; refine t_on rfl rfl ?_; refine t_fld ln_part_1 ‹_› fb_part_1 rfl ?_ rfl; intro p13 hp13; refine t_on rfl rfl ?_; refine t_ldi ‹_› ab_int B rfl ?_ rfl; refine t_on rfl rfl ?_; refine t_eql rfl rfl ?_ rfl; refine t_q rfl rfl ?_ rfl; refine t_m rfl ?_ rfl; refine t_partp (t := 17) rfl ?_ ?_
  ·intro hc2; refine t_on rfl rfl ?_; refine t_fld ln_part_2 ‹_› fb_part_2 rfl ?_ rfl; intro p18 hp18; refine t_on rfl rfl ?_; refine t_ldi ‹_› ab_int B rfl ?_ rfl; refine t_on rfl rfl ?_; refine t_fld ln_part_2 ‹_› fb_part_2 rfl ?_ rfl; intro p20 hp20; refine t_on rfl rfl ?_; refine t_ldi ‹_› ab_int B rfl ?_ rfl; refine t_on rfl rfl ?_; refine t_eql rfl rfl ?_ rfl; refine t_q rfl rfl ?_ rfl; refine t_m rfl ?_ rfl; refine t_partp (t := 24) rfl ?_ ?_
   ·intro hc3; refine t_on rfl rfl ?_; refine t_fld ln_part_3 ‹_› fb_part_3 rfl ?_ rfl; intro p25 hp25; refine t_on rfl rfl ?_; refine t_lds ‹_› ab_s_hop B rfl ?_ rfl; intro v26 hv26; refine t_on rfl rfl ?_; refine t_fld ln_part_3 ‹_› fb_part_3 rfl ?_ rfl; intro p27 hp27; refine t_on rfl rfl ?_; refine t_lds ‹_› ab_s_hop B rfl ?_ rfl; intro v28 hv28; refine t_on rfl rfl ?_; refine t_x Tryz.call131 rfl (laws_sameHops x.hops y.hops _ _ _ (by first | assumption | exact SlR.below ‹_› B) (by first | assumption | exact SlR.below ‹_› B) (by omega) (by omega)) ?_ rfl rfl; intro w8 x9; have B := bx Hb B x9; have S := S.below x9; refine t_q rfl rfl ?_ rfl; refine t_a rfl ?_ rfl; refine t_e ?_; refine w_r ?_; refine x_ret1 rfl rfl ?_
    first | exact ⟨ret_bool (decide_eq_false fun e => absurd (congrArg Part.kind e) ‹_›).symm, ext_trans X0 B⟩ | exact ⟨ret_bool (decide_eq_false fun e => absurd (congrArg Part.ts e) ‹_›).symm, ext_trans X0 B⟩ | exact ⟨ret_bool (decide_eq_false fun e => absurd (congrArg Part.beta e) ‹_›).symm, ext_trans X0 B⟩ | exact ⟨ret_bool (decide_eq_decide.2 (part_eqh ‹_› ‹_› ‹_›)), ext_trans X0 B⟩
   ·intro hc4; (iterate 5 refine t_off rfl rfl rfl ?_ rfl); refine t_p rfl rfl ?_ rfl; refine t_a rfl ?_ rfl; refine t_e ?_; refine w_r ?_; refine x_ret1 rfl rfl ?_
    first | exact ⟨ret_bool (decide_eq_false fun e => absurd (congrArg Part.kind e) ‹_›).symm, ext_trans X0 B⟩ | exact ⟨ret_bool (decide_eq_false fun e => absurd (congrArg Part.ts e) ‹_›).symm, ext_trans X0 B⟩ | exact ⟨ret_bool (decide_eq_false fun e => absurd (congrArg Part.beta e) ‹_›).symm, ext_trans X0 B⟩ | exact ⟨ret_bool (decide_eq_decide.2 (part_eqh ‹_› ‹_› ‹_›)), ext_trans X0 B⟩
  ·intro hc5; (iterate 5 refine t_off rfl rfl rfl ?_ rfl); refine t_p rfl rfl ?_ rfl; refine t_m rfl ?_ rfl; (iterate 5 refine t_off rfl rfl rfl ?_ rfl); refine t_p rfl rfl ?_ rfl; refine t_a rfl ?_ rfl; refine t_e ?_; refine w_r ?_; refine x_ret1 rfl rfl ?_
   first | exact ⟨ret_bool (decide_eq_false fun e => absurd (congrArg Part.kind e) ‹_›).symm, ext_trans X0 B⟩ | exact ⟨ret_bool (decide_eq_false fun e => absurd (congrArg Part.ts e) ‹_›).symm, ext_trans X0 B⟩ | exact ⟨ret_bool (decide_eq_false fun e => absurd (congrArg Part.beta e) ‹_›).symm, ext_trans X0 B⟩ | exact ⟨ret_bool (decide_eq_decide.2 (part_eqh ‹_› ‹_› ‹_›)), ext_trans X0 B⟩
 ·intro hc6; (iterate 5 refine t_off rfl rfl rfl ?_ rfl); refine t_p rfl rfl ?_ rfl; refine t_m rfl ?_ rfl; (iterate 5 refine t_off rfl rfl rfl ?_ rfl); refine t_p rfl rfl ?_ rfl; refine t_m rfl ?_ rfl; (iterate 5 refine t_off rfl rfl rfl ?_ rfl); refine t_p rfl rfl ?_ rfl; refine t_a rfl ?_ rfl; refine t_e ?_; refine w_r ?_; refine x_ret1 rfl rfl ?_
  first | exact ⟨ret_bool (decide_eq_false fun e => absurd (congrArg Part.kind e) ‹_›).symm, ext_trans X0 B⟩ | exact ⟨ret_bool (decide_eq_false fun e => absurd (congrArg Part.ts e) ‹_›).symm, ext_trans X0 B⟩ | exact ⟨ret_bool (decide_eq_false fun e => absurd (congrArg Part.beta e) ‹_›).symm, ext_trans X0 B⟩ | exact ⟨ret_bool (decide_eq_decide.2 (part_eqh ‹_› ‹_› ‹_›)), ext_trans X0 B⟩
theorem laws_samePath (a b : Path) (v u : Value) (w : World) (h : VA pathT w v a) (h2 : VA pathT w u b) (hz : sz_path a ≤ 1048576) (hz2 : sz_path b ≤ 1048576) : Calls Tryz.prog 43 #[v, u] w fun e w' => e = .returned (.bool (decide (a = b))) ∧ Below w.heap.size w w' := by
 have hl1 : List.length a ≤ sz_path a := Nat.le_add_right _ _; have hl2 : List.length b ≤ sz_path b := Nat.le_add_right _ _; have X0 := Below.refl w.heap.size w; refine enter Tryz.func43 rfl Tryz.ntmps43 rfl ?_; refine w_h ?_; refine t_boxr ‹_› rfl ?_ rfl rfl; intro p2 w10 x11 hp2; replace h := h.below x11; replace h2 := h2.below x11; have X0 := ext_trans X0 x11; refine t_boxr ‹_› rfl ?_ rfl rfl; intro p3 w12 x13 hp3; replace h := h.below x13; replace h2 := h2.below x13; replace hp2 := hp2.below x13; have X0 := ext_trans X0 x13; have S := Sep.nil w12; have B := Below.refl w12.heap.size w12; have Hb := Nat.le_refl w12.heap.size; refine t_a rfl ?_ rfl; refine t_e ?_; (iterate 2 refine w_s ?_); refine w_g ?_; refine t_fld ln_path_0 ‹_› fb_path_0 rfl ?_ rfl; intro p6 hp6; refine t_lds ‹_› ab_s_part B rfl ?_ rfl; intro v7 hv7; refine t_len e_part ‹_› rfl rfl ?_ rfl; refine t_fld ln_path_0 ‹_› fb_path_0 rfl ?_ rfl; intro p9 hp9; refine t_lds ‹_› ab_s_part B rfl ?_ rfl; intro v10 hv10; refine t_len e_part ‹_› rfl rfl ?_ rfl; refine t_neq rfl rfl ?_ rfl; refine t_e ?_; refine w_if rfl ?_ ?_
 ·intro hl; refine w_h ?_; refine t_a rfl ?_ rfl; refine t_e ?_; refine w_r ?_; refine x_t ?_; refine x_ret1 rfl rfl ?_; exact ⟨ret_bool (decide_eq_false (fun e => hl (by rw [e]))).symm, ext_trans X0 B⟩
 ·intro hl; refine w_k ?_; refine x_s ?_; (iterate 2 refine w_s ?_); refine w_g ?_; refine t_a rfl ?_ rfl; refine t_e ?_; refine w_block ?_; refine w_loop (X := Nat) (fun k wq => k ≤ List.length a ∧ List.take k a = List.take k b ∧ Below w12.heap.size w12 wq ∧ Sep w12.heap.size wq []) (fun k => [(5, I ((k : Int))), (2, p2), (3, p3)]) (fun k => List.length a - k) (0) ?_ ⟨rfl, rfl, rfl, trivial⟩ ?_
  ·exact ⟨by omega, rfl, B, S⟩
  rintro k w14 hI; (try dsimp only at hI ⊢); obtain ⟨hk, hab, B, S⟩ := hI; (iterate 2 refine w_s ?_); refine w_g ?_; refine t_m rfl ?_ rfl; refine t_fld ln_path_0 ‹_› fb_path_0 rfl ?_ rfl; intro p14 hp14; refine t_lds ‹_› ab_s_part B rfl ?_ rfl; intro v15 hv15; refine t_len e_part ‹_› rfl rfl ?_ rfl; refine t_lss rfl rfl ?_ rfl; refine t_e ?_; refine w_if rfl ?_ ?_
  ·intro hlt; obtain ⟨e23, he23⟩ := getx (l := a) (k := k) (by omega); obtain ⟨e28, he28⟩ := getx (l := b) (k := k) (by omega); have hh1 := hops_le_path (List.mem_of_getElem? he23); have hh2 := hops_le_path (List.mem_of_getElem? he28); refine w_k ?_; refine x_s ?_; refine w_s ?_; refine w_block ?_; refine w_s ?_; refine w_draw (.st .take 0 (.st .take 1 (.st .take 2 (.st .take 3 (.st .take 4 (.st .take 5 (.st .take 6 (.st .take 7 (.st .take 8 (.st .take 9 (.st .run 10 (.st .take 11 .done)))))))))))) mixed (by kernel_rfl) ?_; intro w15 x16; have B := bx Hb B x16; have S := S.below x16; refine t_fld ln_path_0 ‹_› fb_path_0 rfl ?_ rfl; intro p20 hp20; refine t_lds ‹_› ab_s_part B rfl ?_ rfl; intro v21 hv21; refine t_m rfl ?_ rfl; refine t_idx e_part (k := k) ‹_› he23 B rfl rfl (by first | rfl | omega) ?_ rfl; intro p23 hp23; refine t_lda ‹_› ab_part sb_part B rfl ?_ rfl; intro v24 hv24; obtain ⟨v24_3, rfl, hv24_3⟩ := part_va hv24; refine t_fld ln_path_0 ‹_› fb_path_0 rfl ?_ rfl; intro p25 hp25; refine t_lds ‹_› ab_s_part B rfl ?_ rfl; intro v26 hv26; refine t_m rfl ?_ rfl; refine t_idx e_part (k := k) ‹_› he28 B rfl rfl (by first | rfl | omega) ?_ rfl; intro p28 hp28
   refine t_lda ‹_› ab_part sb_part B rfl ?_ rfl; intro v29 hv29; obtain ⟨v29_3, rfl, hv29_3⟩ := part_va hv29; refine t_x Tryz.call88 rfl (laws_samePart e23 e28 _ _ _ (by first | assumption | exact VA.below ‹_› B | exact part_mkv (by first | assumption | exact SlR.below ‹_› B)) (by first | assumption | exact VA.below ‹_› B | exact part_mkv (by first | assumption | exact SlR.below ‹_› B)) (by omega) (by omega)) ?_ rfl rfl; intro w17 x18; have B := bx Hb B x18; have S := S.below x18; refine t_not rfl ?_ rfl; refine t_e' ?_; refine w_if rfl ?_ ?_
   ·intro hne; refine w_h ?_; refine t_a rfl ?_ rfl; refine t_e ?_; refine w_r ?_; refine x_block_ret ?_; (iterate 2 refine x_t ?_); refine x_block_ret ?_; refine x_t ?_; refine x_ret1 rfl rfl ?_; exact ⟨ret_bool (decide_eq_false (eq_not he23 he28 (by simpa using hne))).symm, ext_trans X0 B⟩
   ·intro hne; refine w_k ?_; refine x_b ?_; refine x_s ?_; refine w_g ?_; refine t_m rfl ?_ rfl; refine t_add rfl rfl (by omega) ?_ rfl; refine t_a rfl ?_ rfl; refine t_d ?_; refine x_r (X := Nat) (k + 1) ?_ (by exact ⟨rfl, rfl, rfl, trivial⟩) (by (try dsimp only); omega); (try dsimp only); exact ⟨by omega, eq_step hab he23 he28 (by simpa using hne), B, S⟩
  ·intro hge; refine w_exit ?_; (iterate 2 refine x_then_exit ?_); refine x_block_exit ?_; refine x_s ?_; refine w_h ?_; refine t_a rfl ?_ rfl; refine t_e ?_; refine w_r ?_; refine x_ret1 rfl rfl ?_; exact ⟨ret_bool (decide_eq_true (eq_end hab (by omega) (by omega))).symm, ext_trans X0 B⟩
end Go.Proofs.YtljkgpembicloaaGreat
