/- What LawFnValley needs of the texts below it, part 4: contracts of functions, plain lemmas. (Put together by slim.py.) -/
import Derived.Test.YtljkgpembicloaaGreatSLawFnValley3
namespace Go.Proofs.YtljkgpembicloaaGreat
open Go.RowKit
set_option linter.unusedVariables false
set_option maxRecDepth 100000
theorem impl_copySegment (s : Seg) (u : Value) (w : World) (h : VA segT w u s) (hz : s.hops.length ≤ 1048576) : Calls Tryz.prog 133 #[u] w fun e w' => ∃ cs fp, e = .returned (.agg cs.toArray) ∧ segT.O w.heap.size w' cs s fp ∧ Below w.heap.size w w' := by
 obtain ⟨v2, rfl, h2⟩ := seg_va h; have X0 := Below.refl w.heap.size w; refine enter Tryz.func133 rfl Tryz.ntmps133 rfl ?_; refine w_h ?_; have S := Sep.nil w; have B := Below.refl w.heap.size w; have Hb := Nat.le_refl w.heap.size; refine t_boxo S rfl rfl ?_ rfl rfl; intro g1 w1 x2 S; have B := bx Hb B x2; refine t_w S z_seg rfl ?_ rfl rfl; intro g2 w3 x4 S; have B := bx Hb B x4; refine t_k ?_; refine t_y fb_seg_2 rfl rfl ?_ rfl; refine t_bx1 S.tail.box ab_s_hop rfl rfl ?_ rfl; refine t_c Tryz.call125 rfl (impl_copyHops _ _ _ (by first | assumption | exact SlR.below ‹_› B) (by omega)) ?_ rfl rfl; rintro e w5 ⟨v5, fpv5, rfl, hOv5, x6⟩; refine ⟨_, rfl, x6, ?_⟩; have S := S.add (o := slO _ _ _ _) x6 hOv5; have B := bx Hb B x6; refine t_y fb_seg_2 rfl rfl ?_ rfl; obtain ⟨Av5, cv5, rfl, _⟩ := S.sl.form; have S := S.f2; refine t_st1 S sb_s_hop rfl rfl rfl rfl rfl ?_; intro w7 b8 S; have B := B.trans b8; refine t_k ?_; refine t_b S.box ab_seg sb_seg rfl rfl ?_ rfl; have S := S.f2; refine t_stn S sb_seg rfl rfl rfl rfl (by repeat first | exact oc0 | refine oc rfl ?_ | refine oc (SlR.cells (S.tail.tail.sl)).2 ?_) ?_; intro w9 b10 S; have B := B.trans b10; refine t_e ?_; refine w_r ?_
 refine x_retc rfl rfl S.box ab_seg sb_seg rfl ?_; have S := S.f2; have S := S.segShut (x := s); obtain ⟨fp, hO⟩ := (S.mono X0.size).head; exact ⟨_, fp, rfl, hO, ext_trans X0 B⟩
theorem spec_l9Copy (s : Seg) (u : Value) (w : World) (h : VA segT w u s) (hz : s.hops.length ≤ 1048576) : Calls Tryz.prog 146 #[u] w fun e w' => ∃ cs fp, e = .returned (.agg cs.toArray) ∧ segT.O w.heap.size w' cs s fp ∧ Below w.heap.size w w' := by
 have X0 := Below.refl w.heap.size w; refine enter Tryz.func146 rfl Tryz.ntmps146 rfl ?_; refine w_h ?_; refine t_boxr ‹_› rfl ?_ rfl rfl; intro p1 w11 x12 hp1; replace h := h.below x12; have X0 := ext_trans X0 x12; have S := Sep.nil w11; have B := Below.refl w11.heap.size w11; have Hb := Nat.le_refl w11.heap.size; refine t_w S z_seg rfl ?_ rfl rfl; intro g2 w13 x14 S; have B := bx Hb B x14; refine t_e ?_; refine w_s ?_; refine w_drawP [] (.st .take 0 (.st .take 1 (.st .take 2 (.st .take 3 (.st .take 5 (.st .take 6 (.st .run 4 (.st .run 7 (.st .take 8 (.st .fin 9 .done)))))))))) mixed (by kernel_rfl) ?_; intro w15 x16; have B := bx Hb B x16; have S := S.below x16; refine t_fld ln_seg_0 ‹_› fb_seg_0 rfl ?_ rfl; intro p3 hp3; refine t_ldi ‹_› ab_int B rfl ?_ rfl; refine t_fld ln_seg_1 ‹_› fb_seg_1 rfl ?_ rfl; intro p5 hp5; refine t_ldi ‹_› ab_int B rfl ?_ rfl; refine t_fld ln_seg_2 ‹_› fb_seg_2 rfl ?_ rfl; intro p8 hp8; refine t_lds ‹_› ab_s_hop B rfl ?_ rfl; intro v9 hv9; refine t_lit0 (T := hopT) S bs_hop0 rfl ?_ rfl rfl; intro A7 w17 x18 S; have B := bx Hb B x18
 refine t_cat0 hop_flat e_hop S (by first | assumption | exact SlR.below ‹_› B) rfl rfl rfl (by first | omega | (simp [-List.length_flatMap]; omega)) (by (simp [maxLen, -List.length_flatMap]; try omega)) ?_ rfl; intro v10 w19 x20 S; have B := bx Hb B x20; obtain ⟨Av10, cv10, rfl, _⟩ := S.sl.form; refine t_g (fun w => b_seg _ _ _ _ _ w) rfl ?_ rfl; have S := S.f1; refine t_stn S sb_seg rfl rfl rfl rfl (by repeat first | exact oc0 | refine oc rfl ?_ | refine oc (SlR.cells (S.tail.sl)).2 ?_) ?_; intro w21 b22 S; have B := B.trans b22; refine t_e' ?_; refine w_r ?_; refine x_retc rfl rfl S.box ab_seg sb_seg rfl ?_; have S := S.f1; have S := S.segShut (x := s); obtain ⟨fp, hO⟩ := (S.mono X0.size).head; exact ⟨_, fp, rfl, hO, ext_trans X0 B⟩
theorem firstH_yes {l : List Hop} {r : Int} {k : Nat} {x : Hop} (h : l[k]? = some x) (hp : ∀ (j : Nat) y, j < k → l[j]? = some y → y.ia ≠ r) (e : x.ia = r) : firstH l r = k := by
  unfold firstH
  have hk := List.getElem?_eq_some_iff.1 h
  have : l.findIdx? (fun x => decide (x.ia = r)) = some k := by
    rw [List.findIdx?_eq_some_iff_getElem]; have hkl := hk.1; refine ⟨hk.1, by rw [hk.2]; simp [e], fun j hj => ?_⟩; have := hp j (l[j]'(by omega)) hj (List.getElem?_eq_getElem (by omega))
    simp [this]
  rw [this]; rfl
theorem firstH_no {l : List Hop} {r : Int} (hp : ∀ (j : Nat) y, j < l.length → l[j]? = some y → y.ia ≠ r) : firstH l r = -1 := by
  unfold firstH
  have : l.findIdx? (fun x => decide (x.ia = r)) = none := by
    rw [List.findIdx?_eq_none_iff]; intro x hx; obtain ⟨j, hj, e⟩ := List.mem_iff_getElem.1 hx; have := hp j x hj (by rw [List.getElem?_eq_getElem hj, e])
    simp [this]
  rw [this]; rfl
theorem flat_succ {α β : Type} {l : List α} {k : Nat} {x : α} (f : α → List β) (h : l[k]? = some x) : (l.take (k + 1)).flatMap f = (l.take k).flatMap f ++ f x := by
  rw [take_succ h, List.flatMap_append]; simp
theorem sz_segs_app (a b : List Seg) : sz_segs (a ++ b) = sz_segs a + sz_segs b := by
  unfold sz_segs
  rw [List.length_append, List.map_append, List.sum_append]
  omega
theorem sz_segs_mem {l : List Seg} {s : Seg} (h : s ∈ l) : 1 + s.hops.length ≤ sz_segs l := by
  have := le_sum_of_mem (List.mem_map.2 ⟨s, h, rfl⟩ : sz_seg s ∈ l.map sz_seg); have h0 : 0 < l.length := List.length_pos_of_mem h
  unfold sz_segs
  have e : sz_seg s = s.hops.length := rfl
  omega
theorem sz_filter (f : Seg → Bool) (l : List Seg) : sz_segs (l.filter f) ≤ sz_segs l := by
  induction l with
  | nil => exact Nat.le_refl _
  | cons a t ih =>
    have e : sz_segs (a :: t) = 1 + sz_seg a + sz_segs t := by unfold sz_segs; simp; omega
    rw [List.filter_cons]
    split
    · have e2 : sz_segs (a :: t.filter f) = 1 + sz_seg a + sz_segs (t.filter f) := by unfold sz_segs; simp; omega
      omega
    · omega
theorem hp_succ {l : List Hop} {r : Int} {k : Nat} {x : Hop} (h : l[k]? = some x) (hp : ∀ (j : Nat) y, j < k → l[j]? = some y → y.ia ≠ r) (e : x.ia ≠ r) : ∀ (j : Nat) y, j < k + 1 → l[j]? = some y → y.ia ≠ r := by
  intro j y hj hy
  rcases Nat.lt_or_ge j k with q | q
  · exact hp j y q hy
  · have : j = k := by omega
    subst this; rw [h] at hy; cases hy; exact e
theorem impl_firstHopOf (s : Seg) (v : Value) (r : Int) (w : World) (h : VA segT w v s) (hz : s.hops.length ≤ 1048576) : Calls Tryz.prog 92 #[v, I r] w fun e w' => e = .returned (I (firstH s.hops r)) ∧ Below w.heap.size w w' := by
 have X0 := Below.refl w.heap.size w; refine enter Tryz.func92 rfl Tryz.ntmps92 rfl ?_; refine w_h ?_; refine t_boxr ‹_› rfl ?_ rfl rfl; intro p2 w23 x24 hp2; replace h := h.below x24; have X0 := ext_trans X0 x24; have S := Sep.nil w23; have B := Below.refl w23.heap.size w23; have Hb := Nat.le_refl w23.heap.size; refine t_a rfl ?_ rfl; refine t_e ?_; (iterate 2 refine w_s ?_); refine w_g ?_; refine t_fld ln_seg_2 ‹_› fb_seg_2 rfl ?_ rfl; intro p7 hp7; refine t_lds ‹_› ab_s_hop B rfl ?_ rfl; intro v8 hv8; refine t_len e_hop ‹_› rfl rfl ?_ rfl; refine t_m rfl ?_ rfl; refine t_e ?_; refine w_block ?_; refine w_loop (X := Nat) (fun k wq => k ≤ s.hops.length ∧ (∀ (j : Nat) y, j < k → s.hops[j]? = some y → y.ia ≠ r) ∧ Below w23.heap.size w23 wq ∧ Sep w23.heap.size wq []) (fun k => [(10, I ((k : Int))), (1, I r), (8, v8), (9, I ((s.hops.length : Int)))]) (fun k => s.hops.length - k) (0) ?_ ⟨rfl, rfl, rfl, rfl, trivial⟩ ?_
 ·exact ⟨by omega, fun j y hj => by omega, B, S⟩
 ·rintro k w25 hI; (try dsimp only at hI ⊢); obtain ⟨hk, hp, B, S⟩ := hI; refine w_h ?_; refine t_lss rfl rfl ?_ rfl; refine t_e ?_; refine w_s ?_; refine w_if rfl ?_ ?_
  ·intro hlt; obtain ⟨x, hx⟩ : ∃ e, s.hops[k]? = some e := getx (by omega); refine w_k ?_; refine x_s ?_; refine w_s ?_; refine w_block ?_; refine w_h ?_; refine t_m rfl ?_ rfl; refine t_idx e_hop (k := k) ‹_› hx B rfl rfl (by first | rfl | omega) ?_ rfl; intro p13 hp13; refine t_lda ‹_› ab_hop sb_hop B rfl ?_ rfl; intro v14 hv14; obtain rfl := hop_va hv14; refine t_w S z_hop rfl ?_ rfl rfl; intro g6 w26 x27 S; have B := bx Hb B x27; refine t_a rfl ?_ rfl; refine t_stn S sb_hop rfl rfl rfl rfl (by repeat first | exact oc0 | refine oc rfl ?_) ?_; intro w28 b29 S; have B := B.trans b29; refine t_k ?_; refine t_y fb_hop_0 rfl rfl ?_ rfl; refine t_bx1 S.box ab_int rfl rfl ?_ rfl; refine t_m rfl ?_ rfl; refine t_eql rfl rfl ?_ rfl; refine t_e ?_; refine w_if rfl ?_ ?_
   ·intro he; refine w_h ?_; refine t_m rfl ?_ rfl; refine t_a rfl ?_ rfl; refine t_e ?_; refine w_r ?_; refine x_block_ret ?_; (iterate 2 refine x_t ?_); refine x_block_ret ?_; refine x_t ?_; refine x_ret1 rfl rfl ?_; exact ⟨ret_int (firstH_yes hx hp he).symm, ext_trans X0 B⟩
   ·intro he; refine w_k ?_; refine x_b ?_; refine x_s ?_; refine w_g ?_; refine t_add rfl rfl (by omega) ?_ rfl; refine t_m rfl ?_ rfl; refine t_d ?_; have S := S.tail; refine x_r (X := Nat) (k + 1) ?_ (by exact ⟨rfl, rfl, rfl, rfl, trivial⟩) (by (try dsimp only); omega); (try dsimp only); exact ⟨by omega, hp_succ hx hp he, B, S⟩
  ·intro hge; refine w_exit ?_; (iterate 2 refine x_then_exit ?_); refine x_block_exit ?_; refine x_s ?_; refine w_h ?_; refine t_a rfl ?_ rfl; refine t_e ?_; refine w_r ?_; refine x_ret1 rfl rfl ?_; exact ⟨ret_int (firstH_no fun j y hj => hp j y (by omega)).symm, ext_trans X0 B⟩
theorem spec_l23Index (s : Seg) (v : Value) (r : Int) (w : World) (h : VA segT w v s) (hz : s.hops.length ≤ 1048576) : Calls Tryz.prog 145 #[v, I r] w fun e w' => e = .returned (I (firstH s.hops r)) ∧ Below w.heap.size w w' := by
 have X0 := Below.refl w.heap.size w; refine enter Tryz.func145 rfl Tryz.ntmps145 rfl ?_; refine w_h ?_; refine t_boxr ‹_› rfl ?_ rfl rfl; intro p2 w30 x31 hp2; replace h := h.below x31; have X0 := ext_trans X0 x31; have S := Sep.nil w30; have B := Below.refl w30.heap.size w30; have Hb := Nat.le_refl w30.heap.size; refine t_a rfl ?_ rfl; refine t_e ?_; (iterate 2 refine w_s ?_); refine w_g ?_; refine t_a rfl ?_ rfl; refine t_e ?_; refine w_block ?_; refine w_loop (X := Nat) (fun k wq => k ≤ s.hops.length ∧ (∀ (j : Nat) y, j < k → s.hops[j]? = some y → y.ia ≠ r) ∧ Below w30.heap.size w30 wq ∧ Sep w30.heap.size wq []) (fun k => [(5, I ((k : Int))), (1, I r), (2, p2)]) (fun k => s.hops.length - k) (0) ?_ ⟨rfl, rfl, rfl, trivial⟩ ?_
 ·exact ⟨by omega, fun j y hj => by omega, B, S⟩
 ·rintro k w32 hI; (try dsimp only at hI ⊢); obtain ⟨hk, hp, B, S⟩ := hI; (iterate 2 refine w_s ?_); refine w_g ?_; refine t_m rfl ?_ rfl; refine t_fld ln_seg_2 ‹_› fb_seg_2 rfl ?_ rfl; intro p7 hp7; refine t_lds ‹_› ab_s_hop B rfl ?_ rfl; intro v8 hv8; refine t_len e_hop ‹_› rfl rfl ?_ rfl; refine t_lss rfl rfl ?_ rfl; refine t_e ?_; refine w_if rfl ?_ ?_
  ·intro hlt; obtain ⟨x, hx⟩ : ∃ e, s.hops[k]? = some e := getx (by omega); refine w_k ?_; refine x_s ?_; refine w_s ?_; refine w_block ?_; refine w_h ?_; refine t_fld ln_seg_2 ‹_› fb_seg_2 rfl ?_ rfl; intro p13 hp13; refine t_lds ‹_› ab_s_hop B rfl ?_ rfl; intro v14 hv14; refine t_m rfl ?_ rfl; refine t_idx e_hop (k := k) ‹_› hx B rfl rfl (by first | rfl | omega) ?_ rfl; intro p16 hp16; refine t_fld ln_hop_0 ‹_› fb_hop_0 rfl ?_ rfl; intro p17 hp17; refine t_ldi ‹_› ab_int B rfl ?_ rfl; refine t_m rfl ?_ rfl; refine t_eql rfl rfl ?_ rfl; refine t_e ?_; refine w_if rfl ?_ ?_
   ·intro he; refine w_h ?_; refine t_m rfl ?_ rfl; refine t_a rfl ?_ rfl; refine t_e ?_; refine w_r ?_; refine x_block_ret ?_; (iterate 2 refine x_t ?_); refine x_block_ret ?_; refine x_t ?_; refine x_ret1 rfl rfl ?_; exact ⟨ret_int (firstH_yes hx hp he).symm, ext_trans X0 B⟩
   ·intro he; refine w_k ?_; refine x_b ?_; refine x_s ?_; refine w_g ?_; refine t_m rfl ?_ rfl; refine t_add rfl rfl (by omega) ?_ rfl; refine t_a rfl ?_ rfl; refine t_d ?_; refine x_r (X := Nat) (k + 1) ?_ (by exact ⟨rfl, rfl, rfl, trivial⟩) (by (try dsimp only); omega); (try dsimp only); exact ⟨by omega, hp_succ hx hp he, B, S⟩
  ·intro hge; refine w_exit ?_; (iterate 2 refine x_then_exit ?_); refine x_block_exit ?_; refine x_s ?_; refine w_h ?_; refine t_a rfl ?_ rfl; refine t_e ?_; refine w_r ?_; refine x_ret1 rfl rfl ?_; exact ⟨ret_int (firstH_no fun j y hj => hp j y (by omega)).symm, ext_trans X0 B⟩
theorem sz_take (l : List Seg) (k : Nat) : sz_segs (l.take k) ≤ sz_segs l := by
  have := sz_segs_app (l.take k) (l.drop k); rw [List.take_append_drop] at this
  omega
theorem impl_DownSegments (q : Sdb) (v : Value) (r : Int) (w : World) (h : VA sdbT w v q) (hz : sz_sdb q ≤ 1048576) : Calls Tryz.prog 91 #[v, I r] w fun e w' => ∃ v fp, e = .returned v ∧ SlO segT 67 w.heap.size w' v (downs q r) fp ∧ Below w.heap.size w w' := by
 have hz1 : sz_segs q.down ≤ 1048576 := by unfold sz_sdb at hz; omega
 have hl1 : q.down.length ≤ 1048576 := by unfold sz_segs at hz1; omega
 have X0 := Below.refl w.heap.size w; refine enter Tryz.func91 rfl Tryz.ntmps91 rfl ?_; refine w_h ?_; refine t_boxr ‹_› rfl ?_ rfl rfl; intro p2 w33 x34 hp2; replace h := h.below x34; have X0 := ext_trans X0 x34; have S := Sep.nil w33; have B := Below.refl w33.heap.size w33; have Hb := Nat.le_refl w33.heap.size; refine t_a rfl ?_ rfl; refine t_k ?_; refine t_a rfl ?_ rfl; refine t_e ?_; (iterate 2 refine w_s ?_); refine w_g ?_; refine t_fld ln_sdb_0 ‹_› fb_sdb_0 rfl ?_ rfl; intro p8 hp8; refine t_lds ‹_› ab_s_seg B rfl ?_ rfl; intro v9 hv9; refine t_len e_seg ‹_› rfl rfl ?_ rfl; refine t_m rfl ?_ rfl; refine t_e ?_; refine w_block ?_; refine w_loop (X := Nat × List Seg × Value) (fun x wq => (fun k out u => k ≤ q.down.length ∧ out = downs ⟨q.down.take k, q.core⟩ r ∧ Below w33.heap.size w33 wq ∧ Sep w33.heap.size wq [slO segT 67 u out]) x.1 x.2.1 x.2.2) (fun x => (fun k out u => [(11, I ((k : Int))), (5, u), (1, I r), (4, .slice none 0 0), (9, v9), (10, I ((q.down.length : Int)))]) x.1 x.2.1 x.2.2) (fun x => (fun k out u => q.down.length - k) x.1 x.2.1 x.2.2) (0, [], _) ?_ ⟨rfl, rfl, rfl, rfl, rfl, rfl, trivial⟩ ?_
 ·exact ⟨by omega, rfl, B, S.addNil⟩
 ·rintro ⟨k, out, u⟩ w35 hI; (try dsimp only at hI ⊢); obtain ⟨hk, ho, B, S⟩ := hI
  have hso : sz_segs out ≤ 1048576 := by
   rw [ho]; unfold downs; exact Nat.le_trans (Nat.le_trans (sz_filter _ _) (sz_take _ _)) hz1
  have hol : out.length ≤ 1048576 := by unfold sz_segs at hso; omega
  refine w_h ?_; refine t_lss rfl rfl ?_ rfl; refine t_e ?_; refine w_s ?_; refine w_if rfl ?_ ?_
  ·intro hlt; obtain ⟨x, hx⟩ : ∃ e, q.down[k]? = some e := getx (by omega); have hxz := sz_segs_mem (List.mem_of_getElem? hx); refine w_k ?_; refine x_s ?_; refine w_s ?_; refine w_block ?_; refine w_h ?_; refine t_idx e_seg (k := k) ‹_› hx B rfl rfl (by first | rfl | omega) ?_ rfl; intro p13 hp13; refine t_lda ‹_› ab_seg sb_seg B rfl ?_ rfl; intro v14 hv14; obtain ⟨v14_2, rfl, hv14_2⟩ := seg_va hv14; refine t_w S z_seg rfl ?_ rfl rfl; intro g7 w36 x37 S; have B := bx Hb B x37; refine t_stn S sb_seg rfl rfl rfl rfl (by repeat first | exact oc0 | refine oc rfl ?_ | refine oc (SlR.cells ‹_›).2 ?_) ?_; intro w38 b39 S; have B := B.trans b39; refine t_k ?_; refine t_b S.box ab_seg sb_seg rfl rfl ?_ rfl; refine t_x Tryz.call132 rfl (impl_LastAS x _ _ (by first | assumption | exact VA.below ‹_› B | exact seg_mkv (by first | assumption | exact SlR.below ‹_› B)) (by omega)) ?_ rfl rfl; intro w40 x41; have B := bx Hb B x41; have S := S.below x41; refine t_m rfl ?_ rfl; refine t_eql rfl rfl ?_ rfl; refine t_e ?_; refine w_if rfl ?_ ?_
   ·intro he; refine w_g ?_; refine t_m rfl ?_ rfl; refine t_b S.box ab_seg sb_seg rfl rfl ?_ rfl; refine t_c Tryz.call133 rfl (impl_copySegment _ _ _ (by first | assumption | exact VA.below ‹_› B | exact seg_mkv (by first | assumption | exact SlR.below ‹_› B)) (by omega)) ?_ rfl rfl; rintro e w42 ⟨cs21, fp21, rfl, hO21, x43⟩; refine ⟨_, rfl, x43, ?_⟩; have S := S.add (o := tyO segT _ _) x43 hO21; have B := bx Hb B x43; obtain ⟨u21_2, rfl, S2⟩ := S.segOpen; have S := S2; refine t_lit1 (fun w => bs_seg1 _ _ _ w) rfl ?_ rfl rfl; intro A22 w44 x45 hA22; have B := bx Hb B x45; have S := S.below x45; have S := S.segShut (x := x); have S := S.f2; refine t_snoc e_seg S hA22 rfl rfl rfl (by first | omega | (simp; done) | (simp; omega)) (by (simp only [maxLen]); first | omega | (simp; done) | (simp; omega)) ?_ rfl; intro v23 w46 x47 S; have B := B.trans x47; refine t_a rfl ?_ rfl; refine t_d ?_; refine x_b ?_; refine x_s ?_; refine w_g ?_; refine t_add rfl rfl (by omega) ?_ rfl; refine t_m rfl ?_ rfl; refine t_d ?_; have S := S.f1.tail; refine x_r (X := Nat × List Seg × Value) (k + 1, out ++ [x], v23) ?_ (by exact ⟨rfl, rfl, rfl, rfl, rfl, rfl, trivial⟩) (by (try dsimp only); omega)
    (try dsimp only); exact ⟨by omega, by rw [ho]; unfold downs; rw [filt_succ _ hx, if_pos (by simpa using he)], B, S⟩
   ·intro he; refine w_k ?_; refine x_b ?_; refine x_s ?_; refine w_g ?_; refine t_add rfl rfl (by omega) ?_ rfl; refine t_m rfl ?_ rfl; refine t_d ?_; have S := S.tail; refine x_r (X := Nat × List Seg × Value) (k + 1, out, u) ?_ (by exact ⟨rfl, rfl, rfl, rfl, rfl, rfl, trivial⟩) (by (try dsimp only); omega); (try dsimp only); exact ⟨by omega, by rw [ho]; unfold downs; rw [filt_succ _ hx, if_neg (by simpa using he), List.append_nil], B, S⟩
  ·intro hge; refine w_exit ?_; (iterate 2 refine x_then_exit ?_); refine x_block_exit ?_; refine x_s ?_; refine w_h ?_; refine t_m rfl ?_ rfl; refine t_a rfl ?_ rfl; refine t_e ?_; refine w_r ?_; refine x_ret1 rfl rfl ?_; obtain ⟨fp, hO⟩ := (S.mono X0.size).head; rw [ho, List.take_of_length_le (by omega)] at hO; exact ⟨_, fp, rfl, hO, ext_trans X0 B⟩
theorem spec_DownSegments (q : Sdb) (v : Value) (r : Int) (w : World) (h : VA sdbT w v q) (hz : sz_sdb q ≤ 1048576) : Calls Tryz.prog 101 #[v, I r] w fun e w' => ∃ v fp, e = .returned v ∧ SlO segT 67 w.heap.size w' v (downs q r) fp ∧ Below w.heap.size w w' := by
 have hz1 : sz_segs q.down ≤ 1048576 := by unfold sz_sdb at hz; omega
 have hl1 : q.down.length ≤ 1048576 := by unfold sz_segs at hz1; omega
 have X0 := Below.refl w.heap.size w; refine enter Tryz.func101 rfl Tryz.ntmps101 rfl ?_; refine w_h ?_; refine t_boxr ‹_› rfl ?_ rfl rfl; intro p2 w48 x49 hp2; replace h := h.below x49; have X0 := ext_trans X0 x49; have S := Sep.nil w48; have B := Below.refl w48.heap.size w48; have Hb := Nat.le_refl w48.heap.size; refine t_a rfl ?_ rfl; refine t_k ?_; refine t_lit0 (T := segT) S bs_seg0 rfl ?_ rfl rfl; intro A7 w50 x51 S; have B := bx Hb B x51; refine t_a rfl ?_ rfl; refine t_e ?_; (iterate 2 refine w_s ?_); refine w_g ?_; refine t_a rfl ?_ rfl; refine t_e ?_; refine w_block ?_; refine w_loop (X := Nat × List Seg × Value) (fun x wq => (fun k out u => k ≤ q.down.length ∧ out = downs ⟨q.down.take k, q.core⟩ r ∧ Below w48.heap.size w48 wq ∧ Sep w48.heap.size wq [slO segT 67 u out]) x.1 x.2.1 x.2.2) (fun x => (fun k out u => [(6, I ((k : Int))), (5, u), (1, I r), (2, p2), (4, .slice none 0 0)]) x.1 x.2.1 x.2.2) (fun x => (fun k out u => q.down.length - k) x.1 x.2.1 x.2.2) (0, [], _) ?_ ⟨rfl, rfl, rfl, rfl, rfl, trivial⟩ ?_
 ·exact ⟨by omega, rfl, B, S⟩
 ·rintro ⟨k, out, u⟩ w52 hI; (try dsimp only at hI ⊢); obtain ⟨hk, ho, B, S⟩ := hI
  have hso : sz_segs out ≤ 1048576 := by
   rw [ho]; unfold downs; exact Nat.le_trans (Nat.le_trans (sz_filter _ _) (sz_take _ _)) hz1
  have hol : out.length ≤ 1048576 := by unfold sz_segs at hso; omega
  (iterate 2 refine w_s ?_); refine w_g ?_; refine t_m rfl ?_ rfl; refine t_fld ln_sdb_0 ‹_› fb_sdb_0 rfl ?_ rfl; intro p9 hp9; refine t_lds ‹_› ab_s_seg B rfl ?_ rfl; intro v10 hv10; refine t_len e_seg ‹_› rfl rfl ?_ rfl; refine t_lss rfl rfl ?_ rfl; refine t_e ?_; refine w_if rfl ?_ ?_
  ·intro hlt; obtain ⟨x, hx⟩ : ∃ e, q.down[k]? = some e := getx (by omega); have hxz := sz_segs_mem (List.mem_of_getElem? hx); refine w_k ?_; refine x_s ?_; refine w_s ?_; refine w_block ?_; refine w_h ?_; refine t_fld ln_sdb_0 ‹_› fb_sdb_0 rfl ?_ rfl; intro p15 hp15; refine t_lds ‹_› ab_s_seg B rfl ?_ rfl; intro v16 hv16; refine t_m rfl ?_ rfl; refine t_idx e_seg (k := k) ‹_› hx B rfl rfl (by first | rfl | omega) ?_ rfl; intro p18 hp18; refine t_lda ‹_› ab_seg sb_seg B rfl ?_ rfl; intro v19 hv19; obtain ⟨v19_2, rfl, hv19_2⟩ := seg_va hv19; refine t_x Tryz.call114 rfl (spec_LastAS x _ _ (by first | assumption | exact VA.below ‹_› B | exact seg_mkv (by first | assumption | exact SlR.below ‹_› B)) (by omega)) ?_ rfl rfl; intro w53 x54; have B := bx Hb B x54; have S := S.below x54; refine t_m rfl ?_ rfl; refine t_eql rfl rfl ?_ rfl; refine t_e ?_; refine w_if rfl ?_ ?_
   ·intro he; refine w_g ?_; refine t_m rfl ?_ rfl; refine t_fld ln_sdb_0 ‹_› fb_sdb_0 rfl ?_ rfl; intro p24 hp24; refine t_lds ‹_› ab_s_seg B rfl ?_ rfl; intro v25 hv25; refine t_m rfl ?_ rfl; refine t_idx e_seg (k := k) ‹_› hx B rfl rfl (by first | rfl | omega) ?_ rfl; intro p27 hp27; refine t_lda ‹_› ab_seg sb_seg B rfl ?_ rfl; intro v28 hv28; obtain ⟨v28_2, rfl, hv28_2⟩ := seg_va hv28; refine t_c Tryz.call146 rfl (spec_l9Copy _ _ _ (by first | assumption | exact VA.below ‹_› B | exact seg_mkv (by first | assumption | exact SlR.below ‹_› B)) (by omega)) ?_ rfl rfl; rintro e w55 ⟨cs29, fp29, rfl, hO29, x56⟩; refine ⟨_, rfl, x56, ?_⟩; have S := S.add (o := tyO segT _ _) x56 hO29; have B := bx Hb B x56; obtain ⟨u29_2, rfl, S2⟩ := S.segOpen; have S := S2; refine t_lit1 (fun w => bs_seg1 _ _ _ w) rfl ?_ rfl rfl; intro A30 w57 x58 hA30; have B := bx Hb B x58; have S := S.below x58; have S := S.segShut (x := x); have S := S.f1; refine t_snoc e_seg S hA30 rfl rfl rfl (by first | omega | (simp; done) | (simp; omega)) (by (simp only [maxLen]); first | omega | (simp; done) | (simp; omega)) ?_ rfl; intro v31 w59 x60 S; have B := B.trans x60; refine t_a rfl ?_ rfl; refine t_d ?_
    refine x_b ?_; refine x_s ?_; refine w_g ?_; refine t_m rfl ?_ rfl; refine t_add rfl rfl (by omega) ?_ rfl; refine t_a rfl ?_ rfl; refine t_d ?_; refine x_r (X := Nat × List Seg × Value) (k + 1, out ++ [x], v31) ?_ (by exact ⟨rfl, rfl, rfl, rfl, rfl, trivial⟩) (by (try dsimp only); omega); (try dsimp only); exact ⟨by omega, by rw [ho]; unfold downs; rw [filt_succ _ hx, if_pos (by simpa using he)], B, S⟩
   ·intro he; refine w_k ?_; refine x_b ?_; refine x_s ?_; refine w_g ?_; refine t_m rfl ?_ rfl; refine t_add rfl rfl (by omega) ?_ rfl; refine t_a rfl ?_ rfl; refine t_d ?_; refine x_r (X := Nat × List Seg × Value) (k + 1, out, u) ?_ (by exact ⟨rfl, rfl, rfl, rfl, rfl, trivial⟩) (by (try dsimp only); omega); (try dsimp only); exact ⟨by omega, by rw [ho]; unfold downs; rw [filt_succ _ hx, if_neg (by simpa using he), List.append_nil], B, S⟩
  ·intro hge; refine w_exit ?_; (iterate 2 refine x_then_exit ?_); refine x_block_exit ?_; refine x_s ?_; refine w_h ?_; refine t_m rfl ?_ rfl; refine t_a rfl ?_ rfl; refine t_e ?_; refine w_r ?_; refine x_ret1 rfl rfl ?_; obtain ⟨fp, hO⟩ := (S.mono X0.size).head; rw [ho, List.take_of_length_le (by omega)] at hO; exact ⟨_, fp, rfl, hO, ext_trans X0 B⟩
theorem impl_coreFrom (q : Sdb) (v : Value) (a b : Int) (w : World) (h : VA sdbT w v q) (hz : sz_sdb q ≤ 1048576) : Calls Tryz.prog 136 #[v, I a, I b] w fun e w' => ∃ v fp, e = .returned v ∧ SlO segT 67 w.heap.size w' v (betw q a b) fp ∧ Below w.heap.size w w' := by
 have hz1 : sz_segs q.core ≤ 1048576 := by unfold sz_sdb at hz; omega
 have hl1 : q.core.length ≤ 1048576 := by unfold sz_segs at hz1; omega
 have X0 := Below.refl w.heap.size w; refine enter Tryz.func136 rfl Tryz.ntmps136 rfl ?_; refine w_h ?_; refine t_boxr ‹_› rfl ?_ rfl rfl; intro p3 w61 x62 hp3; replace h := h.below x62; have X0 := ext_trans X0 x62; have S := Sep.nil w61; have B := Below.refl w61.heap.size w61; have Hb := Nat.le_refl w61.heap.size; refine t_a rfl ?_ rfl; refine t_k ?_; refine t_a rfl ?_ rfl; refine t_e ?_; (iterate 2 refine w_s ?_); refine w_g ?_; refine t_fld ln_sdb_1 ‹_› fb_sdb_1 rfl ?_ rfl; intro p10 hp10; refine t_lds ‹_› ab_s_seg B rfl ?_ rfl; intro v11 hv11; refine t_len e_seg ‹_› rfl rfl ?_ rfl; refine t_m rfl ?_ rfl; refine t_e ?_; refine w_block ?_; refine w_loop (X := Nat × List Seg × Value) (fun x wq => (fun k out u => k ≤ q.core.length ∧ out = betw ⟨q.down, q.core.take k⟩ a b ∧ Below w61.heap.size w61 wq ∧ Sep w61.heap.size wq [slO segT 67 u out]) x.1 x.2.1 x.2.2) (fun x => (fun k out u => [(13, I ((k : Int))), (7, u), (1, I a), (2, I b), (6, .slice none 0 0), (11, v11), (12, I ((q.core.length : Int)))]) x.1 x.2.1 x.2.2) (fun x => (fun k out u => q.core.length - k) x.1 x.2.1 x.2.2) (0, [], _) ?_ ⟨rfl, rfl, rfl, rfl, rfl, rfl, rfl, trivial⟩ ?_
 ·exact ⟨by omega, rfl, B, S.addNil⟩
 ·rintro ⟨k, out, u⟩ w63 hI; (try dsimp only at hI ⊢); obtain ⟨hk, ho, B, S⟩ := hI
  have hso : sz_segs out ≤ 1048576 := by
   rw [ho]; unfold betw; exact Nat.le_trans (Nat.le_trans (sz_filter _ _) (sz_take _ _)) hz1
  have hol : out.length ≤ 1048576 := by unfold sz_segs at hso; omega
  refine w_h ?_; refine t_lss rfl rfl ?_ rfl; refine t_e ?_; refine w_s ?_; refine w_if rfl ?_ ?_
  ·intro hlt; obtain ⟨x, hx⟩ : ∃ e, q.core[k]? = some e := getx (by omega); have hxz := sz_segs_mem (List.mem_of_getElem? hx); refine w_k ?_; refine x_s ?_; refine w_s ?_; refine w_block ?_; refine w_h ?_; refine t_idx e_seg (k := k) ‹_› hx B rfl rfl (by first | rfl | omega) ?_ rfl; intro p15 hp15; refine t_lda ‹_› ab_seg sb_seg B rfl ?_ rfl; intro v16 hv16; obtain ⟨v16_2, rfl, hv16_2⟩ := seg_va hv16; refine t_w S z_seg rfl ?_ rfl rfl; intro g9 w64 x65 S; have B := bx Hb B x65; refine t_stn S sb_seg rfl rfl rfl rfl (by repeat first | exact oc0 | refine oc rfl ?_ | refine oc (SlR.cells ‹_›).2 ?_) ?_; intro w66 b67 S; have B := B.trans b67; refine t_k ?_; refine t_b S.box ab_seg sb_seg rfl rfl ?_ rfl; refine t_x Tryz.call96 rfl (impl_FirstAS x _ _ (by first | assumption | exact VA.below ‹_› B | exact seg_mkv (by first | assumption | exact SlR.below ‹_› B)) (by omega)) ?_ rfl rfl; intro w68 x69; have B := bx Hb B x69; have S := S.below x69; refine t_m rfl ?_ rfl; refine t_eql rfl rfl ?_ rfl; refine t_m rfl ?_ rfl; refine t_partp (t := 21) rfl ?_ ?_
   ·intro h1; refine t_on rfl rfl ?_; refine t_b S.box ab_seg sb_seg rfl rfl ?_ rfl; refine t_on rfl rfl ?_; refine t_x Tryz.call132 rfl (impl_LastAS x _ _ (by first | assumption | exact VA.below ‹_› B | exact seg_mkv (by first | assumption | exact SlR.below ‹_› B)) (by omega)) ?_ rfl rfl; intro w70 x71; have B := bx Hb B x71; have S := S.below x71; refine t_on rfl rfl ?_; refine t_m rfl ?_ rfl; refine t_on rfl rfl ?_; refine t_eql rfl rfl ?_ rfl; refine t_q rfl rfl ?_ rfl; refine t_e ?_; refine w_if rfl ?_ ?_
    ·intro h2; refine w_g ?_; refine t_m rfl ?_ rfl; refine t_b S.box ab_seg sb_seg rfl rfl ?_ rfl; refine t_c Tryz.call133 rfl (impl_copySegment _ _ _ (by first | assumption | exact VA.below ‹_› B | exact seg_mkv (by first | assumption | exact SlR.below ‹_› B)) (by omega)) ?_ rfl rfl; rintro e w72 ⟨cs29, fp29, rfl, hO29, x73⟩; refine ⟨_, rfl, x73, ?_⟩; have S := S.add (o := tyO segT _ _) x73 hO29; have B := bx Hb B x73; obtain ⟨u29_2, rfl, S2⟩ := S.segOpen; have S := S2; refine t_lit1 (fun w => bs_seg1 _ _ _ w) rfl ?_ rfl rfl; intro A30 w74 x75 hA30; have B := bx Hb B x75; have S := S.below x75; have S := S.segShut (x := x); have S := S.f2; refine t_snoc e_seg S hA30 rfl rfl rfl (by first | omega | (simp; done) | (simp; omega)) (by (simp only [maxLen]); first | omega | (simp; done) | (simp; omega)) ?_ rfl; intro v31 w76 x77 S; have B := B.trans x77; refine t_a rfl ?_ rfl; refine t_d ?_; refine x_b ?_; refine x_s ?_; refine w_g ?_; refine t_add rfl rfl (by omega) ?_ rfl; refine t_m rfl ?_ rfl; refine t_d ?_; have S := S.f1.tail; refine x_r (X := Nat × List Seg × Value) (k + 1, out ++ [x], v31) ?_ (by exact ⟨rfl, rfl, rfl, rfl, rfl, rfl, rfl, trivial⟩) (by (try dsimp only); omega)
     (try dsimp only); exact ⟨by omega, by rw [ho]; unfold betw; rw [filt_succ _ hx, if_pos (by simp [h1, h2])], B, S⟩
    ·intro h2; refine w_k ?_; refine x_b ?_; refine x_s ?_; refine w_g ?_; refine t_add rfl rfl (by omega) ?_ rfl; refine t_m rfl ?_ rfl; refine t_d ?_; have S := S.tail; refine x_r (X := Nat × List Seg × Value) (k + 1, out, u) ?_ (by exact ⟨rfl, rfl, rfl, rfl, rfl, rfl, rfl, trivial⟩) (by (try dsimp only); omega); (try dsimp only); exact ⟨by omega, by rw [ho]; unfold betw; rw [filt_succ _ hx, if_neg (by simp [h1, h2]), List.append_nil], B, S⟩
   ·intro h1; (iterate 4 refine t_off rfl rfl rfl ?_ rfl); refine t_p rfl rfl ?_ rfl; refine t_e ?_; refine w_no rfl ?_; refine w_k ?_; refine x_b ?_; refine x_s ?_; refine w_g ?_; refine t_add rfl rfl (by omega) ?_ rfl; refine t_m rfl ?_ rfl; refine t_d ?_; have S := S.tail; refine x_r (X := Nat × List Seg × Value) (k + 1, out, u) ?_ (by exact ⟨rfl, rfl, rfl, rfl, rfl, rfl, rfl, trivial⟩) (by (try dsimp only); omega); (try dsimp only); exact ⟨by omega, by rw [ho]; unfold betw; rw [filt_succ _ hx, if_neg (by simp [h1]), List.append_nil], B, S⟩
  ·intro hge; refine w_exit ?_; (iterate 2 refine x_then_exit ?_); refine x_block_exit ?_; refine x_s ?_; refine w_h ?_; refine t_m rfl ?_ rfl; refine t_a rfl ?_ rfl; refine t_e ?_; refine w_r ?_; refine x_ret1 rfl rfl ?_; obtain ⟨fp, hO⟩ := (S.mono X0.size).head; rw [ho, List.take_of_length_le (by omega)] at hO; exact ⟨_, fp, rfl, hO, ext_trans X0 B⟩
theorem spec_l16Between (q : Sdb) (v : Value) (a b : Int) (w : World) (h : VA sdbT w v q) (hz : sz_sdb q ≤ 1048576) : Calls Tryz.prog 147 #[v, I a, I b] w fun e w' => ∃ v fp, e = .returned v ∧ SlO segT 67 w.heap.size w' v (betw q a b) fp ∧ Below w.heap.size w w' := by
 have hz1 : sz_segs q.core ≤ 1048576 := by unfold sz_sdb at hz; omega
 have hl1 : q.core.length ≤ 1048576 := by unfold sz_segs at hz1; omega
 have X0 := Below.refl w.heap.size w; refine enter Tryz.func147 rfl Tryz.ntmps147 rfl ?_; refine w_h ?_; refine t_boxr ‹_› rfl ?_ rfl rfl; intro p3 w78 x79 hp3; replace h := h.below x79; have X0 := ext_trans X0 x79; have S := Sep.nil w78; have B := Below.refl w78.heap.size w78; have Hb := Nat.le_refl w78.heap.size; refine t_a rfl ?_ rfl; refine t_k ?_; refine t_lit0 (T := segT) S bs_seg0 rfl ?_ rfl rfl; intro A9 w80 x81 S; have B := bx Hb B x81; refine t_a rfl ?_ rfl; refine t_e ?_; (iterate 2 refine w_s ?_); refine w_g ?_; refine t_a rfl ?_ rfl; refine t_e ?_; refine w_block ?_; refine w_loop (X := Nat × List Seg × Value) (fun x wq => (fun k out u => k ≤ q.core.length ∧ out = betw ⟨q.down, q.core.take k⟩ a b ∧ Below w78.heap.size w78 wq ∧ Sep w78.heap.size wq [slO segT 67 u out]) x.1 x.2.1 x.2.2) (fun x => (fun k out u => [(8, I ((k : Int))), (7, u), (1, I a), (2, I b), (3, p3), (6, .slice none 0 0)]) x.1 x.2.1 x.2.2) (fun x => (fun k out u => q.core.length - k) x.1 x.2.1 x.2.2) (0, [], _) ?_ ⟨rfl, rfl, rfl, rfl, rfl, rfl, trivial⟩ ?_
 ·exact ⟨by omega, rfl, B, S⟩
 ·rintro ⟨k, out, u⟩ w82 hI; (try dsimp only at hI ⊢); obtain ⟨hk, ho, B, S⟩ := hI
  have hso : sz_segs out ≤ 1048576 := by
   rw [ho]; unfold betw; exact Nat.le_trans (Nat.le_trans (sz_filter _ _) (sz_take _ _)) hz1
  have hol : out.length ≤ 1048576 := by unfold sz_segs at hso; omega
  (iterate 2 refine w_s ?_); refine w_g ?_; refine t_m rfl ?_ rfl; refine t_fld ln_sdb_1 ‹_› fb_sdb_1 rfl ?_ rfl; intro p11 hp11; refine t_lds ‹_› ab_s_seg B rfl ?_ rfl; intro v12 hv12; refine t_len e_seg ‹_› rfl rfl ?_ rfl; refine t_lss rfl rfl ?_ rfl; refine t_e ?_; refine w_if rfl ?_ ?_
  ·intro hlt; obtain ⟨x, hx⟩ : ∃ e, q.core[k]? = some e := getx (by omega); have hxz := sz_segs_mem (List.mem_of_getElem? hx); refine w_k ?_; refine x_s ?_; refine w_s ?_; refine w_block ?_; refine w_h ?_; refine t_fld ln_sdb_1 ‹_› fb_sdb_1 rfl ?_ rfl; intro p17 hp17; refine t_lds ‹_› ab_s_seg B rfl ?_ rfl; intro v18 hv18; refine t_m rfl ?_ rfl; refine t_idx e_seg (k := k) ‹_› hx B rfl rfl (by first | rfl | omega) ?_ rfl; intro p20 hp20; refine t_lda ‹_› ab_seg sb_seg B rfl ?_ rfl; intro v21 hv21; obtain ⟨v21_2, rfl, hv21_2⟩ := seg_va hv21; refine t_x Tryz.call103 rfl (spec_FirstAS x _ _ (by first | assumption | exact VA.below ‹_› B | exact seg_mkv (by first | assumption | exact SlR.below ‹_› B)) (by omega)) ?_ rfl rfl; intro w83 x84; have B := bx Hb B x84; have S := S.below x84; refine t_m rfl ?_ rfl; refine t_eql rfl rfl ?_ rfl; refine t_m rfl ?_ rfl; refine t_partp (t := 25) rfl ?_ ?_
   ·intro h1; refine t_on rfl rfl ?_; refine t_fld ln_sdb_1 ‹_› fb_sdb_1 rfl ?_ rfl; intro p26 hp26; refine t_on rfl rfl ?_; refine t_lds ‹_› ab_s_seg B rfl ?_ rfl; intro v27 hv27; refine t_on rfl rfl ?_; refine t_m rfl ?_ rfl; refine t_on rfl rfl ?_; refine t_idx e_seg (k := k) ‹_› hx B rfl rfl (by first | rfl | omega) ?_ rfl; intro p29 hp29; refine t_on rfl rfl ?_; refine t_lda ‹_› ab_seg sb_seg B rfl ?_ rfl; intro v30 hv30; obtain ⟨v30_2, rfl, hv30_2⟩ := seg_va hv30; refine t_on rfl rfl ?_; refine t_x Tryz.call114 rfl (spec_LastAS x _ _ (by first | assumption | exact VA.below ‹_› B | exact seg_mkv (by first | assumption | exact SlR.below ‹_› B)) (by omega)) ?_ rfl rfl; intro w85 x86; have B := bx Hb B x86; have S := S.below x86; refine t_on rfl rfl ?_; refine t_m rfl ?_ rfl; refine t_on rfl rfl ?_; refine t_eql rfl rfl ?_ rfl; refine t_q rfl rfl ?_ rfl; refine t_e ?_; refine w_if rfl ?_ ?_
    ·intro h2; refine w_g ?_; refine t_m rfl ?_ rfl; refine t_fld ln_sdb_1 ‹_› fb_sdb_1 rfl ?_ rfl; intro p36 hp36; refine t_lds ‹_› ab_s_seg B rfl ?_ rfl; intro v37 hv37; refine t_m rfl ?_ rfl; refine t_idx e_seg (k := k) ‹_› hx B rfl rfl (by first | rfl | omega) ?_ rfl; intro p39 hp39; refine t_lda ‹_› ab_seg sb_seg B rfl ?_ rfl; intro v40 hv40; obtain ⟨v40_2, rfl, hv40_2⟩ := seg_va hv40; refine t_c Tryz.call146 rfl (spec_l9Copy _ _ _ (by first | assumption | exact VA.below ‹_› B | exact seg_mkv (by first | assumption | exact SlR.below ‹_› B)) (by omega)) ?_ rfl rfl; rintro e w87 ⟨cs41, fp41, rfl, hO41, x88⟩; refine ⟨_, rfl, x88, ?_⟩; have S := S.add (o := tyO segT _ _) x88 hO41; have B := bx Hb B x88; obtain ⟨u41_2, rfl, S2⟩ := S.segOpen; have S := S2; refine t_lit1 (fun w => bs_seg1 _ _ _ w) rfl ?_ rfl rfl; intro A42 w89 x90 hA42; have B := bx Hb B x90; have S := S.below x90; have S := S.segShut (x := x); have S := S.f1; refine t_snoc e_seg S hA42 rfl rfl rfl (by first | omega | (simp; done) | (simp; omega)) (by (simp only [maxLen]); first | omega | (simp; done) | (simp; omega)) ?_ rfl; intro v43 w91 x92 S; have B := B.trans x92; refine t_a rfl ?_ rfl; refine t_d ?_
     refine x_b ?_; refine x_s ?_; refine w_g ?_; refine t_m rfl ?_ rfl; refine t_add rfl rfl (by omega) ?_ rfl; refine t_a rfl ?_ rfl; refine t_d ?_; refine x_r (X := Nat × List Seg × Value) (k + 1, out ++ [x], v43) ?_ (by exact ⟨rfl, rfl, rfl, rfl, rfl, rfl, trivial⟩) (by (try dsimp only); omega); (try dsimp only); exact ⟨by omega, by rw [ho]; unfold betw; rw [filt_succ _ hx, if_pos (by simp [h1, h2])], B, S⟩
    ·intro h2; refine w_k ?_; refine x_b ?_; refine x_s ?_; refine w_g ?_; refine t_m rfl ?_ rfl; refine t_add rfl rfl (by omega) ?_ rfl; refine t_a rfl ?_ rfl; refine t_d ?_; refine x_r (X := Nat × List Seg × Value) (k + 1, out, u) ?_ (by exact ⟨rfl, rfl, rfl, rfl, rfl, rfl, trivial⟩) (by (try dsimp only); omega); (try dsimp only); exact ⟨by omega, by rw [ho]; unfold betw; rw [filt_succ _ hx, if_neg (by simp [h1, h2]), List.append_nil], B, S⟩
   ·intro h1; (iterate 8 refine t_off rfl rfl rfl ?_ rfl); refine t_p rfl rfl ?_ rfl; refine t_e ?_; refine w_no rfl ?_; refine w_k ?_; refine x_b ?_; refine x_s ?_; refine w_g ?_; refine t_m rfl ?_ rfl; refine t_add rfl rfl (by omega) ?_ rfl; refine t_a rfl ?_ rfl; refine t_d ?_; refine x_r (X := Nat × List Seg × Value) (k + 1, out, u) ?_ (by exact ⟨rfl, rfl, rfl, rfl, rfl, rfl, trivial⟩) (by (try dsimp only); omega); (try dsimp only); exact ⟨by omega, by rw [ho]; unfold betw; rw [filt_succ _ hx, if_neg (by simp [h1]), List.append_nil], B, S⟩
  ·intro hge; refine w_exit ?_; (iterate 2 refine x_then_exit ?_); refine x_block_exit ?_; refine x_s ?_; refine w_h ?_; refine t_m rfl ?_ rfl; refine t_a rfl ?_ rfl; refine t_e ?_; refine w_r ?_; refine x_ret1 rfl rfl ?_; obtain ⟨fp, hO⟩ := (S.mono X0.size).head; rw [ho, List.take_of_length_le (by omega)] at hO; exact ⟨_, fp, rfl, hO, ext_trans X0 B⟩
def btw (k : Sdb) (rev : Bool) (a b : Int) : List Seg := if rev then betw k b a else betw k a b
def coreP (s : Seg) (rev : Bool) : Part := makePart s (if rev then 3 else 2) 0
/-- A path of a book. -/
inductive Comb (t : Topo) (k : Sdb) (a b : Int) : Path → Prop
  | up (s : Seg) : s ∈ downs k a → 0 ≤ firstH s.hops b → Comb t k a b [makePart s 1 (firstH s.hops b)]
  | down (s : Seg) : s ∈ downs k b → 0 ≤ firstH s.hops a → Comb t k a b [makePart s 4 (firstH s.hops a)]
  | core (s : Seg) (rev : Bool) : s ∈ btw k rev a b → Comb t k a b [coreP s rev]
  | meet (u d : Seg) : u ∈ downs k a → d ∈ downs k b → (joinUD u d).length ≠ 0 → Comb t k a b (joinUD u d)
  | coreDown (s d : Seg) (rev : Bool) : coreAt t a = true → d ∈ downs k b → s ∈ btw k rev a (firstS d) → Comb t k a b [coreP s rev, makePart d 4 0]
  | upCore (u s : Seg) (rev : Bool) : coreAt t b = true → u ∈ downs k a → s ∈ btw k rev (firstS u) b → Comb t k a b [makePart u 1 0, coreP s rev]
  | three (u s d : Seg) (rev : Bool) : u ∈ downs k a → d ∈ downs k b → s ∈ btw k rev (firstS u) (firstS d) → Comb t k a b [makePart u 1 0, coreP s rev, makePart d 4 0]
theorem mem_cores' {k : Sdb} {up dn : Seg} {a b : Int} {p : Path} : p ∈ cores k up a b dn ↔ ∃ s rev, s ∈ btw k rev a b ∧ p = joinT up s rev dn := by
  unfold cores btw
  rw [List.mem_append, List.mem_map, List.mem_map]
  constructor
  · rintro (⟨s, hs, e⟩ | ⟨s, hs, e⟩)
    · exact ⟨s, false, hs, e.symm⟩
    · exact ⟨s, true, hs, e.symm⟩
  · rintro ⟨s, rev, hs, e⟩
    cases rev with
    | false => exact .inl ⟨s, hs, e.symm⟩
    | true => exact .inr ⟨s, hs, e.symm⟩
theorem downs_mem {t : Topo} {k : Sdb} (D : DbK t k) {r : Int} {s : Seg} (h : s ∈ downs k r) : s ∈ k.down ∧ (SegK t s ∧ WfS t s) ∧ lastS s = r := by
  unfold downs at h
  rw [List.mem_filter, decide_eq_true_eq] at h; exact ⟨h.1, D.down s h.1, h.2⟩
theorem btw_mem {t : Topo} {k : Sdb} (D : DbK t k) {rev : Bool} {a b : Int} {s : Seg} (h : s ∈ btw k rev a b) : s ∈ k.core ∧ (SegK t s ∧ WfS t s) := by
  have hm : s ∈ k.core := by
    unfold btw betw at h
    cases rev <;> simp only [Bool.false_eq_true, if_false, if_true] at h <;> exact (List.mem_filter.1 h).1
  exact ⟨hm, D.core s hm⟩
theorem seg_pos {t : Topo} {s : Seg} (h : SegK t s ∧ WfS t s) : 0 < (s.hops.length : Int) := by have := h.2.len; omega
theorem comb_iff {t : Topo} {k : Sdb} (D : DbK t k) {a b : Int} {p : Path} : p ∈ comb t k a b ↔ (¬ (a = b ∨ isAS t a = false ∨ isAS t b = false)) ∧ Comb t k a b p := by
 have pb : ∀ {x y : Int} {s : Seg} {rev : Bool}, s ∈ btw k rev x y → 0 < (s.hops.length : Int) := fun h => seg_pos (btw_mem D h).2
 have pd : ∀ {r : Int} {s : Seg}, s ∈ downs k r → 0 < (s.hops.length : Int) := fun h => seg_pos (downs_mem D h).2.1
 unfold comb
 split
 ·rename_i h; exact ⟨fun z => by simp at z, fun z => absurd h z.1⟩
 ·rename_i h
  unfold combL
  rw [List.mem_append, List.mem_append, List.mem_append, List.mem_append, List.mem_append, List.mem_append]
  constructor
  ·intro hp; refine ⟨h, ?_⟩
   rcases hp with (((((hp | hp) | hp) | hp) | hp) | hp) | hp
   ·unfold alone1 at hp
    rw [List.mem_flatMap] at hp; obtain ⟨s, hs, hp⟩ := hp
    split at hp
    ·rw [List.mem_singleton] at hp; rw [hp]; exact .up s hs ‹_›
    ·simp at hp
   ·unfold alone1 at hp
    rw [List.mem_flatMap] at hp; obtain ⟨s, hs, hp⟩ := hp
    split at hp
    ·rw [List.mem_singleton] at hp; rw [hp]; exact .down s hs ‹_›
    ·simp at hp
   ·obtain ⟨s, rev, hs, rfl⟩ := mem_cores'.1 hp
    unfold joinT
    rw [addP_no, addP_no, addP_yes (pb hs)]; exact .core s rev hs
   ·rw [List.mem_flatMap] at hp; obtain ⟨u, hu, hp⟩ := hp
    unfold pairs1 at hp
    rw [List.mem_flatMap] at hp; obtain ⟨d, hd, hp⟩ := hp
    split at hp
    ·simp at hp
    ·rw [List.mem_singleton] at hp; rw [hp]; exact .meet u d hu hd ‹_›
   ·split at hp
    ·rw [List.mem_flatMap] at hp; obtain ⟨d, hd, hp⟩ := hp; obtain ⟨s, rev, hs, rfl⟩ := mem_cores'.1 hp
     unfold joinT
     rw [addP_no, addP_yes (pb hs), addP_yes (pd hd)]; exact .coreDown s d rev ‹_› hd hs
    ·simp at hp
   ·split at hp
    ·rw [List.mem_flatMap] at hp; obtain ⟨u, hu, hp⟩ := hp; obtain ⟨s, rev, hs, rfl⟩ := mem_cores'.1 hp
     unfold joinT
     rw [addP_no, addP_yes (pb hs), addP_yes (pd hu)]; exact .upCore u s rev ‹_› hu hs
    ·simp at hp
   ·rw [List.mem_flatMap] at hp; obtain ⟨u, hu, hp⟩ := hp; rw [List.mem_flatMap] at hp; obtain ⟨d, hd, hp⟩ := hp; obtain ⟨s, rev, hs, rfl⟩ := mem_cores'.1 hp
    unfold joinT
    rw [addP_yes (pb hs), addP_yes (pd hu), addP_yes (pd hd)]; exact .three u s d rev hu hd hs
  ·rintro ⟨_, hp⟩; cases hp with
   | up s hs h0 => exact .inl (.inl (.inl (.inl (.inl (.inl (by unfold alone1; rw [List.mem_flatMap]; exact ⟨s, hs, by rw [if_pos h0]; exact List.mem_singleton.2 rfl⟩))))))
   | down s hs h0 => exact .inl (.inl (.inl (.inl (.inl (.inr (by unfold alone1; rw [List.mem_flatMap]; exact ⟨s, hs, by rw [if_pos h0]; exact List.mem_singleton.2 rfl⟩))))))
   | core s rev hs => exact .inl (.inl (.inl (.inl (.inr (mem_cores'.2 ⟨s, rev, hs, by unfold joinT; rw [addP_no, addP_no, addP_yes (pb hs)]; rfl⟩)))))
   | meet u d hu hd hne => exact .inl (.inl (.inl (.inr (by rw [List.mem_flatMap]; exact ⟨u, hu, by unfold pairs1; rw [List.mem_flatMap]; exact ⟨d, hd, by rw [if_neg hne]; exact List.mem_singleton.2 rfl⟩⟩))))
   | coreDown s d rev hc hd hs => exact .inl (.inl (.inr (by rw [if_pos hc, List.mem_flatMap]; exact ⟨d, hd, mem_cores'.2 ⟨s, rev, hs, by unfold joinT; rw [addP_no, addP_yes (pb hs), addP_yes (pd hd)]; rfl⟩⟩)))
   | upCore u s rev hc hu hs => exact .inl (.inr (by rw [if_pos hc, List.mem_flatMap]; exact ⟨u, hu, mem_cores'.2 ⟨s, rev, hs, by unfold joinT; rw [addP_no, addP_yes (pb hs), addP_yes (pd hu)]; rfl⟩⟩))
   | three u s d rev hu hd hs => exact .inr (by rw [List.mem_flatMap]; exact ⟨u, hu, by rw [List.mem_flatMap]; exact ⟨d, hd, mem_cores'.2 ⟨s, rev, hs, by unfold joinT; rw [addP_yes (pb hs), addP_yes (pd hu), addP_yes (pd hd)]; rfl⟩⟩⟩)
/-- A part of a book's path: of a segment down, either way, or of a core's, either way. -/
def PartOf (k : Sdb) (x : Part) : Prop := ∃ s kind i, 0 ≤ i ∧ i < (s.hops.length : Int) ∧ x = makePart s kind i ∧ ((s ∈ k.down ∧ (kind = 1 ∨ kind = 4)) ∨ (s ∈ k.core ∧ (kind = 2 ∨ kind = 3)))
theorem comb_parts {t : Topo} {k : Sdb} (D : DbK t k) {a b : Int} {p : Path} (h : Comb t k a b p) : ∀ x ∈ p, PartOf k x := by
  have fd : ∀ {r : Int} {s : Seg} (kind i : Int), s ∈ downs k r → (kind = 1 ∨ kind = 4) → 0 ≤ i → i < (s.hops.length : Int) → PartOf k (makePart s kind i) := fun {r s} kind i h hk h0 h1 => ⟨s, kind, i, h0, h1, rfl, .inl ⟨(downs_mem D h).1, hk⟩⟩
  have fw : ∀ {r : Int} {s : Seg} (kind : Int), s ∈ downs k r → (kind = 1 ∨ kind = 4) → PartOf k (makePart s kind 0) := fun {r s} kind h hk => fd kind 0 h hk (Int.le_refl _) (seg_pos (downs_mem D h).2.1)
  have fc : ∀ {x y : Int} {s : Seg} {rev : Bool}, s ∈ btw k rev x y → PartOf k (coreP s rev) := fun {x y s rev} h => ⟨s, _, 0, Int.le_refl _, seg_pos (btw_mem D h).2, rfl, .inr ⟨(btw_mem D h).1, by cases rev <;> simp⟩⟩
  cases h with
  | up s hs h0 =>
    obtain ⟨_, _, _, hl⟩ := firstH_at h0
    simp only [List.mem_singleton, forall_eq]; exact fd 1 _ hs (.inl rfl) h0 hl
  | down s hs h0 =>
    obtain ⟨_, _, _, hl⟩ := firstH_at h0
    simp only [List.mem_singleton, forall_eq]; exact fd 4 _ hs (.inr rfl) h0 hl
  | core s rev hs => simp only [List.mem_singleton, forall_eq]; exact fc hs
  | meet u d hu hd hne =>
    obtain ⟨i, j, x, y, e, hx, hj, hy, e2⟩ := meet_at u d u.hops.length hne
    unfold joinUD
    rw [e]; have l1 := (List.getElem?_eq_some_iff.1 hx).1; have l2 := (List.getElem?_eq_some_iff.1 hy).1; intro z hz
    rcases List.mem_cons.1 hz with rfl | hz
    · exact fd 1 _ hu (.inl rfl) (by omega) (by omega)
    · rw [List.mem_singleton] at hz; rw [hz]; exact fd 4 _ hd (.inr rfl) hj (by omega)
  | coreDown s d rev hc hd hs =>
    intro z hz
    rcases List.mem_cons.1 hz with rfl | hz
    · exact fc hs
    · rw [List.mem_singleton] at hz; rw [hz]; exact fw 4 hd (.inr rfl)
  | upCore u s rev hc hu hs =>
    intro z hz
    rcases List.mem_cons.1 hz with rfl | hz
    · exact fw 1 hu (.inl rfl)
    · rw [List.mem_singleton] at hz; rw [hz]; exact fc hs
  | three u s d rev hu hd hs =>
    intro z hz
    rcases List.mem_cons.1 hz with rfl | hz
    · exact fw 1 hu (.inl rfl)
    · rcases List.mem_cons.1 hz with rfl | hz
      · exact fc hs
      · rw [List.mem_singleton] at hz; rw [hz]; exact fw 4 hd (.inr rfl)
/-- A book whose segments down are links down and whose core segments are links of a core. -/
structure DbL (t : Topo) (k : Sdb) : Prop where
  db : DbK t k
  down : ∀ s ∈ k.down, ∀ (i : Nat) x y, s.hops[i]? = some x → s.hops[i + 1]? = some y → ifKind t x.ia x.eg = 2
  core : ∀ s ∈ k.core, ∀ (i : Nat) x y, s.hops[i]? = some x → s.hops[i + 1]? = some y → ifKind t x.ia x.eg = 1
def rkK (c : Int) : Int := if c = 3 then 1 else if c = 1 then 2 else if c = 2 then 3 else 0
def stepRk (t : Topo) (s : Stp) : Int := rkK (ifKind t s.ia s.eg)
theorem make_out {s : Seg} {kind : Int} (hk : 1 ≤ kind ∧ kind ≤ 4) {n : Nat} (hn : n < s.hops.length) : (makePart s kind n).hops.length = s.hops.length - n ∧ ∀ j, j + 1 < s.hops.length - n → ∃ x y, s.hops[if isRev kind then s.hops.length - 2 - j else n + j]? = some x ∧ s.hops[(if isRev kind then s.hops.length - 2 - j else n + j) + 1]? = some y ∧ hopIa (makePart s kind n) j = (if isRev kind then y.ia else x.ia) ∧ partOut (makePart s kind n) j = (if isRev kind then y.ing else x.eg) ∧ hopIa (makePart s kind n) (j + 1) = (if isRev kind then x.ia else y.ia) ∧ partIn (makePart s kind n) (j + 1) = (if isRev kind then x.eg else y.ing) := by
  have g1 : inR (n : Int) 0 ((s.hops.length : Int) - 1) = true := inR_yes (by omega) (by omega); have g2 : inR kind 1 4 = true := inR_yes hk.1 hk.2; have hd : (s.hops.drop n).length = s.hops.length - n := List.length_drop ..; cases hr : isRev kind with
  | true =>
    rw [make_rev g1 g2 hr]
    simp only [if_true]
    refine ⟨by rw [List.length_reverse, Int.toNat_natCast]; exact hd, fun j hj => ?_⟩; obtain ⟨x, hx⟩ : ∃ x, s.hops[s.hops.length - 2 - j]? = some x := getx (by omega); obtain ⟨y, hy⟩ : ∃ y, s.hops[s.hops.length - 2 - j + 1]? = some y := getx (by omega)
    have hy' : (s.hops.drop (n : Int).toNat).reverse[j]? = some y := by
      rw [Int.toNat_natCast, List.getElem?_reverse (by omega), List.getElem?_drop, hd, ← hy]; congr 1; omega
    have hx' : (s.hops.drop (n : Int).toNat).reverse[j + 1]? = some x := by
      rw [Int.toNat_natCast, List.getElem?_reverse (by omega), List.getElem?_drop, hd, ← hx]; congr 1; omega
    refine ⟨x, y, hx, hy, hopIa_at hy', ?_, hopIa_at hx', ?_⟩
    · unfold partOut; dsimp only; rw [hy', hr]; rfl
    · unfold partIn; dsimp only; rw [hx', hr]; rfl
  | false =>
    rw [make_fwd g1 g2 hr]
    simp only [Bool.false_eq_true, if_false]
    refine ⟨by rw [Int.toNat_natCast]; exact hd, fun j hj => ?_⟩; obtain ⟨x, hx⟩ : ∃ x, s.hops[n + j]? = some x := getx (by omega); obtain ⟨y, hy⟩ : ∃ y, s.hops[n + j + 1]? = some y := getx (by omega)
    have hx' : (s.hops.drop (n : Int).toNat)[j]? = some x := by rw [Int.toNat_natCast, List.getElem?_drop]; exact hx
    have hy' : (s.hops.drop (n : Int).toNat)[j + 1]? = some y := by rw [Int.toNat_natCast, List.getElem?_drop]; exact hy
    refine ⟨x, y, hx, hy, hopIa_at hx', ?_, hopIa_at hy', ?_⟩
    · unfold partOut; dsimp only; rw [hx', hr]; rfl
    · unfold partIn; dsimp only; rw [hy', hr]; rfl
section
variable {t : Topo} (hU : Uniq t.links) (hK : ∀ x ∈ t.links, x.a < x.b ∧ 1 ≤ x.ai ∧ 1 ≤ x.bi)
include hU hK
theorem link_flip {s : Seg} (W : WfS t s) {i : Nat} {x y : Hop} (hx : s.hops[i]? = some x) (hy : s.hops[i + 1]? = some y) : ifKind t y.ia y.ing = flipK (ifKind t x.ia x.eg) := by
  obtain ⟨l1, l2⟩ := W.link i x y hx hy; have hy0 : 0 ≤ y.ia := (inR_iff.1 (W.ok y (List.mem_of_getElem? hy)).2).1
  have l4 : 1 ≤ y.ing := by
    have := remote_door (t := t) (fun x hx => (hK x hx).2) (r := x.ia) (d := x.eg) (by rw [l2]; exact hy0); rw [l2] at this; exact this
  exact kind_sym hU (fun x hx => (hK x hx).1) l2 hy0 l1 (by omega)
theorem part_rank {k : Sdb} (D : DbL t k) {x : Part} (h : PartOf k x) {j : Nat} (hj : j + 1 < x.hops.length) : rkK (ifKind t (hopIa x j) (partOut x j)) = place x.kind := by
  obtain ⟨s, kind, i, h0, h1, rfl, hc⟩ := h; obtain ⟨n, rfl⟩ : ∃ n : Nat, i = n := ⟨i.toNat, by omega⟩
  have hk : 1 ≤ kind ∧ kind ≤ 4 := by rcases hc with ⟨_, h | h⟩ | ⟨_, h | h⟩ <;> omega
  obtain ⟨hl, hm⟩ := make_out hk (s := s) (n := n) (by omega); rw [hl] at hj; obtain ⟨x, y, hx, hy, e1, e2, _, _⟩ := hm j hj; rw [make_kind hk (by omega), e1, e2]
  rcases hc with ⟨hs, rfl | rfl⟩ | ⟨hs, rfl | rfl⟩
  · have W := (D.db.down s hs).2
    have := D.down s hs _ x y hx hy
    show rkK (ifKind t y.ia y.ing) = 1
    rw [link_flip hU hK W hx hy, this]; rfl
  · have := D.down s hs _ x y hx hy
    show rkK (ifKind t x.ia x.eg) = 3
    rw [this]; rfl
  · have := D.core s hs _ x y hx hy
    show rkK (ifKind t x.ia x.eg) = 2
    rw [this]; rfl
  · have W := (D.db.core s hs).2
    have := D.core s hs _ x y hx hy
    show rkK (ifKind t y.ia y.ing) = 2
    rw [link_flip hU hK W hx hy, this]; rfl
end
/-- Ranks that do not fall, up to r; the last step is not asked. -/
def Sorted (t : Topo) (r : Int) (l : List Stp) : Prop := (∀ (m : Nat) s, l[m]? = some s → m + 1 < l.length → 1 ≤ stepRk t s ∧ stepRk t s ≤ r) ∧ ∀ (m : Nat) s s', l[m]? = some s → l[m + 1]? = some s' → m + 2 < l.length → stepRk t s ≤ stepRk t s'
theorem Sorted.nil {t : Topo} {r : Int} : Sorted t r [] := ⟨fun m s h => by simp at h, fun m s s' h => by simp at h⟩
theorem Sorted.mono {t : Topo} {r r' : Int} {l : List Stp} (h : Sorted t r l) (hr : r ≤ r') : Sorted t r' l := ⟨fun m s hs hm => ⟨(h.1 m s hs hm).1, Int.le_trans (h.1 m s hs hm).2 hr⟩, h.2⟩
theorem Sorted.snoc {t : Topo} {r : Int} {l : List Stp} {x : Stp} (h : Sorted t r l) (h1 : 1 ≤ r) (hx : ∀ s, l[l.length - 1]? = some s → stepRk t s = r) : Sorted t r (l ++ [x]) := by
  have at_ : ∀ (m : Nat) s, (l ++ [x])[m]? = some s → m < l.length → l[m]? = some s := fun m s hs hm => by rw [List.getElem?_append_left hm] at hs; exact hs
  refine ⟨fun m s hs hm => ?_, fun m s s' hs hs' hm => ?_⟩
  · rw [List.length_append, List.length_singleton] at hm
    have hs := at_ m s hs (by omega)
    rcases Nat.lt_or_ge (m + 1) l.length with q | q
    · exact h.1 m s hs q
    · have := hx s (by rw [← hs]; congr 1; omega)
      omega
  · rw [List.length_append, List.length_singleton] at hm
    have hs := at_ m s hs (by omega); have hs' := at_ (m + 1) s' hs' (by omega)
    rcases Nat.lt_or_ge (m + 2) l.length with q | q
    · exact h.2 m s s' hs hs' q
    · have := hx s' (by rw [← hs']; congr 1; omega)
      rw [this]; exact (h.1 m s hs (by omega)).2
theorem Sorted.setLast {t : Topo} {r : Int} {l : List Stp} {x : Stp} (h : Sorted t r l) : Sorted t r (l.set (l.length - 1) x) := by
  have at_ : ∀ (m : Nat) s, (l.set (l.length - 1) x)[m]? = some s → m + 1 < l.length → l[m]? = some s := fun m s hs hm => by rw [List.getElem?_set_ne (by omega)] at hs; exact hs
  refine ⟨fun m s hs hm => ?_, fun m s s' hs hs' hm => ?_⟩
  · rw [List.length_set] at hm
    exact h.1 m s (at_ m s hs hm) hm
  · rw [List.length_set] at hm
    exact h.2 m s s' (at_ m s hs (by omega)) (at_ (m + 1) s' hs' (by omega)) hm
theorem hops_sorted {t : Topo} (hK : ∀ x ∈ t.links, 1 ≤ x.ai ∧ 1 ≤ x.bi) {i : Nat} {x : Part} {l : List Stp} (hv : validPart t x = true) (hl : ChainK t l) (h0 : i = 0 → l = []) (h1 : 0 < i → 0 < l.length ∧ (lastOf l).ia = hopIa x 0) (hp : 1 ≤ place x.kind) (hr : ∀ j, j + 1 < x.hops.length → rkK (ifKind t (hopIa x j) (partOut x j)) = place x.kind) (hs : Sorted t (place x.kind) l) : ∀ j, j ≤ x.hops.length → Sorted t (place x.kind) (hopsTo i x l j)
  | 0, _ => hs
  | j + 1, hj => by
    have ih := hops_sorted hK hv hl h0 h1 hp hr hs j (by omega); have hc := hops_chain hK hv hl h0 h1 j (by omega); rw [hopsTo_succ]; cases hb : joinAt i x (hopsTo i x l j) j with
    | true => rw [addHop_join hb]; exact ih.setLast
    | false =>
      rw [addHop_new hb]
      refine ih.snoc hp fun s hs' => ?_
      rcases Nat.eq_zero_or_pos j with hj0 | hj0
      · subst hj0
        exfalso
        have hql : hopsTo i x l 0 = l := rfl; rw [hql] at hs' hb
        rcases Nat.eq_zero_or_pos i with hi | hi
        · rw [h0 hi] at hs'; simp at hs'
        · obtain ⟨k1, k2⟩ := h1 hi
          have : joinAt i x l 0 = true := by
            unfold joinAt
            simp only [Bool.and_eq_true, decide_eq_true_eq, beq_iff_eq]
            exact ⟨hi, trivial, k1, k2⟩
          rw [this] at hb; cases hb
      · obtain ⟨_, s', hs2, ha, he⟩ := hc.2 hj0
        rw [hs'] at hs2; cases hs2; obtain ⟨m, rfl⟩ : ∃ m, j = m + 1 := ⟨j - 1, by omega⟩; rw [Nat.add_sub_cancel] at ha he
        unfold stepRk
        rw [ha, he]; exact hr m (by omega)
theorem place_pos (k : Int) : 1 ≤ place k ∧ place k ≤ 3 := by
  unfold place
  (repeat' split) <;> omega
theorem raw_sorted {t : Topo} (hK : ∀ x ∈ t.links, 1 ≤ x.ai ∧ 1 ≤ x.bi) {p : Path} (h : wellFormed t p = true) (hr : ∀ x ∈ p, ∀ j, j + 1 < x.hops.length → rkK (ifKind t (hopIa x j) (partOut x j)) = place x.kind) : ∀ k, k ≤ List.length p → (k = 0 → Sorted t 1 (rawSteps p k)) ∧ ∀ x, p[k - 1]? = some x → 0 < k → Sorted t (place x.kind) (rawSteps p k) := by
  obtain ⟨_, hv, hj⟩ := wf_parts h; intro k
  induction k with
  | zero => exact fun _ => ⟨fun _ => Sorted.nil, fun x _ h => by omega⟩
  | succ k ih =>
    intro hk; refine ⟨by omega, fun x hx _ => ?_⟩; rw [Nat.add_sub_cancel] at hx; obtain ⟨hc, h0, h1⟩ := raw_chain hK h k (by omega); have hvx := hv _ (List.mem_of_getElem? hx); rw [rawSteps_succ hx]
    refine hops_sorted hK hvx hc h0 (fun hk0 => ⟨(h1 hk0).1, by
      have hy := List.getElem?_eq_getElem (l := p) (i := k - 1) (by omega); rw [(h1 hk0).2 _ hy, (hj (k - 1) _ _ hy (by rw [show k - 1 + 1 = k by omega]; exact hx)).2]
      exact fIa_hop _⟩) (place_pos _).1 (hr x (List.mem_of_getElem? hx)) ?_ _ (Nat.le_refl _)
    obtain ⟨ih0, ih1⟩ := ih (by omega)
    rcases Nat.eq_zero_or_pos k with q | q
    · exact (ih0 q).mono (place_pos _).1
    · have hy := List.getElem?_eq_getElem (l := p) (i := k - 1) (by omega)
      exact (ih1 _ hy q).mono (Int.le_of_lt (hj (k - 1) _ _ hy (by rw [show k - 1 + 1 = k by omega]; exact hx)).1)
theorem steps_sorted {t : Topo} (hK : ∀ x ∈ t.links, 1 ≤ x.ai ∧ 1 ≤ x.bi) {p : Path} (h : wellFormed t p = true) (hr : ∀ x ∈ p, ∀ j, j + 1 < x.hops.length → rkK (ifKind t (hopIa x j) (partOut x j)) = place x.kind) : Sorted t 3 (pathSteps p) := by
  have hp := (wf_parts h).1; obtain ⟨_, _, h1⟩ := raw_chain hK h (List.length p) (Nat.le_refl _); have hpos := (h1 (by omega)).1; have hy := List.getElem?_eq_getElem (l := p) (i := List.length p - 1) (by omega); have hs := ((raw_sorted hK h hr (List.length p) (Nat.le_refl _)).2 _ hy (by omega)).mono (place_pos _).2; obtain ⟨hlen, hat⟩ := cut_at_ _ hpos
  unfold pathSteps
  generalize rawSteps p p.length = l at *
  have same : ∀ (m : Nat) s, (cutLast (cutFirst l))[m]? = some s → m + 1 < l.length → ∃ r, l[m]? = some r ∧ stepRk t s = stepRk t r := fun m s hs hm => by
    obtain ⟨r, hr, ha, _, he⟩ := hat m s hs; rw [if_neg (by omega)] at he; exact ⟨r, hr, by unfold stepRk; rw [ha, he]⟩
  refine ⟨fun m s hm hlt => ?_, fun m s s' hm hm' hlt => ?_⟩
  · rw [hlen] at hlt
    obtain ⟨r, hr, e⟩ := same m s hm hlt; rw [e]; exact hs.1 m r hr hlt
  · rw [hlen] at hlt
    obtain ⟨r, hr, e⟩ := same m s hm (by omega); obtain ⟨r', hr', e'⟩ := same (m + 1) s' hm' (by omega); rw [e, e']; exact hs.2 m r r' hr hr' hlt
theorem simple_nd {t : Topo} {p : Path} (h : simplePath t p = true) : wellFormed t p = true ∧ (nums (pathSteps p)).Nodup := by
  unfold simplePath at h
  rw [Bool.and_eq_true, List.all_eq_true] at h; refine ⟨h.1, ?_⟩; have h2 := h.2
  generalize nums (pathSteps p) = l at *
  rw [List.Nodup, List.pairwise_iff_getElem]; intro i j hi hj hij e; have := h2 j (List.mem_range.2 hj)
  unfold fresh at this
  rw [List.getElem?_eq_getElem hj] at this
  simp only [Bool.not_eq_true', ← Bool.not_eq_true, List.contains_iff_mem] at this
  exact this (by rw [← e, List.mem_take_iff_getElem]; exact ⟨i, by omega, rfl⟩)
theorem rk_kind {c : Int} (h : 1 ≤ rkK c) : c = 3 ∧ rkK c = 1 ∨ c = 1 ∧ rkK c = 2 ∨ c = 2 ∧ rkK c = 3 := by
  unfold rkK at *
  by_cases h3 : c = 3
  · exact .inl ⟨h3, by rw [if_pos h3]⟩
  · rw [if_neg h3] at h ⊢
    by_cases h1 : c = 1
    · exact .inr (.inl ⟨h1, by rw [if_pos h1]⟩)
    · rw [if_neg h1] at h ⊢
      by_cases h2 : c = 2
      · exact .inr (.inr ⟨h2, by rw [if_pos h2]⟩)
      · rw [if_neg h2] at h; omega
theorem kind_zero (t : Topo) (r : Int) : ifKind t r 0 = 5 := by unfold ifKind; rw [if_pos rfl]
/-- What FnValley asks of a path. -/
structure Valley (t : Topo) (l : List Stp) : Prop where
  ok : ∀ s ∈ l, stepOkE t s = true
  cnt : cntK t 3 l + cntK t 1 l + cntK t 2 l + 1 = l.length
  ord : ∀ (m : Nat) s s', l[m]? = some s → l[m + 1]? = some s' → m + 2 < l.length → (ifKind t s.ia s.eg = 2 → ifKind t s'.ia s'.eg = 2) ∧ (ifKind t s.ia s.eg = 1 → ifKind t s'.ia s'.eg ≠ 3)
theorem cnt_all {t : Topo} : ∀ (l : List Stp), (∀ s ∈ l, ifKind t s.ia s.eg = 3 ∨ ifKind t s.ia s.eg = 1 ∨ ifKind t s.ia s.eg = 2) → cntK t 3 l + cntK t 1 l + cntK t 2 l = l.length
  | [], _ => rfl
  | s :: l, h => by
    have ih := cnt_all l fun s hs => h s (List.mem_cons_of_mem _ hs)
    have hs := h s (List.mem_cons_self ..)
    unfold cntK at *
    rw [List.filter_cons, List.filter_cons, List.filter_cons]
    rcases hs with e | e | e <;> rw [e] <;> simp <;> omega
theorem valley {t : Topo} (hU : Uniq t.links) (hK : ∀ x ∈ t.links, x.a < x.b ∧ 1 ≤ x.ai ∧ 1 ≤ x.bi) {k : Sdb} (D : DbL t k) {p : Path} (hs : simplePath t p = true) (hp : ∀ x ∈ p, PartOf k x) (hia : ∀ s ∈ pathSteps p, 0 ≤ s.ia) : Valley t (pathSteps p) := by
 obtain ⟨hw, hnd⟩ := simple_nd hs
 have hK' : ∀ x ∈ t.links, 1 ≤ x.ai ∧ 1 ≤ x.bi := fun x hx => (hK x hx).2
 have S := steps_sorted hK' hw fun x hx j hj => part_rank hU hK D (hp x hx) hj
 have T := steps_wf hK' hw
 generalize pathSteps p = l at *
 have hpos := T.pos; refine ⟨fun s hs => ?_, ?_, fun m s s' hm hm' hlt => ?_⟩
 ·obtain ⟨m, hlt, e⟩ := List.mem_iff_getElem.1 hs
  have hm : l[m]? = some s := by rw [List.getElem?_eq_getElem hlt, e]
  have hing := T.ing m s hm; have heg := T.eg m s hm
  have tr : transit (ifKind t s.ia s.ing) (ifKind t s.ia s.eg) = true := by
   have heK : m + 1 = l.length ∧ ifKind t s.ia s.eg = 5 ∨ m + 1 < l.length ∧ (ifKind t s.ia s.eg = 3 ∧ stepRk t s = 1 ∨ ifKind t s.ia s.eg = 1 ∧ stepRk t s = 2 ∨ ifKind t s.ia s.eg = 2 ∧ stepRk t s = 3) := by
    rcases Nat.lt_or_ge (m + 1) l.length with q | q
    ·exact .inr ⟨q, rk_kind (S.1 m s hm q).1⟩
    ·have : m + 1 = l.length := by omega
     exact .inl ⟨this, by rw [heg.2 this]; exact kind_zero _ _⟩
   rcases Nat.eq_zero_or_pos m with h0 | h0
   ·rw [hing.2 h0, kind_zero]
    rcases heK with ⟨_, e⟩ | ⟨_, ⟨e, _⟩ | ⟨e, _⟩ | ⟨e, _⟩⟩ <;> rw [e] <;> rfl
   ·obtain ⟨r, hr⟩ : ∃ r, l[m - 1]? = some r := getx (by omega); have hn := T.next (m - 1) r s hr (by rw [show m - 1 + 1 = m by omega]; exact hm)
    have hi0 : s.ing ≠ 0 := fun z => by have := hing.1 z; omega
    have he0 : r.eg ≠ 0 := fun z => by have := (T.eg (m - 1) r hr).1 z; omega
    have hf := kind_sym hU (fun x hx => (hK x hx).1) hn (hia s hs) he0 hi0; have hr1 := rk_kind (S.1 (m - 1) r hr (by omega)).1; rw [hf]
    rcases heK with ⟨_, e⟩ | ⟨hl, hc⟩
    ·rw [e]
     rcases hr1 with ⟨e1, _⟩ | ⟨e1, _⟩ | ⟨e1, _⟩ <;> rw [e1] <;> rfl
    ·have ho := S.2 (m - 1) r s hr (by rw [show m - 1 + 1 = m by omega]; exact hm) (by omega); have e0 : stepRk t r = rkK (ifKind t r.ia r.eg) := rfl
     rcases hr1 with ⟨e1, r1⟩ | ⟨e1, r1⟩ | ⟨e1, r1⟩ <;> rcases hc with ⟨e2, r2⟩ | ⟨e2, r2⟩ | ⟨e2, r2⟩ <;> first | (exfalso; omega) | (rw [e1, e2]; rfl)
  unfold stepOkE
  rw [tr, Bool.true_and, Bool.or_eq_true, decide_eq_true_eq, decide_eq_true_eq]
  by_cases h0 : s.ing = 0
  ·exact .inr h0
  ·refine .inl fun eq => ?_
   obtain ⟨l1, l2, el⟩ := List.append_of_mem hs; rw [el] at hnd
   unfold nums at hnd
   rw [List.flatMap_append, List.flatMap_cons, List.nodup_append] at hnd; have h2 := (List.nodup_append.1 hnd.2.1).1
   unfold stepNums at h2
   rw [if_neg h0, if_neg (by rw [← eq]; exact h0), eq] at h2
   simp at h2
 ·obtain ⟨l', x, e⟩ : ∃ l' x, l = l' ++ [x] := by
   rcases List.eq_nil_or_concat l with h1 | ⟨l', x, h1⟩
   ·rw [h1] at hpos; simp at hpos
   ·exact ⟨l', x, by rw [← List.concat_eq_append]; exact h1⟩
  subst e
  have hx : (l' ++ [x])[l'.length]? = some x := by rw [List.getElem?_append_right (Nat.le_refl _), Nat.sub_self]; rfl
  have hx0 : x.eg = 0 := (T.eg _ x hx).2 (by simp)
  have hc := cnt_all (t := t) l' fun s hs => by
   obtain ⟨m, hlt, e⟩ := List.mem_iff_getElem.1 hs
   have hm : (l' ++ [x])[m]? = some s := by rw [List.getElem?_append_left hlt, List.getElem?_eq_getElem hlt, e]
   rcases rk_kind (S.1 m s hm (by simp; omega)).1 with ⟨e, _⟩ | ⟨e, _⟩ | ⟨e, _⟩
   ·exact .inl e
   ·exact .inr (.inl e)
   ·exact .inr (.inr e)
  unfold cntK at *
  rw [List.filter_append, List.filter_append, List.filter_append]
  simp only [List.length_append, List.length_singleton, List.filter_cons, hx0, kind_zero]
  simp
  omega
 ·have ho := S.2 m s s' hm hm' hlt; have h1 := rk_kind (S.1 m s hm (by omega)).1; have h2 := rk_kind (S.1 (m + 1) s' hm' (by omega)).1; have e1 : stepRk t s = rkK (ifKind t s.ia s.eg) := rfl; have e2 : stepRk t s' = rkK (ifKind t s'.ia s'.eg) := rfl; refine ⟨fun z => ?_, fun z => ?_⟩
  ·omega
  ·omega
def wfHop (t : Topo) (l : List Hop) (k : Nat) : Bool := match l[k]? with
  | none => true
  | some x => (validHop x && isAS t x.ia && !((l.take k).map Hop.ia).contains x.ia && !(decide (x.eg = 0) && decide ((k : Int) < (l.length : Int) - 1))) && (if k = 0 then true else match l[k - 1]? with
    | none => true
    | some y => decide ((remote t y.ia y.eg).1 = x.ia) && decide ((remote t y.ia y.eg).2 = x.ing))
def firstIng (l : List Hop) : Bool := match l[0]? with
  | none => true
  | some x => decide (x.ing = 0)
/-- What WellFormed answers. -/
def wfSeg (t : Topo) (s : Seg) : Bool := inR s.hops.length 1 8 && firstIng s.hops && (List.range s.hops.length).all (wfHop t s.hops)
theorem wfSeg_S {t : Topo} {s : Seg} (h : wfSeg t s = true) : WfS t s := by
  unfold wfSeg at h
  simp only [Bool.and_eq_true, List.all_eq_true, List.mem_range] at h
  obtain ⟨⟨h1, h2⟩, h3⟩ := h; have hl := inR_iff.1 h1
  have at_ : ∀ (k : Nat) x, s.hops[k]? = some x → (((validHop x = true ∧ isAS t x.ia = true) ∧ x.ia ∉ (s.hops.take k).map Hop.ia) ∧ (x.eg = 0 → ¬ ((k : Int) < (s.hops.length : Int) - 1))) ∧ (∀ y, 0 < k → s.hops[k - 1]? = some y → (remote t y.ia y.eg).1 = x.ia ∧ (remote t y.ia y.eg).2 = x.ing) := by
    intro k x hx; have hk := (List.getElem?_eq_some_iff.1 hx).1; have := h3 k hk
    unfold wfHop at this
    rw [hx] at this
    simp only [Bool.and_eq_true, Bool.not_eq_true', ← Bool.not_eq_true, List.contains_iff_mem] at this
    obtain ⟨⟨⟨a1, a2⟩, a3⟩, a4⟩ := this; refine ⟨⟨⟨a1, a2⟩, fun e hc => by simp [e] at a3; omega⟩, fun y hk0 hy => ?_⟩; rw [if_neg (by omega), hy] at a4
    simpa using a4
  refine ⟨by omega, fun x hx => ?_, ?_, fun x hx => ?_, fun i x y hx hy => ?_⟩
  · obtain ⟨k, hk, e⟩ := List.mem_iff_getElem.1 hx
    exact (at_ k x (by rw [List.getElem?_eq_getElem hk, e])).1.1.1
  · rw [List.Nodup, List.pairwise_iff_getElem]
    intro i j hi hj hij e; rw [List.length_map] at hi hj; have := (at_ j _ (List.getElem?_eq_getElem hj)).1.1.2; refine this ?_; rw [List.getElem_map, List.getElem_map] at e; rw [← e]; exact List.mem_map.2 ⟨_, List.mem_take_iff_getElem.2 ⟨i, by omega, rfl⟩, rfl⟩
  · unfold firstIng at h2
    rw [hx] at h2
    simpa using h2
  · have hlt := (List.getElem?_eq_some_iff.1 hy).1
    obtain ⟨e1, e2⟩ := (at_ (i + 1) y hy).2 x (by omega) (by rw [Nat.add_sub_cancel]; exact hx); exact ⟨fun z => (at_ i x hx).1.2 z (by omega), Prod.ext e1 e2⟩
/-- The one kind of the links of hops, from kind c on; -1: there are two. -/
def kindF (t : Topo) : List Hop → Int → Int
  | [], c => c
  | x :: l, c => if x.eg = 0 then kindF t l c else if c ≠ 0 ∧ ifKind t x.ia x.eg ≠ c then -1 else kindF t l (ifKind t x.ia x.eg)
theorem kindF_all {t : Topo} {r : Int} (hr : r = 1 ∨ r = 2) : ∀ (l : List Hop) (c : Int), (∀ x ∈ l, x.eg ≠ 0 → ifKind t x.ia x.eg = 0 → False) → kindF t l c = r → (c = 0 ∨ c = r) ∧ ∀ x ∈ l, x.eg ≠ 0 → ifKind t x.ia x.eg = r
  | [], c, _, h => ⟨.inr h, fun x hx => by simp at hx⟩
  | x :: l, c, h0, h => by
    unfold kindF at h
    have h0' : ∀ x ∈ l, x.eg ≠ 0 → ifKind t x.ia x.eg = 0 → False := fun y hy => h0 y (List.mem_cons_of_mem _ hy)
    split at h
    · rename_i he
      obtain ⟨a1, a2⟩ := kindF_all hr l c h0' h; refine ⟨a1, fun y hy hy0 => ?_⟩
      rcases List.mem_cons.1 hy with rfl | hy
      · exact absurd he hy0
      · exact a2 y hy hy0
    · rename_i he
      split at h
      · omega
      · rename_i hc
        obtain ⟨a1, a2⟩ := kindF_all hr l _ h0' h
        have hk : ifKind t x.ia x.eg = r := by
          rcases a1 with a1 | a1
          · exact absurd a1 (fun z => h0 x (List.mem_cons_self ..) he z)
          · exact a1
        refine ⟨by omega, fun y hy hy0 => ?_⟩
        rcases List.mem_cons.1 hy with rfl | hy
        · exact hk
        · exact a2 y hy hy0
/-- What SegmentKind answers. -/
def segKind (t : Topo) (s : Seg) : Int := if wfSeg t s = true ∧ coreAt t (firstS s) = true then (if kindF t s.hops 0 = 1 then 1 else if kindF t s.hops 0 = 2 then 2 else 0) else 0
/-- What FirstInvalidHop answers. -/
def badHop (t : Topo) (s : Seg) : Int := idxI ((List.range s.hops.length).findIdx? fun i : Nat => match s.hops[i]? with
  | none => false
  | some x => !verifyHop t s.ts (segBeta s i) x)
def validSeg (t : Topo) (s : Seg) : Bool := wfSeg t s && decide (badHop t s < 0) && decide (segKind t s ≠ 0) && inR s.ts 0 1000000 && inR s.beta 0 2147483646
def termS (s : Seg) : Bool := match s.hops[s.hops.length - 1]? with
  | none => false
  | some x => decide (x.eg = 0)
def addSeg (t : Topo) (k : Sdb) (s : Seg) : Sdb := if validSeg t s = true ∧ termS s = true ∧ ¬ s ∈ k.down ∧ ¬ s ∈ k.core then (if segKind t s = 2 then ⟨k.down ++ [s], k.core⟩ else ⟨k.down, k.core ++ [s]⟩) else k
theorem kind_ne {t : Topo} (hk : ∀ x ∈ t.links, 1 ≤ x.kind ∧ x.kind ≤ 3) {r d q e : Int} (h : remote t r d = (q, e)) (hq : 0 ≤ q) (hd : d ≠ 0) : ifKind t r d ≠ 0 := by
  obtain ⟨i, x, h1, h2, h3, h4, h5⟩ := link_of h hq; have := hk x h3
  unfold ifKind
  rw [if_neg hd, h1, Option.bind_some, h2]; dsimp only
  by_cases c1 : x.kind = 1
  · rw [if_pos c1]; omega
  · rw [if_neg c1]
    by_cases c3 : x.kind = 3
    · rw [if_pos c3]; omega
    · rw [if_neg c3, if_pos (by omega)]
      split <;> omega
/-- AddSegment keeps a book good. -/
theorem addSeg_L {t : Topo} (hk : ∀ x ∈ t.links, 1 ≤ x.kind ∧ x.kind ≤ 3) {k : Sdb} (D : DbL t k) {s : Seg} (K : SegK t s) : DbL t (addSeg t k s) := by
 unfold addSeg
 split
 ·rename_i hc
  obtain ⟨hv, ht, _, _⟩ := hc
  unfold validSeg at hv
  simp only [Bool.and_eq_true, decide_eq_true_eq] at hv
  obtain ⟨⟨⟨⟨v1, _⟩, v3⟩, _⟩, _⟩ := hv; have W := wfSeg_S v1
  have eg0 : ∀ (i : Nat) x y, s.hops[i]? = some x → s.hops[i + 1]? = some y → x.eg ≠ 0 ∧ ifKind t x.ia x.eg ≠ 0 := fun i x y hx hy => by
   obtain ⟨l1, l2⟩ := W.link i x y hx hy; have hy0 : 0 ≤ y.ia := (inR_iff.1 (W.ok y (List.mem_of_getElem? hy)).2).1; exact ⟨l1, kind_ne hk l2 hy0 l1⟩
  have nz : ∀ x ∈ s.hops, x.eg ≠ 0 → ifKind t x.ia x.eg = 0 → False := fun x hx he hz => by
   obtain ⟨i, hi, e⟩ := List.mem_iff_getElem.1 hx
   have hx' : s.hops[i]? = some x := by rw [List.getElem?_eq_getElem hi, e]
   rcases Nat.lt_or_ge (i + 1) s.hops.length with q | q
   ·obtain ⟨y, hy⟩ : ∃ y, s.hops[i + 1]? = some y := getx q; exact (eg0 i x y hx' hy).2 hz
   ·unfold termS at ht
    rw [show s.hops.length - 1 = i by omega, hx'] at ht; exact he (by simpa using ht)
  have kinds : ∀ r, (r = 1 ∨ r = 2) → kindF t s.hops 0 = r → ∀ (i : Nat) x y, s.hops[i]? = some x → s.hops[i + 1]? = some y → ifKind t x.ia x.eg = r := fun r hr h i x y hx hy => (kindF_all hr s.hops 0 nz h).2 x (List.mem_of_getElem? hx) (eg0 i x y hx hy).1
  unfold segKind at v3 ⊢
  split at v3
  ·rename_i hw
   rw [if_pos hw]
   by_cases k1 : kindF t s.hops 0 = 1
   ·rw [if_pos k1, if_neg (by omega)]; refine ⟨⟨D.db.down, fun x hx => ?_⟩, D.down, fun x hx => ?_⟩
    ·rcases List.mem_append.1 hx with hx | hx
     ·exact D.db.core x hx
     ·rw [List.mem_singleton] at hx; rw [hx]; exact ⟨K, W⟩
    ·rcases List.mem_append.1 hx with hx | hx
     ·exact D.core x hx
     ·rw [List.mem_singleton] at hx; rw [hx]; exact kinds 1 (.inl rfl) k1
   ·rw [if_neg k1] at v3 ⊢
    by_cases k2 : kindF t s.hops 0 = 2
    ·rw [if_pos k2, if_pos rfl]; refine ⟨⟨fun x hx => ?_, D.db.core⟩, fun x hx => ?_, D.core⟩
     ·rcases List.mem_append.1 hx with hx | hx
      ·exact D.db.down x hx
      ·rw [List.mem_singleton] at hx; rw [hx]; exact ⟨K, W⟩
     ·rcases List.mem_append.1 hx with hx | hx
      ·exact D.down x hx
      ·rw [List.mem_singleton] at hx; rw [hx]; exact kinds 2 (.inr rfl) k2
    ·rw [if_neg k2] at v3; exact absurd rfl v3
  ·exact absurd rfl v3
 ·exact D
theorem DbL.nil (t : Topo) : DbL t ⟨[], []⟩ := ⟨⟨fun s h => by simp at h, fun s h => by simp at h⟩, fun s h => by simp at h, fun s h => by simp at h⟩
theorem eqF_step {P : Program} {d : Nat} {f : Field} {fs : List Field} {xs ys : Array Value} {a b : Int} (hn : f.name ≠ "_") (ht : P.underlying f.type = some (.int .i64)) (ha : ∀ w, (part f.type xs f.offset).run P w = .ok (I a) w) (hb : ∀ w, (part f.type ys f.offset).run P w = .ok (I b) w) (w : World) : (Op.eqFields (d + 1) xs ys (f :: fs)).run P w = if a = b then (Op.eqFields (d + 1) xs ys fs).run P w else .ok false w := by
  simp only [Op.eqFields, if_pos hn, Sem.run_bind, ha, hb, Result.andThen_ok, run_equalIn_int (w := w) _ _ _ _ _ _ ht, Sem.run_ite]
  by_cases h : a = b <;> simp [h]
theorem flds_hop : (Tryz.prog.fieldsOf 87).toList = [(Tryz.prog.fieldsOf 87).getD 0 default, (Tryz.prog.fieldsOf 87).getD 1 default, (Tryz.prog.fieldsOf 87).getD 2 default, (Tryz.prog.fieldsOf 87).getD 3 default, (Tryz.prog.fieldsOf 87).getD 4 default] := by kernel_rfl
theorem run_eq_hop (x y : Hop) (w : World) : (Op.equal 87 (.agg #[I x.ia, I x.ing, I x.eg, I x.exp, I x.mac]) (.agg #[I y.ia, I y.ing, I y.eg, I y.exp, I y.mac])).run Tryz.prog w = .ok (decide (x = y)) w := by
  unfold Op.equal
  obtain ⟨d, hd⟩ : ∃ d, Op.maxDepth = (d + 1) + 1 := ⟨9998, rfl⟩; rw [hd, run_equalIn_struct w (d + 1) 87 _ _ (by kernel_rfl) (by kernel_rfl), flds_hop]; rw [eqF_step (a := x.ia) (b := y.ia) (of_decide_eq_true (by kernel_rfl)) (by kernel_rfl) (fun w => by kernel_rfl) (fun w => by kernel_rfl)]; rw [eqF_step (a := x.ing) (b := y.ing) (of_decide_eq_true (by kernel_rfl)) (by kernel_rfl) (fun w => by kernel_rfl) (fun w => by kernel_rfl)]; rw [eqF_step (a := x.eg) (b := y.eg) (of_decide_eq_true (by kernel_rfl)) (by kernel_rfl) (fun w => by kernel_rfl) (fun w => by kernel_rfl)]; rw [eqF_step (a := x.exp) (b := y.exp) (of_decide_eq_true (by kernel_rfl)) (by kernel_rfl) (fun w => by kernel_rfl) (fun w => by kernel_rfl)]; rw [eqF_step (a := x.mac) (b := y.mac) (of_decide_eq_true (by kernel_rfl)) (by kernel_rfl) (fun w => by kernel_rfl) (fun w => by kernel_rfl)]; obtain ⟨x0, x1, x2, x3, x4⟩ := x; obtain ⟨y0, y1, y2, y3, y4⟩ := y
  by_cases h0 : x0 = y0 <;> by_cases h1 : x1 = y1 <;> by_cases h2 : x2 = y2 <;> by_cases h3 : x3 = y3 <;> by_cases h4 : x4 = y4 <;> simp [h0, h1, h2, h3, h4, Op.eqFields]
section
variable {P : Program} {n : Nat} {ops : Array Oper} {Q : Exit → Act → World → Prop} {L : Frm} {w w0 : World} {m : Md} {r : IT} {d : Nat} {ty : TypeId} {pos : String} {af : Array Edge}
theorem t_neqv {x y : Operand} {t t' : TypeId} {a b : Array Value} {p : Prop} {dp : Decidable p} (hg : P.eqGuardType P.depth t = false) (he : ∀ w, (Op.equal t (.agg a) (.agg b)).run P w = .ok (decide p) w) (hx : ev L x = some (.agg a)) (hy : ev L y = some (.agg b)) (k : WT P n ops Q r ((d, .bool (decide (¬ p))) :: L) w) (hn : Nat.blt d n = true) : WT P n ops Q (.st m ⟨some d, .binOp .neq t x y t', ty, pos, af, none⟩ r) L w :=
  t_read (fun e ha _ _ _ w' _ => by
    have h := he w'
    simp [execOp, ha.ev hx, ha.ev hy, eqGuard, binOp, h, hg]) k hn
end
theorem eq_step {α : Type} {a b : List α} {k : Nat} {x y : α} (h : a.take k = b.take k) (ha : a[k]? = some x) (hb : b[k]? = some y) (e : x = y) : a.take (k + 1) = b.take (k + 1) := by
  subst e; rw [take_succ ha, take_succ hb, h]
theorem eq_not {α : Type} {a b : List α} {k : Nat} {x y : α} (ha : a[k]? = some x) (hb : b[k]? = some y) (e : ¬ x = y) : ¬ a = b := by
  rintro rfl; rw [ha] at hb; exact e (Option.some.inj hb)
theorem eq_end {α : Type} {a b : List α} {k : Nat} (h : a.take k = b.take k) (hk : a.length ≤ k) (hl : a.length = b.length) : a = b := by
  rw [List.take_of_length_le hk, List.take_of_length_le (by omega)] at h; exact h
section
variable {P : Program} {n : Nat} {ops : Array Oper} {Q : Exit → Act → World → Prop} {L : Frm} {w : World} {m : Md} {r : IT} {d : Nat} {ty : TypeId} {pos : String} {af : Array Edge}
end
theorem impl_eqHops (a b : List Hop) (v u : Value) (w : World) (h : SlR hopT w v a) (h2 : SlR hopT w u b) (hz : a.length ≤ 4611686018427387904) (hz2 : b.length ≤ 4611686018427387904) : Calls Tryz.prog 162 #[v, u] w fun e w' => e = .returned (.bool (decide (a = b))) ∧ Below w.heap.size w w' := by
 have X0 := Below.refl w.heap.size w; refine enter Tryz.func162 rfl Tryz.ntmps162 rfl ?_; refine w_h ?_; have S := Sep.nil w; have B := Below.refl w.heap.size w; have Hb := Nat.le_refl w.heap.size; refine t_a rfl ?_ rfl; refine t_e ?_; (iterate 2 refine w_s ?_); refine w_g ?_; refine t_m rfl ?_ rfl; refine t_len e_hop ‹_› rfl rfl ?_ rfl; refine t_m rfl ?_ rfl; refine t_len e_hop ‹_› rfl rfl ?_ rfl; refine t_neq rfl rfl ?_ rfl; refine t_e ?_; refine w_if rfl ?_ ?_
 ·intro hl; refine w_h ?_; refine t_a rfl ?_ rfl; refine t_e ?_; refine w_r ?_; refine x_t ?_; refine x_ret1 rfl rfl ?_; exact ⟨ret_bool (decide_eq_false (fun e => hl (by rw [e]))).symm, ext_trans X0 B⟩
 ·intro hl; refine w_k ?_; refine x_s ?_; (iterate 2 refine w_s ?_); refine w_g ?_; refine t_m rfl ?_ rfl; refine t_len e_hop ‹_› rfl rfl ?_ rfl; refine t_m rfl ?_ rfl; refine t_e ?_; refine w_block ?_; refine w_loop (X := Nat) (fun k wq => k ≤ a.length ∧ a.take k = b.take k ∧ Below w.heap.size w wq ∧ Sep w.heap.size wq []) (fun k => [(13, I ((k : Int))), (0, v), (1, u), (12, I ((a.length : Int)))]) (fun k => a.length - k) (0) ?_ ⟨rfl, rfl, rfl, rfl, trivial⟩ ?_
  ·exact ⟨by omega, rfl, B, S⟩
  rintro k w1 hI; (try dsimp only at hI ⊢); obtain ⟨hk, hab, B, S⟩ := hI; refine w_h ?_; refine t_lss rfl rfl ?_ rfl; refine t_e ?_; refine w_s ?_; refine w_if rfl ?_ ?_
  ·intro hlt; refine w_k ?_; refine x_s ?_; refine w_s ?_; refine w_block ?_; refine w_h ?_; refine t_m rfl ?_ rfl; refine t_a rfl ?_ rfl; refine t_e ?_; refine w_s ?_; refine w_draw (.st .take 0 (.st .take 1 (.st .take 2 (.st .take 3 (.st .take 4 (.st .take 5 (.st .take 6 (.st .take 7 (.st .take 8 .done))))))))) mixed (by kernel_rfl) ?_; intro w2 x3; have B := bx Hb B x3; have S := S.below x3; (iterate 2 refine t_m rfl ?_ rfl); obtain ⟨e18, he18⟩ : ∃ e, (a)[k]? = some e := getx (by omega); refine t_idx e_hop (k := k) ‹_› he18 B rfl rfl (by first | rfl | omega) ?_ rfl; intro p18 hp18; refine t_lda ‹_› ab_hop sb_hop B rfl ?_ rfl; intro v19 hv19; obtain rfl := hop_va hv19; (iterate 2 refine t_m rfl ?_ rfl); obtain ⟨e22, he22⟩ : ∃ e, (b)[k]? = some e := getx (by omega); refine t_idx e_hop (k := k) ‹_› he22 B rfl rfl (by first | rfl | omega) ?_ rfl; intro p22 hp22; refine t_lda ‹_› ab_hop sb_hop B rfl ?_ rfl; intro v23 hv23; obtain rfl := hop_va hv23; refine t_neqv (by kernel_rfl) (fun w => run_eq_hop e18 e22 w) rfl rfl ?_ rfl; refine t_e' ?_; refine w_if rfl ?_ ?_
   ·intro hne; refine w_h ?_; refine t_a rfl ?_ rfl; refine t_e ?_; refine w_r ?_; refine x_block_ret ?_; (iterate 2 refine x_t ?_); refine x_block_ret ?_; refine x_t ?_; refine x_ret1 rfl rfl ?_; exact ⟨ret_bool (decide_eq_false (eq_not he18 he22 hne)).symm, ext_trans X0 B⟩
   ·intro hne; refine w_k ?_; refine x_b ?_; refine x_s ?_; refine w_g ?_; refine t_add rfl rfl (by omega) ?_ rfl; refine t_m rfl ?_ rfl; refine t_d ?_; refine x_r (X := Nat) (k + 1) ?_ (by exact ⟨rfl, rfl, rfl, rfl, trivial⟩) (by (try dsimp only); omega); (try dsimp only); exact ⟨by omega, eq_step hab he18 he22 (Classical.not_not.1 hne), B, S⟩
  ·intro hge; refine w_exit ?_; (iterate 2 refine x_then_exit ?_); refine x_block_exit ?_; refine x_s ?_; refine w_h ?_; refine t_a rfl ?_ rfl; refine t_e ?_; refine w_r ?_; refine x_ret1 rfl rfl ?_; exact ⟨ret_bool (decide_eq_true (eq_end hab (by omega) (by omega))).symm, ext_trans X0 B⟩
theorem spec_eqHops (a b : List Hop) (v u : Value) (w : World) (h : SlR hopT w v a) (h2 : SlR hopT w u b) (hz : a.length ≤ 4611686018427387904) (hz2 : b.length ≤ 4611686018427387904) : Calls Tryz.prog 163 #[v, u] w fun e w' => e = .returned (.bool (decide (a = b))) ∧ Below w.heap.size w w' := by
 have X0 := Below.refl w.heap.size w; refine enter Tryz.func163 rfl Tryz.ntmps163 rfl ?_; refine w_h ?_; have S := Sep.nil w; have B := Below.refl w.heap.size w; have Hb := Nat.le_refl w.heap.size; refine t_a rfl ?_ rfl; refine t_e ?_; (iterate 2 refine w_s ?_); refine w_g ?_; refine t_m rfl ?_ rfl; refine t_len e_hop ‹_› rfl rfl ?_ rfl; refine t_m rfl ?_ rfl; refine t_len e_hop ‹_› rfl rfl ?_ rfl; refine t_neq rfl rfl ?_ rfl; refine t_e ?_; refine w_if rfl ?_ ?_
 ·intro hl; refine w_h ?_; refine t_a rfl ?_ rfl; refine t_e ?_; refine w_r ?_; refine x_t ?_; refine x_ret1 rfl rfl ?_; exact ⟨ret_bool (decide_eq_false (fun e => hl (by rw [e]))).symm, ext_trans X0 B⟩
 ·intro hl; refine w_k ?_; refine x_s ?_; (iterate 2 refine w_s ?_); refine w_g ?_; refine t_a rfl ?_ rfl; refine t_e ?_; refine w_block ?_; refine w_loop (X := Nat) (fun k wq => k ≤ a.length ∧ a.take k = b.take k ∧ Below w.heap.size w wq ∧ Sep w.heap.size wq []) (fun k => [(5, I ((k : Int))), (0, v), (1, u)]) (fun k => a.length - k) (0) ?_ ⟨rfl, rfl, rfl, trivial⟩ ?_
  ·exact ⟨by omega, rfl, B, S⟩
  rintro k w4 hI; (try dsimp only at hI ⊢); obtain ⟨hk, hab, B, S⟩ := hI; (iterate 2 refine w_s ?_); refine w_g ?_; (iterate 2 refine t_m rfl ?_ rfl); refine t_len e_hop ‹_› rfl rfl ?_ rfl; refine t_lss rfl rfl ?_ rfl; refine t_e ?_; refine w_if rfl ?_ ?_
  ·intro hlt; refine w_k ?_; refine x_s ?_; refine w_s ?_; refine w_block ?_; refine w_s ?_; refine w_draw (.st .take 0 (.st .take 1 (.st .take 2 (.st .take 3 (.st .take 4 (.st .take 5 (.st .take 6 (.st .take 7 (.st .take 8 .done))))))))) mixed (by kernel_rfl) ?_; intro w5 x6; have B := bx Hb B x6; have S := S.below x6; (iterate 2 refine t_m rfl ?_ rfl); obtain ⟨e19, he19⟩ : ∃ e, (a)[k]? = some e := getx (by omega); refine t_idx e_hop (k := k) ‹_› he19 B rfl rfl (by first | rfl | omega) ?_ rfl; intro p19 hp19; refine t_lda ‹_› ab_hop sb_hop B rfl ?_ rfl; intro v20 hv20; obtain rfl := hop_va hv20; (iterate 2 refine t_m rfl ?_ rfl); obtain ⟨e23, he23⟩ : ∃ e, (b)[k]? = some e := getx (by omega); refine t_idx e_hop (k := k) ‹_› he23 B rfl rfl (by first | rfl | omega) ?_ rfl; intro p23 hp23; refine t_lda ‹_› ab_hop sb_hop B rfl ?_ rfl; intro v24 hv24; obtain rfl := hop_va hv24; refine t_neqv (by kernel_rfl) (fun w => run_eq_hop e19 e23 w) rfl rfl ?_ rfl; refine t_e' ?_; refine w_if rfl ?_ ?_
   ·intro hne; refine w_h ?_; refine t_a rfl ?_ rfl; refine t_e ?_; refine w_r ?_; refine x_block_ret ?_; (iterate 2 refine x_t ?_); refine x_block_ret ?_; refine x_t ?_; refine x_ret1 rfl rfl ?_; exact ⟨ret_bool (decide_eq_false (eq_not he19 he23 hne)).symm, ext_trans X0 B⟩
   ·intro hne; refine w_k ?_; refine x_b ?_; refine x_s ?_; refine w_g ?_; refine t_m rfl ?_ rfl; refine t_add rfl rfl (by omega) ?_ rfl; refine t_a rfl ?_ rfl; refine t_d ?_; refine x_r (X := Nat) (k + 1) ?_ (by exact ⟨rfl, rfl, rfl, trivial⟩) (by (try dsimp only); omega); (try dsimp only); exact ⟨by omega, eq_step hab he19 he23 (Classical.not_not.1 hne), B, S⟩
  ·intro hge; refine w_exit ?_; (iterate 2 refine x_then_exit ?_); refine x_block_exit ?_; refine x_s ?_; refine w_h ?_; refine t_a rfl ?_ rfl; refine t_e ?_; refine w_r ?_; refine x_ret1 rfl rfl ?_; exact ⟨ret_bool (decide_eq_true (eq_end hab (by omega) (by omega))).symm, ext_trans X0 B⟩
theorem impl_isCore (t : Topo) (v : Value) (r : Int) (w : World) (h : VA topoT w v t) (hz : sz_topo t ≤ 1048576) : Calls Tryz.prog 95 #[v, I r] w fun e w' => e = .returned (.bool (isAS t r && coreAt t r)) ∧ Below w.heap.size w w' := by
 have X0 := Below.refl w.heap.size w; refine enter Tryz.func95 rfl Tryz.ntmps95 rfl ?_; refine w_h ?_; refine t_boxr ‹_› rfl ?_ rfl rfl; intro p2 w1 x2 hp2; replace h := h.below x2; have X0 := ext_trans X0 x2; have S := Sep.nil w1; have B := Below.refl w1.heap.size w1; have Hb := Nat.le_refl w1.heap.size; refine t_a rfl ?_ rfl; refine t_k ?_; refine t_lda ‹_› ab_topo sb_topo B rfl ?_ rfl; intro v5 hv5; obtain ⟨v5_0, v5_1, rfl, hv5_0, hv5_1⟩ := topo_va hv5; refine t_m rfl ?_ rfl; refine t_x Tryz.call90 rfl (impl_isAS _ _ _ _ (by first | assumption | exact VA.below ‹_› B | exact topo_mkv (by first | assumption | exact SlR.below ‹_› B) (by first | assumption | exact SlR.below ‹_› B)) (by omega)) ?_ rfl rfl; intro w3 x4; have B := bx Hb B x4; have S := S.below x4; refine t_m rfl ?_ rfl; refine t_part (t := 8) rfl ?_ ?_
 ·intro h1; have hr := inR_iff.1 h1; obtain ⟨x, hx⟩ : ∃ e, t.ases[r.toNat]? = some e := getx (by omega); refine t_on rfl rfl ?_; refine t_fld ln_topo_0 ‹_› fb_topo_0 rfl ?_ rfl; intro p9 hp9; refine t_on rfl rfl ?_; refine t_lds ‹_› ab_s_asn B rfl ?_ rfl; intro v10 hv10; refine t_on rfl rfl ?_; refine t_m rfl ?_ rfl; refine t_on rfl rfl ?_; refine t_idx e_asn (k := r.toNat) ‹_› hx B rfl rfl (by first | rfl | omega) ?_ rfl; intro p12 hp12; refine t_on rfl rfl ?_; refine t_fld ln_asn_1 ‹_› fb_asn_1 rfl ?_ rfl; intro p13 hp13; refine t_on rfl rfl ?_; refine t_ldb ‹_› ab_bool B rfl ?_ rfl; refine t_q rfl rfl ?_ rfl; refine t_a rfl ?_ rfl; refine t_e ?_; refine w_r ?_; refine x_ret1 rfl rfl ?_; exact ⟨ret_bool (by rw [h1, Bool.true_and]; unfold coreAt; rw [hx]), ext_trans X0 B⟩
 ·intro h1; (iterate 6 refine t_off rfl rfl rfl ?_ rfl); refine t_p rfl rfl ?_ rfl; refine t_a rfl ?_ rfl; refine t_e ?_; refine w_r ?_; refine x_ret1 rfl rfl ?_; exact ⟨ret_bool (by rw [h1]; rfl), ext_trans X0 B⟩
theorem spec_IsTerminated (s : Seg) (v : Value) (w : World) (h : VA segT w v s) (hz : s.hops.length ≤ 1048576) : Calls Tryz.prog 156 #[v] w fun e w' => e = .returned (.bool (termS s)) ∧ Below w.heap.size w w' := by
 have X0 := Below.refl w.heap.size w; refine enter Tryz.func156 rfl Tryz.ntmps156 rfl ?_; refine w_h ?_; refine t_boxr ‹_› rfl ?_ rfl rfl; intro p1 w5 x6 hp1; replace h := h.below x6; have X0 := ext_trans X0 x6; have S := Sep.nil w5; have B := Below.refl w5.heap.size w5; have Hb := Nat.le_refl w5.heap.size; refine t_a rfl ?_ rfl; refine t_k ?_; refine t_fld ln_seg_2 ‹_› fb_seg_2 rfl ?_ rfl; intro p3 hp3; refine t_lds ‹_› ab_s_hop B rfl ?_ rfl; intro v4 hv4; refine t_len e_hop ‹_› rfl rfl ?_ rfl; refine t_gtr rfl rfl ?_ rfl; refine t_m rfl ?_ rfl; refine t_partp (t := 7) rfl ?_ ?_
 ·intro h1; refine t_on rfl rfl ?_; refine t_fld ln_seg_2 ‹_› fb_seg_2 rfl ?_ rfl; intro p8 hp8; refine t_on rfl rfl ?_; refine t_lds ‹_› ab_s_hop B rfl ?_ rfl; intro v9 hv9; refine t_on rfl rfl ?_; refine t_fld ln_seg_2 ‹_› fb_seg_2 rfl ?_ rfl; intro p10 hp10; refine t_on rfl rfl ?_; refine t_lds ‹_› ab_s_hop B rfl ?_ rfl; intro v11 hv11; refine t_on rfl rfl ?_; refine t_len e_hop ‹_› rfl rfl ?_ rfl; refine t_on rfl rfl ?_; refine t_sub rfl rfl (by omega) ?_ rfl; refine t_on rfl rfl ?_; obtain ⟨e14, he14⟩ : ∃ e, (s.hops)[(s.hops.length - 1)]? = some e := getx (by omega); refine t_idx e_hop (k := (s.hops.length - 1)) ‹_› he14 B rfl rfl (by first | rfl | omega) ?_ rfl; intro p14 hp14; refine t_on rfl rfl ?_; refine t_fld ln_hop_2 ‹_› fb_hop_2 rfl ?_ rfl; intro p15 hp15; refine t_on rfl rfl ?_; refine t_ldi ‹_› ab_int B rfl ?_ rfl; refine t_on rfl rfl ?_; refine t_eql rfl rfl ?_ rfl; refine t_q rfl rfl ?_ rfl; refine t_a rfl ?_ rfl; refine t_e ?_; refine w_r ?_; refine x_ret1 rfl rfl ?_; exact ⟨ret_bool (by unfold termS; rw [he14]), ext_trans X0 B⟩
 ·intro h1; (iterate 10 refine t_off rfl rfl rfl ?_ rfl); refine t_p rfl rfl ?_ rfl; refine t_a rfl ?_ rfl; refine t_e ?_; refine w_r ?_; refine x_ret1 rfl rfl ?_
  exact ⟨ret_bool (by
   have e : s.hops = [] := List.length_eq_zero_iff.1 (by omega)
   unfold termS; rw [e]; rfl), ext_trans X0 B⟩
theorem seg_ext {x y : Seg} (h1 : x.ts = y.ts) (h2 : x.beta = y.beta) (h3 : x.hops = y.hops) : x = y := by
  cases x; cases y; cases h1; cases h2; cases h3; rfl
theorem spec_EqualSegments (x y : Seg) (v u : Value) (w : World) (h : VA segT w v x) (h' : VA segT w u y) (hz : x.hops.length ≤ 1048576) (hz' : y.hops.length ≤ 1048576) : Calls Tryz.prog 190 #[v, u] w fun e w' => e = .returned (.bool (decide (x = y))) ∧ Below w.heap.size w w' := by
 have X0 := Below.refl w.heap.size w; refine enter Tryz.func190 rfl Tryz.ntmps190 rfl ?_; refine w_h ?_; refine t_boxr ‹_› rfl ?_ rfl rfl; intro p2 w7 x8 hp2; replace h := h.below x8; replace h' := h'.below x8; have X0 := ext_trans X0 x8; refine t_boxr ‹_› rfl ?_ rfl rfl; intro p3 w9 x10 hp3; replace h := h.below x10; replace h' := h'.below x10; replace hp2 := hp2.below x10; have X0 := ext_trans X0 x10; have S := Sep.nil w9; have B := Below.refl w9.heap.size w9; have Hb := Nat.le_refl w9.heap.size; refine t_a rfl ?_ rfl; refine t_k ?_; refine t_fld ln_seg_0 ‹_› fb_seg_0 rfl ?_ rfl; intro p5 hp5; refine t_ldi ‹_› ab_int B rfl ?_ rfl; refine t_fld ln_seg_0 ‹_› fb_seg_0 rfl ?_ rfl; intro p7 hp7; refine t_ldi ‹_› ab_int B rfl ?_ rfl; refine t_eql rfl rfl ?_ rfl; refine t_m rfl ?_ rfl; refine t_partp (t := 10) rfl ?_ ?_
 ·intro h1; refine t_on rfl rfl ?_; refine t_fld ln_seg_1 ‹_› fb_seg_1 rfl ?_ rfl; intro p11 hp11; refine t_on rfl rfl ?_; refine t_ldi ‹_› ab_int B rfl ?_ rfl; refine t_on rfl rfl ?_; refine t_fld ln_seg_1 ‹_› fb_seg_1 rfl ?_ rfl; intro p13 hp13; refine t_on rfl rfl ?_; refine t_ldi ‹_› ab_int B rfl ?_ rfl; refine t_on rfl rfl ?_; refine t_eql rfl rfl ?_ rfl; refine t_q rfl rfl ?_ rfl; refine t_m rfl ?_ rfl; refine t_partp (t := 17) rfl ?_ ?_
  ·intro h2; refine t_on rfl rfl ?_; refine t_fld ln_seg_2 ‹_› fb_seg_2 rfl ?_ rfl; intro p18 hp18; refine t_on rfl rfl ?_; refine t_lds ‹_› ab_s_hop B rfl ?_ rfl; intro v19 hv19; refine t_on rfl rfl ?_; refine t_fld ln_seg_2 ‹_› fb_seg_2 rfl ?_ rfl; intro p20 hp20; refine t_on rfl rfl ?_; refine t_lds ‹_› ab_s_hop B rfl ?_ rfl; intro v21 hv21; refine t_on rfl rfl ?_; refine t_x Tryz.call163 rfl (spec_eqHops x.hops y.hops _ _ _ (by first | assumption | exact SlR.below ‹_› B) (by first | assumption | exact SlR.below ‹_› B) (by omega) (by omega)) ?_ rfl rfl; intro w11 x12; have B := bx Hb B x12; have S := S.below x12; refine t_q rfl rfl ?_ rfl; refine t_a rfl ?_ rfl; refine t_e ?_; refine w_r ?_; refine x_ret1 rfl rfl ?_; exact ⟨ret_bool (decide_eq_decide.2 ⟨fun e => congrArg Seg.hops e, fun e => seg_ext h1 h2 e⟩).symm, ext_trans X0 B⟩
  ·intro h2; (iterate 5 refine t_off rfl rfl rfl ?_ rfl); refine t_p rfl rfl ?_ rfl; refine t_a rfl ?_ rfl; refine t_e ?_; refine w_r ?_; refine x_ret1 rfl rfl ?_; exact ⟨ret_bool (decide_eq_false fun e => h2 (congrArg Seg.beta e)).symm, ext_trans X0 B⟩
 ·intro h1; (iterate 5 refine t_off rfl rfl rfl ?_ rfl); refine t_p rfl rfl ?_ rfl; refine t_m rfl ?_ rfl; (iterate 5 refine t_off rfl rfl rfl ?_ rfl); refine t_p rfl rfl ?_ rfl; refine t_a rfl ?_ rfl; refine t_e ?_; refine w_r ?_; refine x_ret1 rfl rfl ?_; exact ⟨ret_bool (decide_eq_false fun e => h1 (congrArg Seg.ts e)).symm, ext_trans X0 B⟩
theorem spec_l16Has (l : List Seg) (s : Seg) (v u : Value) (w : World) (h : SlR segT w v l) (h' : VA segT w u s) (hz : sz_segs l ≤ 1048576) (hz' : s.hops.length ≤ 1048576) : Calls Tryz.prog 179 #[v, u] w fun e w' => e = .returned (.bool (decide (s ∈ l))) ∧ Below w.heap.size w w' := by
 have hl1 : l.length ≤ 1048576 := by unfold sz_segs at hz; omega
 have X0 := Below.refl w.heap.size w; refine enter Tryz.func179 rfl Tryz.ntmps179 rfl ?_; refine w_h ?_; refine t_boxr ‹_› rfl ?_ rfl rfl; intro p3 w13 x14 hp3; replace h := h.below x14; replace h' := h'.below x14; have X0 := ext_trans X0 x14; have S := Sep.nil w13; have B := Below.refl w13.heap.size w13; have Hb := Nat.le_refl w13.heap.size; refine t_a rfl ?_ rfl; refine t_e ?_; (iterate 2 refine w_s ?_); refine w_g ?_; refine t_a rfl ?_ rfl; refine t_e ?_; refine w_block ?_; refine w_loop (X := Nat) (fun k wq => k ≤ l.length ∧ (∀ (j : Nat) y, j < k → l[j]? = some y → y ≠ s) ∧ Below w13.heap.size w13 wq ∧ Sep w13.heap.size wq []) (fun k => [(5, I ((k : Int))), (0, v), (3, p3)]) (fun k => l.length - k) (0) ?_ ⟨rfl, rfl, rfl, trivial⟩ ?_
 ·exact ⟨by omega, fun j y hj => by omega, B, S⟩
 ·rintro k w15 hI; (try dsimp only at hI ⊢); obtain ⟨hk, hp, B, S⟩ := hI; (iterate 2 refine w_s ?_); refine w_g ?_; (iterate 2 refine t_m rfl ?_ rfl); refine t_len e_seg ‹_› rfl rfl ?_ rfl; refine t_lss rfl rfl ?_ rfl; refine t_e ?_; refine w_if rfl ?_ ?_
  ·intro hlt; obtain ⟨x, hx⟩ : ∃ e, l[k]? = some e := getx (by omega); have hxz := sz_segs_mem (List.mem_of_getElem? hx); refine w_k ?_; refine x_s ?_; refine w_s ?_; refine w_block ?_; refine w_s ?_; refine w_draw (.st .take 0 (.st .take 1 (.st .take 2 (.st .take 3 (.st .take 4 (.st .run 5 .done)))))) mixed (by kernel_rfl) ?_; intro w16 x17; have B := bx Hb B x17; have S := S.below x17; (iterate 2 refine t_m rfl ?_ rfl); refine t_idx e_seg (k := k) ‹_› hx B rfl rfl (by first | rfl | omega) ?_ rfl; intro p14 hp14; refine t_lda ‹_› ab_seg sb_seg B rfl ?_ rfl; intro v15 hv15; obtain ⟨v15_2, rfl, hv15_2⟩ := seg_va hv15; refine t_lda ‹_› ab_seg sb_seg B rfl ?_ rfl; intro v16 hv16; obtain ⟨v16_2, rfl, hv16_2⟩ := seg_va hv16; refine t_x Tryz.call190 rfl (spec_EqualSegments _ _ _ _ _ (by first | assumption | exact VA.below ‹_› B | exact seg_mkv (by first | assumption | exact SlR.below ‹_› B)) (by first | assumption | exact VA.below ‹_› B | exact seg_mkv (by first | assumption | exact SlR.below ‹_› B)) (by omega) (by omega)) ?_ rfl rfl; intro w18 x19; have B := bx Hb B x19; have S := S.below x19; refine t_e' ?_; refine w_if rfl ?_ ?_
   ·intro he; refine w_h ?_; refine t_a rfl ?_ rfl; refine t_e ?_; refine w_r ?_; refine x_block_ret ?_; (iterate 2 refine x_t ?_); refine x_block_ret ?_; refine x_t ?_; refine x_ret1 rfl rfl ?_; exact ⟨ret_bool (decide_eq_true (by rw [← he]; exact List.mem_of_getElem? hx)).symm, ext_trans X0 B⟩
   ·intro he; refine w_k ?_; refine x_b ?_; refine x_s ?_; refine w_g ?_; refine t_m rfl ?_ rfl; refine t_add rfl rfl (by omega) ?_ rfl; refine t_a rfl ?_ rfl; refine t_d ?_; refine x_r (X := Nat) (k + 1) ?_ (by exact ⟨rfl, rfl, rfl, trivial⟩) (by (try dsimp only); omega); (try dsimp only); refine ⟨by omega, fun j y hj hy => ?_, B, S⟩
    rcases Nat.lt_or_ge j k with q | q
    ·exact hp j y q hy
    ·have : j = k := by omega
     subst this; rw [hx] at hy; cases hy; exact he
  ·intro hge; refine w_exit ?_; (iterate 2 refine x_then_exit ?_); refine x_block_exit ?_; refine x_s ?_; refine w_h ?_; refine t_a rfl ?_ rfl; refine t_e ?_; refine w_r ?_; refine x_ret1 rfl rfl ?_; refine ⟨ret_bool (decide_eq_false fun hm => ?_).symm, ext_trans X0 B⟩; obtain ⟨j, hj, e⟩ := List.mem_iff_getElem.1 hm; exact hp j s (by omega) (by rw [List.getElem?_eq_getElem hj, e]) rfl
theorem spec_HasSegment (q : Sdb) (s : Seg) (v u : Value) (w : World) (h : VA sdbT w v q) (h' : VA segT w u s) (hz : sz_sdb q ≤ 1048576) (hz' : s.hops.length ≤ 1048576) : Calls Tryz.prog 157 #[v, u] w fun e w' => e = .returned (.bool (decide (s ∈ q.down ∨ s ∈ q.core))) ∧ Below w.heap.size w w' := by
 have hz1 : sz_segs q.down ≤ 1048576 := by unfold sz_sdb at hz; omega
 have hz2 : sz_segs q.core ≤ 1048576 := by unfold sz_sdb at hz; omega
 have X0 := Below.refl w.heap.size w; refine enter Tryz.func157 rfl Tryz.ntmps157 rfl ?_; refine w_h ?_; refine t_boxr ‹_› rfl ?_ rfl rfl; intro p2 w20 x21 hp2; replace h := h.below x21; replace h' := h'.below x21; have X0 := ext_trans X0 x21; refine t_boxr ‹_› rfl ?_ rfl rfl; intro p3 w22 x23 hp3; replace h := h.below x23; replace h' := h'.below x23; replace hp2 := hp2.below x23; have X0 := ext_trans X0 x23; have S := Sep.nil w22; have B := Below.refl w22.heap.size w22; have Hb := Nat.le_refl w22.heap.size; refine t_a rfl ?_ rfl; refine t_k ?_; refine t_fld ln_sdb_0 ‹_› fb_sdb_0 rfl ?_ rfl; intro p5 hp5; refine t_lds ‹_› ab_s_seg B rfl ?_ rfl; intro v6 hv6; refine t_lda ‹_› ab_seg sb_seg B rfl ?_ rfl; intro v7 hv7; obtain ⟨v7_2, rfl, hv7_2⟩ := seg_va hv7; refine t_x Tryz.call179 rfl (spec_l16Has _ _ _ _ _ (by first | assumption | exact SlR.below ‹_› B) (by first | assumption | exact VA.below ‹_› B | exact seg_mkv (by first | assumption | exact SlR.below ‹_› B)) (by omega) (by omega)) ?_ rfl rfl; intro w24 x25; have B := bx Hb B x25; have S := S.below x25; refine t_m rfl ?_ rfl; refine t_partp (t := 9) rfl ?_ ?_
 ·intro h1; (iterate 4 refine t_off rfl rfl rfl ?_ rfl); refine t_q rfl rfl ?_ rfl; refine t_a rfl ?_ rfl; refine t_e ?_; refine w_r ?_; refine x_ret1 rfl rfl ?_; exact ⟨ret_bool (decide_eq_true (.inl h1)).symm, ext_trans X0 B⟩
 ·intro h1; refine t_on rfl rfl ?_; refine t_fld ln_sdb_1 ‹_› fb_sdb_1 rfl ?_ rfl; intro p10 hp10; refine t_on rfl rfl ?_; refine t_lds ‹_› ab_s_seg B rfl ?_ rfl; intro v11 hv11; refine t_on rfl rfl ?_; refine t_lda ‹_› ab_seg sb_seg B rfl ?_ rfl; intro v12 hv12; obtain ⟨v12_2, rfl, hv12_2⟩ := seg_va hv12; refine t_on rfl rfl ?_; refine t_x Tryz.call179 rfl (spec_l16Has _ _ _ _ _ (by first | assumption | exact SlR.below ‹_› B) (by first | assumption | exact VA.below ‹_› B | exact seg_mkv (by first | assumption | exact SlR.below ‹_› B)) (by omega) (by omega)) ?_ rfl rfl; intro w26 x27; have B := bx Hb B x27; have S := S.below x27; refine t_p rfl rfl ?_ rfl; refine t_a rfl ?_ rfl; refine t_e ?_; refine w_r ?_; refine x_ret1 rfl rfl ?_; exact ⟨ret_bool (decide_eq_decide.2 ⟨.inr, fun z => z.resolve_left h1⟩), ext_trans X0 B⟩
theorem spec_l16All (l : List Seg) (v : Value) (w : World) (h : SlR segT w v l) (hz : sz_segs l ≤ 1048576) : Calls Tryz.prog 154 #[v] w fun e w' => ∃ v fp, e = .returned v ∧ SlO segT 67 w.heap.size w' v l fp ∧ Below w.heap.size w w' := by
 have hl1 : l.length ≤ 1048576 := by unfold sz_segs at hz; omega
 have X0 := Below.refl w.heap.size w; refine enter Tryz.func154 rfl Tryz.ntmps154 rfl ?_; refine w_h ?_; have S := Sep.nil w; have B := Below.refl w.heap.size w; have Hb := Nat.le_refl w.heap.size; refine t_a rfl ?_ rfl; refine t_k ?_; refine t_lit0 (T := segT) S bs_seg0 rfl ?_ rfl rfl; intro A6 w28 x29 S; have B := bx Hb B x29; refine t_a rfl ?_ rfl; refine t_e ?_; (iterate 2 refine w_s ?_); refine w_g ?_; refine t_a rfl ?_ rfl; refine t_e ?_; refine w_block ?_; refine w_loop (X := Nat × Value) (fun x wq => (fun k u => k ≤ l.length ∧ Below w.heap.size w wq ∧ Sep w.heap.size wq [slO segT 67 u (l.take k)]) x.1 x.2) (fun x => (fun k u => [(4, I ((k : Int))), (3, u), (0, v), (2, .slice none 0 0)]) x.1 x.2) (fun x => (fun k u => l.length - k) x.1 x.2) (0, _) ?_ ⟨rfl, rfl, rfl, rfl, trivial⟩ ?_
 ·exact ⟨by omega, B, S⟩
 ·rintro ⟨k, u⟩ w30 hI; (try dsimp only at hI ⊢); obtain ⟨hk, B, S⟩ := hI
  have htl : (l.take k).length = k := by rw [List.length_take]; omega
  (iterate 2 refine w_s ?_); refine w_g ?_; (iterate 2 refine t_m rfl ?_ rfl); refine t_len e_seg ‹_› rfl rfl ?_ rfl; refine t_lss rfl rfl ?_ rfl; refine t_e ?_; refine w_if rfl ?_ ?_
  ·intro hlt; obtain ⟨x, hx⟩ : ∃ e, l[k]? = some e := getx (by omega); have hxz := sz_segs_mem (List.mem_of_getElem? hx); refine w_k ?_; refine x_s ?_; refine w_s ?_; refine w_block ?_; refine w_h ?_; (iterate 2 refine t_m rfl ?_ rfl); refine t_idx e_seg (k := k) ‹_› hx B rfl rfl (by first | rfl | omega) ?_ rfl; intro p15 hp15; refine t_lda ‹_› ab_seg sb_seg B rfl ?_ rfl; intro v16 hv16; obtain ⟨v16_2, rfl, hv16_2⟩ := seg_va hv16; refine t_c Tryz.call146 rfl (spec_l9Copy _ _ _ (by first | assumption | exact VA.below ‹_› B | exact seg_mkv (by first | assumption | exact SlR.below ‹_› B)) (by omega)) ?_ rfl rfl; rintro e w31 ⟨cs17, fp17, rfl, hO17, x32⟩; refine ⟨_, rfl, x32, ?_⟩; have S := S.add (o := tyO segT _ _) x32 hO17; have B := bx Hb B x32; obtain ⟨u17_2, rfl, S2⟩ := S.segOpen; have S := S2; refine t_w S z_seg rfl ?_ rfl rfl; intro g5 w33 x34 S; have B := bx Hb B x34; refine t_stn S sb_seg rfl rfl rfl rfl (by repeat first | exact oc0 | refine oc rfl ?_ | refine oc (SlR.cells (S.tail.sl)).2 ?_) ?_; intro w35 b36 S; have B := B.trans b36; refine t_e ?_; refine w_g ?_; refine t_m rfl ?_ rfl; refine t_b S.box ab_seg sb_seg rfl rfl ?_ rfl
   refine t_lit1 (fun w => bs_seg1 _ _ _ w) rfl ?_ rfl rfl; intro A20 w37 x38 hA20; have B := bx Hb B x38; have S := S.below x38; have S := S.f1; have S := S.segShut (x := x); have S := S.f2; refine t_snoc e_seg S hA20 rfl rfl rfl (by first | omega | (simp; done) | (simp; omega)) (by (simp only [maxLen]); first | omega | (simp; done) | (simp; omega)) ?_ rfl; intro v21 w39 x40 S; have B := B.trans x40; refine t_a rfl ?_ rfl; refine t_d ?_; refine x_b ?_; refine x_s ?_; refine w_g ?_; refine t_m rfl ?_ rfl; refine t_add rfl rfl (by omega) ?_ rfl; refine t_a rfl ?_ rfl; refine t_d ?_; have S := S.f1.tail; refine x_r (X := Nat × Value) (k + 1, v21) ?_ (by exact ⟨rfl, rfl, rfl, rfl, trivial⟩) (by (try dsimp only); omega); (try dsimp only); refine ⟨by omega, B, ?_⟩; rw [take_succ hx]; exact S
  ·intro hge; refine w_exit ?_; (iterate 2 refine x_then_exit ?_); refine x_block_exit ?_; refine x_s ?_; refine w_h ?_; refine t_m rfl ?_ rfl; refine t_a rfl ?_ rfl; refine t_e ?_; refine w_r ?_; refine x_ret1 rfl rfl ?_; obtain ⟨fp, hO⟩ := (S.mono X0.size).head; rw [List.take_of_length_le (by omega)] at hO; exact ⟨_, fp, rfl, hO, ext_trans X0 B⟩
def badAt (t : Topo) (s : Seg) (i : Nat) : Bool := match s.hops[i]? with
  | none => false
  | some x => !verifyHop t s.ts (segBeta s i) x
theorem badHop_yes {t : Topo} {s : Seg} {k : Nat} (hk : k < s.hops.length) (hp : ∀ j, j < k → badAt t s j = false) (e : badAt t s k = true) : badHop t s = k := by
  have : (List.range s.hops.length).findIdx? (badAt t s) = some k := by
    rw [List.findIdx?_eq_some_iff_getElem]; refine ⟨by rw [List.length_range]; exact hk, by rw [List.getElem_range]; exact e, fun j hj => ?_⟩; rw [List.getElem_range, hp j hj]; simp
  show idxI ((List.range s.hops.length).findIdx? (badAt t s)) = _
  rw [this]; rfl
theorem badHop_no {t : Topo} {s : Seg} (hp : ∀ j, j < s.hops.length → badAt t s j = false) : badHop t s = -1 := by
  have : (List.range s.hops.length).findIdx? (badAt t s) = none := by
    rw [List.findIdx?_eq_none_iff]
    exact fun x hx => hp x (List.mem_range.1 hx)
  show idxI ((List.range s.hops.length).findIdx? (badAt t s)) = _
  rw [this]; rfl
theorem bad_succ {t : Topo} {s : Seg} {k : Nat} (hp : ∀ j, j < k → badAt t s j = false) (e : badAt t s k = false) : ∀ j, j < k + 1 → badAt t s j = false := by
  intro j hj
  rcases Nat.lt_or_ge j k with q | q
  · exact hp j q
  · rw [show j = k by omega]; exact e
theorem badAt_eq {t : Topo} {s : Seg} {k : Nat} {x : Hop} (h : s.hops[k]? = some x) : badAt t s k = !verifyHop t s.ts (segBeta s k) x := by unfold badAt; rw [h]
theorem spec_FirstInvalidHop (t : Topo) (s : Seg) (v u : Value) (w : World) (h : VA topoT w v t) (h' : VA segT w u s) (hz : sz_topo t ≤ 1048576) (hz' : s.hops.length ≤ 1048576) : Calls Tryz.prog 177 #[v, u] w fun e w' => e = .returned (I (badHop t s)) ∧ Below w.heap.size w w' := by
 have X0 := Below.refl w.heap.size w; refine enter Tryz.func177 rfl Tryz.ntmps177 rfl ?_; refine w_h ?_; refine t_boxr ‹_› rfl ?_ rfl rfl; intro p2 w1 x2 hp2; replace h := h.below x2; replace h' := h'.below x2; have X0 := ext_trans X0 x2; refine t_boxr ‹_› rfl ?_ rfl rfl; intro p3 w3 x4 hp3; replace h := h.below x4; replace h' := h'.below x4; replace hp2 := hp2.below x4; have X0 := ext_trans X0 x4; have S := Sep.nil w3; have B := Below.refl w3.heap.size w3; have Hb := Nat.le_refl w3.heap.size; refine t_a rfl ?_ rfl; refine t_e ?_; (iterate 2 refine w_s ?_); refine w_g ?_; refine t_a rfl ?_ rfl; refine t_e ?_; refine w_block ?_; refine w_loop (X := Nat) (fun k wq => k ≤ s.hops.length ∧ (∀ j, j < k → badAt t s j = false) ∧ Below w3.heap.size w3 wq ∧ Sep w3.heap.size wq []) (fun k => [(5, I ((k : Int))), (2, p2), (3, p3)]) (fun k => s.hops.length - k) (0) ?_ ⟨rfl, rfl, rfl, trivial⟩ ?_
 ·exact ⟨by omega, fun j hj => by omega, B, S⟩
 ·rintro k w5 hI; (try dsimp only at hI ⊢); obtain ⟨hk, hp, B, S⟩ := hI; (iterate 2 refine w_s ?_); refine w_g ?_; refine t_m rfl ?_ rfl; refine t_fld ln_seg_2 ‹_› fb_seg_2 rfl ?_ rfl; intro p7 hp7; refine t_lds ‹_› ab_s_hop B rfl ?_ rfl; intro v8 hv8; refine t_len e_hop ‹_› rfl rfl ?_ rfl; refine t_lss rfl rfl ?_ rfl; refine t_e ?_; refine w_if rfl ?_ ?_
  ·intro hlt; obtain ⟨x, hx⟩ : ∃ e, s.hops[k]? = some e := getx (by omega); refine w_k ?_; refine x_s ?_; refine w_s ?_; refine w_block ?_; refine w_s ?_; refine w_draw (.st .take 0 (.st .take 1 (.st .take 2 (.st .take 3 (.st .take 4 (.st .take 6 (.st .take 7 (.st .take 8 (.st .take 9 (.st .take 10 (.st .run 5 (.st .run 11 (.st .take 12 .done))))))))))))) mixed (by kernel_rfl) ?_; intro w6 x7; have B := bx Hb B x7; have S := S.below x7; refine t_lda ‹_› ab_topo sb_topo B rfl ?_ rfl; intro v13 hv13; obtain ⟨v13_0, v13_1, rfl, hv13_0, hv13_1⟩ := topo_va hv13; refine t_fld ln_seg_0 ‹_› fb_seg_0 rfl ?_ rfl; intro p14 hp14; refine t_ldi ‹_› ab_int B rfl ?_ rfl; refine t_lda ‹_› ab_seg sb_seg B rfl ?_ rfl; intro v16 hv16; obtain ⟨v16_2, rfl, hv16_2⟩ := seg_va hv16; refine t_m rfl ?_ rfl; refine t_fld ln_seg_2 ‹_› fb_seg_2 rfl ?_ rfl; intro p19 hp19; refine t_lds ‹_› ab_s_hop B rfl ?_ rfl; intro v20 hv20; refine t_m rfl ?_ rfl; refine t_idx e_hop (k := k) ‹_› hx B rfl rfl (by first | rfl | omega) ?_ rfl; intro p22 hp22; refine t_lda ‹_› ab_hop sb_hop B rfl ?_ rfl; intro v23 hv23; obtain rfl := hop_va hv23
   refine t_x Tryz.call143 rfl (spec_BetaAt _ _ _ _ (by first | assumption | exact VA.below ‹_› B | exact seg_mkv (by first | assumption | exact SlR.below ‹_› B)) (by omega)) ?_ rfl rfl; intro w8 x9; have B := bx Hb B x9; have S := S.below x9; refine t_x Tryz.call182 rfl (spec_VerifyHop _ _ _ _ _ _ (by first | assumption | exact VA.below ‹_› B | exact topo_mkv (by first | assumption | exact SlR.below ‹_› B) (by first | assumption | exact SlR.below ‹_› B)) (by omega)) ?_ rfl rfl; intro w10 x11; have B := bx Hb B x11; have S := S.below x11; refine t_notb rfl ?_ rfl; refine t_e' ?_; refine w_ifb rfl ?_ ?_
   ·intro he; refine w_h ?_; refine t_m rfl ?_ rfl; refine t_a rfl ?_ rfl; refine t_e ?_; refine w_r ?_; refine x_block_ret ?_; (iterate 2 refine x_t ?_); refine x_block_ret ?_; refine x_t ?_; refine x_ret1 rfl rfl ?_; exact ⟨ret_int (badHop_yes (by omega) hp (by rw [badAt_eq hx]; simpa using he)).symm, ext_trans X0 B⟩
   ·intro he; refine w_k ?_; refine x_b ?_; refine x_s ?_; refine w_g ?_; refine t_m rfl ?_ rfl; refine t_add rfl rfl (by omega) ?_ rfl; refine t_a rfl ?_ rfl; refine t_d ?_; refine x_r (X := Nat) (k + 1) ?_ (by exact ⟨rfl, rfl, rfl, trivial⟩) (by (try dsimp only); omega); (try dsimp only); exact ⟨by omega, bad_succ hp (by rw [badAt_eq hx]; simpa using he), B, S⟩
  ·intro hge; refine w_exit ?_; (iterate 2 refine x_then_exit ?_); refine x_block_exit ?_; refine x_s ?_; refine w_h ?_; refine t_a rfl ?_ rfl; refine t_e ?_; refine w_r ?_; refine x_ret1 rfl rfl ?_; exact ⟨ret_int (badHop_no fun j hj => hp j (by omega)).symm, ext_trans X0 B⟩
section
variable {P : Program} {n : Nat} {ops : Array Oper} {Q : Exit → Act → World → Prop} {L : Frm} {w w0 : World} {m : Md} {r : IT} {d : Nat} {ty : TypeId} {pos : String} {af : Array Edge} {b : Nat} {os : List Ow}
theorem t_allocx {t : TypeId} {C : Array Value} {z : Value} (S : Sep b w os) (hz : (P.info? t).map (·.zero) = some (some z)) (hC : z.cells = C) (k : ∀ g w', w.heap.size ≤ g → Ext w w' → Sep b w' (bxO g t C :: os) → WT P n ops Q r ((d, .pointer (some ⟨g, 0, none⟩)) :: L) w') (hm : m.isTake = false) (hn : Nat.blt d n = true) : WT P n ops Q (.st m ⟨some d, .alloc t, ty, pos, af, none⟩ r) L w := by
  have he := ext_new w (.cells C t); refine t_make (v := .pointer (some ⟨w.heap.size, 0, none⟩)) he (fun a ha _ _ _ => ?_) (k _ _ (Nat.le_refl _) he (S.add (fp := [w.heap.size]) he ⟨rfl, Nat.le_refl _, heap_alloc_new w _⟩)) hm hn; cases hi : P.info? t with
  | none => rw [hi] at hz; cases hz
  | some inf =>
    rw [hi] at hz
    simp at hz
    simp [execOp, Instr.alloc, zeroValue, typeInfo, hi, hz, newVar, newRow, newObj, program, Sem.run, hC]
theorem t_stx {t tb : TypeId} {g sz : Nat} {C V : Array Value} {po xo : Operand} (S : Sep b w (bxO g tb C :: os)) (hs : sizeB P t = some sz) (hp : ev L po = some (.pointer (some ⟨g, 0, none⟩))) (hx : ev L xo = some (.agg V)) (hsz : V.size = sz) (hV : V.size = C.size) (hu : ∀ u ∈ V.toList, u.oneCell' = true) (x : Ext w0 w) (hge : w0.heap.size ≤ g)
    (k : ∀ w', Below b w w' → Sep b w' (bxO g tb V :: os) → Ext w0 w' → WT P n ops Q r L w') : WT P n ops Q (.st .fin ⟨none, .store t po xo, ty, pos, af, none⟩ r) L w := by
  subst hsz; have hb := S.box; obtain ⟨w', C', k1, k2, k3, k4, k5⟩ := run_storeCells (P := P) V.toList 0 w C hb (by simp [hV]) hu
  have hC : C' = V := by
    apply Array.ext_getElem?
    intro j; rw [k5 j]
    by_cases hj : j < V.size
    · rw [if_pos (by simpa using hj)]; simp
    · rw [if_neg (by simpa using hj), Array.getElem?_eq_none (by omega), Array.getElem?_eq_none (by omega)]
  subst hC; obtain ⟨fp, _, hg, _⟩ := S.head; refine t_store (w' := w') (fun a ha _ _ _ => ?_) (k _ (k4.below (by simpa using hg) S.base) (S.turn (fp' := fun _ _ => True) fun f hf => ?_) (x.trans (k4.below (by simpa using hge) x.size)))
  · simp [execOp, ha.ev hp, ha.ev hx, Instr.storeAt, Instr.sureAddr, storeVar, Value.cells, run_sizeOf hs, k1]
  · obtain ⟨h1, h2, h3⟩ := hf
    subst h1; exact ⟨[g], ⟨rfl, h2, k2⟩, fun x hx => .inl hx, k4⟩
end
theorem wfHop_no {t : Topo} {l : List Hop} {k : Nat} {x : Hop} (h : l[k]? = some x) (e : (validHop x && isAS t x.ia && !((l.map Hop.ia).take k).contains x.ia && !(decide (x.eg = 0) && decide ((k : Int) < (l.length : Int) - 1))) = false) : wfHop t l k = false := by
  unfold wfHop; rw [h, List.map_take]; dsimp only; rw [e]; rfl
theorem wfHop_0 {t : Topo} {l : List Hop} {k : Nat} {x : Hop} (h : l[k]? = some x) (e : (validHop x && isAS t x.ia && !((l.map Hop.ia).take k).contains x.ia && !(decide (x.eg = 0) && decide ((k : Int) < (l.length : Int) - 1))) = true) (hk : k = 0) : wfHop t l k = true := by
  unfold wfHop; rw [h, List.map_take]; dsimp only; rw [e, if_pos hk]; rfl
theorem wfHop_1 {t : Topo} {l : List Hop} {k : Nat} {x y : Hop} (h : l[k]? = some x) (e : (validHop x && isAS t x.ia && !((l.map Hop.ia).take k).contains x.ia && !(decide (x.eg = 0) && decide ((k : Int) < (l.length : Int) - 1))) = true) (hk : 0 < k) (hy : l[k - 1]? = some y) : wfHop t l k = (decide ((remote t y.ia y.eg).1 = x.ia) && decide ((remote t y.ia y.eg).2 = x.ing)) := by
  unfold wfHop; rw [h, List.map_take]; dsimp only; rw [e, if_neg (by omega), hy]; rfl
theorem spec_WellFormed (t : Topo) (s : Seg) (v u : Value) (w : World) (h : VA topoT w v t) (h' : VA segT w u s) (hz : sz_topo t ≤ 1048576) (hz' : s.hops.length ≤ 1048576) : Calls Tryz.prog 176 #[v, u] w fun e w' => e = .returned (.bool (wfSeg t s)) ∧ Below w.heap.size w w' := by
 have hml : (s.hops.map Hop.ia).length = s.hops.length := List.length_map ..; have X0 := Below.refl w.heap.size w; refine enter Tryz.func176 rfl Tryz.ntmps176 rfl ?_; refine w_h ?_; refine t_boxr ‹_› rfl ?_ rfl rfl; intro p2 w1 x2 hp2; replace h := h.below x2; replace h' := h'.below x2; have X0 := ext_trans X0 x2; refine t_boxr ‹_› rfl ?_ rfl rfl; intro p3 w3 x4 hp3; replace h := h.below x4; replace h' := h'.below x4; replace hp2 := hp2.below x4; have X0 := ext_trans X0 x4; have S := Sep.nil w3; have B := Below.refl w3.heap.size w3; have Hb := Nat.le_refl w3.heap.size; refine t_a rfl ?_ rfl; refine t_e ?_; (iterate 2 refine w_s ?_); refine w_g ?_; refine t_fld ln_seg_2 ‹_› fb_seg_2 rfl ?_ rfl; intro p10 hp10; refine t_lds ‹_› ab_s_hop B rfl ?_ rfl; intro v11 hv11; refine t_len e_hop ‹_› rfl rfl ?_ rfl; refine t_calls Tryz.call144 rfl (spec_l1In _ _ _ _) ?_ rfl rfl; refine t_notb rfl ?_ rfl; refine t_m rfl ?_ rfl; refine t_part (t := 15) rfl ?_ ?_
 ·intro h1; (iterate 6 refine t_off rfl rfl rfl ?_ rfl); refine t_q rfl rfl ?_ rfl; refine t_e ?_; refine w_yes rfl ?_; refine w_h ?_; refine t_a rfl ?_ rfl; refine t_e ?_; refine w_r ?_; refine x_t ?_; refine x_ret1 rfl rfl ?_; exact ⟨ret_bool (by simp at h1; simp [wfSeg, h1]), ext_trans X0 B⟩
 intro h1
 have h1' : inR s.hops.length 1 8 = true := by simpa using h1
 have hl1 := inR_iff.1 h1'; obtain ⟨x0, hx0⟩ : ∃ e, s.hops[0]? = some e := getx (by omega); refine t_on rfl rfl ?_; refine t_fld ln_seg_2 ‹_› fb_seg_2 rfl ?_ rfl; intro p16 hp16; refine t_on rfl rfl ?_; refine t_lds ‹_› ab_s_hop B rfl ?_ rfl; intro v17 hv17; refine t_on rfl rfl ?_; refine t_idx e_hop (k := 0) ‹_› hx0 B rfl rfl (by first | rfl | omega) ?_ rfl; intro p18 hp18; refine t_on rfl rfl ?_; refine t_fld ln_hop_1 ‹_› fb_hop_1 rfl ?_ rfl; intro p19 hp19; refine t_on rfl rfl ?_; refine t_ldi ‹_› ab_int B rfl ?_ rfl; refine t_on rfl rfl ?_; refine t_neq rfl rfl ?_ rfl; refine t_p rfl rfl ?_ rfl; refine t_e ?_; refine w_if rfl ?_ ?_
 ·intro h2; refine w_h ?_; refine t_a rfl ?_ rfl; refine t_e ?_; refine w_r ?_; refine x_t ?_; refine x_ret1 rfl rfl ?_; exact ⟨ret_bool (by unfold wfSeg firstIng; rw [hx0]; simp [h2]), ext_trans X0 B⟩
 intro h2; refine w_k ?_; refine x_s ?_; refine w_h ?_; refine t_lda ‹_› ab_seg sb_seg B rfl ?_ rfl; intro v23 hv23; obtain ⟨v23_2, rfl, hv23_2⟩ := seg_va hv23; refine t_c Tryz.call141 rfl (spec_SegmentASes _ _ _ (by first | assumption | exact VA.below ‹_› B | exact seg_mkv (by first | assumption | exact SlR.below ‹_› B)) (by omega)) ?_ rfl rfl; rintro e w5 ⟨v24, fpv24, rfl, hOv24, x6⟩; refine ⟨_, rfl, x6, ?_⟩; have S := S.add (o := slO _ _ _ _) x6 hOv24; have B := bx Hb B x6; refine t_a rfl ?_ rfl; refine t_e ?_; (iterate 2 refine w_s ?_); refine w_g ?_; refine t_a rfl ?_ rfl; refine t_e ?_; refine w_block ?_; refine w_loop (X := Nat) (fun k wq => k ≤ s.hops.length ∧ (∀ j, j < k → wfHop t s.hops j = true) ∧ Below w3.heap.size w3 wq ∧ Sep w3.heap.size wq [slO intT 3 v24 (s.hops.map Hop.ia)]) (fun k => [(6, I ((k : Int))), (2, p2), (3, p3), (5, v24)]) (fun k => s.hops.length - k) (0) ?_ ⟨rfl, rfl, rfl, rfl, trivial⟩ ?_
 ·exact ⟨by omega, by omega, B, S⟩
 ·rintro k w7 hI; (try dsimp only at hI ⊢); obtain ⟨hk, ha, B, S⟩ := hI; (iterate 2 refine w_s ?_); refine w_g ?_; refine t_m rfl ?_ rfl; refine t_fld ln_seg_2 ‹_› fb_seg_2 rfl ?_ rfl; intro p26 hp26; refine t_lds ‹_› ab_s_hop B rfl ?_ rfl; intro v27 hv27; refine t_len e_hop ‹_› rfl rfl ?_ rfl; refine t_lss rfl rfl ?_ rfl; refine t_e ?_; refine w_if rfl ?_ ?_
  ·intro hlt
   have hlt' : k < s.hops.length := by omega
   obtain ⟨x, hx⟩ : ∃ e, s.hops[k]? = some e := getx (by omega)
   have htl : ((s.hops.map Hop.ia).take k).length ≤ 16777216 := by rw [List.length_take, hml]; omega
   refine w_k ?_; refine x_s ?_; refine w_s ?_; refine w_block ?_; refine w_h ?_; refine t_fld ln_seg_2 ‹_› fb_seg_2 rfl ?_ rfl; intro p32 hp32; refine t_lds ‹_› ab_s_hop B rfl ?_ rfl; intro v33 hv33; refine t_m rfl ?_ rfl; refine t_idx e_hop (k := k) ‹_› hx B rfl rfl (by first | rfl | omega) ?_ rfl; intro p35 hp35; refine t_lda ‹_› ab_hop sb_hop B rfl ?_ rfl; intro v36 hv36; obtain rfl := hop_va hv36; refine t_allocx S z_hop rfl ?_ rfl rfl; intro g7 w8 ge7 x9 S; have B := bx Hb B x9; refine t_stx S sb_hop rfl rfl rfl rfl (by repeat first | exact oc0 | refine oc rfl ?_) x9 ge7 ?_; intro w10 b11 S cb11; have B := B.trans b11; refine t_e ?_; (iterate 2 refine w_s ?_); refine w_draw (.st .take 0 (.st .run 1 (.st .take 2 (.st .take 3 (.st .take 4 (.st .take 5 (.st .take 6 (.st .run 7 (.st .take 8 (.st .take 9 (.st .take 10 (.st .take 11 (.st .take 12 (.st .take 13 (.st .take 14 (.st .take 15 (.st .run 16 (.st .take 17 (.st .take 18 (.st .take 19 (.st .take 20 (.st .take 21 (.st .take 22 (.st .take 23 (.st .take 24 (.st .take 25 (.st .take 26 (.st .take 27 (.st .take 28 (.st .take 29 (.st .take 30 .done))))))))))))))))))))))))))))))) mixed (by kernel_rfl) ?_; intro w12 x13
   have B := bx Hb B x13; have S := S.below x13; refine t_b S.box ab_hop sb_hop rfl rfl ?_ rfl; refine t_x Tryz.call189 rfl (spec_ValidHop x _) ?_ rfl rfl; intro w14 x15; have B := bx Hb B x15; have S := S.below x15; refine t_notb rfl ?_ rfl; refine t_m rfl ?_ rfl; refine t_part (t := 40) rfl ?_ ?_
   ·intro h5; (iterate 5 refine t_off rfl rfl rfl ?_ rfl); refine t_q rfl rfl ?_ rfl; refine t_m rfl ?_ rfl; (iterate 6 refine t_off rfl rfl rfl ?_ rfl); refine t_q rfl rfl ?_ rfl; refine t_m rfl ?_ rfl; (iterate 4 refine t_off rfl rfl rfl ?_ rfl); (iterate 6 refine t_offu rfl rfl ?_ rfl); refine t_off rfl rfl rfl ?_ rfl; refine t_q rfl rfl ?_ rfl; refine t_e' ?_; refine w_yes rfl ?_; refine w_h ?_; refine t_a rfl ?_ rfl; refine t_e ?_; refine w_r ?_; refine x_t ?_; refine x_block_ret ?_; (iterate 2 refine x_t ?_); refine x_block_ret ?_; refine x_t ?_; refine x_ret1 rfl rfl ?_; exact ⟨ret_bool (by unfold wfSeg; rw [all_no hlt' (wfHop_no hx (by simp at h5; simp [h5]))]; simp), ext_trans X0 B⟩
   intro h5; refine t_on rfl rfl ?_; refine t_lda ‹_› ab_topo sb_topo B rfl ?_ rfl; intro v41 hv41; obtain ⟨v41_0, v41_1, rfl, hv41_0, hv41_1⟩ := topo_va hv41; refine t_on rfl rfl ?_; refine t_y fb_hop_0 rfl rfl ?_ rfl; refine t_on rfl rfl ?_; refine t_bx1 S.box ab_int rfl rfl ?_ rfl; refine t_on rfl rfl ?_; refine t_x Tryz.call99 rfl (spec_l5Realm _ _ _ _ (by first | assumption | exact VA.below ‹_› B | exact topo_mkv (by first | assumption | exact SlR.below ‹_› B) (by first | assumption | exact SlR.below ‹_› B)) (by omega)) ?_ rfl rfl; intro w16 x17; have B := bx Hb B x17; have S := S.below x17; refine t_on rfl rfl ?_; refine t_notb rfl ?_ rfl; refine t_p rfl rfl ?_ rfl; refine t_m rfl ?_ rfl; refine t_part (t := 47) rfl ?_ ?_
   ·intro h6; (iterate 6 refine t_off rfl rfl rfl ?_ rfl); refine t_q rfl rfl ?_ rfl; refine t_m rfl ?_ rfl; (iterate 4 refine t_off rfl rfl rfl ?_ rfl); (iterate 6 refine t_offu rfl rfl ?_ rfl); refine t_off rfl rfl rfl ?_ rfl; refine t_q rfl rfl ?_ rfl; refine t_e' ?_; refine w_yes rfl ?_; refine w_h ?_; refine t_a rfl ?_ rfl; refine t_e ?_; refine w_r ?_; refine x_t ?_; refine x_block_ret ?_; (iterate 2 refine x_t ?_); refine x_block_ret ?_; refine x_t ?_; refine x_ret1 rfl rfl ?_; exact ⟨ret_bool (by unfold wfSeg; rw [all_no hlt' (wfHop_no hx (by simp at h6; simp [h6]))]; simp), ext_trans X0 B⟩
   intro h6; refine t_on rfl rfl ?_; refine t_m rfl ?_ rfl; refine t_on rfl rfl ?_; refine t_m rfl ?_ rfl; refine t_on rfl rfl ?_; refine t_slt e_int (k := k) (S.tail.sl) rfl rfl (by first | rfl | omega) (by omega) ?_ rfl; intro v50 hv50; refine t_on rfl rfl ?_; refine t_y fb_hop_0 rfl rfl ?_ rfl; refine t_on rfl rfl ?_; refine t_bx1 S.box ab_int rfl rfl ?_ rfl; refine t_on rfl rfl ?_; refine t_calls Tryz.call82 rfl (spec_l9Has _ _ _ _ (by first | assumption | exact SlR.below ‹_› B) (by (try rw [List.length_take]); (try rw [List.length_map]); omega)) ?_ rfl rfl; refine t_p rfl rfl ?_ rfl; refine t_m rfl ?_ rfl; refine t_part (t := 55) rfl ?_ ?_
   ·intro h7; (iterate 4 refine t_off rfl rfl rfl ?_ rfl); (iterate 6 refine t_offu rfl rfl ?_ rfl); refine t_off rfl rfl rfl ?_ rfl; refine t_q rfl rfl ?_ rfl; refine t_e' ?_; refine w_yes rfl ?_; refine w_h ?_; refine t_a rfl ?_ rfl; refine t_e ?_; refine w_r ?_; refine x_t ?_; refine x_block_ret ?_; (iterate 2 refine x_t ?_); refine x_block_ret ?_; refine x_t ?_; refine x_ret1 rfl rfl ?_; exact ⟨ret_bool (by unfold wfSeg; rw [all_no hlt' (wfHop_no hx (by rw [h7]; simp))]; simp), ext_trans X0 B⟩
   intro h7
   have nxt : ∀ (hc : ¬ (x.eg = 0 ∧ (k : Int) < (s.hops.length : Int) - 1)), (validHop x && isAS t x.ia && !((s.hops.map Hop.ia).take k).contains x.ia && !(decide (x.eg = 0) && decide ((k : Int) < (s.hops.length : Int) - 1))) = true := fun hc => by
    rw [h7]
    simp at h5 h6
    simp only [h5, h6, Bool.not_false, Bool.and_true, Bool.true_and, Bool.not_eq_true', ← Bool.not_eq_true, Bool.and_eq_true, decide_eq_true_eq]
    exact hc
   refine t_on rfl rfl ?_; refine t_y fb_hop_2 rfl rfl ?_ rfl; refine t_on rfl rfl ?_; refine t_bx1 S.box ab_int rfl rfl ?_ rfl; refine t_on rfl rfl ?_; refine t_eql rfl rfl ?_ rfl; refine t_on rfl rfl ?_; refine t_m rfl ?_ rfl; refine t_partp (t := 59) rfl ?_ ?_
   ·intro h8; refine t_on rfl rfl ?_; refine t_m rfl ?_ rfl; refine t_on rfl rfl ?_; refine t_fld ln_seg_2 ‹_› fb_seg_2 rfl ?_ rfl; intro p61 hp61; refine t_on rfl rfl ?_; refine t_lds ‹_› ab_s_hop B rfl ?_ rfl; intro v62 hv62; refine t_on rfl rfl ?_; refine t_len e_hop ‹_› rfl rfl ?_ rfl; refine t_on rfl rfl ?_; refine t_sub rfl rfl (by omega) ?_ rfl; refine t_on rfl rfl ?_; refine t_lss rfl rfl ?_ rfl; refine t_on rfl rfl ?_; refine t_q rfl rfl ?_ rfl; refine t_p rfl rfl ?_ rfl; refine t_e' ?_; refine w_if rfl ?_ ?_
    ·intro h9; refine w_h ?_; refine t_a rfl ?_ rfl; refine t_e ?_; refine w_r ?_; refine x_t ?_; refine x_block_ret ?_; (iterate 2 refine x_t ?_); refine x_block_ret ?_; refine x_t ?_; refine x_ret1 rfl rfl ?_; exact ⟨ret_bool (by unfold wfSeg; rw [all_no hlt' (wfHop_no hx (by simp [h8]; omega))]; simp), ext_trans X0 B⟩
    intro h9; have hall := nxt (fun z => h9 z.2); refine w_k ?_; refine x_s ?_; refine w_h ?_; refine t_m rfl ?_ rfl; refine t_gtr rfl rfl ?_ rfl; refine t_e ?_; refine w_if rfl ?_ ?_
    ·intro h10; obtain ⟨y, hy⟩ : ∃ e, s.hops[k - 1]? = some e := getx (by omega); have hw := wfHop_1 (t := t) hx hall (by omega) hy; refine w_s ?_; refine w_draw (.st .take 0 (.st .take 1 (.st .take 2 (.st .take 3 (.st .take 4 (.st .take 5 (.st .take 6 (.st .take 7 (.st .take 8 (.st .take 9 (.st .take 10 (.st .take 11 (.st .take 12 (.st .take 13 (.st .take 14 (.st .run 15 (.st .take 16 (.st .take 17 (.st .take 18 (.st .take 19 (.st .take 20 .done))))))))))))))))))))) mixed (by kernel_rfl) ?_; intro w18 x19; have B := bx Hb B x19; have S := S.below x19; refine t_lda ‹_› ab_topo sb_topo B rfl ?_ rfl; intro v71 hv71; obtain ⟨v71_0, v71_1, rfl, hv71_0, hv71_1⟩ := topo_va hv71; refine t_fld ln_seg_2 ‹_› fb_seg_2 rfl ?_ rfl; intro p72 hp72; refine t_lds ‹_› ab_s_hop B rfl ?_ rfl; intro v73 hv73; refine t_m rfl ?_ rfl; refine t_sub rfl rfl (by omega) ?_ rfl; refine t_idx e_hop (k := (k - 1)) ‹_› hy B rfl rfl (by first | rfl | omega) ?_ rfl; intro p76 hp76; refine t_fld ln_hop_0 ‹_› fb_hop_0 rfl ?_ rfl; intro p77 hp77; refine t_ldi ‹_› ab_int B rfl ?_ rfl; refine t_fld ln_seg_2 ‹_› fb_seg_2 rfl ?_ rfl; intro p79 hp79; refine t_lds ‹_› ab_s_hop B rfl ?_ rfl; intro v80 hv80
     refine t_m rfl ?_ rfl; refine t_sub rfl rfl (by omega) ?_ rfl; refine t_idx e_hop (k := (k - 1)) ‹_› hy B rfl rfl (by first | rfl | omega) ?_ rfl; intro p83 hp83; refine t_fld ln_hop_2 ‹_› fb_hop_2 rfl ?_ rfl; intro p84 hp84; refine t_ldi ‹_› ab_int B rfl ?_ rfl; refine t_x Tryz.call140 rfl (spec_RemoteEnd _ _ _ _ _ (by first | assumption | exact VA.below ‹_› B | exact topo_mkv (by first | assumption | exact SlR.below ‹_› B) (by first | assumption | exact SlR.below ‹_› B)) (by omega)) ?_ rfl rfl; intro w20 x21; have B := bx Hb B x21; have S := S.below x21; refine t_m rfl ?_ rfl; (iterate 2 refine t_extract rfl rfl ?_ rfl); (iterate 2 refine t_a rfl ?_ rfl); refine t_k' ?_; refine t_m rfl ?_ rfl; refine t_y fb_hop_0 rfl rfl ?_ rfl; refine t_bx1 S.box ab_int rfl rfl ?_ rfl; refine t_neq rfl rfl ?_ rfl; refine t_m rfl ?_ rfl; refine t_partp (t := 93) rfl ?_ ?_
     ·intro h11; (iterate 4 refine t_off rfl rfl rfl ?_ rfl); refine t_q rfl rfl ?_ rfl; refine t_e ?_; refine w_yes rfl ?_; refine w_h ?_; refine t_a rfl ?_ rfl; refine t_e ?_; refine w_r ?_; refine x_block_ret ?_; (iterate 2 refine x_t ?_); refine x_block_ret ?_; refine x_t ?_; refine x_ret1 rfl rfl ?_; exact ⟨ret_bool (by unfold wfSeg; rw [all_no hlt' (by rw [hw]; simp at h11; simp [h11])]; simp), ext_trans X0 B⟩
     intro h11; refine t_on rfl rfl ?_; refine t_m rfl ?_ rfl; refine t_on rfl rfl ?_; refine t_y fb_hop_1 rfl rfl ?_ rfl; refine t_on rfl rfl ?_; refine t_bx1 S.box ab_int rfl rfl ?_ rfl; refine t_on rfl rfl ?_; refine t_neq rfl rfl ?_ rfl; refine t_p rfl rfl ?_ rfl; refine t_e ?_; refine w_if rfl ?_ ?_
     ·intro h12; refine w_h ?_; refine t_a rfl ?_ rfl; refine t_e ?_; refine w_r ?_; refine x_block_ret ?_; (iterate 2 refine x_t ?_); refine x_block_ret ?_; refine x_t ?_; refine x_ret1 rfl rfl ?_; exact ⟨ret_bool (by unfold wfSeg; rw [all_no hlt' (by rw [hw]; simp at h12; simp [h12])]; simp), ext_trans X0 B⟩
     intro h12; refine w_k ?_; refine x_b ?_; refine x_s ?_; refine w_g ?_; refine t_m rfl ?_ rfl; refine t_add rfl rfl (by omega) ?_ rfl; refine t_a rfl ?_ rfl; refine t_d ?_; have S := S.tail; refine x_r (X := Nat) (k + 1) ?_ (by exact ⟨rfl, rfl, rfl, rfl, trivial⟩) (by (try dsimp only); omega); (try dsimp only); exact ⟨by omega, upto_succ ha (by rw [hw]; simp at h11 h12; simp [h11, h12]), B, S⟩
    ·intro h10; refine w_k ?_; refine x_b ?_; refine x_s ?_; refine w_g ?_; refine t_m rfl ?_ rfl; refine t_add rfl rfl (by omega) ?_ rfl; refine t_a rfl ?_ rfl; refine t_d ?_; have S := S.tail; refine x_r (X := Nat) (k + 1) ?_ (by exact ⟨rfl, rfl, rfl, rfl, trivial⟩) (by (try dsimp only); omega); (try dsimp only); exact ⟨by omega, upto_succ ha (wfHop_0 hx hall (by omega)), B, S⟩
   ·intro h8; have hall := nxt (fun z => h8 z.1); (iterate 6 refine t_off rfl rfl rfl ?_ rfl); refine t_on rfl rfl ?_; (iterate 2 refine t_p rfl rfl ?_ rfl); refine t_e' ?_; refine w_no rfl ?_; refine w_k ?_; refine x_s ?_; refine w_h ?_; refine t_m rfl ?_ rfl; refine t_gtr rfl rfl ?_ rfl; refine t_e ?_; refine w_if rfl ?_ ?_
    ·intro h10; obtain ⟨y, hy⟩ : ∃ e, s.hops[k - 1]? = some e := getx (by omega); have hw := wfHop_1 (t := t) hx hall (by omega) hy; refine w_s ?_; refine w_draw (.st .take 0 (.st .take 1 (.st .take 2 (.st .take 3 (.st .take 4 (.st .take 5 (.st .take 6 (.st .take 7 (.st .take 8 (.st .take 9 (.st .take 10 (.st .take 11 (.st .take 12 (.st .take 13 (.st .take 14 (.st .run 15 (.st .take 16 (.st .take 17 (.st .take 18 (.st .take 19 (.st .take 20 .done))))))))))))))))))))) mixed (by kernel_rfl) ?_; intro w22 x23; have B := bx Hb B x23; have S := S.below x23; refine t_lda ‹_› ab_topo sb_topo B rfl ?_ rfl; intro v71 hv71; obtain ⟨v71_0, v71_1, rfl, hv71_0, hv71_1⟩ := topo_va hv71; refine t_fld ln_seg_2 ‹_› fb_seg_2 rfl ?_ rfl; intro p72 hp72; refine t_lds ‹_› ab_s_hop B rfl ?_ rfl; intro v73 hv73; refine t_m rfl ?_ rfl; refine t_sub rfl rfl (by omega) ?_ rfl; refine t_idx e_hop (k := (k - 1)) ‹_› hy B rfl rfl (by first | rfl | omega) ?_ rfl; intro p76 hp76; refine t_fld ln_hop_0 ‹_› fb_hop_0 rfl ?_ rfl; intro p77 hp77; refine t_ldi ‹_› ab_int B rfl ?_ rfl; refine t_fld ln_seg_2 ‹_› fb_seg_2 rfl ?_ rfl; intro p79 hp79; refine t_lds ‹_› ab_s_hop B rfl ?_ rfl; intro v80 hv80
     refine t_m rfl ?_ rfl; refine t_sub rfl rfl (by omega) ?_ rfl; refine t_idx e_hop (k := (k - 1)) ‹_› hy B rfl rfl (by first | rfl | omega) ?_ rfl; intro p83 hp83; refine t_fld ln_hop_2 ‹_› fb_hop_2 rfl ?_ rfl; intro p84 hp84; refine t_ldi ‹_› ab_int B rfl ?_ rfl; refine t_x Tryz.call140 rfl (spec_RemoteEnd _ _ _ _ _ (by first | assumption | exact VA.below ‹_› B | exact topo_mkv (by first | assumption | exact SlR.below ‹_› B) (by first | assumption | exact SlR.below ‹_› B)) (by omega)) ?_ rfl rfl; intro w24 x25; have B := bx Hb B x25; have S := S.below x25; refine t_m rfl ?_ rfl; (iterate 2 refine t_extract rfl rfl ?_ rfl); (iterate 2 refine t_a rfl ?_ rfl); refine t_k' ?_; refine t_m rfl ?_ rfl; refine t_y fb_hop_0 rfl rfl ?_ rfl; refine t_bx1 S.box ab_int rfl rfl ?_ rfl; refine t_neq rfl rfl ?_ rfl; refine t_m rfl ?_ rfl; refine t_partp (t := 93) rfl ?_ ?_
     ·intro h11; (iterate 4 refine t_off rfl rfl rfl ?_ rfl); refine t_q rfl rfl ?_ rfl; refine t_e ?_; refine w_yes rfl ?_; refine w_h ?_; refine t_a rfl ?_ rfl; refine t_e ?_; refine w_r ?_; refine x_block_ret ?_; (iterate 2 refine x_t ?_); refine x_block_ret ?_; refine x_t ?_; refine x_ret1 rfl rfl ?_; exact ⟨ret_bool (by unfold wfSeg; rw [all_no hlt' (by rw [hw]; simp at h11; simp [h11])]; simp), ext_trans X0 B⟩
     intro h11; refine t_on rfl rfl ?_; refine t_m rfl ?_ rfl; refine t_on rfl rfl ?_; refine t_y fb_hop_1 rfl rfl ?_ rfl; refine t_on rfl rfl ?_; refine t_bx1 S.box ab_int rfl rfl ?_ rfl; refine t_on rfl rfl ?_; refine t_neq rfl rfl ?_ rfl; refine t_p rfl rfl ?_ rfl; refine t_e ?_; refine w_if rfl ?_ ?_
     ·intro h12; refine w_h ?_; refine t_a rfl ?_ rfl; refine t_e ?_; refine w_r ?_; refine x_block_ret ?_; (iterate 2 refine x_t ?_); refine x_block_ret ?_; refine x_t ?_; refine x_ret1 rfl rfl ?_; exact ⟨ret_bool (by unfold wfSeg; rw [all_no hlt' (by rw [hw]; simp at h12; simp [h12])]; simp), ext_trans X0 B⟩
     intro h12; refine w_k ?_; refine x_b ?_; refine x_s ?_; refine w_g ?_; refine t_m rfl ?_ rfl; refine t_add rfl rfl (by omega) ?_ rfl; refine t_a rfl ?_ rfl; refine t_d ?_; have S := S.tail; refine x_r (X := Nat) (k + 1) ?_ (by exact ⟨rfl, rfl, rfl, rfl, trivial⟩) (by (try dsimp only); omega); (try dsimp only); exact ⟨by omega, upto_succ ha (by rw [hw]; simp at h11 h12; simp [h11, h12]), B, S⟩
    ·intro h10; refine w_k ?_; refine x_b ?_; refine x_s ?_; refine w_g ?_; refine t_m rfl ?_ rfl; refine t_add rfl rfl (by omega) ?_ rfl; refine t_a rfl ?_ rfl; refine t_d ?_; have S := S.tail; refine x_r (X := Nat) (k + 1) ?_ (by exact ⟨rfl, rfl, rfl, rfl, trivial⟩) (by (try dsimp only); omega); (try dsimp only); exact ⟨by omega, upto_succ ha (wfHop_0 hx hall (by omega)), B, S⟩
  ·intro hge; refine w_exit ?_; (iterate 2 refine x_then_exit ?_); refine x_block_exit ?_; refine x_s ?_; refine w_h ?_; refine t_a rfl ?_ rfl; refine t_e ?_; refine w_r ?_; refine x_ret1 rfl rfl ?_; exact ⟨ret_bool (by unfold wfSeg firstIng; rw [hx0, h1', all_ok fun j hj => ha j (by omega)]; simp at h2; simp [h2]), ext_trans X0 B⟩
theorem wf_first {t : Topo} {s : Seg} (h : wfSeg t s = true) : 1 ≤ s.hops.length ∧ 0 ≤ firstS s ∧ firstS s < t.ases.length := by
  have W := wfSeg_S h; have hl : 1 ≤ s.hops.length := W.len.1; obtain ⟨x, hx⟩ : ∃ x, s.hops[0]? = some x := getx (by omega); have := inR_iff.1 (W.ok x (List.mem_of_getElem? hx)).2; rw [firstS_at hx]
  omega
theorem segKind_no {t : Topo} {s : Seg} (h : wfSeg t s = false ∨ coreAt t (firstS s) = false) : segKind t s = 0 := by
  unfold segKind; rw [if_neg]; rintro ⟨h1, h2⟩; rcases h with h | h <;> simp_all
theorem segKind_is {t : Topo} {s : Seg} (h : wfSeg t s = true) (h2 : coreAt t (firstS s) = true) {c r : Int} (e : kindF t s.hops 0 = c) (hr : r = if c = 1 then 1 else if c = 2 then 2 else 0) : segKind t s = r := by
  unfold segKind; rw [if_pos ⟨h, h2⟩, e, hr]
theorem kindF_0 {t : Topo} {l : List Hop} {k : Nat} {x : Hop} {c : Int} (h : l[k]? = some x) (e : x.eg = 0) : kindF t (l.drop k) c = kindF t (l.drop (k + 1)) c := by
  have hk := List.getElem?_eq_some_iff.1 h; rw [List.drop_eq_getElem_cons hk.1, hk.2, kindF, if_pos e]
theorem kindF_no {t : Topo} {l : List Hop} {k : Nat} {x : Hop} {c : Int} (h : l[k]? = some x) (e : x.eg ≠ 0) (hc : c ≠ 0) (hn : ifKind t x.ia x.eg ≠ c) : kindF t (l.drop k) c = -1 := by
  have hk := List.getElem?_eq_some_iff.1 h; rw [List.drop_eq_getElem_cons hk.1, hk.2, kindF, if_neg e, if_pos ⟨hc, hn⟩]
theorem kindF_go {t : Topo} {l : List Hop} {k : Nat} {x : Hop} {c : Int} (h : l[k]? = some x) (e : x.eg ≠ 0) (hn : ¬ (c ≠ 0 ∧ ifKind t x.ia x.eg ≠ c)) : kindF t (l.drop k) c = kindF t (l.drop (k + 1)) (ifKind t x.ia x.eg) := by
  have hk := List.getElem?_eq_some_iff.1 h; rw [List.drop_eq_getElem_cons hk.1, hk.2, kindF, if_neg e, if_neg hn]
theorem spec_SegmentKind (t : Topo) (s : Seg) (v u : Value) (w : World) (h : VA topoT w v t) (h' : VA segT w u s) (hz : sz_topo t ≤ 1048576) (hz' : s.hops.length ≤ 1048576) : Calls Tryz.prog 158 #[v, u] w fun e w' => e = .returned (I (segKind t s)) ∧ Below w.heap.size w w' := by
 have X0 := Below.refl w.heap.size w; refine enter Tryz.func158 rfl Tryz.ntmps158 rfl ?_; refine w_h ?_; refine t_boxr ‹_› rfl ?_ rfl rfl; intro p2 w1 x2 hp2; replace h := h.below x2; replace h' := h'.below x2; have X0 := ext_trans X0 x2; refine t_boxr ‹_› rfl ?_ rfl rfl; intro p3 w3 x4 hp3; replace h := h.below x4; replace h' := h'.below x4; replace hp2 := hp2.below x4; have X0 := ext_trans X0 x4; have S := Sep.nil w3; have B := Below.refl w3.heap.size w3; have Hb := Nat.le_refl w3.heap.size; refine t_a rfl ?_ rfl; refine t_e ?_; (iterate 2 refine w_s ?_); refine w_draw (.st .take 0 (.st .take 1 (.st .run 2 (.st .take 3 (.st .take 4 (.st .take 5 (.st .take 6 (.st .take 7 (.st .run 8 (.st .take 9 (.st .take 10 (.st .take 11 (.st .take 12 (.st .take 13 .done)))))))))))))) mixed (by kernel_rfl) ?_; intro w5 x6; have B := bx Hb B x6; have S := S.below x6; refine t_lda ‹_› ab_topo sb_topo B rfl ?_ rfl; intro v8 hv8; obtain ⟨v8_0, v8_1, rfl, hv8_0, hv8_1⟩ := topo_va hv8; refine t_lda ‹_› ab_seg sb_seg B rfl ?_ rfl; intro v9 hv9; obtain ⟨v9_2, rfl, hv9_2⟩ := seg_va hv9
 refine t_x Tryz.call176 rfl (spec_WellFormed _ _ _ _ _ (by first | assumption | exact VA.below ‹_› B | exact topo_mkv (by first | assumption | exact SlR.below ‹_› B) (by first | assumption | exact SlR.below ‹_› B)) (by first | assumption | exact VA.below ‹_› B | exact seg_mkv (by first | assumption | exact SlR.below ‹_› B)) (by omega) (by omega)) ?_ rfl rfl; intro w7 x8; have B := bx Hb B x8; have S := S.below x8; refine t_notb rfl ?_ rfl; refine t_m rfl ?_ rfl; refine t_part (t := 12) rfl ?_ ?_
 ·intro h1; (iterate 8 refine t_off rfl rfl rfl ?_ rfl); refine t_q rfl rfl ?_ rfl; refine t_e' ?_; refine w_yes rfl ?_; refine w_h ?_; refine t_a rfl ?_ rfl; refine t_e ?_; refine w_r ?_; refine x_t ?_; refine x_ret1 rfl rfl ?_; exact ⟨ret_int (segKind_no (.inl (by simpa using h1))).symm, ext_trans X0 B⟩
 intro h1
 have hw : wfSeg t s = true := by simpa using h1
 have hf := wf_first hw; obtain ⟨e0, he0⟩ : ∃ e, t.ases[(firstS s).toNat]? = some e := getx (by omega); refine t_on rfl rfl ?_; refine t_fld ln_topo_0 ‹_› fb_topo_0 rfl ?_ rfl; intro p13 hp13; refine t_on rfl rfl ?_; refine t_lds ‹_› ab_s_asn B rfl ?_ rfl; intro v14 hv14; refine t_on rfl rfl ?_; refine t_lda ‹_› ab_seg sb_seg B rfl ?_ rfl; intro v15 hv15; obtain ⟨v15_2, rfl, hv15_2⟩ := seg_va hv15; refine t_on rfl rfl ?_; refine t_x Tryz.call103 rfl (spec_FirstAS s _ _ (by first | assumption | exact VA.below ‹_› B | exact seg_mkv (by first | assumption | exact SlR.below ‹_› B)) (by omega)) ?_ rfl rfl; intro w9 x10; have B := bx Hb B x10; have S := S.below x10; refine t_on rfl rfl ?_; refine t_idx e_asn (k := (firstS s).toNat) ‹_› he0 B rfl rfl (by first | rfl | omega) ?_ rfl; intro p17 hp17; refine t_on rfl rfl ?_; refine t_fld ln_asn_1 ‹_› fb_asn_1 rfl ?_ rfl; intro p18 hp18; refine t_on rfl rfl ?_; refine t_ldb ‹_› ab_bool B rfl ?_ rfl; refine t_on rfl rfl ?_; refine t_notb rfl ?_ rfl; refine t_p rfl rfl ?_ rfl; refine t_e' ?_; refine w_ifb rfl ?_ ?_
 ·intro h2; refine w_h ?_; refine t_a rfl ?_ rfl; refine t_e ?_; refine w_r ?_; refine x_t ?_; refine x_ret1 rfl rfl ?_; exact ⟨ret_int (segKind_no (.inr (by unfold coreAt; rw [he0]; simpa using h2))).symm, ext_trans X0 B⟩
 intro h2
 have hc : coreAt t (firstS s) = true := by unfold coreAt; rw [he0]; simpa using h2
 refine w_k ?_; refine x_s ?_; refine w_h ?_; refine t_a rfl ?_ rfl; refine t_e ?_; (iterate 2 refine w_s ?_); refine w_g ?_; refine t_a rfl ?_ rfl; refine t_e ?_; refine w_block ?_; refine w_loop (X := Nat × Int) (fun x wq => (fun k c => k ≤ s.hops.length ∧ kindF t s.hops 0 = kindF t (s.hops.drop k) c ∧ Below w3.heap.size w3 wq ∧ Sep w3.heap.size wq []) x.1 x.2) (fun x => (fun k c => [(6, I ((k : Int))), (5, I c), (2, p2), (3, p3)]) x.1 x.2) (fun x => (fun k c => s.hops.length - k) x.1 x.2) (0, 0) ?_ ⟨rfl, rfl, rfl, rfl, trivial⟩ ?_
 ·exact ⟨by omega, rfl, B, S⟩
 ·rintro ⟨k, c⟩ w11 hI; (try dsimp only at hI ⊢); obtain ⟨hk, hq, B, S⟩ := hI; (iterate 2 refine w_s ?_); refine w_g ?_; refine t_m rfl ?_ rfl; refine t_fld ln_seg_2 ‹_› fb_seg_2 rfl ?_ rfl; intro p23 hp23; refine t_lds ‹_› ab_s_hop B rfl ?_ rfl; intro v24 hv24; refine t_len e_hop ‹_› rfl rfl ?_ rfl; refine t_lss rfl rfl ?_ rfl; refine t_e ?_; refine w_if rfl ?_ ?_
  ·intro hlt; obtain ⟨x, hx⟩ : ∃ e, s.hops[k]? = some e := getx (by omega); refine w_k ?_; refine x_s ?_; refine w_s ?_; refine w_block ?_; (iterate 2 refine w_s ?_); refine w_g ?_; refine t_fld ln_seg_2 ‹_› fb_seg_2 rfl ?_ rfl; intro p29 hp29; refine t_lds ‹_› ab_s_hop B rfl ?_ rfl; intro v30 hv30; refine t_m rfl ?_ rfl; refine t_idx e_hop (k := k) ‹_› hx B rfl rfl (by first | rfl | omega) ?_ rfl; intro p32 hp32; refine t_fld ln_hop_2 ‹_› fb_hop_2 rfl ?_ rfl; intro p33 hp33; refine t_ldi ‹_› ab_int B rfl ?_ rfl; refine t_eql rfl rfl ?_ rfl; refine t_e ?_; refine w_if rfl ?_ ?_
   ·intro he; refine w_exit ?_; refine x_then_exit ?_; refine x_block_exit ?_; refine x_s ?_; refine w_g ?_; refine t_m rfl ?_ rfl; refine t_add rfl rfl (by omega) ?_ rfl; refine t_a rfl ?_ rfl; refine t_d ?_; refine x_r (X := Nat × Int) (k + 1, c) ?_ (by exact ⟨rfl, rfl, rfl, rfl, trivial⟩) (by (try dsimp only); omega); (try dsimp only); exact ⟨by omega, by rw [hq, kindF_0 hx he], B, S⟩
   ·intro he; refine w_k ?_; refine x_s ?_; refine w_s ?_; refine w_draw (.st .take 0 (.st .take 1 (.st .take 2 (.st .take 3 (.st .take 4 (.st .take 5 (.st .take 6 (.st .take 7 (.st .take 8 (.st .take 9 (.st .take 10 (.st .take 11 (.st .take 12 (.st .run 13 (.st .take 14 .done))))))))))))))) mixed (by kernel_rfl) ?_; intro w12 x13; have B := bx Hb B x13; have S := S.below x13; refine t_lda ‹_› ab_topo sb_topo B rfl ?_ rfl; intro v36 hv36; obtain ⟨v36_0, v36_1, rfl, hv36_0, hv36_1⟩ := topo_va hv36; refine t_fld ln_seg_2 ‹_› fb_seg_2 rfl ?_ rfl; intro p37 hp37; refine t_lds ‹_› ab_s_hop B rfl ?_ rfl; intro v38 hv38; refine t_m rfl ?_ rfl; refine t_idx e_hop (k := k) ‹_› hx B rfl rfl (by first | rfl | omega) ?_ rfl; intro p40 hp40; refine t_fld ln_hop_0 ‹_› fb_hop_0 rfl ?_ rfl; intro p41 hp41; refine t_ldi ‹_› ab_int B rfl ?_ rfl; refine t_fld ln_seg_2 ‹_› fb_seg_2 rfl ?_ rfl; intro p43 hp43; refine t_lds ‹_› ab_s_hop B rfl ?_ rfl; intro v44 hv44; refine t_m rfl ?_ rfl; refine t_idx e_hop (k := k) ‹_› hx B rfl rfl (by first | rfl | omega) ?_ rfl; intro p46 hp46; refine t_fld ln_hop_2 ‹_› fb_hop_2 rfl ?_ rfl; intro p47 hp47; refine t_ldi ‹_› ab_int B rfl ?_ rfl
    refine t_x Tryz.call167 rfl (va1 (by first | assumption | exact VA.below ‹_› B | exact topo_mkv (by first | assumption | exact SlR.below ‹_› B) (by first | assumption | exact SlR.below ‹_› B)) fun cs h => spec_ifKind _ cs _ _ _ h (by omega)) ?_ rfl rfl; intro w14 x15; have B := bx Hb B x15; have S := S.below x15; refine t_a rfl ?_ rfl; refine t_e' ?_; (iterate 2 refine w_s ?_); refine w_g ?_; refine t_m rfl ?_ rfl; refine t_neq rfl rfl ?_ rfl; refine t_m rfl ?_ rfl; refine t_partp (t := 52) rfl ?_ ?_
    ·intro h3; refine t_on rfl rfl ?_; refine t_m rfl ?_ rfl; refine t_on rfl rfl ?_; refine t_m rfl ?_ rfl; refine t_on rfl rfl ?_; refine t_neq rfl rfl ?_ rfl; refine t_q rfl rfl ?_ rfl; refine t_e ?_; refine w_if rfl ?_ ?_
     ·intro h4; refine w_h ?_; refine t_a rfl ?_ rfl; refine t_e ?_; refine w_r ?_; refine x_t ?_; refine x_block_ret ?_; (iterate 2 refine x_t ?_); refine x_block_ret ?_; refine x_t ?_; refine x_ret1 rfl rfl ?_; exact ⟨ret_int (segKind_is hw hc (by rw [hq, kindF_no hx he h3 h4]) (by decide)).symm, ext_trans X0 B⟩
     ·intro h4; refine w_k ?_; refine x_s ?_; refine w_g ?_; refine t_m rfl ?_ rfl; refine t_a rfl ?_ rfl; refine t_d ?_; refine x_b ?_; refine x_s ?_; refine w_g ?_; refine t_m rfl ?_ rfl; refine t_add rfl rfl (by omega) ?_ rfl; refine t_a rfl ?_ rfl; refine t_d ?_; refine x_r (X := Nat × Int) (k + 1, ifKind t x.ia x.eg) ?_ (by exact ⟨rfl, rfl, rfl, rfl, trivial⟩) (by (try dsimp only); omega); (try dsimp only); exact ⟨by omega, by rw [hq, kindF_go hx he (fun z => h4 z.2)], B, S⟩
    ·intro h3; (iterate 3 refine t_off rfl rfl rfl ?_ rfl); refine t_p rfl rfl ?_ rfl; refine t_e ?_; refine w_no rfl ?_; refine w_k ?_; refine x_s ?_; refine w_g ?_; refine t_m rfl ?_ rfl; refine t_a rfl ?_ rfl; refine t_d ?_; refine x_b ?_; refine x_s ?_; refine w_g ?_; refine t_m rfl ?_ rfl; refine t_add rfl rfl (by omega) ?_ rfl; refine t_a rfl ?_ rfl; refine t_d ?_; refine x_r (X := Nat × Int) (k + 1, ifKind t x.ia x.eg) ?_ (by exact ⟨rfl, rfl, rfl, rfl, trivial⟩) (by (try dsimp only); omega); (try dsimp only); exact ⟨by omega, by rw [hq, kindF_go hx he (fun z => h3 z.1)], B, S⟩
  ·intro hge; rw [List.drop_eq_nil_of_le (by omega)] at hq; have hq2 : kindF t s.hops 0 = c := hq; refine w_exit ?_; (iterate 2 refine x_then_exit ?_); refine x_block_exit ?_; refine x_s ?_; (iterate 2 refine w_s ?_); refine w_g ?_; refine t_m rfl ?_ rfl; refine t_e ?_; refine w_block ?_; refine w_h ?_; refine t_eql rfl rfl ?_ rfl; refine t_a rfl ?_ rfl; refine t_e ?_; refine w_if rfl ?_ ?_
   ·intro h5; refine w_h ?_; refine t_a rfl ?_ rfl; refine t_e ?_; refine w_r ?_; refine x_block_ret ?_; refine x_t ?_; refine x_ret1 rfl rfl ?_; exact ⟨ret_int (segKind_is hw hc hq2 (by rw [if_pos h5])).symm, ext_trans X0 B⟩
   ·intro h5; refine w_h ?_; refine t_eql rfl rfl ?_ rfl; refine t_a rfl ?_ rfl; refine t_e ?_; refine w_if rfl ?_ ?_
    ·intro h6; refine w_h ?_; refine t_a rfl ?_ rfl; refine t_e ?_; refine w_r ?_; refine x_block_ret ?_; refine x_t ?_; refine x_ret1 rfl rfl ?_; exact ⟨ret_int (segKind_is hw hc hq2 (by rw [if_neg h5, if_pos h6])).symm, ext_trans X0 B⟩
    ·intro h6; refine w_k ?_; refine x_b ?_; refine x_s ?_; refine w_h ?_; refine t_a rfl ?_ rfl; refine t_e ?_; refine w_r ?_; refine x_ret1 rfl rfl ?_; exact ⟨ret_int (segKind_is hw hc hq2 (by rw [if_neg h5, if_neg h6])).symm, ext_trans X0 B⟩
theorem spec_ValidSegment (t : Topo) (s : Seg) (v u : Value) (w : World) (h : VA topoT w v t) (h' : VA segT w u s) (hz : sz_topo t ≤ 1048576) (hz' : s.hops.length ≤ 1048576) : Calls Tryz.prog 155 #[v, u] w fun e w' => e = .returned (.bool (validSeg t s)) ∧ Below w.heap.size w w' := by
 have X0 := Below.refl w.heap.size w; refine enter Tryz.func155 rfl Tryz.ntmps155 rfl ?_; refine w_h ?_; refine t_boxr ‹_› rfl ?_ rfl rfl; intro p2 w16 x17 hp2; replace h := h.below x17; replace h' := h'.below x17; have X0 := ext_trans X0 x17; refine t_boxr ‹_› rfl ?_ rfl rfl; intro p3 w18 x19 hp3; replace h := h.below x19; replace h' := h'.below x19; replace hp2 := hp2.below x19; have X0 := ext_trans X0 x19; have S := Sep.nil w18; have B := Below.refl w18.heap.size w18; have Hb := Nat.le_refl w18.heap.size; refine t_a rfl ?_ rfl; refine t_k ?_; refine t_lda ‹_› ab_topo sb_topo B rfl ?_ rfl; intro v5 hv5; obtain ⟨v5_0, v5_1, rfl, hv5_0, hv5_1⟩ := topo_va hv5; refine t_lda ‹_› ab_seg sb_seg B rfl ?_ rfl; intro v6 hv6; obtain ⟨v6_2, rfl, hv6_2⟩ := seg_va hv6; refine t_x Tryz.call176 rfl (spec_WellFormed _ _ _ _ _ (by first | assumption | exact VA.below ‹_› B | exact topo_mkv (by first | assumption | exact SlR.below ‹_› B) (by first | assumption | exact SlR.below ‹_› B)) (by first | assumption | exact VA.below ‹_› B | exact seg_mkv (by first | assumption | exact SlR.below ‹_› B)) (by omega) (by omega)) ?_ rfl rfl; intro w20 x21; have B := bx Hb B x21; have S := S.below x21
 refine t_m rfl ?_ rfl; refine t_part (t := 8) rfl ?_ ?_
 ·intro hc1; refine t_on rfl rfl ?_; refine t_lda ‹_› ab_topo sb_topo B rfl ?_ rfl; intro v9 hv9; obtain ⟨v9_0, v9_1, rfl, hv9_0, hv9_1⟩ := topo_va hv9; refine t_on rfl rfl ?_; refine t_lda ‹_› ab_seg sb_seg B rfl ?_ rfl; intro v10 hv10; obtain ⟨v10_2, rfl, hv10_2⟩ := seg_va hv10; refine t_on rfl rfl ?_; refine t_x Tryz.call177 rfl (spec_FirstInvalidHop _ _ _ _ _ (by first | assumption | exact VA.below ‹_› B | exact topo_mkv (by first | assumption | exact SlR.below ‹_› B) (by first | assumption | exact SlR.below ‹_› B)) (by first | assumption | exact VA.below ‹_› B | exact seg_mkv (by first | assumption | exact SlR.below ‹_› B)) (by omega) (by omega)) ?_ rfl rfl; intro w22 x23; have B := bx Hb B x23; have S := S.below x23; refine t_on rfl rfl ?_; refine t_lss rfl rfl ?_ rfl; refine t_q rfl rfl ?_ rfl; refine t_m rfl ?_ rfl; refine t_partp (t := 14) rfl ?_ ?_
  ·intro hc2; refine t_on rfl rfl ?_; refine t_lda ‹_› ab_topo sb_topo B rfl ?_ rfl; intro v15 hv15; obtain ⟨v15_0, v15_1, rfl, hv15_0, hv15_1⟩ := topo_va hv15; refine t_on rfl rfl ?_; refine t_lda ‹_› ab_seg sb_seg B rfl ?_ rfl; intro v16 hv16; obtain ⟨v16_2, rfl, hv16_2⟩ := seg_va hv16; refine t_on rfl rfl ?_; refine t_x Tryz.call158 rfl (spec_SegmentKind _ _ _ _ _ (by first | assumption | exact VA.below ‹_› B | exact topo_mkv (by first | assumption | exact SlR.below ‹_› B) (by first | assumption | exact SlR.below ‹_› B)) (by first | assumption | exact VA.below ‹_› B | exact seg_mkv (by first | assumption | exact SlR.below ‹_› B)) (by omega) (by omega)) ?_ rfl rfl; intro w24 x25; have B := bx Hb B x25; have S := S.below x25; refine t_on rfl rfl ?_; refine t_neq rfl rfl ?_ rfl; refine t_q rfl rfl ?_ rfl; refine t_m rfl ?_ rfl; refine t_partp (t := 20) rfl ?_ ?_
   ·intro hc3; refine t_on rfl rfl ?_; refine t_fld ln_seg_0 ‹_› fb_seg_0 rfl ?_ rfl; intro p21 hp21; refine t_on rfl rfl ?_; refine t_ldi ‹_› ab_int B rfl ?_ rfl; refine t_on rfl rfl ?_; refine t_calls Tryz.call144 rfl (spec_l1In _ _ _ _) ?_ rfl rfl; refine t_q rfl rfl ?_ rfl; refine t_m rfl ?_ rfl; refine t_part (t := 25) rfl ?_ ?_
    ·intro hc4; refine t_on rfl rfl ?_; refine t_fld ln_seg_1 ‹_› fb_seg_1 rfl ?_ rfl; intro p26 hp26; refine t_on rfl rfl ?_; refine t_ldi ‹_› ab_int B rfl ?_ rfl; refine t_on rfl rfl ?_; refine t_calls Tryz.call178 rfl (spec_l3Ok _ _) ?_ rfl rfl; refine t_q rfl rfl ?_ rfl; refine t_a rfl ?_ rfl; refine t_e ?_; refine w_r ?_; refine x_ret1 rfl rfl ?_; exact ⟨ret_bool (by unfold validSeg; first | (simp_all; done) | (simp_all; intro z; omega)), ext_trans X0 B⟩
    ·intro hc5; (iterate 3 refine t_off rfl rfl rfl ?_ rfl); refine t_p rfl rfl ?_ rfl; refine t_a rfl ?_ rfl; refine t_e ?_; refine w_r ?_; refine x_ret1 rfl rfl ?_; exact ⟨ret_bool (by unfold validSeg; first | (simp_all; done) | (simp_all; intro z; omega)), ext_trans X0 B⟩
   ·intro hc6; (iterate 3 refine t_off rfl rfl rfl ?_ rfl); refine t_p rfl rfl ?_ rfl; refine t_m rfl ?_ rfl; (iterate 3 refine t_off rfl rfl rfl ?_ rfl); refine t_p rfl rfl ?_ rfl; refine t_a rfl ?_ rfl; refine t_e ?_; refine w_r ?_; refine x_ret1 rfl rfl ?_; exact ⟨ret_bool (by unfold validSeg; first | (simp_all; done) | (simp_all; intro z; omega)), ext_trans X0 B⟩
  ·intro hc7; (iterate 4 refine t_off rfl rfl rfl ?_ rfl); refine t_p rfl rfl ?_ rfl; refine t_m rfl ?_ rfl; (iterate 3 refine t_off rfl rfl rfl ?_ rfl); refine t_p rfl rfl ?_ rfl; refine t_m rfl ?_ rfl; (iterate 3 refine t_off rfl rfl rfl ?_ rfl); refine t_p rfl rfl ?_ rfl; refine t_a rfl ?_ rfl; refine t_e ?_; refine w_r ?_; refine x_ret1 rfl rfl ?_; exact ⟨ret_bool (by unfold validSeg; first | (simp_all; done) | (simp_all; intro z; omega)), ext_trans X0 B⟩
 ·intro hc8; (iterate 4 refine t_off rfl rfl rfl ?_ rfl); refine t_p rfl rfl ?_ rfl; refine t_m rfl ?_ rfl; (iterate 4 refine t_off rfl rfl rfl ?_ rfl); refine t_p rfl rfl ?_ rfl; refine t_m rfl ?_ rfl; (iterate 3 refine t_off rfl rfl rfl ?_ rfl); refine t_p rfl rfl ?_ rfl; refine t_m rfl ?_ rfl; (iterate 3 refine t_off rfl rfl rfl ?_ rfl); refine t_p rfl rfl ?_ rfl; refine t_a rfl ?_ rfl; refine t_e ?_; refine w_r ?_; refine x_ret1 rfl rfl ?_; exact ⟨ret_bool (by unfold validSeg; first | (simp_all; done) | (simp_all; intro z; omega)), ext_trans X0 B⟩
/-- A slice that can be read as_ long as_ its blocks (all from b on) stay. -/
def rdO {α : Type} (T : Ty α) (v : Value) (l : List α) : Ow where
  P b w fp := (∀ x ∈ fp, b ≤ x ∧ x < w.heap.size) ∧ ∀ w', (∀ x ∈ fp, w'.heap[x]? = w.heap[x]?) → SlR T w' v l
  lt h := h.1
  keep := by
    rintro b w w' fp ⟨h1, h2⟩ k; refine ⟨fun x hx => ⟨(h1 x hx).1, ?_⟩, fun w'' k2 => h2 w'' fun x hx => (k2 x hx).trans (k x hx)⟩; have h3 := k x hx; rw [Array.getElem?_eq_getElem (h1 x hx).2] at h3; exact (Array.getElem?_eq_some_iff.1 h3).1
  mono := by
    rintro b b' w fp hb ⟨h1, h2⟩; exact ⟨fun x hx => ⟨by have := (h1 x hx).1; omega, (h1 x hx).2⟩, h2⟩
section
variable {b : Nat} {w w' : World} {os : List Ow} {α : Type} {T : Ty α} {e : TypeId} {v v' : Value} {l l' : List α}
theorem Sep.rd (S : Sep b w (rdO T v l :: os)) : SlR T w v l := by
  obtain ⟨fp, _, h⟩ := S.head
  exact h w fun _ _ => rfl
theorem SepF.append {os' : List Ow} {g' g : List Nat} (h' : SepF b w os' g') (h : SepF b w os g) (hd : ∀ x ∈ g', x ∉ g) : SepF b w (os' ++ os) (g' ++ g) := by
  induction os' generalizing g' with
  | nil => rw [show g' = [] from h']; exact h
  | cons o t ih =>
    obtain ⟨f, k, rfl, h1, h2, h3⟩ := h'; rw [List.append_assoc]; refine ⟨f, k ++ g, rfl, h1, ih h2 fun x hx => hd x (List.mem_append.2 (.inr hx)), fun x hx hy => ?_⟩
    rcases List.mem_append.1 hy with hy | hy
    · exact h3 x hx hy
    · exact hd x (List.mem_append.2 (.inl hx)) hy
/-- What a call made, beside what there was. -/
theorem Sep.join2 {os' : List Ow} (h : Sep b w os) (x : Ext w w') (h' : Sep w.heap.size w' os') : Sep b w' (os' ++ os) := by
  obtain ⟨h1, g, h2⟩ := h; obtain ⟨k1, g', k2⟩ := h'; refine ⟨Nat.le_trans h1 x.size, g' ++ g, SepF.append (k2.mono h1) (h2.keep fun y hy => x.block y (h2.lt y hy).2) fun y hy hz => ?_⟩; have := (k2.lt y hy).1; have := (h2.lt y hz).2
  omega
end
section
variable {P : Program} {n : Nat} {ops : Array Oper} {Q : Exit → Act → World → Prop} {L : Frm} {w : World} {m : Md} {r : IT} {d : Nat} {ty : TypeId} {pos : String} {af : Array Edge} {b : Nat} {os : List Ow}
/-- append of a whole slice of owned elements. -/
theorem t_mvw {α : Type} {T : Ty α} {t e : TypeId} {bytes : Nat} (et : ElemT P t e T.size bytes) {s x : Operand} {ar : Array TypeId} {v u : Value} {l l' : List α} (S : Sep b w (slO T e v l :: slO T e u l' :: os)) (hs : ev L s = some v) (hx : ev L x = some u) (har : ar = #[t, t])
    (hby : (l.length + l'.length) * bytes ≤ 140737488355328) (h63 : l.length + l'.length ≤ maxLen)
    (k : ∀ v' w', Below b w w' → Sep b w' (slO T e v' (l ++ l') :: os) → WT P n ops Q r ((d, v') :: L) w') (hn : Nat.blt d n = true) : WT P n ops Q (.st .fin ⟨some d, .call ⟨.builtin .append, #[s, x], ar⟩, ty, pos, af, none⟩ r) L w := by
  obtain ⟨css, hl, hall, S2⟩ := S.f1.unrow; obtain ⟨A, c, rfl, hc, hr⟩ := S2.tail.rowForm; exact t_mv et S2.f2.f2.tail hr hl hs hx har hby h63 k hn
/-- A literal of one element that is owned. -/
theorem t_lit1o {α : Type} {T : Ty α} {t e : TypeId} {ps : List (Nat × Operand)} {vs : List (Nat × Value)} {C : Array Value} {cs : List Value} {x : α} (S : Sep b w (tyO T cs x :: os))
    (hb : ∀ w, (Instr.buildSlice t 1 vs.toArray).run P w = .ok (.slice (some ⟨w.heap.size, 0, none⟩) 1 1) (w.alloc (.cells C e))) (hv : evp L ps = some vs) (hC : C.toList = cs)
    (k : ∀ A w', Ext w w' → Sep b w' (slO T e (.slice A 1 1) [x] :: os) → WT P n ops Q r ((d, .slice A 1 1) :: L) w') (hm : m.isTake = false) (hn : Nat.blt d n = true) : WT P n ops Q (.st m ⟨some d, .buildSlice t 1 ps.toArray, ty, pos, af, none⟩ r) L w := by
  have he := ext_new w (.cells C e); obtain ⟨h1, fp, f, g, rfl, h2, m2, h6⟩ := S; have hO1 : T.O b w cs x f := h2; have hl1 := T.len _ _ _ (T.read _ _ _ _ _ hO1); have hlt1 := T.lt _ _ _ _ _ hO1
  have hO : SlO T e b (w.alloc (.cells C e)) (.slice (some ⟨w.heap.size, 0, none⟩) 1 1) [x] (w.heap.size :: f) := by
    refine ⟨[cs], [f], rfl, rfl, ?_, fun i cs a f' hi ha hf => ?_, by simp [Value.ownBlock], ?_⟩
    · have := World.ownsRow_lit (base := b) (e := e) (size := T.size) w C 1 h1 (by simp [maxLen]) (by rw [← Array.length_toList, hC]; omega)
      rw [hC] at this
      simpa using this
    · rcases i with _ | i
      · simp at hi ha hf
        subst hi ha hf; exact T.obelow hO1 he
      · simp at hi
    · rw [List.nodup_cons]
      exact ⟨fun hm => by have := (hlt1 _ hm).2; omega, T.nodup _ _ _ _ _ hO1⟩
  have hS : Sep b (w.alloc (.cells C e)) (slO T e (.slice (some ⟨w.heap.size, 0, none⟩) 1 1) [x] :: os) := by
    refine ⟨Nat.le_trans h1 he.size, _, w.heap.size :: f, g, rfl, hO, m2.keep fun y hy => he.block y (m2.lt y hy).2, fun y hy hz => ?_⟩
    rcases List.mem_cons.1 hy with hy | hy
    · have := (m2.lt y hz).2; omega
    · exact h6 y hy hz
  refine t_make he (fun a ha _ _ _ => ?_) (k _ _ he hS) hm hn; have h := ha.evp hv
  have e' : (ps.toArray.map fun x => (x.1, a.eval x.2)) = vs.toArray := by rw [List.map_toArray, h]
  simp only [execOp]
  rw [show (ps.toArray.map fun x => match x with | (i, x) => (i, a.eval x)) = vs.toArray from e']
  simp [hb]
end
/-- Things that can be read as_ long as_ their blocks (all from b on) stay. -/
def rdsO (Φ : World → Prop) : Ow where
  P b w fp := (∀ x ∈ fp, b ≤ x ∧ x < w.heap.size) ∧ ∀ w', (∀ x ∈ fp, w'.heap[x]? = w.heap[x]?) → Φ w'
  lt h := h.1
  keep := by
    rintro b w w' fp ⟨h1, h2⟩ k; refine ⟨fun x hx => ⟨(h1 x hx).1, ?_⟩, fun w'' k2 => h2 w'' fun x hx => (k2 x hx).trans (k x hx)⟩; have h3 := k x hx; rw [Array.getElem?_eq_getElem (h1 x hx).2] at h3; exact (Array.getElem?_eq_some_iff.1 h3).1
  mono := by
    rintro b b' w fp hb ⟨h1, h2⟩; exact ⟨fun x hx => ⟨by have := (h1 x hx).1; omega, (h1 x hx).2⟩, h2⟩
section
variable {b : Nat} {w w' : World} {os : List Ow} {α : Type} {T : Ty α} {e : TypeId} {v : Value} {l : List α} {Φ Ψ : World → Prop}
end
/-- Elements of a list that stays in the blocks fp as_ they are in w0. -/
def pickT {α : Type} (T : Ty α) (fp : List Nat) (w0 : World) : Ty α where
  size := T.size
  R := fun _ cs a => ∀ w', (∀ x ∈ fp, w'.heap[x]? = w0.heap[x]?) → T.R w' cs a
  O := fun _ _ cs a f => (∀ w', (∀ x ∈ fp, w'.heap[x]? = w0.heap[x]?) → T.R w' cs a) ∧ f = []
  pos := T.pos
  len := fun _ cs a h => T.len _ _ _ (h w0 fun _ _ => rfl)
  one := fun _ cs a h => T.one _ _ _ (h w0 fun _ _ => rfl)
  keep := fun _ _ _ _ h _ => h
  okeep := fun _ _ _ _ _ _ h _ => h
  read := fun _ _ _ _ _ h => h.1
  lt := fun _ _ _ _ _ h b hb => by rw [h.2] at hb; cases hb
  nodup := fun _ _ _ _ _ h => by rw [h.2]; exact List.nodup_nil
  mono := fun _ _ _ _ _ _ _ h => h
section
variable {α : Type} {T : Ty α} {b : Nat} {w w0 w' : World} {e : TypeId} {v : Value} {l : List α} {fp : List Nat} {os : List Ow}
theorem pick_of (h : SlO T e b w v l fp) : SlR (pickT T fp w) w v l := by
  have hr := h.read; obtain ⟨css, fps, h1, h2, h3, h4, h5, h6⟩ := h
  have hq : ∀ (i : Nat) cs a, css[i]? = some cs → l[i]? = some a → (pickT T fp w).R w cs a := fun i cs a hi ha w' k => by
    have hlt : i < fps.length := by rw [h2]; exact (List.getElem?_eq_some_iff.1 ha).1
    refine T.read _ _ _ _ _ (T.okeep _ _ w' _ _ _ (h4 i cs a _ hi ha (List.getElem?_eq_getElem hlt)) fun x hx => k x ?_); rw [h5, List.mem_append]; exact .inr (List.mem_flatten.2 ⟨_, List.getElem_mem hlt, hx⟩)
  rcases h3.2 with ⟨hv, hn⟩ | ⟨g, cap, cur, hv, hb, hg, hn, r⟩
  · refine ⟨none, 0, css, by rw [hv, hn], by omega, h1, ?_, hq⟩
    have : css = [] := List.eq_nil_of_length_eq_zero (by omega); subst this; exact Rd.nil
  · subst hv
    exact ⟨_, cap, css, rfl, hn, h1, Rd.of_own h3, hq⟩
theorem pick_sl (h : SlR (pickT T fp w0) w v l) (k : ∀ x ∈ fp, w.heap[x]? = w0.heap[x]?) : SlR T w v l := by
  obtain ⟨A, c, css, h1, h2, h3, h4, h5⟩ := h; exact ⟨A, c, css, h1, h2, h3, h4, fun i cs a hi ha => h5 i cs a hi ha w k⟩
/-- The blocks fp are as_ they are in w0. -/
def keepO (fp : List Nat) (w0 : World) : Ow where
  P b w f := f = fp ∧ (∀ x ∈ fp, b ≤ x ∧ x < w.heap.size) ∧ ∀ x ∈ fp, w.heap[x]? = w0.heap[x]?
  lt h := by rw [h.1]; exact h.2.1
  keep := by
    rintro b w w' f ⟨rfl, h1, h2⟩ k; refine ⟨rfl, fun x hx => ⟨(h1 x hx).1, ?_⟩, fun x hx => (k x hx).trans (h2 x hx)⟩; have h3 := k x hx; rw [Array.getElem?_eq_getElem (h1 x hx).2] at h3; exact (Array.getElem?_eq_some_iff.1 h3).1
  mono := by
    rintro b b' w f hb ⟨rfl, h1, h2⟩; exact ⟨rfl, fun x hx => ⟨by have := (h1 x hx).1; omega, (h1 x hx).2⟩, h2⟩
theorem Sep.kept (S : Sep b w (keepO fp w0 :: os)) : ∀ x ∈ fp, w.heap[x]? = w0.heap[x]? := by
  obtain ⟨f, _, _, h⟩ := S.head; exact h
theorem Sep.toKeep (S : Sep b w (slO T e v l :: os)) : ∃ fp, (∀ w', (∀ x ∈ fp, w'.heap[x]? = w.heap[x]?) → SlR (pickT T fp w) w' v l) ∧ Sep b w (keepO fp w :: os) := by
  obtain ⟨h1, F, f, g, rfl, hO, m2, m3⟩ := S; refine ⟨f, fun w' k => ?_, h1, f ++ g, f, g, rfl, ⟨rfl, (slO T e v l).lt hO, fun _ _ => rfl⟩, m2, m3⟩; obtain ⟨A, c, css, e1, e2, e3, e4, e5⟩ := pick_of (SlO.keep (w' := w') hO k); exact ⟨A, c, css, e1, e2, e3, e4, fun i cs a hi ha w'' k2 => e5 i cs a hi ha w'' fun x hx => (k2 x hx).trans (k x hx).symm⟩
theorem Sep.kp (S : Sep b w (keepO fp w0 :: os)) (h : ∀ w', (∀ x ∈ fp, w'.heap[x]? = w0.heap[x]?) → SlR (pickT T fp w0) w' v l) : SlR (pickT T fp w0) w v l := h w S.kept
theorem Sep.pickNil (S : Sep b w (slO T e v ([] : List α) :: os)) : Sep b w (slO (pickT T fp w0) e v ([] : List α) :: os) :=
  S.conv fun f h => by
    obtain ⟨css, fps, h1, h2, h3, h4, h5, h6⟩ := h; exact ⟨css, fps, h1, h2, h3, fun i cs a f hi ha hf => by simp at ha, h5, h6⟩
/-- An element's place in a list that stays: it leads to the element as_ long as_ the list's blocks stay. -/
theorem t_idxk {P : Program} {n : Nat} {ops : Array Oper} {Q : Exit → Act → World → Prop} {L : Frm} {m : Md} {r : IT} {d : Nat} {ty : TypeId} {pos : String} {af : Array Edge} {t e : TypeId} {bytes : Nat} (et : ElemT P t e T.size bytes) {k : Nat} {x : α} {i : Int} {xo io : Operand} (hpk : ∀ w', (∀ x ∈ fp, w'.heap[x]? = w0.heap[x]?) → SlR (pickT T fp w0) w' v l) (kept : ∀ x ∈ fp, w.heap[x]? = w0.heap[x]?) (hk : l[k]? = some x) (hx : ev L xo = some v) (hi : ev L io = some (I i)) (hik : i = ((k : Nat) : Int))
    (kk : ∀ p, (∀ w', (∀ x ∈ fp, w'.heap[x]? = w0.heap[x]?) → Ptr (pickT T fp w0) w' p x) → WT P n ops Q r ((d, p) :: L) w) (hn : Nat.blt d n = true) : WT P n ops Q (.st m ⟨some d, .indexAddr t xo io, ty, pos, af, none⟩ r) L w := by
  have hlt : k < l.length := (List.getElem?_eq_some_iff.1 hk).1
  have hxk : l[k] = x := by rw [List.getElem?_eq_getElem hlt] at hk; exact Option.some.inj hk
  obtain ⟨g, o, c, cs, rfl, h1, h2, h3, h4⟩ := SlR.at_ (hpk w kept) hlt; obtain ⟨inf, z, hinf, _, hsz, _, _⟩ := et.info; refine t_read (fun a ha _ _ _ w' _ => ?_) (kk (.pointer (some ⟨g, o + k * T.size, none⟩)) fun w' k' => ?_) hn
  · subst hik
    have hc : (0 : Int) ≤ (k : Int) ∧ (k : Int) < (l.length : Int) := by omega
    simp [execOp, ha.ev hx, ha.ev hi, Instr.indexAt, asIntOf, run_underlying et.und, hc, sizeOf, typeInfo, hinf, hsz, Addr.add_lit, hlt]
  · obtain ⟨g', o', c', cs', e', k1, k2, k3, k4⟩ := SlR.at_ (hpk w' k') hlt
    cases e'; rw [hxk] at k3; exact ⟨g, _, cs', rfl, k3, k4⟩
/-- What was picked is read as_ long as_ the blocks of both lists stay. -/
theorem pick_end (S : Sep b w (slO (pickT T fp w0) e v l :: keepO fp w0 :: os)) : Sep b w (rdO T v l :: os) := by
  obtain ⟨h1, F, f, g, rfl, hO, ⟨f2, g2, rfl, ⟨rfl, hk1, hk2⟩, m2, m3⟩, h6⟩ := S; have hlt := SlO.size_ok hO; refine ⟨h1, (f ++ f2) ++ g2, f ++ f2, g2, rfl, ⟨fun x hx => ?_, fun w' k => ?_⟩, m2, fun x hx hy => ?_⟩
  · rcases List.mem_append.1 hx with hx | hx
    · exact hlt x hx
    · exact hk1 x hx
  · obtain ⟨A, c, css, h1, h2, h3, h4, h5⟩ := (SlO.keep (w' := w') hO fun x hx => k x (List.mem_append.2 (.inl hx))).read
    exact ⟨A, c, css, h1, h2, h3, h4, fun i cs a hi ha => h5 i cs a hi ha w' fun x hx => (k x (List.mem_append.2 (.inr hx))).trans (hk2 x hx)⟩
  · rcases List.mem_append.1 hx with hx | hx
    · exact h6 x hx (List.mem_append.2 (.inr hy))
    · exact m3 x hx hy
end
/-- A path of a few short parts. -/
def PathS (p : Path) : Prop := List.length p ≤ 4 ∧ ∀ x ∈ p, x.hops.length ≤ 5 ∧ rng_part x
theorem validHop_rng {h : Hop} (e : validHop h = true) : rng_hop h := by
  unfold validHop at e
  simp only [Bool.and_eq_true, inR_iff] at e
  obtain ⟨⟨⟨⟨⟨h1, h2⟩, h3⟩, _⟩, h5⟩, h6⟩ := e
  refine ⟨⟨?_, ?_⟩, ⟨?_, ?_⟩, ⟨?_, ?_⟩, ⟨?_, ?_⟩, ?_, ?_⟩ <;> omega
theorem in64 {n : Int} (h0 : -9223372036854775808 ≤ n) (h1 : n ≤ 9223372036854775807) : In64 n := ⟨h0, h1⟩
theorem PartK.small {t : Topo} {x : Part} (h : PartK t x) : x.hops.length ≤ 5 ∧ rng_part x := by
  obtain ⟨s, kind, i, hs, h1, h2, rfl⟩ := h; obtain ⟨⟨k0, k1, k2, k3, k4⟩, hS⟩ := hs
  have hb : ∀ j, Res (segBeta s j) := fun j => by
    unfold segBeta
    split
    · exact chain_in ⟨k2, by omega⟩ _
    · exact ⟨by omega, by omega⟩
  have hv := hS.hop; refine ⟨Nat.le_trans (make_len s kind i) k4, ?_⟩
  unfold makePart
  split
  · split
    · refine ⟨in64 (by dsimp only; omega) (by dsimp only; omega), in64 (by dsimp only; omega) (by dsimp only; omega), ?_, fun y hy => validHop_rng (hv y (List.mem_of_mem_drop (List.mem_reverse.1 hy)))⟩
      have := hb s.hops.length
      unfold Res at this
      exact in64 (by dsimp only; omega) (by dsimp only; omega)
    · refine ⟨in64 (by dsimp only; omega) (by dsimp only; omega), in64 (by dsimp only; omega) (by dsimp only; omega), ?_, fun y hy => validHop_rng (hv y (List.mem_of_mem_drop hy))⟩
      have := hb i
      unfold Res at this
      exact in64 (by dsimp only; omega) (by dsimp only; omega)
  · exact ⟨in64 (by dsimp only; omega) (by dsimp only; omega), in64 (by dsimp only; omega) (by dsimp only; omega), in64 (by dsimp only; omega) (by dsimp only; omega), fun y hy => by simp at hy⟩
theorem PathK.small {t : Topo} {p : Path} (h : PathK t p) : List.length p ≤ 3 ∧ ∀ x ∈ p, x.hops.length ≤ 5 ∧ rng_part x := ⟨h.1, fun x hx => (h.2 x hx).small⟩
theorem PathS.sz {p : Path} (h : PathS p) : sz_path p ≤ 24 := by
  obtain ⟨h1, h2⟩ := h
  have : ∀ l : List Part, (∀ x ∈ l, x.hops.length ≤ 5) → (l.map sz_part).sum ≤ 5 * l.length := fun l => by
    induction l with
    | nil => simp
    | cons a t ih =>
      intro ha; have h3 := ha a (by simp)
      have h4 := ih fun x hx => ha x (List.mem_cons_of_mem _ hx)
      simp only [List.map_cons, List.sum_cons, List.length_cons]
      have : sz_part a = a.hops.length := rfl
      omega
  have h3 := this p fun x hx => (h2 x hx).1
  show List.length p + (p.map sz_part).sum ≤ 24
  omega
theorem PathS.rng {p : Path} (h : PathS p) : rng_path p := fun x hx => (h.2 x hx).2
theorem PathS.lenOk {p : Path} (h : PathS p) : lenOk_path p := ⟨by have := h.1; omega, fun x hx => by have := (h.2 x hx).1; show x.hops.length ≤ _; omega⟩
theorem PathK.toS {t : Topo} {p : Path} (h : PathK t p) : PathS p := ⟨by have := h.1; omega, h.small.2⟩
theorem impl_leastExpiry (hs : List Hop) (v : Value) (w : World) (h : SlR hopT w v hs) (hn : hs.length ≤ 1048576) :
  Calls Tryz.prog 84 #[v] w fun e w' => e = .returned (I (leastE hs)) ∧ Below w.heap.size w w' := by
 obtain ⟨A, c, rfl, _⟩ := h.form; obtain ⟨n, H⟩ : ∃ n, Hid (n = hs.length) := ⟨_, rfl⟩; rw [← H.out] at h hn ⊢
 go_enter Tryz.func84, Tryz.ntmps84
 go_wp2
 go_loopw [3, 8] (fun t i wr => ∃ k : Nat, k ≤ n ∧ i = I k ∧ t = I (leastE (hs.take k)) ∧ Below w.heap.size w wr) (fun _ i _ => n - (intOf i).toNat)
 case atStart => exact ⟨0, by omega, rfl, rfl, Below.refl _ _⟩
 case round =>
  rename_i wr
  obtain ⟨k, hk, rfl, rfl, hb⟩ := hrel
  by_cases hlt : k < n
  ·obtain ⟨g, o, q, x, e, hg, hxk, c0, c1, c2, c3, c4⟩ := hop_at (h.below hb) (by rw [← H.out]; exact hlt); rw [← H.out] at e; cases e
   by_cases hk0 : k = 0
   ·have HS : Hid (leastE (hs.take (k + 1)) = x.exp) := by rw [take_succ hxk.out, hk0]; exact rfl
    obtain ⟨m, Hm⟩ : ∃ m, Hid (m = leastE (hs.take k)) := ⟨_, rfl⟩
    have hkb : ((k : Int) == 0) = true := by simp [hk0]
    clear hk0; rw [← Hm.out]
    go_wp2
    go_roundw
    case rel => exact ⟨k + 1, by omega, by go_num, by rw [HS.out], ext_alloc hb _⟩
    case measure => simp [intOf]; omega
   ·have hne : hs.take k ≠ [] := by
     have := H.out; intro h0
     have h1 : (hs.take k).length = 0 := by rw [h0]; rfl
     rw [List.length_take] at h1
     omega
    have HS : Hid (leastE (hs.take (k + 1)) = if x.exp < leastE (hs.take k) then x.exp else leastE (hs.take k)) := by rw [take_succ hxk.out]; exact leastE_snoc x hne
    obtain ⟨m, Hm⟩ : ∃ m, Hid (m = leastE (hs.take k)) := ⟨_, rfl⟩; rw [← Hm.out] at HS ⊢
    have hkb : ((k : Int) == 0) = false := by simp; omega
    by_cases hc : x.exp < m
    ·rw [if_pos hc] at HS
     go_wp2
     go_roundw
     case rel => exact ⟨k + 1, by omega, by go_num, by rw [HS.out], ext_alloc hb _⟩
     case measure => simp [intOf]; omega
    ·rw [if_neg hc] at HS
     go_wp2
     go_roundw
     case rel => exact ⟨k + 1, by omega, by go_num, by rw [HS.out], ext_alloc hb _⟩
     case measure => simp [intOf]; omega
  ·go_wp2
   go_ret
   have : k = n := by omega
   subst this; rw [H.out, List.take_length]; exact ⟨rfl, hb⟩
theorem fm_len {α β : Type} {f : α → List β} {c : Nat} (h : ∀ x, (f x).length ≤ c) : ∀ l : List α, (l.flatMap f).length ≤ l.length * c
  | [] => Nat.zero_le _
  | a :: l => by
    rw [List.flatMap_cons, List.length_append, List.length_cons, Nat.add_mul, Nat.one_mul]; have := fm_len h l; have := h a
    omega
theorem cores_len {q : Sdb} (hc : q.core.length ≤ 13) (u : Seg) (a b : Int) (d : Seg) : (cores q u a b d).length ≤ 26 := by
  unfold cores betw
  rw [List.length_append, List.length_map, List.length_map]; have h1 := List.length_filter_le (fun s => decide (firstS s = a) && decide (lastS s = b)) q.core; have h2 := List.length_filter_le (fun s => decide (firstS s = b) && decide (lastS s = a)) q.core
  omega
theorem alone_len (l : List Seg) (k r : Int) : (alone1 l k r).length ≤ l.length * 1 := fm_len (fun s => by split <;> simp) l
theorem pairs_len (u : Seg) (ds : List Seg) : (pairs1 u ds).length ≤ ds.length * 1 := fm_len (fun s => by split <;> simp) ds
theorem combL_len {q : Sdb} (hc : q.core.length ≤ 13) {us ds : List Seg} (hu : us.length ≤ 13) (hd : ds.length ≤ 13) (t : Topo) (a b : Int) : (combL t q a b us ds).length ≤ 6000 := by
  have k0 := cores_len hc; have h1 := alone_len us 1 b; have h2 := alone_len ds 4 a; have h3 := k0 seg0 a b seg0; have h4 := fm_len (f := fun u => pairs1 u ds) (c := 13) (fun u => by have := pairs_len u ds; omega) us; have h5 := fm_len (f := fun d => cores q seg0 a (firstS d) d) (fun d => k0 _ _ _ _) ds; have h6 := fm_len (f := fun u => cores q u (firstS u) b seg0) (fun d => k0 _ _ _ _) us; have h7 := fm_len (f := fun u => ds.flatMap fun d => cores q u (firstS u) (firstS d) d) (c := 338) (fun u => by have := fm_len (f := fun d => cores q u (firstS u) (firstS d) d) (fun d => k0 _ _ _ _) ds; omega) us
  unfold combL
  simp only [List.length_append]
  have h5' : (if coreAt t a then ds.flatMap fun d => cores q seg0 a (firstS d) d else []).length ≤ 338 := by split; omega; simp
  have h6' : (if coreAt t b then us.flatMap fun u => cores q u (firstS u) b seg0 else []).length ≤ 338 := by split; omega; simp
  omega
/-- A book with at most 13 segments. -/
def DbN (q : Sdb) : Prop := q.down.length + q.core.length ≤ 13
theorem downs_len (q : Sdb) (r : Int) : (downs q r).length ≤ q.down.length := List.length_filter_le ..
theorem comb_len {q : Sdb} (h : DbN q) (t : Topo) (a b : Int) : (comb t q a b).length ≤ 6000 := by
  unfold comb
  split
  · simp
  · have h1 := downs_len q a
    have h2 := downs_len q b
    unfold DbN at h
    exact combL_len (by omega) (by omega) (by omega) t a b
theorem comb_K {t : Topo} (hU : Uniq t.links) (hK : ∀ x ∈ t.links, x.a < x.b ∧ 1 ≤ x.ai ∧ 1 ≤ x.bi) {k : Sdb} (D : DbK t k) {a b : Int} {p : Path} (h : p ∈ comb t k a b) : PathK t p := by
  have hg := comb_good hU hK D p h; have hp := comb_parts D ((comb_iff D).1 h).2; refine ⟨(wf_parts hg.1).1.2, fun x hx => ?_⟩; obtain ⟨s, kind, i, _, _, e, hs⟩ := hp x hx
  rcases hs with ⟨hs, hk⟩ | ⟨hs, hk⟩
  · exact ⟨s, kind, i, (D.down s hs).1, by omega, by omega, e⟩
  · exact ⟨s, kind, i, (D.core s hs).1, by omega, by omega, e⟩
theorem segs_sz {l : List Seg} (h : ∀ s ∈ l, s.hops.length ≤ 5) : sz_segs l ≤ 6 * l.length := by
  induction l with
  | nil => exact Nat.le_refl _
  | cons a t ih =>
    have e : sz_segs (a :: t) = 1 + sz_seg a + sz_segs t := by unfold sz_segs; simp; omega
    have := ih fun s hs => h s (List.mem_cons_of_mem _ hs)
    have h0 := h a (List.mem_cons_self ..); have e2 : sz_seg a = a.hops.length := rfl; rw [e, List.length_cons]
    omega
theorem db_sz {t : Topo} {q : Sdb} (D : DbK t q) (h : DbN q) : sz_sdb q ≤ 1000 := by
  have h1 := segs_sz fun s hs => (D.down s hs).1.len
  have h2 := segs_sz fun s hs => (D.core s hs).1.len
  unfold DbN at h
  unfold sz_sdb
  omega
/-- Not too many paths, and each of a few short parts. -/
def PathsS (l : List Path) : Prop := l.length ≤ 6000 ∧ ∀ p ∈ l, PathS p
theorem PathsS.sz {l : List Path} (h : PathsS l) : sz_paths l ≤ 200000 := by
  obtain ⟨h1, h2⟩ := h
  have : ∀ l : List Path, (∀ p ∈ l, PathS p) → sz_paths l ≤ 25 * l.length := fun l => by
    induction l with
    | nil => intro _; exact Nat.le_refl _
    | cons a t ih =>
      intro ha
      have e : sz_paths (a :: t) = 1 + sz_path a + sz_paths t := by unfold sz_paths; simp; omega
      have := ih fun s hs => ha s (List.mem_cons_of_mem _ hs)
      have := (ha a (List.mem_cons_self ..)).sz; rw [e, List.length_cons]
      omega
  have := this l h2
  omega
theorem PathsS.rng {l : List Path} (h : PathsS l) : ∀ x ∈ l, rng_path x := fun x hx => (h.2 x hx).rng
theorem PathsS.lenOk {l : List Path} (h : PathsS l) : ∀ x ∈ l, lenOk_path x := fun x hx => (h.2 x hx).lenOk
theorem comb_S {t : Topo} (hU : Uniq t.links) (hK : ∀ x ∈ t.links, x.a < x.b ∧ 1 ≤ x.ai ∧ 1 ≤ x.bi) {k : Sdb} (D : DbK t k) (h : DbN k) (a b : Int) : PathsS (comb t k a b) := ⟨comb_len h t a b, fun p hp => (comb_K hU hK D hp).toS⟩
theorem b_sdb0 (w : World) : (Instr.build 30 #[]).run Tryz.prog w = .ok (.agg #[.slice none 0 0, .slice none 0 0]) w := by kernel_rfl
theorem b_sdb (A1 : Option Addr) (n1 c1 : Nat) (A2 : Option Addr) (n2 c2 : Nat) (w : World) : (Instr.build 30 #[(0, .slice A1 n1 c1), (1, .slice A2 n2 c2)]).run Tryz.prog w = .ok (.agg #[.slice A1 n1 c1, .slice A2 n2 c2]) w := by kernel_rfl
theorem addSeg_no {t : Topo} {q : Sdb} {s : Seg} (h : ¬ (validSeg t s = true ∧ termS s = true ∧ ¬ s ∈ q.down ∧ ¬ s ∈ q.core)) : addSeg t q s = q := by unfold addSeg; rw [if_neg h]
theorem addSeg_d {t : Topo} {q : Sdb} {s : Seg} (h : validSeg t s = true ∧ termS s = true ∧ ¬ s ∈ q.down ∧ ¬ s ∈ q.core) (h2 : segKind t s = 2) : addSeg t q s = ⟨q.down ++ [s], q.core⟩ := by unfold addSeg; rw [if_pos h, if_pos h2]
theorem addSeg_c {t : Topo} {q : Sdb} {s : Seg} (h : validSeg t s = true ∧ termS s = true ∧ ¬ s ∈ q.down ∧ ¬ s ∈ q.core) (h2 : ¬ segKind t s = 2) : addSeg t q s = ⟨q.down, q.core ++ [s]⟩ := by unfold addSeg; rw [if_pos h, if_neg h2]
set_option maxHeartbeats 4000000 in
theorem spec_AddSegment (t : Topo) (q : Sdb) (s : Seg) (v v1 v2 : Value) (w : World) (h : VA topoT w v t) (h1 : VA sdbT w v1 q) (h2 : VA segT w v2 s) (hz : sz_topo t ≤ 1048576) (hz1 : sz_sdb q ≤ 1048576) (hz2 : s.hops.length ≤ 1048576) : Calls Tryz.prog 113 #[v, v1, v2] w fun e w' => ∃ vd vc, e = .returned (.agg #[vd, vc]) ∧ True ∧ Sep w.heap.size w' [slO segT 67 vd (addSeg t q s).down, slO segT 67 vc (addSeg t q s).core] ∧ Ext w w' := by
 have hzd : sz_segs q.down ≤ 1048576 := by unfold sz_sdb at hz1; omega
 have hzc : sz_segs q.core ≤ 1048576 := by unfold sz_sdb at hz1; omega
 have hld : q.down.length ≤ 1048576 := by unfold sz_segs at hzd; omega
 have hlc : q.core.length ≤ 1048576 := by unfold sz_segs at hzc; omega
 have X0 := Below.refl w.heap.size w; refine enter Tryz.func113 rfl Tryz.ntmps113 rfl ?_; refine w_h ?_; refine t_boxr ‹_› rfl ?_ rfl rfl; intro p3 w1 x2 hp3; replace h := h.below x2; replace h1 := h1.below x2; replace h2 := h2.below x2; have X0 := ext_trans X0 x2; refine t_boxr ‹_› rfl ?_ rfl rfl; intro p4 w3 x4 hp4; replace h := h.below x4; replace h1 := h1.below x4; replace h2 := h2.below x4; replace hp3 := hp3.below x4; have X0 := ext_trans X0 x4; refine t_boxr ‹_› rfl ?_ rfl rfl; intro p5 w5 x6 hp5; replace h := h.below x6; replace h1 := h1.below x6; replace h2 := h2.below x6; replace hp3 := hp3.below x6; replace hp4 := hp4.below x6; have X0 := ext_trans X0 x6; have S := Sep.nil w5; have B := Below.refl w5.heap.size w5; have Hb := Nat.le_refl w5.heap.size; refine t_w S z_sdb rfl ?_ rfl rfl; intro g6 w7 x8 S; have B := bx Hb B x8; refine t_e ?_; refine w_s ?_
 refine w_cut (X := Value × Value × Nat) (fun x wq => (fun vd vc g => Below w5.heap.size w5 wq ∧ Sep w5.heap.size wq [bxO g 30 #[vd, vc], slO segT 67 vd q.down, slO segT 67 vc q.core, bxO g6 30 #[.slice none 0 0, .slice none 0 0]]) x.1 x.2.1 x.2.2) (fun x => (fun vd vc g => [(7, .pointer (some ⟨g, 0, none⟩)), (3, p3), (4, p4), (5, p5), (6, .pointer (some ⟨g6, 0, none⟩))]) x.1 x.2.1 x.2.2) ?_ ?_
 ·refine w_draw (.st .take 0 (.st .take 1 (.st .take 3 (.st .take 4 (.alt (.st .run 2 (.alt (.st .run 5 (.st .take 6 (.st .run 7 (.st .fin 8 .done)))) (.st .run 7 (.st .run 5 (.st .take 6 (.st .fin 8 .done)))))) (.st .run 7 (.st .run 2 (.st .run 5 (.st .take 6 (.st .fin 8 .done)))))))))) mixed (by kernel_rfl) ?_; intro w9 x10; have B := bx Hb B x10; have S := S.below x10; refine t_fld ln_sdb_0 ‹_› fb_sdb_0 rfl ?_ rfl; intro p8 hp8; refine t_lds ‹_› ab_s_seg B rfl ?_ rfl; intro v9 hv9; refine t_fld ln_sdb_1 ‹_› fb_sdb_1 rfl ?_ rfl; intro p11 hp11; refine t_lds ‹_› ab_s_seg B rfl ?_ rfl; intro v12 hv12; refine t_alt ?_ ?_
  ·refine t_c Tryz.call154 rfl (spec_l16All _ _ _ (by first | assumption | exact SlR.below ‹_› B) (by omega)) ?_ rfl rfl; rintro e w11 ⟨v10, fpv10, rfl, hOv10, x12⟩; refine ⟨_, rfl, x12, ?_⟩; have S := S.add (o := slO _ _ _ _) x12 hOv10; have B := bx Hb B x12; refine t_alt ?_ ?_
   ·refine t_c Tryz.call154 rfl (spec_l16All _ _ _ (by first | assumption | exact SlR.below ‹_› B) (by omega)) ?_ rfl rfl; rintro e w13 ⟨v13, fpv13, rfl, hOv13, x14⟩; refine ⟨_, rfl, x14, ?_⟩; have S := S.add (o := slO _ _ _ _) x14 hOv13; have B := bx Hb B x14; obtain ⟨Av10, cv10, rfl, _⟩ := S.tail.sl.form; obtain ⟨Av13, cv13, rfl, _⟩ := S.sl.form; refine t_g (fun w => b_sdb _ _ _ _ _ _ w) rfl ?_ rfl; refine t_w S z_sdb rfl ?_ rfl rfl; intro g7 w15 x16 S; have B := bx Hb B x16; refine t_stn S sb_sdb rfl rfl rfl rfl (by repeat first | exact oc0 | refine oc rfl ?_ | refine oc (SlR.cells (S.tail.tail.sl)).2 ?_ | refine oc (SlR.cells (S.tail.sl)).2 ?_) ?_; intro w17 b18 S; have B := B.trans b18; refine t_d' ?_; have S := S.f3.f2.f3.f3; refine x_cut (X := Value × Value × Nat) (.slice Av10 q.down.length cv10, .slice Av13 q.core.length cv13, g7) ?_ ?_; rotate_left
    ·exact ⟨rfl, rfl, rfl, rfl, rfl, trivial⟩
    (try dsimp only); exact ⟨B, S⟩
   ·refine t_w S z_sdb rfl ?_ rfl rfl; intro g7 w19 x20 S; have B := bx Hb B x20; refine t_c Tryz.call154 rfl (spec_l16All _ _ _ (by first | assumption | exact SlR.below ‹_› B) (by omega)) ?_ rfl rfl; rintro e w21 ⟨v13, fpv13, rfl, hOv13, x22⟩; refine ⟨_, rfl, x22, ?_⟩; have S := S.add (o := slO _ _ _ _) x22 hOv13; have B := bx Hb B x22; obtain ⟨Av10, cv10, rfl, _⟩ := S.tail.tail.sl.form; obtain ⟨Av13, cv13, rfl, _⟩ := S.sl.form; refine t_g (fun w => b_sdb _ _ _ _ _ _ w) rfl ?_ rfl; have S := S.f1; refine t_stn S sb_sdb rfl rfl rfl rfl (by repeat first | exact oc0 | refine oc rfl ?_ | refine oc (SlR.cells (S.tail.tail.sl)).2 ?_ | refine oc (SlR.cells (S.tail.sl)).2 ?_) ?_; intro w23 b24 S; have B := B.trans b24; refine t_d' ?_; have S := S.f3.f2.f3.f3; refine x_cut (X := Value × Value × Nat) (.slice Av10 q.down.length cv10, .slice Av13 q.core.length cv13, g7) ?_ ?_; rotate_left
    ·exact ⟨rfl, rfl, rfl, rfl, rfl, trivial⟩
    (try dsimp only); exact ⟨B, S⟩
  ·refine t_w S z_sdb rfl ?_ rfl rfl; intro g7 w25 x26 S; have B := bx Hb B x26; refine t_c Tryz.call154 rfl (spec_l16All _ _ _ (by first | assumption | exact SlR.below ‹_› B) (by omega)) ?_ rfl rfl; rintro e w27 ⟨v10, fpv10, rfl, hOv10, x28⟩; refine ⟨_, rfl, x28, ?_⟩; have S := S.add (o := slO _ _ _ _) x28 hOv10; have B := bx Hb B x28; refine t_c Tryz.call154 rfl (spec_l16All _ _ _ (by first | assumption | exact SlR.below ‹_› B) (by omega)) ?_ rfl rfl; rintro e w29 ⟨v13, fpv13, rfl, hOv13, x30⟩; refine ⟨_, rfl, x30, ?_⟩; have S := S.add (o := slO _ _ _ _) x30 hOv13; have B := bx Hb B x30; obtain ⟨Av10, cv10, rfl, _⟩ := S.tail.sl.form; obtain ⟨Av13, cv13, rfl, _⟩ := S.sl.form; refine t_g (fun w => b_sdb _ _ _ _ _ _ w) rfl ?_ rfl; have S := S.f2; refine t_stn S sb_sdb rfl rfl rfl rfl (by repeat first | exact oc0 | refine oc rfl ?_ | refine oc (SlR.cells (S.tail.tail.sl)).2 ?_ | refine oc (SlR.cells (S.tail.sl)).2 ?_) ?_; intro w31 b32 S; have B := B.trans b32; refine t_d' ?_; have S := S.f3.f2.f3.f3; refine x_cut (X := Value × Value × Nat) (.slice Av10 q.down.length cv10, .slice Av13 q.core.length cv13, g7) ?_ ?_; rotate_left
   ·exact ⟨rfl, rfl, rfl, rfl, rfl, trivial⟩
   (try dsimp only); exact ⟨B, S⟩
 rintro ⟨vd, vc, g⟩ w33 hI; (try dsimp only at hI ⊢); obtain ⟨B, S⟩ := hI; (iterate 2 refine w_s ?_); refine w_g ?_; refine t_lda ‹_› ab_topo sb_topo B rfl ?_ rfl; intro v15 hv15; obtain ⟨v15_0, v15_1, rfl, hv15_0, hv15_1⟩ := topo_va hv15; refine t_lda ‹_› ab_seg sb_seg B rfl ?_ rfl; intro v16 hv16; obtain ⟨v16_2, rfl, hv16_2⟩ := seg_va hv16; refine t_x Tryz.call155 rfl (spec_ValidSegment _ _ _ _ _ (by first | assumption | exact VA.below ‹_› B | exact topo_mkv (by first | assumption | exact SlR.below ‹_› B) (by first | assumption | exact SlR.below ‹_› B)) (by first | assumption | exact VA.below ‹_› B | exact seg_mkv (by first | assumption | exact SlR.below ‹_› B)) (by omega) (by omega)) ?_ rfl rfl; intro w34 x35; have B := bx Hb B x35; have S := S.below x35; refine t_notb rfl ?_ rfl; refine t_m rfl ?_ rfl; refine t_part (t := 19) rfl ?_ ?_
 ·intro h3; (iterate 3 refine t_off rfl rfl rfl ?_ rfl); refine t_q rfl rfl ?_ rfl; refine t_m rfl ?_ rfl; (iterate 3 refine t_off rfl rfl rfl ?_ rfl); refine t_q rfl rfl ?_ rfl; refine t_e ?_; refine w_yes rfl ?_; refine w_h ?_; refine t_b S.box ab_sdb sb_sdb rfl rfl ?_ rfl; have S := S.f3; refine t_stn S sb_sdb rfl rfl rfl rfl (by repeat first | exact oc0 | refine oc rfl ?_ | refine oc (SlR.cells (S.tail.tail.sl)).2 ?_ | refine oc (SlR.cells (S.tail.tail.tail.sl)).2 ?_) ?_; intro w36 b37 S; have B := B.trans b37; refine t_e ?_; refine w_r ?_; refine x_t ?_; refine x_retc rfl rfl S.box ab_sdb sb_sdb rfl ?_; have S := S.tail.tail.f1.f1; have e : addSeg t q s = q := addSeg_no (fun z => by simp [z.1] at h3); exact ⟨_, _, rfl, trivial, by rw [e]; exact S.mono X0.size, ext_trans X0 B⟩
 intro h3; refine t_on rfl rfl ?_; refine t_lda ‹_› ab_seg sb_seg B rfl ?_ rfl; intro v20 hv20; obtain ⟨v20_2, rfl, hv20_2⟩ := seg_va hv20; refine t_on rfl rfl ?_; refine t_x Tryz.call156 rfl (spec_IsTerminated _ _ _ (by first | assumption | exact VA.below ‹_› B | exact seg_mkv (by first | assumption | exact SlR.below ‹_› B)) (by omega)) ?_ rfl rfl; intro w38 x39; have B := bx Hb B x39; have S := S.below x39; refine t_on rfl rfl ?_; refine t_notb rfl ?_ rfl; refine t_p rfl rfl ?_ rfl; refine t_m rfl ?_ rfl; refine t_part (t := 24) rfl ?_ ?_
 ·intro h4; (iterate 3 refine t_off rfl rfl rfl ?_ rfl); refine t_q rfl rfl ?_ rfl; refine t_e ?_; refine w_yes rfl ?_; refine w_h ?_; refine t_b S.box ab_sdb sb_sdb rfl rfl ?_ rfl; have S := S.f3; refine t_stn S sb_sdb rfl rfl rfl rfl (by repeat first | exact oc0 | refine oc rfl ?_ | refine oc (SlR.cells (S.tail.tail.sl)).2 ?_ | refine oc (SlR.cells (S.tail.tail.tail.sl)).2 ?_) ?_; intro w40 b41 S; have B := B.trans b41; refine t_e ?_; refine w_r ?_; refine x_t ?_; refine x_retc rfl rfl S.box ab_sdb sb_sdb rfl ?_; have S := S.tail.tail.f1.f1; have e : addSeg t q s = q := addSeg_no (fun z => by simp [z.2.1] at h4); exact ⟨_, _, rfl, trivial, by rw [e]; exact S.mono X0.size, ext_trans X0 B⟩
 intro h4; refine t_on rfl rfl ?_; refine t_lda ‹_› ab_sdb sb_sdb B rfl ?_ rfl; intro v25 hv25; obtain ⟨v25_0, v25_1, rfl, hv25_0, hv25_1⟩ := sdb_va hv25; refine t_on rfl rfl ?_; refine t_lda ‹_› ab_seg sb_seg B rfl ?_ rfl; intro v26 hv26; obtain ⟨v26_2, rfl, hv26_2⟩ := seg_va hv26; refine t_on rfl rfl ?_; refine t_x Tryz.call157 rfl (spec_HasSegment _ _ _ _ _ (by first | assumption | exact VA.below ‹_› B | exact sdb_mkv (by first | assumption | exact SlR.below ‹_› B) (by first | assumption | exact SlR.below ‹_› B)) (by first | assumption | exact VA.below ‹_› B | exact seg_mkv (by first | assumption | exact SlR.below ‹_› B)) (by omega) (by omega)) ?_ rfl rfl; intro w42 x43; have B := bx Hb B x43; have S := S.below x43; refine t_p rfl rfl ?_ rfl; refine t_e ?_; refine w_if rfl ?_ ?_
 ·intro h5; refine w_h ?_; refine t_b S.box ab_sdb sb_sdb rfl rfl ?_ rfl; have S := S.f3; refine t_stn S sb_sdb rfl rfl rfl rfl (by repeat first | exact oc0 | refine oc rfl ?_ | refine oc (SlR.cells (S.tail.tail.sl)).2 ?_ | refine oc (SlR.cells (S.tail.tail.tail.sl)).2 ?_) ?_; intro w44 b45 S; have B := B.trans b45; refine t_e ?_; refine w_r ?_; refine x_t ?_; refine x_retc rfl rfl S.box ab_sdb sb_sdb rfl ?_; have S := S.tail.tail.f1.f1; have e : addSeg t q s = q := addSeg_no (fun z => h5.elim z.2.2.1 z.2.2.2); exact ⟨_, _, rfl, trivial, by rw [e]; exact S.mono X0.size, ext_trans X0 B⟩
 intro h5; have hall : validSeg t s = true ∧ termS s = true ∧ ¬ s ∈ q.down ∧ ¬ s ∈ q.core := ⟨by simpa using h3, by simpa using h4, fun z => h5 (.inl z), fun z => h5 (.inr z)⟩; refine w_k ?_; refine x_s ?_; (iterate 2 refine w_s ?_); refine w_g ?_; refine t_lda ‹_› ab_topo sb_topo B rfl ?_ rfl; intro v30 hv30; obtain ⟨v30_0, v30_1, rfl, hv30_0, hv30_1⟩ := topo_va hv30; refine t_lda ‹_› ab_seg sb_seg B rfl ?_ rfl; intro v31 hv31; obtain ⟨v31_2, rfl, hv31_2⟩ := seg_va hv31; refine t_x Tryz.call158 rfl (spec_SegmentKind _ _ _ _ _ (by first | assumption | exact VA.below ‹_› B | exact topo_mkv (by first | assumption | exact SlR.below ‹_› B) (by first | assumption | exact SlR.below ‹_› B)) (by first | assumption | exact VA.below ‹_› B | exact seg_mkv (by first | assumption | exact SlR.below ‹_› B)) (by omega) (by omega)) ?_ rfl rfl; intro w46 x47; have B := bx Hb B x47; have S := S.below x47; refine t_eql rfl rfl ?_ rfl; refine t_e ?_; refine w_if rfl ?_ ?_
 ·intro h6; refine w_draw (.st .take 0 (.st .take 1 (.st .take 2 (.st .run 3 (.st .run 4 (.st .fin 5 (.st .fin 6 (.st .fin 7 .done)))))))) mixed (by kernel_rfl) ?_; intro w48 x49; have B := bx Hb B x49; have S := S.below x49; refine t_y fb_sdb_0 rfl rfl ?_ rfl; refine t_bx1 S.box ab_s_seg rfl rfl ?_ rfl; refine t_lda ‹_› ab_seg sb_seg B rfl ?_ rfl; intro v36 hv36; obtain ⟨v36_2, rfl, hv36_2⟩ := seg_va hv36; refine t_c Tryz.call146 rfl (spec_l9Copy _ _ _ (by first | assumption | exact VA.below ‹_› B | exact seg_mkv (by first | assumption | exact SlR.below ‹_› B)) (by omega)) ?_ rfl rfl; rintro e w50 ⟨cs37, fp37, rfl, hO37, x51⟩; refine ⟨_, rfl, x51, ?_⟩; have S := S.add (o := tyO segT _ _) x51 hO37; have B := bx Hb B x51; obtain ⟨u37_2, rfl, S2⟩ := S.segOpen; have S := S2; refine t_lit1 (fun w => bs_seg1 _ _ _ w) rfl ?_ rfl rfl; intro A38 w52 x53 hA38; have B := bx Hb B x53; have S := S.below x53; have S := S.segShut (x := s); have S := S.f2; refine t_snoc e_seg S hA38 rfl rfl rfl (by first | omega | (simp; done) | (simp; omega)) (by (simp only [maxLen]); first | omega | (simp; done) | (simp; omega)) ?_ rfl; intro v39 w54 x55 S; have B := B.trans x55
  refine t_y fb_sdb_0 rfl rfl ?_ rfl; obtain ⟨Av39, cv39, rfl, _⟩ := S.sl.form; have S := S.f1; refine t_st1 S sb_s_seg rfl rfl rfl rfl rfl ?_; intro w56 b57 S; have B := B.trans b57; refine t_k' ?_; refine t_b S.box ab_sdb sb_sdb rfl rfl ?_ rfl; have S := S.f3; refine t_stn S sb_sdb rfl rfl rfl rfl (by repeat first | exact oc0 | refine oc rfl ?_ | refine oc (SlR.cells (S.tail.tail.sl)).2 ?_ | refine oc (SlR.cells (S.tail.tail.tail.sl)).2 ?_) ?_; intro w58 b59 S; have B := B.trans b59; refine t_e ?_; refine w_r ?_; refine x_retc rfl rfl S.box ab_sdb sb_sdb rfl ?_; have S := S.tail.tail.f1.f1; exact ⟨_, _, rfl, trivial, by rw [addSeg_d hall h6]; exact S.mono X0.size, ext_trans X0 B⟩
 ·intro h6; refine w_draw (.st .take 0 (.st .take 1 (.st .take 2 (.st .run 3 (.st .run 4 (.st .fin 5 (.st .fin 6 (.st .fin 7 .done)))))))) mixed (by kernel_rfl) ?_; intro w60 x61; have B := bx Hb B x61; have S := S.below x61; refine t_y fb_sdb_1 rfl rfl ?_ rfl; refine t_bx1 S.box ab_s_seg rfl rfl ?_ rfl; refine t_lda ‹_› ab_seg sb_seg B rfl ?_ rfl; intro v43 hv43; obtain ⟨v43_2, rfl, hv43_2⟩ := seg_va hv43; refine t_c Tryz.call146 rfl (spec_l9Copy _ _ _ (by first | assumption | exact VA.below ‹_› B | exact seg_mkv (by first | assumption | exact SlR.below ‹_› B)) (by omega)) ?_ rfl rfl; rintro e w62 ⟨cs44, fp44, rfl, hO44, x63⟩; refine ⟨_, rfl, x63, ?_⟩; have S := S.add (o := tyO segT _ _) x63 hO44; have B := bx Hb B x63; obtain ⟨u44_2, rfl, S2⟩ := S.segOpen; have S := S2; refine t_lit1 (fun w => bs_seg1 _ _ _ w) rfl ?_ rfl rfl; intro A45 w64 x65 hA45; have B := bx Hb B x65; have S := S.below x65; have S := S.segShut (x := s); have S := S.f3; refine t_snoc e_seg S hA45 rfl rfl rfl (by first | omega | (simp; done) | (simp; omega)) (by (simp only [maxLen]); first | omega | (simp; done) | (simp; omega)) ?_ rfl; intro v46 w66 x67 S; have B := B.trans x67
  refine t_y fb_sdb_1 rfl rfl ?_ rfl; obtain ⟨Av46, cv46, rfl, _⟩ := S.sl.form; have S := S.f1; refine t_st1 S sb_s_seg rfl rfl rfl rfl rfl ?_; intro w68 b69 S; have B := B.trans b69; refine t_k' ?_; refine t_b S.box ab_sdb sb_sdb rfl rfl ?_ rfl; have S := S.f3; refine t_stn S sb_sdb rfl rfl rfl rfl (by repeat first | exact oc0 | refine oc rfl ?_ | refine oc (SlR.cells (S.tail.tail.tail.sl)).2 ?_ | refine oc (SlR.cells (S.tail.tail.sl)).2 ?_) ?_; intro w70 b71 S; have B := B.trans b71; refine t_e ?_; refine w_r ?_; refine x_retc rfl rfl S.box ab_sdb sb_sdb rfl ?_; have S := S.tail.tail.f1; exact ⟨_, _, rfl, trivial, by rw [addSeg_c hall h6]; exact S.mono X0.size, ext_trans X0 B⟩
theorem map_succ {α β : Type} {l : List α} {k : Nat} {x : α} (f : α → β) (h : l[k]? = some x) : (l.take (k + 1)).map f = (l.take k).map f ++ [f x] := by
  rw [take_succ h, List.map_append]; rfl
theorem betw_len (q : Sdb) (a b : Int) : (betw q a b).length ≤ q.core.length := List.length_filter_le ..
theorem betw_hops {q : Sdb} {a b : Int} {x : Seg} (h : x ∈ betw q a b) : x.hops.length ≤ sz_segs q.core := by
  unfold betw at h
  have := sz_segs_mem (List.mem_filter.1 h).1
  omega
theorem impl_throughCore (q : Sdb) (up dn : Seg) (v v1 v2 : Value) (a b : Int) (w : World) (h : VA sdbT w v q) (hu : VA segT w v1 up) (hd : VA segT w v2 dn) (hz : sz_sdb q ≤ 1048576) (hzu : up.hops.length ≤ 1048576) (hzd : dn.hops.length ≤ 1048576) : Calls Tryz.prog 94 #[v, v1, I a, I b, v2] w fun e w' => ∃ v fp, e = .returned v ∧ SlO pathT 38 w.heap.size w' v (cores q up a b dn) fp ∧ Below w.heap.size w w' := by
 have hz1 : sz_segs q.core ≤ 1048576 := by unfold sz_sdb at hz; omega
 have hl1 : q.core.length ≤ 1048576 := by unfold sz_segs at hz1; omega
 have hb1 := betw_len q a b; have hb2 := betw_len q b a; have X0 := Below.refl w.heap.size w; refine enter Tryz.func94 rfl Tryz.ntmps94 rfl ?_; refine w_h ?_; refine t_boxr ‹_› rfl ?_ rfl rfl; intro p5 w1 x2 hp5; replace h := h.below x2; replace hu := hu.below x2; replace hd := hd.below x2; have X0 := ext_trans X0 x2; refine t_boxr ‹_› rfl ?_ rfl rfl; intro p6 w3 x4 hp6; replace h := h.below x4; replace hu := hu.below x4; replace hd := hd.below x4; replace hp5 := hp5.below x4; have X0 := ext_trans X0 x4; refine t_boxr ‹_› rfl ?_ rfl rfl; intro p9 w5 x6 hp9; replace h := h.below x6; replace hu := hu.below x6; replace hd := hd.below x6; replace hp5 := hp5.below x6; replace hp6 := hp6.below x6; have X0 := ext_trans X0 x6; have S := Sep.nil w5; have B := Below.refl w5.heap.size w5; have Hb := Nat.le_refl w5.heap.size; refine t_a rfl ?_ rfl; refine t_k ?_; refine t_a rfl ?_ rfl; refine t_e ?_; (iterate 2 refine w_s ?_); refine w_g ?_; refine t_lda ‹_› ab_sdb sb_sdb B rfl ?_ rfl; intro v16 hv16; obtain ⟨v16_0, v16_1, rfl, hv16_0, hv16_1⟩ := sdb_va hv16; (iterate 2 refine t_m rfl ?_ rfl)
 refine t_c Tryz.call136 rfl (impl_coreFrom _ _ _ _ _ (by first | assumption | exact VA.below ‹_› B | exact sdb_mkv (by first | assumption | exact SlR.below ‹_› B) (by first | assumption | exact SlR.below ‹_› B)) (by omega)) ?_ rfl rfl; rintro e w7 ⟨v19, fpv19, rfl, hOv19, x8⟩; refine ⟨_, rfl, x8, ?_⟩; have S := S.add (o := slO _ _ _ _) x8 hOv19; have B := bx Hb B x8; refine t_len e_seg (S.sl) rfl rfl ?_ rfl; refine t_m rfl ?_ rfl; refine t_e ?_; refine w_block ?_; refine w_loop (X := Nat × List Path × Value) (fun x wq => (fun k out u => k ≤ (betw q a b).length ∧ out = ((betw q a b).take k).map (fun s => joinT up s false dn) ∧ Below w5.heap.size w5 wq ∧ Sep w5.heap.size wq [slO pathT 38 u out, slO segT 67 v19 (betw q a b)]) x.1 x.2.1 x.2.2) (fun x => (fun k out u => [(21, I ((k : Int))), (11, u), (2, I a), (3, I b), (5, p5), (6, p6), (9, p9), (10, .slice none 0 0), (19, v19), (20, I (((betw q a b).length : Int)))]) x.1 x.2.1 x.2.2) (fun x => (fun k out u => (betw q a b).length - k) x.1 x.2.1 x.2.2) (0, [], _) ?_ ⟨rfl, rfl, rfl, rfl, rfl, rfl, rfl, rfl, rfl, rfl, trivial⟩ ?_
 ·exact ⟨by omega, rfl, B, S.addNil⟩
 ·rintro ⟨k, out, u⟩ w9 hI; (try dsimp only at hI ⊢); obtain ⟨hk, ho, B, S⟩ := hI
  have hol : out.length = k := by rw [ho, List.length_map, List.length_take]; omega
  refine w_h ?_; refine t_lss rfl rfl ?_ rfl; refine t_e ?_; refine w_s ?_; refine w_if rfl ?_ ?_
  ·intro hlt; obtain ⟨x, hx⟩ : ∃ e, (betw q a b)[k]? = some e := getx (by omega); have hxz := betw_hops (List.mem_of_getElem? hx); refine w_k ?_; refine x_s ?_; refine w_s ?_; refine w_block ?_; refine w_h ?_; refine t_idx e_seg (k := k) (S.tail.sl) hx (Below.refl _ _) rfl rfl (by first | rfl | omega) ?_ rfl; intro p23 hp23; refine t_lda ‹_› ab_seg sb_seg (Below.refl _ _) rfl ?_ rfl; intro v24 hv24; obtain ⟨v24_2, rfl, hv24_2⟩ := seg_va hv24; refine t_allocx S z_seg rfl ?_ rfl rfl; intro g13 w10 ge13 x11 S; have B := bx Hb B x11; refine t_stx S sb_seg rfl rfl rfl rfl (by repeat first | exact oc0 | refine oc rfl ?_ | refine oc (SlR.cells ‹_›).2 ?_) x11 ge13 ?_; intro w12 b13 S cb13; have B := B.trans b13; have hv24_2 := hv24_2.below cb13; refine t_e ?_; refine w_g ?_; refine t_m rfl ?_ rfl; refine t_lda ‹_› ab_seg sb_seg B rfl ?_ rfl; intro v26 hv26; obtain ⟨v26_2, rfl, hv26_2⟩ := seg_va hv26; refine t_b S.box ab_seg sb_seg rfl rfl ?_ rfl; refine t_lda ‹_› ab_seg sb_seg B rfl ?_ rfl; intro v28 hv28; obtain ⟨v28_2, rfl, hv28_2⟩ := seg_va hv28
   refine t_c Tryz.call51 rfl (impl_JoinThree _ _ _ _ _ _ _ _ (by first | assumption | exact VA.below ‹_› B | exact seg_mkv (by first | assumption | exact SlR.below ‹_› B)) (by first | assumption | exact VA.below ‹_› B | exact seg_mkv (by first | assumption | exact SlR.below ‹_› B)) (by first | assumption | exact VA.below ‹_› B | exact seg_mkv (by first | assumption | exact SlR.below ‹_› B)) (by omega) (by omega) (by omega)) ?_ rfl rfl; rintro e w14 ⟨cs29, fp29, rfl, hO29, x15⟩; refine ⟨_, rfl, x15, ?_⟩; have S := S.add (o := tyO pathT _ _) x15 hO29; have B := bx Hb B x15; obtain ⟨u29_0, rfl, S2⟩ := S.pathOpen; have S := S2; refine t_lit1 (fun w => bs_path1 _ w) rfl ?_ rfl rfl; intro A30 w16 x17 hA30; have B := bx Hb B x17; have S := S.below x17; have S := S.pathShut (x := joinT up x false dn); have S := S.f2; refine t_snoc e_path S hA30 rfl rfl rfl (by first | omega | (simp; done) | (simp; omega)) (by (simp only [maxLen]); first | omega | (simp; done) | (simp; omega)) ?_ rfl; intro v31 w18 x19 S; have B := B.trans x19; refine t_a rfl ?_ rfl; refine t_d ?_; refine x_b ?_; refine x_s ?_; refine w_g ?_; refine t_add rfl rfl (by omega) ?_ rfl; refine t_m rfl ?_ rfl; refine t_d ?_
   have S := S.f1.tail; refine x_r (X := Nat × List Path × Value) (k + 1, out ++ [joinT up x false dn], v31) ?_ (by exact ⟨rfl, rfl, rfl, rfl, rfl, rfl, rfl, rfl, rfl, rfl, trivial⟩) (by (try dsimp only); omega); (try dsimp only); exact ⟨by omega, by rw [ho, map_succ _ hx], B, S⟩
  ·intro hge; rw [List.take_of_length_le (by omega)] at ho; refine w_exit ?_; (iterate 2 refine x_then_exit ?_); refine x_block_exit ?_; refine x_s ?_; (iterate 2 refine w_s ?_); refine w_g ?_; refine t_lda ‹_› ab_sdb sb_sdb B rfl ?_ rfl; intro v33 hv33; obtain ⟨v33_0, v33_1, rfl, hv33_0, hv33_1⟩ := sdb_va hv33; (iterate 2 refine t_m rfl ?_ rfl); refine t_c Tryz.call136 rfl (impl_coreFrom _ _ _ _ _ (by first | assumption | exact VA.below ‹_› B | exact sdb_mkv (by first | assumption | exact SlR.below ‹_› B) (by first | assumption | exact SlR.below ‹_› B)) (by omega)) ?_ rfl rfl; rintro e w20 ⟨v36, fpv36, rfl, hOv36, x21⟩; refine ⟨_, rfl, x21, ?_⟩; have S := S.add (o := slO _ _ _ _) x21 hOv36; have B := bx Hb B x21; refine t_len e_seg (S.sl) rfl rfl ?_ rfl; refine t_m rfl ?_ rfl; refine t_e ?_; refine w_block ?_
   refine w_loop (X := Nat × List Path × Value) (fun x wq => (fun j out2 u2 => j ≤ (betw q b a).length ∧ out2 = out ++ ((betw q b a).take j).map (fun s => joinT up s true dn) ∧ Below w5.heap.size w5 wq ∧ Sep w5.heap.size wq [slO pathT 38 u2 out2, slO segT 67 v36 (betw q b a), slO segT 67 v19 (betw q a b)]) x.1 x.2.1 x.2.2) (fun x => (fun j out2 u2 => [(38, I ((j : Int))), (11, u2), (6, p6), (9, p9), (10, .slice none 0 0), (36, v36), (37, I (((betw q b a).length : Int)))]) x.1 x.2.1 x.2.2) (fun x => (fun j out2 u2 => (betw q b a).length - j) x.1 x.2.1 x.2.2) (0, out, _) ?_ ⟨rfl, rfl, rfl, rfl, rfl, rfl, rfl, trivial⟩ ?_
   ·exact ⟨by omega, by rw [List.take_zero, List.map_nil, List.append_nil], B, S.f1⟩
   ·rintro ⟨j, out2, u2⟩ w22 hI; (try dsimp only at hI ⊢); obtain ⟨hj, ho2, B, S⟩ := hI
    have hol : out2.length ≤ (betw q a b).length + j := by rw [ho2, ho, List.length_append, List.length_map, List.length_map, List.length_take]; omega
    refine w_h ?_; refine t_lss rfl rfl ?_ rfl; refine t_e ?_; refine w_s ?_; refine w_if rfl ?_ ?_
    ·intro hlt; obtain ⟨x, hx⟩ : ∃ e, (betw q b a)[j]? = some e := getx (by omega); have hxz := betw_hops (List.mem_of_getElem? hx); refine w_k ?_; refine x_s ?_; refine w_s ?_; refine w_block ?_; refine w_h ?_; refine t_idx e_seg (k := j) (S.tail.sl) hx (Below.refl _ _) rfl rfl (by first | rfl | omega) ?_ rfl; intro p40 hp40; refine t_lda ‹_› ab_seg sb_seg (Below.refl _ _) rfl ?_ rfl; intro v41 hv41; obtain ⟨v41_2, rfl, hv41_2⟩ := seg_va hv41; refine t_allocx S z_seg rfl ?_ rfl rfl; intro g15 w23 ge15 x24 S; have B := bx Hb B x24; refine t_stx S sb_seg rfl rfl rfl rfl (by repeat first | exact oc0 | refine oc rfl ?_ | refine oc (SlR.cells ‹_›).2 ?_) x24 ge15 ?_; intro w25 b26 S cb26; have B := B.trans b26; have hv41_2 := hv41_2.below cb26; refine t_e ?_; refine w_g ?_; refine t_m rfl ?_ rfl; refine t_lda ‹_› ab_seg sb_seg B rfl ?_ rfl; intro v43 hv43; obtain ⟨v43_2, rfl, hv43_2⟩ := seg_va hv43; refine t_b S.box ab_seg sb_seg rfl rfl ?_ rfl; refine t_lda ‹_› ab_seg sb_seg B rfl ?_ rfl; intro v45 hv45; obtain ⟨v45_2, rfl, hv45_2⟩ := seg_va hv45
     refine t_c Tryz.call51 rfl (impl_JoinThree _ _ _ _ _ _ _ _ (by first | assumption | exact VA.below ‹_› B | exact seg_mkv (by first | assumption | exact SlR.below ‹_› B)) (by first | assumption | exact VA.below ‹_› B | exact seg_mkv (by first | assumption | exact SlR.below ‹_› B)) (by first | assumption | exact VA.below ‹_› B | exact seg_mkv (by first | assumption | exact SlR.below ‹_› B)) (by omega) (by omega) (by omega)) ?_ rfl rfl; rintro e w27 ⟨cs46, fp46, rfl, hO46, x28⟩; refine ⟨_, rfl, x28, ?_⟩; have S := S.add (o := tyO pathT _ _) x28 hO46; have B := bx Hb B x28; obtain ⟨u46_0, rfl, S2⟩ := S.pathOpen; have S := S2; refine t_lit1 (fun w => bs_path1 _ w) rfl ?_ rfl rfl; intro A47 w29 x30 hA47; have B := bx Hb B x30; have S := S.below x30; have S := S.pathShut (x := joinT up x true dn); have S := S.f2; refine t_snoc e_path S hA47 rfl rfl rfl (by first | omega | (simp; done) | (simp; omega)) (by (simp only [maxLen]); first | omega | (simp; done) | (simp; omega)) ?_ rfl; intro v48 w31 x32 S; have B := B.trans x32; refine t_a rfl ?_ rfl; refine t_d ?_; refine x_b ?_; refine x_s ?_; refine w_g ?_; refine t_add rfl rfl (by omega) ?_ rfl; refine t_m rfl ?_ rfl; refine t_d ?_
     have S := S.f1.tail; refine x_r (X := Nat × List Path × Value) (j + 1, out2 ++ [joinT up x true dn], v48) ?_ (by exact ⟨rfl, rfl, rfl, rfl, rfl, rfl, rfl, trivial⟩) (by (try dsimp only); omega); (try dsimp only); exact ⟨by omega, by rw [ho2, map_succ _ hx, List.append_assoc], B, S⟩
    ·intro hge; refine w_exit ?_; (iterate 2 refine x_then_exit ?_); refine x_block_exit ?_; refine x_s ?_; refine w_h ?_; refine t_m rfl ?_ rfl; refine t_a rfl ?_ rfl; refine t_e ?_; refine w_r ?_; refine x_ret1 rfl rfl ?_; obtain ⟨fp, hO⟩ := (S.mono X0.size).head; rw [ho2, ho, List.take_of_length_le (by omega)] at hO; exact ⟨_, fp, rfl, hO, ext_trans X0 B⟩
theorem spec_l23Cores (q : Sdb) (up dn : Seg) (v v1 v2 : Value) (a b : Int) (w : World) (h : VA sdbT w v q) (hu : VA segT w v1 up) (hd : VA segT w v2 dn) (hz : sz_sdb q ≤ 1048576) (hzu : up.hops.length ≤ 1048576) (hzd : dn.hops.length ≤ 1048576) : Calls Tryz.prog 102 #[v, v1, I a, I b, v2] w fun e w' => ∃ v fp, e = .returned v ∧ SlO pathT 38 w.heap.size w' v (cores q up a b dn) fp ∧ Below w.heap.size w w' := by
 have hz1 : sz_segs q.core ≤ 1048576 := by unfold sz_sdb at hz; omega
 have hl1 : q.core.length ≤ 1048576 := by unfold sz_segs at hz1; omega
 have hb1 := betw_len q a b; have hb2 := betw_len q b a; have X0 := Below.refl w.heap.size w; refine enter Tryz.func102 rfl Tryz.ntmps102 rfl ?_; refine w_h ?_; refine t_boxr ‹_› rfl ?_ rfl rfl; intro p5 w33 x34 hp5; replace h := h.below x34; replace hu := hu.below x34; replace hd := hd.below x34; have X0 := ext_trans X0 x34; refine t_boxr ‹_› rfl ?_ rfl rfl; intro p6 w35 x36 hp6; replace h := h.below x36; replace hu := hu.below x36; replace hd := hd.below x36; replace hp5 := hp5.below x36; have X0 := ext_trans X0 x36; refine t_boxr ‹_› rfl ?_ rfl rfl; intro p9 w37 x38 hp9; replace h := h.below x38; replace hu := hu.below x38; replace hd := hd.below x38; replace hp5 := hp5.below x38; replace hp6 := hp6.below x38; have X0 := ext_trans X0 x38; have S := Sep.nil w37; have B := Below.refl w37.heap.size w37; have Hb := Nat.le_refl w37.heap.size; refine t_a rfl ?_ rfl; refine t_k ?_; refine t_lit0 (T := pathT) S bs_path0 rfl ?_ rfl rfl; intro A15 w39 x40 S; have B := bx Hb B x40; refine t_a rfl ?_ rfl; refine t_k ?_; refine t_lda ‹_› ab_sdb sb_sdb B rfl ?_ rfl; intro v16 hv16; obtain ⟨v16_0, v16_1, rfl, hv16_0, hv16_1⟩ := sdb_va hv16; (iterate 2 refine t_m rfl ?_ rfl)
 refine t_c Tryz.call147 rfl (spec_l16Between _ _ _ _ _ (by first | assumption | exact VA.below ‹_› B | exact sdb_mkv (by first | assumption | exact SlR.below ‹_› B) (by first | assumption | exact SlR.below ‹_› B)) (by omega)) ?_ rfl rfl; rintro e w41 ⟨v19, fpv19, rfl, hOv19, x42⟩; refine ⟨_, rfl, x42, ?_⟩; have S := S.add (o := slO _ _ _ _) x42 hOv19; have B := bx Hb B x42; refine t_a rfl ?_ rfl; refine t_e ?_; (iterate 2 refine w_s ?_); refine w_g ?_; refine t_a rfl ?_ rfl; refine t_e ?_; refine w_block ?_; refine w_loop (X := Nat × List Path × Value) (fun x wq => (fun k out u => k ≤ (betw q a b).length ∧ out = ((betw q a b).take k).map (fun s => joinT up s false dn) ∧ Below w37.heap.size w37 wq ∧ Sep w37.heap.size wq [slO pathT 38 u out, slO segT 67 v19 (betw q a b)]) x.1 x.2.1 x.2.2) (fun x => (fun k out u => [(13, I ((k : Int))), (11, u), (2, I a), (3, I b), (5, p5), (6, p6), (9, p9), (10, .slice none 0 0), (12, v19)]) x.1 x.2.1 x.2.2) (fun x => (fun k out u => (betw q a b).length - k) x.1 x.2.1 x.2.2) (0, [], _) ?_ ⟨rfl, rfl, rfl, rfl, rfl, rfl, rfl, rfl, rfl, trivial⟩ ?_
 ·exact ⟨by omega, rfl, B, S.f1⟩
 ·rintro ⟨k, out, u⟩ w43 hI; (try dsimp only at hI ⊢); obtain ⟨hk, ho, B, S⟩ := hI
  have hol : out.length = k := by rw [ho, List.length_map, List.length_take]; omega
  (iterate 2 refine w_s ?_); refine w_g ?_; (iterate 2 refine t_m rfl ?_ rfl); refine t_len e_seg (S.tail.sl) rfl rfl ?_ rfl; refine t_lss rfl rfl ?_ rfl; refine t_e ?_; refine w_if rfl ?_ ?_
  ·intro hlt; obtain ⟨x, hx⟩ : ∃ e, (betw q a b)[k]? = some e := getx (by omega); have hxz := betw_hops (List.mem_of_getElem? hx); refine w_k ?_; refine x_s ?_; refine w_s ?_; refine w_block ?_; refine w_draw (.st .take 0 (.st .take 1 (.st .take 2 (.st .take 3 (.st .take 4 (.st .take 5 (.st .take 6 (.st .run 7 (.st .run 8 (.st .fin 9 (.st .fin 10 .done))))))))))) mixed (by kernel_rfl) ?_; intro w44 x45; have B := bx Hb B x45; have S := S.below x45; refine t_m rfl ?_ rfl; refine t_lda ‹_› ab_seg sb_seg B rfl ?_ rfl; intro v27 hv27; obtain ⟨v27_2, rfl, hv27_2⟩ := seg_va hv27; (iterate 2 refine t_m rfl ?_ rfl); refine t_idx e_seg (k := k) (S.tail.sl) hx (Below.refl _ _) rfl rfl (by first | rfl | omega) ?_ rfl; intro p30 hp30; refine t_lda ‹_› ab_seg sb_seg (Below.refl _ _) rfl ?_ rfl; intro v31 hv31; obtain ⟨v31_2, rfl, hv31_2⟩ := seg_va hv31; refine t_lda ‹_› ab_seg sb_seg B rfl ?_ rfl; intro v32 hv32; obtain ⟨v32_2, rfl, hv32_2⟩ := seg_va hv32
   refine t_c Tryz.call52 rfl (spec_JoinThree _ _ _ _ _ _ _ _ (by first | assumption | exact VA.below ‹_› B | exact seg_mkv (by first | assumption | exact SlR.below ‹_› B)) (by first | assumption | exact VA.below ‹_› B | exact seg_mkv (by first | assumption | exact SlR.below ‹_› B)) (by first | assumption | exact VA.below ‹_› B | exact seg_mkv (by first | assumption | exact SlR.below ‹_› B)) (by omega) (by omega) (by omega)) ?_ rfl rfl; rintro e w46 ⟨cs33, fp33, rfl, hO33, x47⟩; refine ⟨_, rfl, x47, ?_⟩; have S := S.add (o := tyO pathT _ _) x47 hO33; have B := bx Hb B x47; obtain ⟨u33_0, rfl, S2⟩ := S.pathOpen; have S := S2; refine t_lit1 (fun w => bs_path1 _ w) rfl ?_ rfl rfl; intro A34 w48 x49 hA34; have B := bx Hb B x49; have S := S.below x49; have S := S.pathShut (x := joinT up x false dn); have S := S.f1; refine t_snoc e_path S hA34 rfl rfl rfl (by first | omega | (simp; done) | (simp; omega)) (by (simp only [maxLen]); first | omega | (simp; done) | (simp; omega)) ?_ rfl; intro v35 w50 x51 S; have B := B.trans x51; refine t_a rfl ?_ rfl; refine t_d' ?_; refine x_b ?_; refine x_s ?_; refine w_g ?_; refine t_m rfl ?_ rfl; refine t_add rfl rfl (by omega) ?_ rfl
   refine t_a rfl ?_ rfl; refine t_d ?_; refine x_r (X := Nat × List Path × Value) (k + 1, out ++ [joinT up x false dn], v35) ?_ (by exact ⟨rfl, rfl, rfl, rfl, rfl, rfl, rfl, rfl, rfl, trivial⟩) (by (try dsimp only); omega); (try dsimp only); exact ⟨by omega, by rw [ho, map_succ _ hx], B, S⟩
  ·intro hge; rw [List.take_of_length_le (by omega)] at ho; refine w_exit ?_; (iterate 2 refine x_then_exit ?_); refine x_block_exit ?_; refine x_s ?_; refine w_h ?_; refine t_lda ‹_› ab_sdb sb_sdb B rfl ?_ rfl; intro v36 hv36; obtain ⟨v36_0, v36_1, rfl, hv36_0, hv36_1⟩ := sdb_va hv36; (iterate 2 refine t_m rfl ?_ rfl); refine t_c Tryz.call147 rfl (spec_l16Between _ _ _ _ _ (by first | assumption | exact VA.below ‹_› B | exact sdb_mkv (by first | assumption | exact SlR.below ‹_› B) (by first | assumption | exact SlR.below ‹_› B)) (by omega)) ?_ rfl rfl; rintro e w52 ⟨v39, fpv39, rfl, hOv39, x53⟩; refine ⟨_, rfl, x53, ?_⟩; have S := S.add (o := slO _ _ _ _) x53 hOv39; have B := bx Hb B x53; refine t_a rfl ?_ rfl; refine t_e ?_; (iterate 2 refine w_s ?_); refine w_g ?_; refine t_a rfl ?_ rfl; refine t_e ?_; refine w_block ?_
   refine w_loop (X := Nat × List Path × Value) (fun x wq => (fun j out2 u2 => j ≤ (betw q b a).length ∧ out2 = out ++ ((betw q b a).take j).map (fun s => joinT up s true dn) ∧ Below w37.heap.size w37 wq ∧ Sep w37.heap.size wq [slO pathT 38 u2 out2, slO segT 67 v39 (betw q b a), slO segT 67 v19 (betw q a b)]) x.1 x.2.1 x.2.2) (fun x => (fun j out2 u2 => [(14, I ((j : Int))), (11, u2), (6, p6), (9, p9), (10, .slice none 0 0), (12, v39)]) x.1 x.2.1 x.2.2) (fun x => (fun j out2 u2 => (betw q b a).length - j) x.1 x.2.1 x.2.2) (0, out, _) ?_ ⟨rfl, rfl, rfl, rfl, rfl, rfl, trivial⟩ ?_
   ·exact ⟨by omega, by rw [List.take_zero, List.map_nil, List.append_nil], B, S.f1⟩
   ·rintro ⟨j, out2, u2⟩ w54 hI; (try dsimp only at hI ⊢); obtain ⟨hj, ho2, B, S⟩ := hI
    have hol : out2.length ≤ (betw q a b).length + j := by rw [ho2, ho, List.length_append, List.length_map, List.length_map, List.length_take]; omega
    (iterate 2 refine w_s ?_); refine w_g ?_; (iterate 2 refine t_m rfl ?_ rfl); refine t_len e_seg (S.tail.sl) rfl rfl ?_ rfl; refine t_lss rfl rfl ?_ rfl; refine t_e ?_; refine w_if rfl ?_ ?_
    ·intro hlt; obtain ⟨x, hx⟩ : ∃ e, (betw q b a)[j]? = some e := getx (by omega); have hxz := betw_hops (List.mem_of_getElem? hx); refine w_k ?_; refine x_s ?_; refine w_s ?_; refine w_block ?_; refine w_draw (.st .take 0 (.st .take 1 (.st .take 2 (.st .take 3 (.st .take 4 (.st .take 5 (.st .take 6 (.st .run 7 (.st .run 8 (.st .fin 9 (.st .fin 10 .done))))))))))) mixed (by kernel_rfl) ?_; intro w55 x56; have B := bx Hb B x56; have S := S.below x56; refine t_m rfl ?_ rfl; refine t_lda ‹_› ab_seg sb_seg B rfl ?_ rfl; intro v47 hv47; obtain ⟨v47_2, rfl, hv47_2⟩ := seg_va hv47; (iterate 2 refine t_m rfl ?_ rfl); refine t_idx e_seg (k := j) (S.tail.sl) hx (Below.refl _ _) rfl rfl (by first | rfl | omega) ?_ rfl; intro p50 hp50; refine t_lda ‹_› ab_seg sb_seg (Below.refl _ _) rfl ?_ rfl; intro v51 hv51; obtain ⟨v51_2, rfl, hv51_2⟩ := seg_va hv51; refine t_lda ‹_› ab_seg sb_seg B rfl ?_ rfl; intro v52 hv52; obtain ⟨v52_2, rfl, hv52_2⟩ := seg_va hv52
     refine t_c Tryz.call52 rfl (spec_JoinThree _ _ _ _ _ _ _ _ (by first | assumption | exact VA.below ‹_› B | exact seg_mkv (by first | assumption | exact SlR.below ‹_› B)) (by first | assumption | exact VA.below ‹_› B | exact seg_mkv (by first | assumption | exact SlR.below ‹_› B)) (by first | assumption | exact VA.below ‹_› B | exact seg_mkv (by first | assumption | exact SlR.below ‹_› B)) (by omega) (by omega) (by omega)) ?_ rfl rfl; rintro e w57 ⟨cs53, fp53, rfl, hO53, x58⟩; refine ⟨_, rfl, x58, ?_⟩; have S := S.add (o := tyO pathT _ _) x58 hO53; have B := bx Hb B x58; obtain ⟨u53_0, rfl, S2⟩ := S.pathOpen; have S := S2; refine t_lit1 (fun w => bs_path1 _ w) rfl ?_ rfl rfl; intro A54 w59 x60 hA54; have B := bx Hb B x60; have S := S.below x60; have S := S.pathShut (x := joinT up x true dn); have S := S.f1; refine t_snoc e_path S hA54 rfl rfl rfl (by first | omega | (simp; done) | (simp; omega)) (by (simp only [maxLen]); first | omega | (simp; done) | (simp; omega)) ?_ rfl; intro v55 w61 x62 S; have B := B.trans x62; refine t_a rfl ?_ rfl; refine t_d' ?_; refine x_b ?_; refine x_s ?_; refine w_g ?_; refine t_m rfl ?_ rfl; refine t_add rfl rfl (by omega) ?_ rfl
     refine t_a rfl ?_ rfl; refine t_d ?_; refine x_r (X := Nat × List Path × Value) (j + 1, out2 ++ [joinT up x true dn], v55) ?_ (by exact ⟨rfl, rfl, rfl, rfl, rfl, rfl, trivial⟩) (by (try dsimp only); omega); (try dsimp only); exact ⟨by omega, by rw [ho2, map_succ _ hx, List.append_assoc], B, S⟩
    ·intro hge; refine w_exit ?_; (iterate 2 refine x_then_exit ?_); refine x_block_exit ?_; refine x_s ?_; refine w_h ?_; refine t_m rfl ?_ rfl; refine t_a rfl ?_ rfl; refine t_e ?_; refine w_r ?_; refine x_ret1 rfl rfl ?_; obtain ⟨fp, hO⟩ := (S.mono X0.size).head; rw [ho2, ho, List.take_of_length_le (by omega)] at hO; exact ⟨_, fp, rfl, hO, ext_trans X0 B⟩
theorem downs_hops {q : Sdb} {r : Int} {x : Seg} (h : x ∈ downs q r) : x.hops.length ≤ sz_segs q.down := by
  unfold downs at h
  have := sz_segs_mem (List.mem_filter.1 h).1
  omega
theorem take_le {α : Type} (l : List α) (k : Nat) : (l.take k).length ≤ l.length := by rw [List.length_take]; omega
theorem alone_succ {l : List Seg} {k : Nat} {x : Seg} (kd r : Int) (h : l[k]? = some x) (hp : 0 ≤ firstH x.hops r) : alone1 (l.take (k + 1)) kd r = alone1 (l.take k) kd r ++ [[makePart x kd (firstH x.hops r)]] := by
  unfold alone1
  rw [flat_succ _ h, if_pos hp]
theorem alone_skip {l : List Seg} {k : Nat} {x : Seg} (kd r : Int) (h : l[k]? = some x) (hp : ¬ 0 ≤ firstH x.hops r) : alone1 (l.take (k + 1)) kd r = alone1 (l.take k) kd r := by
  unfold alone1
  rw [flat_succ _ h, if_neg hp, List.append_nil]
theorem pairs_succ {l : List Seg} {k : Nat} {x : Seg} (u : Seg) (h : l[k]? = some x) (hp : ¬ (joinUD u x).length = 0) : pairs1 u (l.take (k + 1)) = pairs1 u (l.take k) ++ [joinUD u x] := by
  unfold pairs1
  rw [flat_succ _ h, if_neg hp]
theorem pairs_skip {l : List Seg} {k : Nat} {x : Seg} (u : Seg) (h : l[k]? = some x) (hp : (joinUD u x).length = 0) : pairs1 u (l.take (k + 1)) = pairs1 u (l.take k) := by
  unfold pairs1
  rw [flat_succ _ h, if_pos hp, List.append_nil]
theorem alone_bd {l : List Seg} (hl : l.length ≤ 13) (k : Nat) (kd r : Int) : (alone1 (l.take k) kd r).length ≤ 13 := by
  have := alone_len (l.take k) kd r; have := take_le l k
  omega
theorem pairs_bd {l : List Seg} (hl : l.length ≤ 13) (u : Seg) (k : Nat) : (pairs1 u (l.take k)).length ≤ 13 := by
  have := pairs_len u (l.take k); have := take_le l k
  omega
theorem fm_bd {α β : Type} {f : α → List β} {c : Nat} (h : ∀ x, (f x).length ≤ c) {l : List α} (hl : l.length ≤ 13) (k : Nat) : ((l.take k).flatMap f).length ≤ 13 * c := by
  have h1 := fm_len h (l.take k); have h2 := take_le l k; exact Nat.le_trans h1 (Nat.mul_le_mul_right _ (by omega))
set_option maxHeartbeats 8000000 in
theorem impl_CombinePaths (t : Topo) (q : Sdb) (v v1 : Value) (a b : Int) (w : World) (h : VA topoT w v t) (h' : VA sdbT w v1 q) (hz : sz_topo t ≤ 1048576) (hz' : sz_sdb q ≤ 1048576) (hn : DbN q) : Calls Tryz.prog 45 #[v, v1, I a, I b] w fun e w' => ∃ v fp, e = .returned v ∧ SlO pathT 38 w.heap.size w' v (comb t q a b) fp ∧ Below w.heap.size w w' := by
 have hz1 : sz_segs q.down ≤ 1048576 := by unfold sz_sdb at hz'; omega
 have hn' : q.down.length + q.core.length ≤ 13 := hn; have hla := downs_len q a; have hlb := downs_len q b
 have hus : (downs q a).length ≤ 13 := by omega
 have hds : (downs q b).length ≤ 13 := by omega
 have hcl := cores_len (q := q) (by omega); have k0 := hcl seg0 a b seg0; have X0 := Below.refl w.heap.size w; refine enter Tryz.func45 rfl Tryz.ntmps45 rfl ?_; refine w_h ?_; refine t_boxr ‹_› rfl ?_ rfl rfl; intro p4 w1 x2 hp4; replace h := h.below x2; replace h' := h'.below x2; have X0 := ext_trans X0 x2; refine t_boxr ‹_› rfl ?_ rfl rfl; intro p5 w3 x4 hp5; replace h := h.below x4; replace h' := h'.below x4; replace hp4 := hp4.below x4; have X0 := ext_trans X0 x4; have S := Sep.nil w3; have B := Below.refl w3.heap.size w3; have Hb := Nat.le_refl w3.heap.size; refine t_a rfl ?_ rfl; refine t_e ?_; (iterate 2 refine w_s ?_); refine w_g ?_; (iterate 2 refine t_m rfl ?_ rfl); refine t_eql rfl rfl ?_ rfl; refine t_m rfl ?_ rfl; refine t_partp (t := 34) rfl ?_ ?_
 ·intro h1; (iterate 4 refine t_off rfl rfl rfl ?_ rfl); refine t_q rfl rfl ?_ rfl; refine t_m rfl ?_ rfl; (iterate 4 refine t_off rfl rfl rfl ?_ rfl); refine t_q rfl rfl ?_ rfl; refine t_e ?_; refine w_yes rfl ?_; refine w_h ?_; refine t_a rfl ?_ rfl; refine t_e ?_; refine w_r ?_; refine x_t ?_; refine x_ret1 rfl rfl ?_; exact ⟨_, [], rfl, by rw [comb, if_pos (.inl h1)]; exact SlO.nil, ext_trans X0 B⟩
 intro h1; refine t_on rfl rfl ?_; refine t_lda ‹_› ab_topo sb_topo B rfl ?_ rfl; intro v35 hv35; obtain ⟨v35_0, v35_1, rfl, hv35_0, hv35_1⟩ := topo_va hv35; refine t_on rfl rfl ?_; refine t_m rfl ?_ rfl; refine t_on rfl rfl ?_; refine t_x Tryz.call90 rfl (impl_isAS _ _ _ _ (by first | assumption | exact VA.below ‹_› B | exact topo_mkv (by first | assumption | exact SlR.below ‹_› B) (by first | assumption | exact SlR.below ‹_› B)) (by omega)) ?_ rfl rfl; intro w5 x6; have B := bx Hb B x6; have S := S.below x6; refine t_on rfl rfl ?_; refine t_notb rfl ?_ rfl; refine t_p rfl rfl ?_ rfl; refine t_m rfl ?_ rfl; refine t_part (t := 40) rfl ?_ ?_
 ·intro h2; (iterate 4 refine t_off rfl rfl rfl ?_ rfl); refine t_q rfl rfl ?_ rfl; refine t_e ?_; refine w_yes rfl ?_; refine w_h ?_; refine t_a rfl ?_ rfl; refine t_e ?_; refine w_r ?_; refine x_t ?_; refine x_ret1 rfl rfl ?_; exact ⟨_, [], rfl, by rw [comb, if_pos (.inr (.inl (by simpa using h2)))]; exact SlO.nil, ext_trans X0 B⟩
 intro h2; refine t_on rfl rfl ?_; refine t_lda ‹_› ab_topo sb_topo B rfl ?_ rfl; intro v41 hv41; obtain ⟨v41_0, v41_1, rfl, hv41_0, hv41_1⟩ := topo_va hv41; refine t_on rfl rfl ?_; refine t_m rfl ?_ rfl; refine t_on rfl rfl ?_; refine t_x Tryz.call90 rfl (impl_isAS _ _ _ _ (by first | assumption | exact VA.below ‹_› B | exact topo_mkv (by first | assumption | exact SlR.below ‹_› B) (by first | assumption | exact SlR.below ‹_› B)) (by omega)) ?_ rfl rfl; intro w7 x8; have B := bx Hb B x8; have S := S.below x8; refine t_on rfl rfl ?_; refine t_notb rfl ?_ rfl; refine t_p rfl rfl ?_ rfl; refine t_e ?_; refine w_ifb rfl ?_ ?_
 ·intro h3; refine w_h ?_; refine t_a rfl ?_ rfl; refine t_e ?_; refine w_r ?_; refine x_t ?_; refine x_ret1 rfl rfl ?_; exact ⟨_, [], rfl, by rw [comb, if_pos (.inr (.inr (by simpa using h3)))]; exact SlO.nil, ext_trans X0 B⟩
 intro h3
 have hA : isAS t a = true := by simpa using h2
 have hB : isAS t b = true := by simpa using h3
 have hcomb : comb t q a b = combL t q a b (downs q a) (downs q b) := by rw [comb, if_neg]; rintro (z | z | z); exact h1 z; rw [hA] at z; cases z; rw [hB] at z; cases z
 rw [hcomb]; refine w_k ?_; refine x_s ?_; refine w_s ?_; refine w_cut (X := Value × Value) (fun x wq => (fun u9 u10 => Below w3.heap.size w3 wq ∧ Sep w3.heap.size wq [slO segT 67 u9 (downs q a), slO segT 67 u10 (downs q b)]) x.1 x.2) (fun x => (fun u9 u10 => [(9, u9), (10, u10), (2, I a), (3, I b), (4, p4), (5, p5), (8, .slice none 0 0)]) x.1 x.2) ?_ ?_
 ·refine w_draw (.st .take 0 (.st .take 1 (.st .take 3 (.st .take 4 (.st .run 2 (.st .run 5 (.st .take 6 (.st .take 7 .done)))))))) mixed (by kernel_rfl) ?_; intro w9 x10; have B := bx Hb B x10; have S := S.below x10; refine t_lda ‹_› ab_sdb sb_sdb B rfl ?_ rfl; intro v46 hv46; obtain ⟨v46_0, v46_1, rfl, hv46_0, hv46_1⟩ := sdb_va hv46; refine t_m rfl ?_ rfl; refine t_lda ‹_› ab_sdb sb_sdb B rfl ?_ rfl; intro v49 hv49; obtain ⟨v49_0, v49_1, rfl, hv49_0, hv49_1⟩ := sdb_va hv49; refine t_m rfl ?_ rfl; refine t_c Tryz.call91 rfl (impl_DownSegments _ _ _ _ (by first | assumption | exact VA.below ‹_› B | exact sdb_mkv (by first | assumption | exact SlR.below ‹_› B) (by first | assumption | exact SlR.below ‹_› B)) (by omega)) ?_ rfl rfl; rintro e w11 ⟨v48, fpv48, rfl, hOv48, x12⟩; refine ⟨_, rfl, x12, ?_⟩; have S := S.add (o := slO _ _ _ _) x12 hOv48; have B := bx Hb B x12; refine t_c Tryz.call91 rfl (impl_DownSegments _ _ _ _ (by first | assumption | exact VA.below ‹_› B | exact sdb_mkv (by first | assumption | exact SlR.below ‹_› B) (by first | assumption | exact SlR.below ‹_› B)) (by omega)) ?_ rfl rfl; rintro e w13 ⟨v51, fpv51, rfl, hOv51, x14⟩; refine ⟨_, rfl, x14, ?_⟩
  have S := S.add (o := slO _ _ _ _) x14 hOv51; have B := bx Hb B x14; (iterate 2 refine t_a rfl ?_ rfl); refine t_d' ?_; have S := S.f1; refine x_cut (X := Value × Value) (v48, v51) ?_ ?_; rotate_left
  ·exact ⟨rfl, rfl, rfl, rfl, rfl, rfl, rfl, trivial⟩
  (try dsimp only); exact ⟨B, S⟩
 rintro ⟨u9, u10⟩ w15 hI; (try dsimp only at hI ⊢); obtain ⟨B, S⟩ := hI; have hu9 : SlR segT w15 u9 (downs q a) := S.sl; have hu10 : SlR segT w15 u10 (downs q b) := S.tail.sl; replace h := h.below B; replace h' := h'.below B; replace hp4 := hp4.below B; replace hp5 := hp5.below B; have X0 := ext_trans X0 B; have S := Sep.nil w15; have B := Below.refl w15.heap.size w15; have Hb := Nat.le_refl w15.heap.size; refine w_h ?_; refine t_a rfl ?_ rfl; refine t_e ?_; (iterate 2 refine w_s ?_); refine w_g ?_; refine t_m rfl ?_ rfl; refine t_len e_seg ‹_› rfl rfl ?_ rfl; refine t_m rfl ?_ rfl; refine t_e ?_; refine w_block ?_
 refine w_loop (X := Nat × List Path × Value) (fun x wq => (fun k out u => k ≤ (downs q a).length ∧ out = alone1 ((downs q a).take k) 1 b ∧ Below w15.heap.size w15 wq ∧ Sep w15.heap.size wq [slO pathT 38 u out]) x.1 x.2.1 x.2.2) (fun x => (fun k out u => [(54, I ((k : Int))), (11, u), (9, u9), (10, u10), (2, I a), (3, I b), (4, p4), (5, p5), (8, .slice none 0 0), (52, u9), (53, I ((((downs q a)).length : Int)))]) x.1 x.2.1 x.2.2) (fun x => (fun k out u => (downs q a).length - k) x.1 x.2.1 x.2.2) (0, [], _) ?_ ⟨rfl, rfl, rfl, rfl, rfl, rfl, rfl, rfl, rfl, rfl, rfl, trivial⟩ ?_
 ·exact ⟨by omega, rfl, B, S.addNil⟩
 rintro ⟨k, out, u⟩ w16 hI; (try dsimp only at hI ⊢); obtain ⟨hk, ho, B, S⟩ := hI
 have hol : out.length ≤ 13 := by rw [ho]; exact alone_bd hus k 1 b
 refine w_h ?_; refine t_lss rfl rfl ?_ rfl; refine t_e ?_; refine w_s ?_; refine w_if rfl ?_ ?_
 ·intro hlt; obtain ⟨sx, hx⟩ : ∃ e, (downs q a)[k]? = some e := getx (by omega); have hxz := downs_hops (List.mem_of_getElem? hx); refine w_k ?_; refine x_s ?_; refine w_s ?_; refine w_block ?_; refine w_h ?_; refine t_idx e_seg (k := k) ‹_› hx B rfl rfl (by first | rfl | omega) ?_ rfl; intro p56 hp56; refine t_lda ‹_› ab_seg sb_seg B rfl ?_ rfl; intro v57 hv57; obtain ⟨v57_2, rfl, hv57_2⟩ := seg_va hv57; refine t_w S z_seg rfl ?_ rfl rfl; intro g13 w17 x18 S; have B := bx Hb B x18; refine t_stn S sb_seg rfl rfl rfl rfl (by repeat first | exact oc0 | refine oc rfl ?_ | refine oc (SlR.cells ‹_›).2 ?_) ?_; intro w19 b20 S; have B := B.trans b20; refine t_k ?_; refine t_b S.box ab_seg sb_seg rfl rfl ?_ rfl; refine t_m rfl ?_ rfl; refine t_x Tryz.call92 rfl (impl_firstHopOf _ _ _ _ (by first | assumption | exact VA.below ‹_› B | exact seg_mkv (by first | assumption | exact SlR.below ‹_› B)) (by omega)) ?_ rfl rfl; intro w21 x22; have B := bx Hb B x22; have S := S.below x22; refine t_a rfl ?_ rfl; refine t_k ?_; refine t_m rfl ?_ rfl; refine t_geq rfl rfl ?_ rfl; refine t_e ?_; refine w_if rfl ?_ ?_
  ·intro hp; refine w_g ?_; refine t_m rfl ?_ rfl; refine t_b S.box ab_seg sb_seg rfl rfl ?_ rfl; refine t_m rfl ?_ rfl; refine t_c Tryz.call93 rfl (impl_MakePart _ _ _ _ _ (by first | assumption | exact VA.below ‹_› B | exact seg_mkv (by first | assumption | exact SlR.below ‹_› B)) (by omega)) ?_ rfl rfl; rintro e w23 ⟨cs66, fp66, rfl, hO66, x24⟩; refine ⟨_, rfl, x24, ?_⟩; have S := S.add (o := tyO partT _ _) x24 hO66; have B := bx Hb B x24; obtain ⟨u66_3, rfl, S2⟩ := S.partOpen; have S := S2; have S := S.partShut (x := makePart sx 1 (firstH sx.hops b)); refine t_lit1o S (fun w => bs_part1 _ _ _ _ w) rfl rfl ?_ rfl rfl; intro A67 w25 x26 S; have B := bx Hb B x26; refine t_g (fun w => b_path _ _ _ w) rfl ?_ rfl; refine t_lit1 (fun w => bs_path1 _ w) rfl ?_ rfl rfl; intro A69 w27 x28 hA69; have B := bx Hb B x28; have S := S.below x28; have S := S.pathShut (x := [makePart sx 1 (firstH sx.hops b)]); have S := S.f2; refine t_snoc e_path S hA69 rfl rfl rfl (by first | omega | (simp; done) | (simp; omega)) (by (simp only [maxLen]); first | omega | (simp; done) | (simp; omega)) ?_ rfl; intro v70 w29 x30 S; have B := B.trans x30; refine t_a rfl ?_ rfl; refine t_d ?_; refine x_b ?_
   refine x_s ?_; refine w_g ?_; refine t_add rfl rfl (by omega) ?_ rfl; refine t_m rfl ?_ rfl; refine t_d ?_; have S := S.f1.tail; refine x_r (X := Nat × List Path × Value) (k + 1, out ++ [[makePart sx 1 (firstH sx.hops b)]], v70) ?_ (by exact ⟨rfl, rfl, rfl, rfl, rfl, rfl, rfl, rfl, rfl, rfl, rfl, trivial⟩) (by (try dsimp only); omega); (try dsimp only); exact ⟨by omega, by rw [ho, alone_succ 1 b hx hp], B, S⟩
  ·intro hp; refine w_k ?_; refine x_b ?_; refine x_s ?_; refine w_g ?_; refine t_add rfl rfl (by omega) ?_ rfl; refine t_m rfl ?_ rfl; refine t_d ?_; have S := S.tail; refine x_r (X := Nat × List Path × Value) (k + 1, out, u) ?_ (by exact ⟨rfl, rfl, rfl, rfl, rfl, rfl, rfl, rfl, rfl, rfl, rfl, trivial⟩) (by (try dsimp only); omega); (try dsimp only); exact ⟨by omega, by rw [ho, alone_skip 1 b hx hp], B, S⟩
 intro hge; rw [List.take_of_length_le (by omega)] at ho; obtain ⟨o1, ho1⟩ : ∃ o, o = out := ⟨_, rfl⟩; rw [← ho1] at hol; refine w_exit ?_; (iterate 2 refine x_then_exit ?_); refine x_block_exit ?_; refine x_s ?_; (iterate 2 refine w_s ?_); refine w_g ?_; refine t_m rfl ?_ rfl; refine t_len e_seg ‹_› rfl rfl ?_ rfl; refine t_m rfl ?_ rfl; refine t_e ?_; refine w_block ?_; refine w_loop (X := Nat × List Path × Value) (fun x wq => (fun k out u => k ≤ (downs q b).length ∧ out = o1 ++ alone1 ((downs q b).take k) 4 a ∧ Below w15.heap.size w15 wq ∧ Sep w15.heap.size wq [slO pathT 38 u out]) x.1 x.2.1 x.2.2) (fun x => (fun k out u => [(74, I ((k : Int))), (11, u), (9, u9), (10, u10), (2, I a), (3, I b), (4, p4), (5, p5), (8, .slice none 0 0), (72, u10), (73, I ((((downs q b)).length : Int)))]) x.1 x.2.1 x.2.2) (fun x => (fun k out u => (downs q b).length - k) x.1 x.2.1 x.2.2) (0, out, _) ?_ ⟨rfl, rfl, rfl, rfl, rfl, rfl, rfl, rfl, rfl, rfl, rfl, trivial⟩ ?_
 ·exact ⟨by omega, by rw [ho1]; simp [alone1], B, S⟩
 rintro ⟨k, out, u⟩ w31 hI; (try dsimp only at hI ⊢); obtain ⟨hk2, ho2, B, S⟩ := hI
 rename_i out
 have hol2 : out.length ≤ 26 := by rw [ho2, List.length_append]; have := alone_bd hds k 4 a; omega
 refine w_h ?_; refine t_lss rfl rfl ?_ rfl; refine t_e ?_; refine w_s ?_; refine w_if rfl ?_ ?_
 ·intro hlt; obtain ⟨sx, hx⟩ : ∃ e, (downs q b)[k]? = some e := getx (by omega); have hxz := downs_hops (List.mem_of_getElem? hx); refine w_k ?_; refine x_s ?_; refine w_s ?_; refine w_block ?_; refine w_h ?_; refine t_idx e_seg (k := k) ‹_› hx B rfl rfl (by first | rfl | omega) ?_ rfl; intro p76 hp76; refine t_lda ‹_› ab_seg sb_seg B rfl ?_ rfl; intro v77 hv77; obtain ⟨v77_2, rfl, hv77_2⟩ := seg_va hv77; refine t_w S z_seg rfl ?_ rfl rfl; intro g16 w32 x33 S; have B := bx Hb B x33; refine t_stn S sb_seg rfl rfl rfl rfl (by repeat first | exact oc0 | refine oc rfl ?_ | refine oc (SlR.cells ‹_›).2 ?_) ?_; intro w34 b35 S; have B := B.trans b35; refine t_k ?_; refine t_b S.box ab_seg sb_seg rfl rfl ?_ rfl; refine t_m rfl ?_ rfl; refine t_x Tryz.call92 rfl (impl_firstHopOf _ _ _ _ (by first | assumption | exact VA.below ‹_› B | exact seg_mkv (by first | assumption | exact SlR.below ‹_› B)) (by omega)) ?_ rfl rfl; intro w36 x37; have B := bx Hb B x37; have S := S.below x37; refine t_a rfl ?_ rfl; refine t_k ?_; refine t_m rfl ?_ rfl; refine t_geq rfl rfl ?_ rfl; refine t_e ?_; refine w_if rfl ?_ ?_
  ·intro hp; refine w_g ?_; refine t_m rfl ?_ rfl; refine t_b S.box ab_seg sb_seg rfl rfl ?_ rfl; refine t_m rfl ?_ rfl; refine t_c Tryz.call93 rfl (impl_MakePart _ _ _ _ _ (by first | assumption | exact VA.below ‹_› B | exact seg_mkv (by first | assumption | exact SlR.below ‹_› B)) (by omega)) ?_ rfl rfl; rintro e w38 ⟨cs86, fp86, rfl, hO86, x39⟩; refine ⟨_, rfl, x39, ?_⟩; have S := S.add (o := tyO partT _ _) x39 hO86; have B := bx Hb B x39; obtain ⟨u86_3, rfl, S2⟩ := S.partOpen; have S := S2; have S := S.partShut (x := makePart sx 4 (firstH sx.hops a)); refine t_lit1o S (fun w => bs_part1 _ _ _ _ w) rfl rfl ?_ rfl rfl; intro A87 w40 x41 S; have B := bx Hb B x41; refine t_g (fun w => b_path _ _ _ w) rfl ?_ rfl; refine t_lit1 (fun w => bs_path1 _ w) rfl ?_ rfl rfl; intro A89 w42 x43 hA89; have B := bx Hb B x43; have S := S.below x43; have S := S.pathShut (x := [makePart sx 4 (firstH sx.hops a)]); have S := S.f2; refine t_snoc e_path S hA89 rfl rfl rfl (by first | omega | (simp; done) | (simp; omega)) (by (simp only [maxLen]); first | omega | (simp; done) | (simp; omega)) ?_ rfl; intro v90 w44 x45 S; have B := B.trans x45; refine t_a rfl ?_ rfl; refine t_d ?_; refine x_b ?_
   refine x_s ?_; refine w_g ?_; refine t_add rfl rfl (by omega) ?_ rfl; refine t_m rfl ?_ rfl; refine t_d ?_; have S := S.f1.tail; refine x_r (X := Nat × List Path × Value) (k + 1, out ++ [[makePart sx 4 (firstH sx.hops a)]], v90) ?_ (by exact ⟨rfl, rfl, rfl, rfl, rfl, rfl, rfl, rfl, rfl, rfl, rfl, trivial⟩) (by (try dsimp only); omega); (try dsimp only); exact ⟨by omega, by rw [ho2, alone_succ 4 a hx hp, List.append_assoc], B, S⟩
  ·intro hp; refine w_k ?_; refine x_b ?_; refine x_s ?_; refine w_g ?_; refine t_add rfl rfl (by omega) ?_ rfl; refine t_m rfl ?_ rfl; refine t_d ?_; have S := S.tail; refine x_r (X := Nat × List Path × Value) (k + 1, out, u) ?_ (by exact ⟨rfl, rfl, rfl, rfl, rfl, rfl, rfl, rfl, rfl, rfl, rfl, trivial⟩) (by (try dsimp only); omega); (try dsimp only); exact ⟨by omega, by rw [ho2, alone_skip 4 a hx hp], B, S⟩
 intro hge2; rw [List.take_of_length_le (by omega)] at ho2; refine w_exit ?_; (iterate 2 refine x_then_exit ?_); refine x_block_exit ?_; refine x_s ?_; refine w_h ?_; refine t_m rfl ?_ rfl; refine t_lda ‹_› ab_sdb sb_sdb B rfl ?_ rfl; intro v93 hv93; obtain ⟨v93_0, v93_1, rfl, hv93_0, hv93_1⟩ := sdb_va hv93; refine t_g (fun w => b_seg0 w) rfl ?_ rfl; (iterate 2 refine t_m rfl ?_ rfl); refine t_g (fun w => b_seg0 w) rfl ?_ rfl; refine t_c Tryz.call94 rfl (impl_throughCore q seg0 seg0 _ _ _ _ _ _ (by first | assumption | exact VA.below ‹_› B | exact sdb_mkv (by first | assumption | exact SlR.below ‹_› B) (by first | assumption | exact SlR.below ‹_› B)) (seg_mkv (x := seg0) nilR) (seg_mkv (x := seg0) nilR) (by omega) (by first | omega | (show 0 ≤ 1048576; omega)) (by first | omega | (show 0 ≤ 1048576; omega))) ?_ rfl rfl; rintro e w46 ⟨v98, fpv98, rfl, hOv98, x47⟩; refine ⟨_, rfl, x47, ?_⟩; have S := S.add (o := slO _ _ _ _) x47 hOv98; have B := bx Hb B x47; have S := S.f1; refine t_mvw e_path S rfl rfl rfl (by first | omega | (simp; done) | (simp; omega)) (by (simp only [maxLen]); first | omega | (simp; done) | (simp; omega)) ?_ rfl; intro v99 w48 x49 S; have B := B.trans x49
 refine t_a rfl ?_ rfl; refine t_e ?_; (iterate 2 refine w_s ?_); refine w_g ?_; refine t_m rfl ?_ rfl; refine t_len e_seg ‹_› rfl rfl ?_ rfl; refine t_m rfl ?_ rfl; refine t_e ?_; refine w_block ?_; obtain ⟨o3, ho3⟩ : ∃ o, o = out ++ cores q seg0 a b seg0 := ⟨_, rfl⟩
 have hol3 : o3.length ≤ 52 := by rw [ho3, List.length_append]; omega
 refine w_loop (X := Nat × List Path × Value) (fun x wq => (fun i out u => i ≤ (downs q a).length ∧ out = o3 ++ ((downs q a).take i).flatMap (fun u => pairs1 u (downs q b)) ∧ Below w15.heap.size w15 wq ∧ Sep w15.heap.size wq [slO pathT 38 u out]) x.1 x.2.1 x.2.2) (fun x => (fun i out u => [(102, I ((i : Int))), (11, u), (9, u9), (10, u10), (2, I a), (3, I b), (4, p4), (5, p5), (8, .slice none 0 0), (100, u9), (101, I ((((downs q a)).length : Int)))]) x.1 x.2.1 x.2.2) (fun x => (fun i out u => (downs q a).length - i) x.1 x.2.1 x.2.2) (0, o3, _) ?_ ⟨rfl, rfl, rfl, rfl, rfl, rfl, rfl, rfl, rfl, rfl, rfl, trivial⟩ ?_
 ·exact ⟨by omega, by simp, B, by rw [ho3]; exact S⟩
 rintro ⟨i, out, u⟩ w50 hI; (try dsimp only at hI ⊢); obtain ⟨hi4, ho4, B, S⟩ := hI
 have hol4 : out.length ≤ 221 := by rw [ho4, List.length_append]; have := fm_bd (f := fun u => pairs1 u (downs q b)) (c := 13) (fun u => by have := pairs_len u (downs q b); omega) hus i; omega
 refine w_h ?_; refine t_lss rfl rfl ?_ rfl; refine t_e ?_; refine w_s ?_; refine w_if rfl ?_ ?_
 ·intro hlt; obtain ⟨sx, hx⟩ : ∃ e, (downs q a)[i]? = some e := getx (by omega); have hxz := downs_hops (List.mem_of_getElem? hx); obtain ⟨o4, ho4'⟩ : ∃ o, o = out := ⟨_, rfl⟩; rw [← ho4'] at hol4; refine w_k ?_; refine x_s ?_; refine w_s ?_; refine w_block ?_; refine w_h ?_; refine t_idx e_seg (k := i) ‹_› hx B rfl rfl (by first | rfl | omega) ?_ rfl; intro p104 hp104; refine t_lda ‹_› ab_seg sb_seg B rfl ?_ rfl; intro v105 hv105; obtain ⟨v105_2, rfl, hv105_2⟩ := seg_va hv105; refine t_w S z_seg rfl ?_ rfl rfl; intro g19 w51 x52 S; have B := bx Hb B x52; refine t_stn S sb_seg rfl rfl rfl rfl (by repeat first | exact oc0 | refine oc rfl ?_ | refine oc (SlR.cells ‹_›).2 ?_) ?_; intro w53 b54 S; have B := B.trans b54; refine t_k ?_; refine t_m rfl ?_ rfl; refine t_len e_seg ‹_› rfl rfl ?_ rfl; refine t_m rfl ?_ rfl; refine t_e ?_; refine w_block ?_
  refine w_loop (X := Nat × List Path × Value) (fun x wq => (fun j out u => j ≤ (downs q b).length ∧ out = o4 ++ pairs1 sx ((downs q b).take j) ∧ Below w15.heap.size w15 wq ∧ Sep w15.heap.size wq [slO pathT 38 u out, bxO g19 67 #[I sx.ts, I sx.beta, v105_2]]) x.1 x.2.1 x.2.2) (fun x => (fun j out u => [(108, I ((j : Int))), (11, u), (102, I ((i : Int))), (9, u9), (10, u10), (2, I a), (3, I b), (4, p4), (5, p5), (8, .slice none 0 0), (100, u9), (101, I ((((downs q a)).length : Int))), (19, .pointer (some ⟨g19, 0, none⟩)), (106, u10), (107, I ((((downs q b)).length : Int)))]) x.1 x.2.1 x.2.2) (fun x => (fun j out u => (downs q b).length - j) x.1 x.2.1 x.2.2) (0, out, _) ?_ ⟨rfl, rfl, rfl, rfl, rfl, rfl, rfl, rfl, rfl, rfl, rfl, rfl, rfl, rfl, rfl, trivial⟩ ?_
  ·exact ⟨by omega, by rw [ho4']; simp [pairs1], B, S.f1⟩
  rintro ⟨j, out, u⟩ w55 hI; (try dsimp only at hI ⊢); obtain ⟨hj, ho5, B, S⟩ := hI
  have hol5 : out.length ≤ 234 := by rw [ho5, List.length_append]; have := pairs_bd hds sx j; omega
  refine w_h ?_; refine t_lss rfl rfl ?_ rfl; refine t_e ?_; refine w_s ?_; refine w_if rfl ?_ ?_
  ·intro hlt2; obtain ⟨y, hy⟩ : ∃ e, (downs q b)[j]? = some e := getx (by omega); have hyz := downs_hops (List.mem_of_getElem? hy); refine w_k ?_; refine x_s ?_; refine w_s ?_; refine w_block ?_; refine w_h ?_; refine t_idx e_seg (k := j) ‹_› hy B rfl rfl (by first | rfl | omega) ?_ rfl; intro p110 hp110; refine t_lda ‹_› ab_seg sb_seg B rfl ?_ rfl; intro v111 hv111; obtain ⟨v111_2, rfl, hv111_2⟩ := seg_va hv111; refine t_w S z_seg rfl ?_ rfl rfl; intro g21 w56 x57 S; have B := bx Hb B x57; refine t_stn S sb_seg rfl rfl rfl rfl (by repeat first | exact oc0 | refine oc rfl ?_ | refine oc (SlR.cells ‹_›).2 ?_) ?_; intro w58 b59 S; have B := B.trans b59; refine t_k ?_; refine t_b S.tail.tail.box ab_seg sb_seg rfl rfl ?_ rfl; refine t_b S.box ab_seg sb_seg rfl rfl ?_ rfl; refine t_c Tryz.call49 rfl (impl_JoinUpDown sx y _ _ _ (by first | assumption | exact VA.below ‹_› B | exact seg_mkv (by first | assumption | exact SlR.below ‹_› B)) (by first | assumption | exact VA.below ‹_› B | exact seg_mkv (by first | assumption | exact SlR.below ‹_› B)) (by omega) (by omega)) ?_ rfl rfl; rintro e w60 ⟨cs114, fp114, rfl, hO114, x61⟩; refine ⟨_, rfl, x61, ?_⟩
   have S := S.add (o := tyO pathT _ _) x61 hO114; have B := bx Hb B x61; obtain ⟨u114_0, rfl, S2⟩ := S.pathOpen; have S := S2; refine t_w S z_path rfl ?_ rfl rfl; intro g22 w62 x63 S; have B := bx Hb B x63; refine t_stn S sb_path rfl rfl rfl rfl (by repeat first | exact oc0 | refine oc rfl ?_ | refine oc (SlR.cells (S.tail.sl)).2 ?_) ?_; intro w64 b65 S; have B := B.trans b65; refine t_k ?_; refine t_y fb_path_0 rfl rfl ?_ rfl; refine t_bx1 S.box ab_s_part rfl rfl ?_ rfl; refine t_len e_part (S.tail.sl) rfl rfl ?_ rfl; refine t_gtr rfl rfl ?_ rfl; refine t_e ?_; refine w_if rfl ?_ ?_
   ·intro hp; refine w_g ?_; refine t_m rfl ?_ rfl; refine t_b S.box ab_path sb_path rfl rfl ?_ rfl; refine t_lit1 (fun w => bs_path1 _ w) rfl ?_ rfl rfl; intro A121 w66 x67 hA121; have B := bx Hb B x67; have S := S.below x67; have S := S.f1; have S := S.pathShut (x := joinUD sx y); have S := S.f3; refine t_snoc e_path S hA121 rfl rfl rfl (by first | omega | (simp; done) | (simp; omega)) (by (simp only [maxLen]); first | omega | (simp; done) | (simp; omega)) ?_ rfl; intro v122 w68 x69 S; have B := B.trans x69; refine t_a rfl ?_ rfl; refine t_d ?_; refine x_b ?_; refine x_s ?_; refine w_g ?_; refine t_add rfl rfl (by omega) ?_ rfl; refine t_m rfl ?_ rfl; refine t_d ?_; have S := S.f1.tail.f1.tail; refine x_r (X := Nat × List Path × Value) (j + 1, out ++ [joinUD sx y], v122) ?_ (by exact ⟨rfl, rfl, rfl, rfl, rfl, rfl, rfl, rfl, rfl, rfl, rfl, rfl, rfl, rfl, rfl, trivial⟩) (by (try dsimp only); omega); (try dsimp only); exact ⟨by omega, by rw [ho5, pairs_succ sx hy (by omega), List.append_assoc], B, S⟩
   ·intro hp; refine w_k ?_; refine x_b ?_; refine x_s ?_; refine w_g ?_; refine t_add rfl rfl (by omega) ?_ rfl; refine t_m rfl ?_ rfl; refine t_d ?_; have S := S.tail.tail.tail; refine x_r (X := Nat × List Path × Value) (j + 1, out, u) ?_ (by exact ⟨rfl, rfl, rfl, rfl, rfl, rfl, rfl, rfl, rfl, rfl, rfl, rfl, rfl, rfl, rfl, trivial⟩) (by (try dsimp only); omega); (try dsimp only); exact ⟨by omega, by rw [ho5, pairs_skip sx hy (by omega)], B, S⟩
  intro hge3; rw [List.take_of_length_le (by omega)] at ho5; refine w_exit ?_; (iterate 2 refine x_then_exit ?_); refine x_block_exit ?_; refine x_b ?_; refine x_s ?_; refine w_g ?_; refine t_add rfl rfl (by omega) ?_ rfl; refine t_m rfl ?_ rfl; refine t_d ?_; have S := S.f1.tail; refine x_r (X := Nat × List Path × Value) (i + 1, out, u) ?_ (by exact ⟨rfl, rfl, rfl, rfl, rfl, rfl, rfl, rfl, rfl, rfl, rfl, trivial⟩) (by (try dsimp only); omega); (try dsimp only); exact ⟨by omega, by rw [ho5, ho4', ho4, flat_succ _ hx, List.append_assoc], B, S⟩
 intro hge4; rw [List.take_of_length_le (by omega)] at ho4; obtain ⟨o4, ho4'⟩ : ∃ o, o = out := ⟨_, rfl⟩; rw [← ho4'] at hol4; refine w_exit ?_; (iterate 2 refine x_then_exit ?_); refine x_block_exit ?_; refine x_s ?_; refine w_s ?_; refine w_cut (X := List Path × Value) (fun x wq => (fun out u => out = o4 ++ (if coreAt t a then (downs q b).flatMap fun d => cores q seg0 a (firstS d) d else []) ∧ Below w15.heap.size w15 wq ∧ Sep w15.heap.size wq [slO pathT 38 u out]) x.1 x.2) (fun x => (fun out u => [(11, u), (9, u9), (10, u10), (3, I b), (4, p4), (5, p5), (8, .slice none 0 0)]) x.1 x.2) ?_ ?_
 ·refine w_s ?_; refine w_g ?_; refine t_lda ‹_› ab_topo sb_topo B rfl ?_ rfl; intro v125 hv125; obtain ⟨v125_0, v125_1, rfl, hv125_0, hv125_1⟩ := topo_va hv125; refine t_m rfl ?_ rfl; refine t_x Tryz.call95 rfl (impl_isCore _ _ _ _ (by first | assumption | exact VA.below ‹_› B | exact topo_mkv (by first | assumption | exact SlR.below ‹_› B) (by first | assumption | exact SlR.below ‹_› B)) (by omega)) ?_ rfl rfl; intro w70 x71; have B := bx Hb B x71; have S := S.below x71; refine t_e ?_; refine w_ifb rfl ?_ ?_
  ·intro hca
   have hca' : coreAt t a = true := by simpa [hA] using hca
   refine w_h ?_; refine t_m rfl ?_ rfl; refine t_len e_seg ‹_› rfl rfl ?_ rfl; refine t_m rfl ?_ rfl; refine t_e ?_; refine w_block ?_; refine w_loop (X := Nat × List Path × Value) (fun x wq => (fun k out u => k ≤ (downs q b).length ∧ out = o4 ++ ((downs q b).take k).flatMap (fun d => cores q seg0 a (firstS d) d) ∧ Below w15.heap.size w15 wq ∧ Sep w15.heap.size wq [slO pathT 38 u out]) x.1 x.2.1 x.2.2) (fun x => (fun k out u => [(130, I ((k : Int))), (11, u), (9, u9), (10, u10), (2, I a), (3, I b), (4, p4), (5, p5), (8, .slice none 0 0), (128, u10), (129, I ((((downs q b)).length : Int)))]) x.1 x.2.1 x.2.2) (fun x => (fun k out u => (downs q b).length - k) x.1 x.2.1 x.2.2) (0, out, _) ?_ ⟨rfl, rfl, rfl, rfl, rfl, rfl, rfl, rfl, rfl, rfl, rfl, trivial⟩ ?_
   ·exact ⟨by omega, by rw [ho4']; simp, B, S⟩
   rintro ⟨k, out, u⟩ w72 hI; (try dsimp only at hI ⊢); obtain ⟨hk, ho5, B, S⟩ := hI
   have hol5 : out.length ≤ 559 := by rw [ho5, List.length_append]; have := fm_bd (f := fun d => cores q seg0 a (firstS d) d) (c := 26) (fun d => hcl _ _ _ _) hds k; omega
   refine w_h ?_; refine t_lss rfl rfl ?_ rfl; refine t_e ?_; refine w_s ?_; refine w_if rfl ?_ ?_
   ·intro hlt; obtain ⟨sx, hx⟩ : ∃ e, (downs q b)[k]? = some e := getx (by omega); have hxz := downs_hops (List.mem_of_getElem? hx); have kx := hcl seg0 a (firstS sx) sx; refine w_k ?_; refine x_s ?_; refine w_s ?_; refine w_block ?_; refine w_h ?_; refine t_idx e_seg (k := k) ‹_› hx B rfl rfl (by first | rfl | omega) ?_ rfl; intro p132 hp132; refine t_lda ‹_› ab_seg sb_seg B rfl ?_ rfl; intro v133 hv133; obtain ⟨v133_2, rfl, hv133_2⟩ := seg_va hv133; refine t_w S z_seg rfl ?_ rfl rfl; intro g24 w73 x74 S; have B := bx Hb B x74; refine t_stn S sb_seg rfl rfl rfl rfl (by repeat first | exact oc0 | refine oc rfl ?_ | refine oc (SlR.cells ‹_›).2 ?_) ?_; intro w75 b76 S; have B := B.trans b76; refine t_e ?_; refine w_draw (.st .take 0 (.st .take 1 (.st .take 2 (.st .take 3 (.st .take 4 (.st .take 6 (.st .run 5 (.st .run 7 (.st .fin 8 (.st .fin 9 .done)))))))))) mixed (by kernel_rfl) ?_; intro w77 x78; have B := bx Hb B x78; have S := S.below x78; refine t_m rfl ?_ rfl; refine t_lda ‹_› ab_sdb sb_sdb B rfl ?_ rfl; intro v135 hv135; obtain ⟨v135_0, v135_1, rfl, hv135_0, hv135_1⟩ := sdb_va hv135; refine t_g (fun w => b_seg0 w) rfl ?_ rfl; refine t_m rfl ?_ rfl
    (iterate 2 refine t_b S.box ab_seg sb_seg rfl rfl ?_ rfl); refine t_x Tryz.call96 rfl (impl_FirstAS sx _ _ (by first | assumption | exact VA.below ‹_› B | exact seg_mkv (by first | assumption | exact SlR.below ‹_› B)) (by omega)) ?_ rfl rfl; intro w79 x80; have B := bx Hb B x80; have S := S.below x80; refine t_c Tryz.call94 rfl (impl_throughCore q seg0 sx _ _ _ _ _ _ (by first | assumption | exact VA.below ‹_› B | exact sdb_mkv (by first | assumption | exact SlR.below ‹_› B) (by first | assumption | exact SlR.below ‹_› B)) (seg_mkv (x := seg0) nilR) (by first | assumption | exact VA.below ‹_› B | exact seg_mkv (by first | assumption | exact SlR.below ‹_› B)) (by omega) (by first | omega | (show 0 ≤ 1048576; omega)) (by first | omega | (show 0 ≤ 1048576; omega))) ?_ rfl rfl; rintro e w81 ⟨v141, fpv141, rfl, hOv141, x82⟩; refine ⟨_, rfl, x82, ?_⟩; have S := S.add (o := slO _ _ _ _) x82 hOv141; have B := bx Hb B x82; have S := S.f2; refine t_mvw e_path S rfl rfl rfl (by first | omega | (simp; done) | (simp; omega)) (by (simp only [maxLen]); first | omega | (simp; done) | (simp; omega)) ?_ rfl; intro v142 w83 x84 S; have B := B.trans x84; refine t_a rfl ?_ rfl; refine t_d' ?_
    refine x_b ?_; refine x_s ?_; refine w_g ?_; refine t_add rfl rfl (by omega) ?_ rfl; refine t_m rfl ?_ rfl; refine t_d ?_; have S := S.f1.tail; refine x_r (X := Nat × List Path × Value) (k + 1, out ++ cores q seg0 a (firstS sx) sx, v142) ?_ (by exact ⟨rfl, rfl, rfl, rfl, rfl, rfl, rfl, rfl, rfl, rfl, rfl, trivial⟩) (by (try dsimp only); omega); (try dsimp only); exact ⟨by omega, by rw [ho5, flat_succ _ hx, List.append_assoc], B, S⟩
   intro hge; rw [List.take_of_length_le (by omega)] at ho5; refine w_exit ?_; (iterate 2 refine x_then_exit ?_); refine x_block_exit ?_; refine x_cut (X := List Path × Value) (out, u) ?_ ?_; rotate_left
   ·exact ⟨rfl, rfl, rfl, rfl, rfl, rfl, rfl, trivial⟩
   (try dsimp only); exact ⟨by rw [ho5, if_pos hca'], B, S⟩
  ·intro hca
   have hca' : ¬ coreAt t a = true := by simpa [hA] using hca
   refine w_k ?_; refine x_cut (X := List Path × Value) (out, u) ?_ ?_; rotate_left
   ·exact ⟨rfl, rfl, rfl, rfl, rfl, rfl, rfl, trivial⟩
   (try dsimp only); exact ⟨by rw [if_neg hca', List.append_nil, ho4'], B, S⟩
 rintro ⟨out, u⟩ w85 hI; (try dsimp only at hI ⊢); obtain ⟨ho5, B, S⟩ := hI
 have hol5 : out.length ≤ 559 := by rw [ho5, List.length_append]; have := fm_len (f := fun d => cores q seg0 a (firstS d) d) (c := 26) (fun d => hcl _ _ _ _) (downs q b); split; omega; simp; omega
 obtain ⟨o5, ho5'⟩ : ∃ o, o = out := ⟨_, rfl⟩; rw [← ho5'] at hol5; refine w_s ?_; refine w_cut (X := List Path × Value) (fun x wq => (fun out u => out = o5 ++ (if coreAt t b then (downs q a).flatMap fun d => cores q d (firstS d) b seg0 else []) ∧ Below w15.heap.size w15 wq ∧ Sep w15.heap.size wq [slO pathT 38 u out]) x.1 x.2) (fun x => (fun out u => [(11, u), (9, u9), (10, u10), (5, p5), (8, .slice none 0 0)]) x.1 x.2) ?_ ?_
 ·refine w_s ?_; refine w_g ?_; refine t_lda ‹_› ab_topo sb_topo B rfl ?_ rfl; intro v144 hv144; obtain ⟨v144_0, v144_1, rfl, hv144_0, hv144_1⟩ := topo_va hv144; refine t_m rfl ?_ rfl; refine t_x Tryz.call95 rfl (impl_isCore _ _ _ _ (by first | assumption | exact VA.below ‹_› B | exact topo_mkv (by first | assumption | exact SlR.below ‹_› B) (by first | assumption | exact SlR.below ‹_› B)) (by omega)) ?_ rfl rfl; intro w86 x87; have B := bx Hb B x87; have S := S.below x87; refine t_e ?_; refine w_ifb rfl ?_ ?_
  ·intro hca
   have hca' : coreAt t b = true := by simpa [hB] using hca
   refine w_h ?_; refine t_m rfl ?_ rfl; refine t_len e_seg ‹_› rfl rfl ?_ rfl; refine t_m rfl ?_ rfl; refine t_e ?_; refine w_block ?_; refine w_loop (X := Nat × List Path × Value) (fun x wq => (fun k out u => k ≤ (downs q a).length ∧ out = o5 ++ ((downs q a).take k).flatMap (fun d => cores q d (firstS d) b seg0) ∧ Below w15.heap.size w15 wq ∧ Sep w15.heap.size wq [slO pathT 38 u out]) x.1 x.2.1 x.2.2) (fun x => (fun k out u => [(149, I ((k : Int))), (11, u), (9, u9), (10, u10), (3, I b), (5, p5), (8, .slice none 0 0), (147, u9), (148, I ((((downs q a)).length : Int)))]) x.1 x.2.1 x.2.2) (fun x => (fun k out u => (downs q a).length - k) x.1 x.2.1 x.2.2) (0, out, _) ?_ ⟨rfl, rfl, rfl, rfl, rfl, rfl, rfl, rfl, rfl, trivial⟩ ?_
   ·exact ⟨by omega, by rw [ho5']; simp, B, S⟩
   rintro ⟨k, out, u⟩ w88 hI; (try dsimp only at hI ⊢); obtain ⟨hk, ho6, B, S⟩ := hI
   have hol6 : out.length ≤ 897 := by rw [ho6, List.length_append]; have := fm_bd (f := fun d => cores q d (firstS d) b seg0) (c := 26) (fun d => hcl _ _ _ _) hus k; omega
   refine w_h ?_; refine t_lss rfl rfl ?_ rfl; refine t_e ?_; refine w_s ?_; refine w_if rfl ?_ ?_
   ·intro hlt; obtain ⟨sx, hx⟩ : ∃ e, (downs q a)[k]? = some e := getx (by omega); have hxz := downs_hops (List.mem_of_getElem? hx); have kx := hcl sx (firstS sx) b seg0; refine w_k ?_; refine x_s ?_; refine w_s ?_; refine w_block ?_; refine w_h ?_; refine t_idx e_seg (k := k) ‹_› hx B rfl rfl (by first | rfl | omega) ?_ rfl; intro p151 hp151; refine t_lda ‹_› ab_seg sb_seg B rfl ?_ rfl; intro v152 hv152; obtain ⟨v152_2, rfl, hv152_2⟩ := seg_va hv152; refine t_w S z_seg rfl ?_ rfl rfl; intro g26 w89 x90 S; have B := bx Hb B x90; refine t_stn S sb_seg rfl rfl rfl rfl (by repeat first | exact oc0 | refine oc rfl ?_ | refine oc (SlR.cells ‹_›).2 ?_) ?_; intro w91 b92 S; have B := B.trans b92; refine t_e ?_; refine w_draw (.st .take 0 (.st .take 1 (.st .take 2 (.st .take 3 (.st .take 5 (.st .take 6 (.st .run 4 (.st .run 7 (.st .fin 8 (.st .fin 9 .done)))))))))) mixed (by kernel_rfl) ?_; intro w93 x94; have B := bx Hb B x94; have S := S.below x94; refine t_m rfl ?_ rfl; refine t_lda ‹_› ab_sdb sb_sdb B rfl ?_ rfl; intro v154 hv154; obtain ⟨v154_0, v154_1, rfl, hv154_0, hv154_1⟩ := sdb_va hv154; (iterate 2 refine t_b S.box ab_seg sb_seg rfl rfl ?_ rfl); refine t_m rfl ?_ rfl
    refine t_g (fun w => b_seg0 w) rfl ?_ rfl; refine t_x Tryz.call96 rfl (impl_FirstAS sx _ _ (by first | assumption | exact VA.below ‹_› B | exact seg_mkv (by first | assumption | exact SlR.below ‹_› B)) (by omega)) ?_ rfl rfl; intro w95 x96; have B := bx Hb B x96; have S := S.below x96; refine t_c Tryz.call94 rfl (impl_throughCore q sx seg0 _ _ _ _ _ _ (by first | assumption | exact VA.below ‹_› B | exact sdb_mkv (by first | assumption | exact SlR.below ‹_› B) (by first | assumption | exact SlR.below ‹_› B)) (by first | assumption | exact VA.below ‹_› B | exact seg_mkv (by first | assumption | exact SlR.below ‹_› B)) (seg_mkv (x := seg0) nilR) (by omega) (by first | omega | (show 0 ≤ 1048576; omega)) (by first | omega | (show 0 ≤ 1048576; omega))) ?_ rfl rfl; rintro e w97 ⟨v160, fpv160, rfl, hOv160, x98⟩; refine ⟨_, rfl, x98, ?_⟩; have S := S.add (o := slO _ _ _ _) x98 hOv160; have B := bx Hb B x98; have S := S.f2; refine t_mvw e_path S rfl rfl rfl (by first | omega | (simp; done) | (simp; omega)) (by (simp only [maxLen]); first | omega | (simp; done) | (simp; omega)) ?_ rfl; intro v161 w99 x100 S; have B := B.trans x100; refine t_a rfl ?_ rfl; refine t_d' ?_; refine x_b ?_
    refine x_s ?_; refine w_g ?_; refine t_add rfl rfl (by omega) ?_ rfl; refine t_m rfl ?_ rfl; refine t_d ?_; have S := S.f1.tail; refine x_r (X := Nat × List Path × Value) (k + 1, out ++ cores q sx (firstS sx) b seg0, v161) ?_ (by exact ⟨rfl, rfl, rfl, rfl, rfl, rfl, rfl, rfl, rfl, trivial⟩) (by (try dsimp only); omega); (try dsimp only); exact ⟨by omega, by rw [ho6, flat_succ _ hx, List.append_assoc], B, S⟩
   intro hge; rw [List.take_of_length_le (by omega)] at ho6; refine w_exit ?_; (iterate 2 refine x_then_exit ?_); refine x_block_exit ?_; refine x_cut (X := List Path × Value) (out, u) ?_ ?_; rotate_left
   ·exact ⟨rfl, rfl, rfl, rfl, rfl, trivial⟩
   (try dsimp only); exact ⟨by rw [ho6, if_pos hca'], B, S⟩
  ·intro hca
   have hca' : ¬ coreAt t b = true := by simpa [hB] using hca
   refine w_k ?_; refine x_cut (X := List Path × Value) (out, u) ?_ ?_; rotate_left
   ·exact ⟨rfl, rfl, rfl, rfl, rfl, trivial⟩
   (try dsimp only); exact ⟨by rw [if_neg hca', List.append_nil, ho5'], B, S⟩
 rintro ⟨out, u⟩ w101 hI; (try dsimp only at hI ⊢); obtain ⟨ho6, B, S⟩ := hI
 have hol6 : out.length ≤ 897 := by rw [ho6, List.length_append]; have := fm_len (f := fun d => cores q d (firstS d) b seg0) (c := 26) (fun d => hcl _ _ _ _) (downs q a); split; omega; simp; omega
 obtain ⟨o6, ho6'⟩ : ∃ o, o = out := ⟨_, rfl⟩; rw [← ho6'] at hol6; (iterate 2 refine w_s ?_); refine w_g ?_; refine t_m rfl ?_ rfl; refine t_len e_seg ‹_› rfl rfl ?_ rfl; refine t_m rfl ?_ rfl; refine t_e ?_; refine w_block ?_; refine w_loop (X := Nat × List Path × Value) (fun x wq => (fun i out u => i ≤ (downs q a).length ∧ out = o6 ++ ((downs q a).take i).flatMap (fun u => (downs q b).flatMap fun d => cores q u (firstS u) (firstS d) d) ∧ Below w15.heap.size w15 wq ∧ Sep w15.heap.size wq [slO pathT 38 u out]) x.1 x.2.1 x.2.2) (fun x => (fun i out u => [(165, I ((i : Int))), (11, u), (10, u10), (5, p5), (8, .slice none 0 0), (163, u9), (164, I ((((downs q a)).length : Int)))]) x.1 x.2.1 x.2.2) (fun x => (fun i out u => (downs q a).length - i) x.1 x.2.1 x.2.2) (0, out, _) ?_ ⟨rfl, rfl, rfl, rfl, rfl, rfl, rfl, trivial⟩ ?_
 ·exact ⟨by omega, by rw [ho6']; simp, B, S⟩
 rintro ⟨i, out, u⟩ w102 hI; (try dsimp only at hI ⊢); obtain ⟨hi7, ho7, B, S⟩ := hI
 have hol7 : out.length ≤ 5291 := by
  rw [ho7, List.length_append]; have := fm_bd (f := fun u => (downs q b).flatMap fun d => cores q u (firstS u) (firstS d) d) (c := 338) (fun u => by have := fm_len (f := fun d => cores q u (firstS u) (firstS d) d) (c := 26) (fun d => hcl _ _ _ _) (downs q b); omega) hus i
  omega
 refine w_h ?_; refine t_lss rfl rfl ?_ rfl; refine t_e ?_; refine w_s ?_; refine w_if rfl ?_ ?_
 ·intro hlt; obtain ⟨sx, hx⟩ : ∃ e, (downs q a)[i]? = some e := getx (by omega); have hxz := downs_hops (List.mem_of_getElem? hx); obtain ⟨o7, ho7'⟩ : ∃ o, o = out := ⟨_, rfl⟩; rw [← ho7'] at hol7; refine w_k ?_; refine x_s ?_; refine w_s ?_; refine w_block ?_; refine w_h ?_; refine t_idx e_seg (k := i) ‹_› hx B rfl rfl (by first | rfl | omega) ?_ rfl; intro p167 hp167; refine t_lda ‹_› ab_seg sb_seg B rfl ?_ rfl; intro v168 hv168; obtain ⟨v168_2, rfl, hv168_2⟩ := seg_va hv168; refine t_w S z_seg rfl ?_ rfl rfl; intro g28 w103 x104 S; have B := bx Hb B x104; refine t_stn S sb_seg rfl rfl rfl rfl (by repeat first | exact oc0 | refine oc rfl ?_ | refine oc (SlR.cells ‹_›).2 ?_) ?_; intro w105 b106 S; have B := B.trans b106; refine t_k ?_; refine t_m rfl ?_ rfl; refine t_len e_seg ‹_› rfl rfl ?_ rfl; refine t_m rfl ?_ rfl; refine t_e ?_; refine w_block ?_
  refine w_loop (X := Nat × List Path × Value) (fun x wq => (fun j out u => j ≤ (downs q b).length ∧ out = o7 ++ ((downs q b).take j).flatMap (fun d => cores q sx (firstS sx) (firstS d) d) ∧ Below w15.heap.size w15 wq ∧ Sep w15.heap.size wq [slO pathT 38 u out, bxO g28 67 #[I sx.ts, I sx.beta, v168_2]]) x.1 x.2.1 x.2.2) (fun x => (fun j out u => [(171, I ((j : Int))), (11, u), (165, I ((i : Int))), (10, u10), (5, p5), (8, .slice none 0 0), (163, u9), (164, I ((((downs q a)).length : Int))), (28, .pointer (some ⟨g28, 0, none⟩)), (169, u10), (170, I ((((downs q b)).length : Int)))]) x.1 x.2.1 x.2.2) (fun x => (fun j out u => (downs q b).length - j) x.1 x.2.1 x.2.2) (0, out, _) ?_ ⟨rfl, rfl, rfl, rfl, rfl, rfl, rfl, rfl, rfl, rfl, rfl, trivial⟩ ?_
  ·exact ⟨by omega, by rw [ho7']; simp, B, S.f1⟩
  rintro ⟨j, out, u⟩ w107 hI; (try dsimp only at hI ⊢); obtain ⟨hj, ho8, B, S⟩ := hI
  have hol8 : out.length ≤ 5629 := by rw [ho8, List.length_append]; have := fm_bd (f := fun d => cores q sx (firstS sx) (firstS d) d) (c := 26) (fun d => hcl _ _ _ _) hds j; omega
  refine w_h ?_; refine t_lss rfl rfl ?_ rfl; refine t_e ?_; refine w_s ?_; refine w_if rfl ?_ ?_
  ·intro hlt2; obtain ⟨y, hy⟩ : ∃ e, (downs q b)[j]? = some e := getx (by omega); have hyz := downs_hops (List.mem_of_getElem? hy); have kx := hcl sx (firstS sx) (firstS y) y; refine w_k ?_; refine x_s ?_; refine w_s ?_; refine w_block ?_; refine w_h ?_; refine t_idx e_seg (k := j) ‹_› hy B rfl rfl (by first | rfl | omega) ?_ rfl; intro p173 hp173; refine t_lda ‹_› ab_seg sb_seg B rfl ?_ rfl; intro v174 hv174; obtain ⟨v174_2, rfl, hv174_2⟩ := seg_va hv174; refine t_w S z_seg rfl ?_ rfl rfl; intro g30 w108 x109 S; have B := bx Hb B x109; refine t_stn S sb_seg rfl rfl rfl rfl (by repeat first | exact oc0 | refine oc rfl ?_ | refine oc (SlR.cells ‹_›).2 ?_) ?_; intro w110 b111 S; have B := B.trans b111; refine t_e ?_; refine w_draw (.st .take 0 (.st .take 1 (.st .take 2 (.st .take 3 (.st .take 5 (.st .take 7 (.st .run 4 (.st .run 6 (.st .run 8 (.st .fin 9 (.st .fin 10 .done))))))))))) mixed (by kernel_rfl) ?_; intro w112 x113; have B := bx Hb B x113; have S := S.below x113; refine t_m rfl ?_ rfl; refine t_lda ‹_› ab_sdb sb_sdb B rfl ?_ rfl; intro v176 hv176; obtain ⟨v176_0, v176_1, rfl, hv176_0, hv176_1⟩ := sdb_va hv176
   (iterate 2 refine t_b S.tail.tail.box ab_seg sb_seg rfl rfl ?_ rfl); (iterate 2 refine t_b S.box ab_seg sb_seg rfl rfl ?_ rfl); refine t_x Tryz.call96 rfl (impl_FirstAS sx _ _ (by first | assumption | exact VA.below ‹_› B | exact seg_mkv (by first | assumption | exact SlR.below ‹_› B)) (by omega)) ?_ rfl rfl; intro w114 x115; have B := bx Hb B x115; have S := S.below x115; refine t_x Tryz.call96 rfl (impl_FirstAS y _ _ (by first | assumption | exact VA.below ‹_› B | exact seg_mkv (by first | assumption | exact SlR.below ‹_› B)) (by omega)) ?_ rfl rfl; intro w116 x117; have B := bx Hb B x117; have S := S.below x117; refine t_c Tryz.call94 rfl (impl_throughCore q sx y _ _ _ _ _ _ (by first | assumption | exact VA.below ‹_› B | exact sdb_mkv (by first | assumption | exact SlR.below ‹_› B) (by first | assumption | exact SlR.below ‹_› B)) (by first | assumption | exact VA.below ‹_› B | exact seg_mkv (by first | assumption | exact SlR.below ‹_› B)) (by first | assumption | exact VA.below ‹_› B | exact seg_mkv (by first | assumption | exact SlR.below ‹_› B)) (by omega) (by first | omega | (show 0 ≤ 1048576; omega)) (by first | omega | (show 0 ≤ 1048576; omega))) ?_ rfl rfl
   rintro e w118 ⟨v183, fpv183, rfl, hOv183, x119⟩; refine ⟨_, rfl, x119, ?_⟩; have S := S.add (o := slO _ _ _ _) x119 hOv183; have B := bx Hb B x119; have S := S.f2; refine t_mvw e_path S rfl rfl rfl (by first | omega | (simp; done) | (simp; omega)) (by (simp only [maxLen]); first | omega | (simp; done) | (simp; omega)) ?_ rfl; intro v184 w120 x121 S; have B := B.trans x121; refine t_a rfl ?_ rfl; refine t_d' ?_; refine x_b ?_; refine x_s ?_; refine w_g ?_; refine t_add rfl rfl (by omega) ?_ rfl; refine t_m rfl ?_ rfl; refine t_d ?_; have S := S.f1.tail; refine x_r (X := Nat × List Path × Value) (j + 1, out ++ cores q sx (firstS sx) (firstS y) y, v184) ?_ (by exact ⟨rfl, rfl, rfl, rfl, rfl, rfl, rfl, rfl, rfl, rfl, rfl, trivial⟩) (by (try dsimp only); omega); (try dsimp only); exact ⟨by omega, by rw [ho8, flat_succ _ hy, List.append_assoc], B, S⟩
  intro hge3; rw [List.take_of_length_le (by omega)] at ho8; refine w_exit ?_; (iterate 2 refine x_then_exit ?_); refine x_block_exit ?_; refine x_b ?_; refine x_s ?_; refine w_g ?_; refine t_add rfl rfl (by omega) ?_ rfl; refine t_m rfl ?_ rfl; refine t_d ?_; have S := S.f1.tail; refine x_r (X := Nat × List Path × Value) (i + 1, out, u) ?_ (by exact ⟨rfl, rfl, rfl, rfl, rfl, rfl, rfl, trivial⟩) (by (try dsimp only); omega); (try dsimp only); exact ⟨by omega, by rw [ho8, ho7', ho7, flat_succ _ hx, List.append_assoc], B, S⟩
 intro hge7; rw [List.take_of_length_le (by omega)] at ho7; refine w_exit ?_; (iterate 2 refine x_then_exit ?_); refine x_block_exit ?_; refine x_s ?_; refine w_h ?_; refine t_m rfl ?_ rfl; refine t_a rfl ?_ rfl; refine t_e ?_; refine w_r ?_; refine x_ret1 rfl rfl ?_; obtain ⟨fp, hO⟩ := (S.mono X0.size).head
 have e : out = combL t q a b (downs q a) (downs q b) := by
  rw [ho7, ho6', ho6, ho5', ho5, ho4', ho4, ho3, ho2, ho1, ho]
  rfl
 rw [e] at hO; exact ⟨_, fp, rfl, hO, ext_trans X0 B⟩
end Go.Proofs.YtljkgpembicloaaGreat
