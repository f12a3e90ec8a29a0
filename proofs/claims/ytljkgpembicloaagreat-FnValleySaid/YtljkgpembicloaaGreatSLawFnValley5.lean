/- What LawFnValley needs of the texts below it, part 5: contracts of functions, plain lemmas. (Put together by slim.py.) -/
import Derived.Test.YtljkgpembicloaaGreatSLawFnValley4
namespace Go.Proofs.YtljkgpembicloaaGreat
open Go.RowKit
set_option linter.unusedVariables false
set_option maxRecDepth 100000
set_option maxHeartbeats 4000000 in
theorem spec_l23Alone (q : Sdb) (v1 : Value) (a b : Int) (w : World) (h' : VA sdbT w v1 q) (hz' : sz_sdb q ≤ 1048576) (hn : DbN q) : Calls Tryz.prog 100 #[v1, I a, I b] w fun e w' => ∃ v fp, e = .returned v ∧ SlO pathT 38 w.heap.size w' v ((alone1 (downs q a) 1 b ++ alone1 (downs q b) 4 a) ++ cores q seg0 a b seg0) fp ∧ Below w.heap.size w w' := by
 have hz1 : sz_segs q.down ≤ 1048576 := by unfold sz_sdb at hz'; omega
 have hn' : q.down.length + q.core.length ≤ 13 := hn; have hla := downs_len q a; have hlb := downs_len q b
 have hus : (downs q a).length ≤ 13 := by omega
 have hds : (downs q b).length ≤ 13 := by omega
 have hcl := cores_len (q := q) (by omega); have k0 := hcl seg0 a b seg0; have X0 := Below.refl w.heap.size w; refine enter Tryz.func100 rfl Tryz.ntmps100 rfl ?_; refine w_h ?_; refine t_boxr ‹_› rfl ?_ rfl rfl; intro p3 w1 x2 hp3; replace h' := h'.below x2; have X0 := ext_trans X0 x2; have S := Sep.nil w1; have B := Below.refl w1.heap.size w1; have Hb := Nat.le_refl w1.heap.size; refine t_a rfl ?_ rfl; refine t_k ?_; refine t_lit0 (T := pathT) S bs_path0 rfl ?_ rfl rfl; intro A15 w3 x4 S; have B := bx Hb B x4; refine t_a rfl ?_ rfl; refine t_k ?_; refine t_lda ‹_› ab_sdb sb_sdb B rfl ?_ rfl; intro v16 hv16; obtain ⟨v16_0, v16_1, rfl, hv16_0, hv16_1⟩ := sdb_va hv16; refine t_m rfl ?_ rfl; refine t_c Tryz.call101 rfl (spec_DownSegments _ _ _ _ (by first | assumption | exact VA.below ‹_› B | exact sdb_mkv (by first | assumption | exact SlR.below ‹_› B) (by first | assumption | exact SlR.below ‹_› B)) (by omega)) ?_ rfl rfl; rintro e w5 ⟨v18, fpv18, rfl, hOv18, x6⟩; refine ⟨_, rfl, x6, ?_⟩; have S := S.add (o := slO _ _ _ _) x6 hOv18; have B := bx Hb B x6; refine t_a rfl ?_ rfl; refine t_e ?_; (iterate 2 refine w_s ?_); refine w_g ?_; refine t_a rfl ?_ rfl; refine t_e ?_
 refine w_block ?_; refine w_loop (X := Nat × List Path × Value) (fun x wq => (fun k out u => k ≤ (downs q a).length ∧ out = alone1 ((downs q a).take k) 1 b ∧ Below w1.heap.size w1 wq ∧ Sep w1.heap.size wq [slO pathT 38 u out, slO segT 67 v18 (downs q a)]) x.1 x.2.1 x.2.2) (fun x => (fun k out u => [(9, I ((k : Int))), (7, u), (1, I a), (2, I b), (3, p3), (6, .slice none 0 0), (8, v18)]) x.1 x.2.1 x.2.2) (fun x => (fun k out u => (downs q a).length - k) x.1 x.2.1 x.2.2) (0, [], _) ?_ ⟨rfl, rfl, rfl, rfl, rfl, rfl, rfl, trivial⟩ ?_
 ·exact ⟨by omega, rfl, B, S.f1⟩
 rintro ⟨k, out, u⟩ w7 hI; (try dsimp only at hI ⊢); obtain ⟨hk, ho, B, S⟩ := hI
 have hol : out.length ≤ 13 := by rw [ho]; exact alone_bd hus k 1 b
 (iterate 2 refine w_s ?_); refine w_g ?_; (iterate 2 refine t_m rfl ?_ rfl); refine t_len e_seg (S.tail.sl) rfl rfl ?_ rfl; refine t_lss rfl rfl ?_ rfl; refine t_e ?_; refine w_if rfl ?_ ?_
 ·intro hlt; obtain ⟨sx, hx⟩ : ∃ e, (downs q a)[k]? = some e := getx (by omega); have hxz := downs_hops (List.mem_of_getElem? hx); refine w_k ?_; refine x_s ?_; refine w_s ?_; refine w_block ?_; refine w_h ?_; (iterate 2 refine t_m rfl ?_ rfl); refine t_idx e_seg (k := k) (S.tail.sl) hx (Below.refl _ _) rfl rfl (by first | rfl | omega) ?_ rfl; intro p27 hp27; refine t_lda ‹_› ab_seg sb_seg (Below.refl _ _) rfl ?_ rfl; intro v28 hv28; obtain ⟨v28_2, rfl, hv28_2⟩ := seg_va hv28; refine t_m rfl ?_ rfl; refine t_x Tryz.call145 rfl (spec_l23Index _ _ _ _ (by first | assumption | exact VA.below ‹_› B | exact seg_mkv (by first | assumption | exact SlR.below ‹_› B)) (by omega)) ?_ rfl rfl; intro w8 x9; have B := bx Hb B x9; have S := S.below x9; replace hv28_2 := hv28_2.below x9; refine t_a rfl ?_ rfl; refine t_k ?_; refine t_m rfl ?_ rfl; refine t_geq rfl rfl ?_ rfl; refine t_e ?_; refine w_if rfl ?_ ?_
  ·intro hp; refine w_g ?_; (iterate 3 refine t_m rfl ?_ rfl); refine t_idx e_seg (k := k) (S.tail.sl) hx (Below.refl _ _) rfl rfl (by first | rfl | omega) ?_ rfl; intro p36 hp36; refine t_lda ‹_› ab_seg sb_seg (Below.refl _ _) rfl ?_ rfl; intro v37 hv37; obtain ⟨v37_2, rfl, hv37_2⟩ := seg_va hv37; refine t_m rfl ?_ rfl; refine t_c Tryz.call107 rfl (spec_MakePart _ _ _ _ _ (by first | assumption | exact VA.below ‹_› B | exact seg_mkv (by first | assumption | exact SlR.below ‹_› B)) (by omega)) ?_ rfl rfl; rintro e w10 ⟨cs39, fp39, rfl, hO39, x11⟩; refine ⟨_, rfl, x11, ?_⟩; have S := S.add (o := tyO partT _ _) x11 hO39; have B := bx Hb B x11; obtain ⟨u39_3, rfl, S2⟩ := S.partOpen; have S := S2; have S := S.partShut (x := makePart sx 1 (firstH sx.hops b)); refine t_lit1o S (fun w => bs_part1 _ _ _ _ w) rfl rfl ?_ rfl rfl; intro A40 w12 x13 S; have B := bx Hb B x13; refine t_g (fun w => b_path _ _ _ w) rfl ?_ rfl; refine t_lit1 (fun w => bs_path1 _ w) rfl ?_ rfl rfl; intro A42 w14 x15 hA42; have B := bx Hb B x15; have S := S.below x15; have S := S.pathShut (x := [makePart sx 1 (firstH sx.hops b)]); have S := S.f1
   refine t_snoc e_path S hA42 rfl rfl rfl (by first | omega | (simp; done) | (simp; omega)) (by (simp only [maxLen]); first | omega | (simp; done) | (simp; omega)) ?_ rfl; intro v43 w16 x17 S; have B := B.trans x17; refine t_a rfl ?_ rfl; refine t_d ?_; refine x_b ?_; refine x_s ?_; refine w_g ?_; refine t_m rfl ?_ rfl; refine t_add rfl rfl (by omega) ?_ rfl; refine t_a rfl ?_ rfl; refine t_d ?_; refine x_r (X := Nat × List Path × Value) (k + 1, out ++ [[makePart sx 1 (firstH sx.hops b)]], v43) ?_ (by exact ⟨rfl, rfl, rfl, rfl, rfl, rfl, rfl, trivial⟩) (by (try dsimp only); omega); (try dsimp only); exact ⟨by omega, by rw [ho, alone_succ 1 b hx hp], B, S⟩
  ·intro hp; refine w_k ?_; refine x_b ?_; refine x_s ?_; refine w_g ?_; refine t_m rfl ?_ rfl; refine t_add rfl rfl (by omega) ?_ rfl; refine t_a rfl ?_ rfl; refine t_d ?_; refine x_r (X := Nat × List Path × Value) (k + 1, out, u) ?_ (by exact ⟨rfl, rfl, rfl, rfl, rfl, rfl, rfl, trivial⟩) (by (try dsimp only); omega); (try dsimp only); exact ⟨by omega, by rw [ho, alone_skip 1 b hx hp], B, S⟩
 intro hge; rw [List.take_of_length_le (by omega)] at ho; obtain ⟨o1, ho1⟩ : ∃ o, o = out := ⟨_, rfl⟩; rw [← ho1] at hol; refine w_exit ?_; (iterate 2 refine x_then_exit ?_); refine x_block_exit ?_; refine x_s ?_; refine w_h ?_; refine t_lda ‹_› ab_sdb sb_sdb B rfl ?_ rfl; intro v44 hv44; obtain ⟨v44_0, v44_1, rfl, hv44_0, hv44_1⟩ := sdb_va hv44; refine t_m rfl ?_ rfl; refine t_c Tryz.call101 rfl (spec_DownSegments _ _ _ _ (by first | assumption | exact VA.below ‹_› B | exact sdb_mkv (by first | assumption | exact SlR.below ‹_› B) (by first | assumption | exact SlR.below ‹_› B)) (by omega)) ?_ rfl rfl; rintro e w18 ⟨v46, fpv46, rfl, hOv46, x19⟩; refine ⟨_, rfl, x19, ?_⟩; have S := S.add (o := slO _ _ _ _) x19 hOv46; have B := bx Hb B x19; refine t_a rfl ?_ rfl; refine t_e ?_; (iterate 2 refine w_s ?_); refine w_g ?_; refine t_a rfl ?_ rfl; refine t_e ?_; refine w_block ?_
 refine w_loop (X := Nat × List Path × Value) (fun x wq => (fun k out u => k ≤ (downs q b).length ∧ out = o1 ++ alone1 ((downs q b).take k) 4 a ∧ Below w1.heap.size w1 wq ∧ Sep w1.heap.size wq [slO pathT 38 u out, slO segT 67 v46 (downs q b)]) x.1 x.2.1 x.2.2) (fun x => (fun k out u => [(12, I ((k : Int))), (7, u), (1, I a), (2, I b), (3, p3), (6, .slice none 0 0), (11, v46)]) x.1 x.2.1 x.2.2) (fun x => (fun k out u => (downs q b).length - k) x.1 x.2.1 x.2.2) (0, out, _) ?_ ⟨rfl, rfl, rfl, rfl, rfl, rfl, rfl, trivial⟩ ?_
 ·exact ⟨by omega, by rw [ho1]; simp [alone1], B, S.f2.tail.f1⟩
 rintro ⟨k, out, u⟩ w20 hI; (try dsimp only at hI ⊢); obtain ⟨hk2, ho2, B, S⟩ := hI
 have hol2 : out.length ≤ 26 := by rw [ho2, List.length_append]; have := alone_bd hds k 4 a; omega
 (iterate 2 refine w_s ?_); refine w_g ?_; (iterate 2 refine t_m rfl ?_ rfl); refine t_len e_seg (S.tail.sl) rfl rfl ?_ rfl; refine t_lss rfl rfl ?_ rfl; refine t_e ?_; refine w_if rfl ?_ ?_
 ·intro hlt; obtain ⟨sx, hx⟩ : ∃ e, (downs q b)[k]? = some e := getx (by omega); have hxz := downs_hops (List.mem_of_getElem? hx); refine w_k ?_; refine x_s ?_; refine w_s ?_; refine w_block ?_; refine w_h ?_; (iterate 2 refine t_m rfl ?_ rfl); refine t_idx e_seg (k := k) (S.tail.sl) hx (Below.refl _ _) rfl rfl (by first | rfl | omega) ?_ rfl; intro p55 hp55; refine t_lda ‹_› ab_seg sb_seg (Below.refl _ _) rfl ?_ rfl; intro v56 hv56; obtain ⟨v56_2, rfl, hv56_2⟩ := seg_va hv56; refine t_m rfl ?_ rfl; refine t_x Tryz.call145 rfl (spec_l23Index _ _ _ _ (by first | assumption | exact VA.below ‹_› B | exact seg_mkv (by first | assumption | exact SlR.below ‹_› B)) (by omega)) ?_ rfl rfl; intro w21 x22; have B := bx Hb B x22; have S := S.below x22; replace hv56_2 := hv56_2.below x22; refine t_a rfl ?_ rfl; refine t_k ?_; refine t_m rfl ?_ rfl; refine t_geq rfl rfl ?_ rfl; refine t_e ?_; refine w_if rfl ?_ ?_
  ·intro hp; refine w_g ?_; (iterate 3 refine t_m rfl ?_ rfl); refine t_idx e_seg (k := k) (S.tail.sl) hx (Below.refl _ _) rfl rfl (by first | rfl | omega) ?_ rfl; intro p64 hp64; refine t_lda ‹_› ab_seg sb_seg (Below.refl _ _) rfl ?_ rfl; intro v65 hv65; obtain ⟨v65_2, rfl, hv65_2⟩ := seg_va hv65; refine t_m rfl ?_ rfl; refine t_c Tryz.call107 rfl (spec_MakePart _ _ _ _ _ (by first | assumption | exact VA.below ‹_› B | exact seg_mkv (by first | assumption | exact SlR.below ‹_› B)) (by omega)) ?_ rfl rfl; rintro e w23 ⟨cs67, fp67, rfl, hO67, x24⟩; refine ⟨_, rfl, x24, ?_⟩; have S := S.add (o := tyO partT _ _) x24 hO67; have B := bx Hb B x24; obtain ⟨u67_3, rfl, S2⟩ := S.partOpen; have S := S2; have S := S.partShut (x := makePart sx 4 (firstH sx.hops a)); refine t_lit1o S (fun w => bs_part1 _ _ _ _ w) rfl rfl ?_ rfl rfl; intro A68 w25 x26 S; have B := bx Hb B x26; refine t_g (fun w => b_path _ _ _ w) rfl ?_ rfl; refine t_lit1 (fun w => bs_path1 _ w) rfl ?_ rfl rfl; intro A70 w27 x28 hA70; have B := bx Hb B x28; have S := S.below x28; have S := S.pathShut (x := [makePart sx 4 (firstH sx.hops a)]); have S := S.f1
   refine t_snoc e_path S hA70 rfl rfl rfl (by first | omega | (simp; done) | (simp; omega)) (by (simp only [maxLen]); first | omega | (simp; done) | (simp; omega)) ?_ rfl; intro v71 w29 x30 S; have B := B.trans x30; refine t_a rfl ?_ rfl; refine t_d ?_; refine x_b ?_; refine x_s ?_; refine w_g ?_; refine t_m rfl ?_ rfl; refine t_add rfl rfl (by omega) ?_ rfl; refine t_a rfl ?_ rfl; refine t_d ?_; refine x_r (X := Nat × List Path × Value) (k + 1, out ++ [[makePart sx 4 (firstH sx.hops a)]], v71) ?_ (by exact ⟨rfl, rfl, rfl, rfl, rfl, rfl, rfl, trivial⟩) (by (try dsimp only); omega); (try dsimp only); exact ⟨by omega, by rw [ho2, alone_succ 4 a hx hp, List.append_assoc], B, S⟩
  ·intro hp; refine w_k ?_; refine x_b ?_; refine x_s ?_; refine w_g ?_; refine t_m rfl ?_ rfl; refine t_add rfl rfl (by omega) ?_ rfl; refine t_a rfl ?_ rfl; refine t_d ?_; refine x_r (X := Nat × List Path × Value) (k + 1, out, u) ?_ (by exact ⟨rfl, rfl, rfl, rfl, rfl, rfl, rfl, trivial⟩) (by (try dsimp only); omega); (try dsimp only); exact ⟨by omega, by rw [ho2, alone_skip 4 a hx hp], B, S⟩
 intro hge2; rw [List.take_of_length_le (by omega)] at ho2; refine w_exit ?_; (iterate 2 refine x_then_exit ?_); refine x_block_exit ?_; refine x_s ?_; refine w_h ?_; refine t_g (fun w => b_seg0 w) rfl ?_ rfl; refine t_w S z_seg rfl ?_ rfl rfl; intro g14 w31 x32 S; have B := bx Hb B x32; refine t_stn S sb_seg rfl rfl rfl rfl (by simp [Value.oneCell']) ?_; intro w33 b34 S; have B := B.trans b34; refine t_k ?_; refine t_m rfl ?_ rfl; refine t_lda ‹_› ab_sdb sb_sdb B rfl ?_ rfl; intro v74 hv74; obtain ⟨v74_0, v74_1, rfl, hv74_0, hv74_1⟩ := sdb_va hv74; refine t_b S.box ab_seg sb_seg rfl rfl ?_ rfl; (iterate 2 refine t_m rfl ?_ rfl); refine t_b S.box ab_seg sb_seg rfl rfl ?_ rfl; refine t_c Tryz.call102 rfl (spec_l23Cores q seg0 seg0 _ _ _ _ _ _ (by first | assumption | exact VA.below ‹_› B | exact sdb_mkv (by first | assumption | exact SlR.below ‹_› B) (by first | assumption | exact SlR.below ‹_› B)) (seg_mkv (x := seg0) nilR) (seg_mkv (x := seg0) nilR) (by omega) (by first | omega | (show 0 ≤ 1048576; omega)) (by first | omega | (show 0 ≤ 1048576; omega))) ?_ rfl rfl; rintro e w35 ⟨v79, fpv79, rfl, hOv79, x36⟩; refine ⟨_, rfl, x36, ?_⟩; have S := S.add (o := slO _ _ _ _) x36 hOv79
 have B := bx Hb B x36; have S := S.f2; refine t_mvw e_path S rfl rfl rfl (by first | omega | (simp; done) | (simp; omega)) (by (simp only [maxLen]); first | omega | (simp; done) | (simp; omega)) ?_ rfl; intro v80 w37 x38 S; have B := B.trans x38; refine t_a rfl ?_ rfl; refine t_k ?_; refine t_m rfl ?_ rfl; refine t_a rfl ?_ rfl; refine t_e ?_; refine w_r ?_; refine x_ret1 rfl rfl ?_; obtain ⟨fp, hO⟩ := (S.mono X0.size).head; rw [ho2, ho1, ho] at hO; exact ⟨_, fp, rfl, hO, ext_trans X0 B⟩
set_option maxHeartbeats 8000000 in
theorem spec_CombinePaths (t : Topo) (q : Sdb) (v v1 : Value) (a b : Int) (w : World) (h : VA topoT w v t) (h' : VA sdbT w v1 q) (hz : sz_topo t ≤ 1048576) (hz' : sz_sdb q ≤ 1048576) (hn : DbN q) : Calls Tryz.prog 48 #[v, v1, I a, I b] w fun e w' => ∃ v fp, e = .returned v ∧ SlO pathT 38 w.heap.size w' v (comb t q a b) fp ∧ Below w.heap.size w w' := by
 have hz1 : sz_segs q.down ≤ 1048576 := by unfold sz_sdb at hz'; omega
 have hn' : q.down.length + q.core.length ≤ 13 := hn; have hla := downs_len q a; have hlb := downs_len q b
 have hus : (downs q a).length ≤ 13 := by omega
 have hds : (downs q b).length ≤ 13 := by omega
 have hcl := cores_len (q := q) (by omega); have k0 := hcl seg0 a b seg0; have X0 := Below.refl w.heap.size w; refine enter Tryz.func48 rfl Tryz.ntmps48 rfl ?_; refine w_h ?_; refine t_boxr ‹_› rfl ?_ rfl rfl; intro p4 w39 x40 hp4; replace h := h.below x40; replace h' := h'.below x40; have X0 := ext_trans X0 x40; refine t_boxr ‹_› rfl ?_ rfl rfl; intro p5 w41 x42 hp5; replace h := h.below x42; replace h' := h'.below x42; replace hp4 := hp4.below x42; have X0 := ext_trans X0 x42; have S := Sep.nil w41; have B := Below.refl w41.heap.size w41; have Hb := Nat.le_refl w41.heap.size; refine t_a rfl ?_ rfl; refine t_e ?_; (iterate 2 refine w_s ?_); refine w_g ?_; (iterate 2 refine t_m rfl ?_ rfl); refine t_eql rfl rfl ?_ rfl; refine t_m rfl ?_ rfl; refine t_partp (t := 23) rfl ?_ ?_
 ·intro h1; (iterate 4 refine t_off rfl rfl rfl ?_ rfl); refine t_q rfl rfl ?_ rfl; refine t_m rfl ?_ rfl; (iterate 4 refine t_off rfl rfl rfl ?_ rfl); refine t_q rfl rfl ?_ rfl; refine t_e ?_; refine w_yes rfl ?_; refine w_h ?_; refine t_lit0 (T := pathT) S bs_path0 rfl ?_ rfl rfl; intro A35 w43 x44 S; have B := bx Hb B x44; refine t_a rfl ?_ rfl; refine t_e ?_; refine w_r ?_; refine x_t ?_; refine x_ret1 rfl rfl ?_; obtain ⟨fp, hO⟩ := (S.mono X0.size).head; exact ⟨_, fp, rfl, by rw [comb, if_pos (.inl h1)]; exact hO, ext_trans X0 B⟩
 intro h1; refine t_on rfl rfl ?_; refine t_lda ‹_› ab_topo sb_topo B rfl ?_ rfl; intro v24 hv24; obtain ⟨v24_0, v24_1, rfl, hv24_0, hv24_1⟩ := topo_va hv24; refine t_on rfl rfl ?_; refine t_m rfl ?_ rfl; refine t_on rfl rfl ?_; refine t_x Tryz.call99 rfl (spec_l5Realm _ _ _ _ (by first | assumption | exact VA.below ‹_› B | exact topo_mkv (by first | assumption | exact SlR.below ‹_› B) (by first | assumption | exact SlR.below ‹_› B)) (by omega)) ?_ rfl rfl; intro w45 x46; have B := bx Hb B x46; have S := S.below x46; refine t_on rfl rfl ?_; refine t_notb rfl ?_ rfl; refine t_p rfl rfl ?_ rfl; refine t_m rfl ?_ rfl; refine t_part (t := 29) rfl ?_ ?_
 ·intro h2; (iterate 4 refine t_off rfl rfl rfl ?_ rfl); refine t_q rfl rfl ?_ rfl; refine t_e ?_; refine w_yes rfl ?_; refine w_h ?_; refine t_lit0 (T := pathT) S bs_path0 rfl ?_ rfl rfl; intro A35 w47 x48 S; have B := bx Hb B x48; refine t_a rfl ?_ rfl; refine t_e ?_; refine w_r ?_; refine x_t ?_; refine x_ret1 rfl rfl ?_; obtain ⟨fp, hO⟩ := (S.mono X0.size).head; exact ⟨_, fp, rfl, by rw [comb, if_pos (.inr (.inl (by simpa using h2)))]; exact hO, ext_trans X0 B⟩
 intro h2; refine t_on rfl rfl ?_; refine t_lda ‹_› ab_topo sb_topo B rfl ?_ rfl; intro v30 hv30; obtain ⟨v30_0, v30_1, rfl, hv30_0, hv30_1⟩ := topo_va hv30; refine t_on rfl rfl ?_; refine t_m rfl ?_ rfl; refine t_on rfl rfl ?_; refine t_x Tryz.call99 rfl (spec_l5Realm _ _ _ _ (by first | assumption | exact VA.below ‹_› B | exact topo_mkv (by first | assumption | exact SlR.below ‹_› B) (by first | assumption | exact SlR.below ‹_› B)) (by omega)) ?_ rfl rfl; intro w49 x50; have B := bx Hb B x50; have S := S.below x50; refine t_on rfl rfl ?_; refine t_notb rfl ?_ rfl; refine t_p rfl rfl ?_ rfl; refine t_e ?_; refine w_ifb rfl ?_ ?_
 ·intro h3; refine w_h ?_; refine t_lit0 (T := pathT) S bs_path0 rfl ?_ rfl rfl; intro A35 w51 x52 S; have B := bx Hb B x52; refine t_a rfl ?_ rfl; refine t_e ?_; refine w_r ?_; refine x_t ?_; refine x_ret1 rfl rfl ?_; obtain ⟨fp, hO⟩ := (S.mono X0.size).head; exact ⟨_, fp, rfl, by rw [comb, if_pos (.inr (.inr (by simpa using h3)))]; exact hO, ext_trans X0 B⟩
 intro h3
 have hA : isAS t a = true := by simpa using h2
 have hB : isAS t b = true := by simpa using h3
 have hcomb : comb t q a b = combL t q a b (downs q a) (downs q b) := by rw [comb, if_neg]; rintro (z | z | z); exact h1 z; rw [hA] at z; cases z; rw [hB] at z; cases z
 rw [hcomb]; have hAr := inR_iff.1 hA; have hBr := inR_iff.1 hB; obtain ⟨ea, hea⟩ : ∃ e, t.ases[a.toNat]? = some e := getx (by omega); obtain ⟨eb, heb⟩ : ∃ e, t.ases[b.toNat]? = some e := getx (by omega)
 have hca : coreAt t a = ea.core := by unfold coreAt; rw [hea]
 have hcb : coreAt t b = eb.core := by unfold coreAt; rw [heb]
 obtain ⟨o3, ho3⟩ : ∃ o, o = ((alone1 (downs q a) 1 b ++ alone1 (downs q b) 4 a) ++ cores q seg0 a b seg0) := ⟨_, rfl⟩
 have hol3 : o3.length ≤ 52 := by rw [ho3, List.length_append, List.length_append]; have := alone_len (downs q a) 1 b; have := alone_len (downs q b) 4 a; omega
 refine w_k ?_; refine x_s ?_; refine w_h ?_; refine t_lda ‹_› ab_sdb sb_sdb B rfl ?_ rfl; intro v36 hv36; obtain ⟨v36_0, v36_1, rfl, hv36_0, hv36_1⟩ := sdb_va hv36; (iterate 2 refine t_m rfl ?_ rfl); refine t_c Tryz.call100 rfl (spec_l23Alone q _ _ _ _ (by first | assumption | exact VA.below ‹_› B | exact sdb_mkv (by first | assumption | exact SlR.below ‹_› B) (by first | assumption | exact SlR.below ‹_› B)) (by omega) ‹_›) ?_ rfl rfl; rintro e w53 ⟨v39, fpv39, rfl, hOv39, x54⟩; refine ⟨_, rfl, x54, ?_⟩; have S := S.add (o := slO _ _ _ _) x54 hOv39; have B := bx Hb B x54; refine t_a rfl ?_ rfl; refine t_k ?_; refine t_lda ‹_› ab_sdb sb_sdb B rfl ?_ rfl; intro v40 hv40; obtain ⟨v40_0, v40_1, rfl, hv40_0, hv40_1⟩ := sdb_va hv40; refine t_m rfl ?_ rfl; refine t_c Tryz.call101 rfl (spec_DownSegments _ _ _ _ (by first | assumption | exact VA.below ‹_› B | exact sdb_mkv (by first | assumption | exact SlR.below ‹_› B) (by first | assumption | exact SlR.below ‹_› B)) (by omega)) ?_ rfl rfl; rintro e w55 ⟨v42, fpv42, rfl, hOv42, x56⟩; refine ⟨_, rfl, x56, ?_⟩; have S := S.add (o := slO _ _ _ _) x56 hOv42; have B := bx Hb B x56; refine t_a rfl ?_ rfl; refine t_k ?_
 refine t_lda ‹_› ab_sdb sb_sdb B rfl ?_ rfl; intro v43 hv43; obtain ⟨v43_0, v43_1, rfl, hv43_0, hv43_1⟩ := sdb_va hv43; refine t_m rfl ?_ rfl; refine t_c Tryz.call101 rfl (spec_DownSegments _ _ _ _ (by first | assumption | exact VA.below ‹_› B | exact sdb_mkv (by first | assumption | exact SlR.below ‹_› B) (by first | assumption | exact SlR.below ‹_› B)) (by omega)) ?_ rfl rfl; rintro e w57 ⟨v45, fpv45, rfl, hOv45, x58⟩; refine ⟨_, rfl, x58, ?_⟩; have S := S.add (o := slO _ _ _ _) x58 hOv45; have B := bx Hb B x58; refine t_a rfl ?_ rfl; refine t_e ?_; (iterate 2 refine w_s ?_); refine w_g ?_; refine t_a rfl ?_ rfl; refine t_e ?_; refine w_block ?_
 refine w_loop (X := Nat × List Path × Value) (fun x wq => (fun i out u => i ≤ (downs q a).length ∧ out = o3 ++ ((downs q a).take i).flatMap (fun u => pairs1 u (downs q b)) ∧ Below w41.heap.size w41 wq ∧ Sep w41.heap.size wq [slO pathT 38 u out, slO segT 67 v42 (downs q a), slO segT 67 v45 (downs q b)]) x.1 x.2.1 x.2.2) (fun x => (fun i out u => [(12, I ((i : Int))), (9, u), (2, I a), (3, I b), (4, p4), (5, p5), (8, .slice none 0 0), (10, v42), (11, v45)]) x.1 x.2.1 x.2.2) (fun x => (fun i out u => (downs q a).length - i) x.1 x.2.1 x.2.2) (0, o3, _) ?_ ⟨rfl, rfl, rfl, rfl, rfl, rfl, rfl, rfl, rfl, trivial⟩ ?_
 ·exact ⟨by omega, by simp, B, by rw [ho3]; exact S.f1.f2⟩
 rintro ⟨i, out, u⟩ w59 hI; (try dsimp only at hI ⊢); obtain ⟨hi4, ho4, B, S⟩ := hI
 have hol4 : out.length ≤ 221 := by rw [ho4, List.length_append]; have := fm_bd (f := fun u => pairs1 u (downs q b)) (c := 13) (fun u => by have := pairs_len u (downs q b); omega) hus i; omega
 (iterate 2 refine w_s ?_); refine w_g ?_; (iterate 2 refine t_m rfl ?_ rfl); refine t_len e_seg (S.tail.sl) rfl rfl ?_ rfl; refine t_lss rfl rfl ?_ rfl; refine t_e ?_; refine w_if rfl ?_ ?_
 ·intro hlt; obtain ⟨sx, hx⟩ : ∃ e, (downs q a)[i]? = some e := getx (by omega); have hxz := downs_hops (List.mem_of_getElem? hx); obtain ⟨o4, ho4'⟩ : ∃ o, o = out := ⟨_, rfl⟩; rw [← ho4'] at hol4; refine w_k ?_; refine x_s ?_; refine w_s ?_; refine w_block ?_; refine w_h ?_; refine t_a rfl ?_ rfl; refine t_e ?_; refine w_block ?_; refine w_loop (X := Nat × List Path × Value) (fun x wq => (fun j out u => j ≤ (downs q b).length ∧ out = o4 ++ pairs1 sx ((downs q b).take j) ∧ Below w41.heap.size w41 wq ∧ Sep w41.heap.size wq [slO pathT 38 u out, slO segT 67 v42 (downs q a), slO segT 67 v45 (downs q b)]) x.1 x.2.1 x.2.2) (fun x => (fun j out u => [(13, I ((j : Int))), (9, u), (12, I ((i : Int))), (2, I a), (3, I b), (4, p4), (5, p5), (8, .slice none 0 0), (10, v42), (11, v45)]) x.1 x.2.1 x.2.2) (fun x => (fun j out u => (downs q b).length - j) x.1 x.2.1 x.2.2) (0, out, _) ?_ ⟨rfl, rfl, rfl, rfl, rfl, rfl, rfl, rfl, rfl, rfl, trivial⟩ ?_
  ·exact ⟨by omega, by rw [ho4']; simp [pairs1], B, S⟩
  rintro ⟨j, out, u⟩ w60 hI; (try dsimp only at hI ⊢); obtain ⟨hj, ho5, B, S⟩ := hI
  have hol5 : out.length ≤ 234 := by rw [ho5, List.length_append]; have := pairs_bd hds sx j; omega
  (iterate 2 refine w_s ?_); refine w_g ?_; (iterate 2 refine t_m rfl ?_ rfl); refine t_len e_seg (S.tail.tail.sl) rfl rfl ?_ rfl; refine t_lss rfl rfl ?_ rfl; refine t_e ?_; refine w_if rfl ?_ ?_
  ·intro hlt2; obtain ⟨y, hy⟩ : ∃ e, (downs q b)[j]? = some e := getx (by omega); have hyz := downs_hops (List.mem_of_getElem? hy); refine w_k ?_; refine x_s ?_; refine w_s ?_; refine w_block ?_; refine w_s ?_; refine w_cut (X := Value × Nat) (fun x wq => (fun uz g => Below w41.heap.size w41 wq ∧ Sep w41.heap.size wq [bxO g 38 #[uz], slO partT 85 uz (joinUD sx y), slO pathT 38 u out, slO segT 67 v42 (downs q a), slO segT 67 v45 (downs q b)]) x.1 x.2) (fun x => (fun uz g => [(14, .pointer (some ⟨g, 0, none⟩)), (13, I ((j : Int))), (9, u), (12, I ((i : Int))), (2, I a), (3, I b), (4, p4), (5, p5), (8, .slice none 0 0), (10, v42), (11, v45)]) x.1 x.2) ?_ ?_
   ·refine w_draw (.st .take 0 (.st .take 1 (.st .take 2 (.st .take 3 (.st .take 4 (.st .take 5 (.st .take 6 (.st .take 7 (.alt (.st .run 8 (.st .run 9 (.st .fin 10 .done))) (.st .run 9 (.st .run 8 (.st .fin 10 .done)))))))))))) mixed (by kernel_rfl) ?_; intro w61 x62; have B := bx Hb B x62; have S := S.below x62; (iterate 2 refine t_m rfl ?_ rfl); refine t_idx e_seg (k := i) (S.tail.sl) hx (Below.refl _ _) rfl rfl (by first | rfl | omega) ?_ rfl; intro p60 hp60; refine t_lda ‹_› ab_seg sb_seg (Below.refl _ _) rfl ?_ rfl; intro v61 hv61; obtain ⟨v61_2, rfl, hv61_2⟩ := seg_va hv61; (iterate 2 refine t_m rfl ?_ rfl); refine t_idx e_seg (k := j) (S.tail.tail.sl) hy (Below.refl _ _) rfl rfl (by first | rfl | omega) ?_ rfl; intro p64 hp64; refine t_lda ‹_› ab_seg sb_seg (Below.refl _ _) rfl ?_ rfl; intro v65 hv65; obtain ⟨v65_2, rfl, hv65_2⟩ := seg_va hv65; refine t_alt ?_ ?_
    ·refine t_c Tryz.call50 rfl (spec_JoinUpDown sx y _ _ _ (by first | assumption | exact VA.below ‹_› B | exact seg_mkv (by first | assumption | exact SlR.below ‹_› B)) (by first | assumption | exact VA.below ‹_› B | exact seg_mkv (by first | assumption | exact SlR.below ‹_› B)) (by omega) (by omega)) ?_ rfl rfl; rintro e w63 ⟨cs66, fp66, rfl, hO66, x64⟩; refine ⟨_, rfl, x64, ?_⟩; have S := S.add (o := tyO pathT _ _) x64 hO66; have B := bx Hb B x64; replace hv61_2 := hv61_2.below x64; replace hv65_2 := hv65_2.below x64; obtain ⟨u66_0, rfl, S2⟩ := S.pathOpen; have S := S2; refine t_w S z_path rfl ?_ rfl rfl; intro g14 w65 x66 S; have B := bx Hb B x66; replace hv61_2 := hv61_2.below x66; replace hv65_2 := hv65_2.below x66; refine t_stn S sb_path rfl rfl rfl rfl (by repeat first | exact oc0 | refine oc rfl ?_ | refine oc (SlR.cells (S.tail.sl)).2 ?_) ?_; intro w67 b68 S; have B := B.trans b68; refine t_d' ?_; refine x_cut (X := Value × Nat) (u66_0, g14) ?_ ?_; rotate_left
     ·exact ⟨rfl, rfl, rfl, rfl, rfl, rfl, rfl, rfl, rfl, rfl, rfl, trivial⟩
     (try dsimp only); exact ⟨B, S⟩
    ·refine t_w S z_path rfl ?_ rfl rfl; intro g14 w69 x70 S; have B := bx Hb B x70; replace hv61_2 := hv61_2.below x70; replace hv65_2 := hv65_2.below x70; refine t_c Tryz.call50 rfl (spec_JoinUpDown sx y _ _ _ (by first | assumption | exact VA.below ‹_› B | exact seg_mkv (by first | assumption | exact SlR.below ‹_› B)) (by first | assumption | exact VA.below ‹_› B | exact seg_mkv (by first | assumption | exact SlR.below ‹_› B)) (by omega) (by omega)) ?_ rfl rfl; rintro e w71 ⟨cs66, fp66, rfl, hO66, x72⟩; refine ⟨_, rfl, x72, ?_⟩; have S := S.add (o := tyO pathT _ _) x72 hO66; have B := bx Hb B x72; replace hv61_2 := hv61_2.below x72; replace hv65_2 := hv65_2.below x72; obtain ⟨u66_0, rfl, S2⟩ := S.pathOpen; have S := S2; have S := S.f1; refine t_stn S sb_path rfl rfl rfl rfl (by repeat first | exact oc0 | refine oc rfl ?_ | refine oc (SlR.cells (S.tail.sl)).2 ?_) ?_; intro w73 b74 S; have B := B.trans b74; refine t_d' ?_; refine x_cut (X := Value × Nat) (u66_0, g14) ?_ ?_; rotate_left
     ·exact ⟨rfl, rfl, rfl, rfl, rfl, rfl, rfl, rfl, rfl, rfl, rfl, trivial⟩
     (try dsimp only); exact ⟨B, S⟩
   rintro ⟨uz, g⟩ w75 hI; (try dsimp only at hI ⊢); obtain ⟨B, S⟩ := hI; refine w_h ?_; refine t_y fb_path_0 rfl rfl ?_ rfl; refine t_bx1 S.box ab_s_part rfl rfl ?_ rfl; refine t_len e_part (S.tail.sl) rfl rfl ?_ rfl; refine t_gtr rfl rfl ?_ rfl; refine t_e ?_; refine w_if rfl ?_ ?_
   ·intro hp; refine w_g ?_; refine t_m rfl ?_ rfl; refine t_b S.box ab_path sb_path rfl rfl ?_ rfl; refine t_lit1 (fun w => bs_path1 _ w) rfl ?_ rfl rfl; intro A73 w76 x77 hA73; have B := bx Hb B x77; have S := S.below x77; have S := S.f1; have S := S.pathShut (x := (joinUD sx y)); have S := S.f2; refine t_snoc e_path S hA73 rfl rfl rfl (by first | omega | (simp; done) | (simp; omega)) (by (simp only [maxLen]); first | omega | (simp; done) | (simp; omega)) ?_ rfl; intro v74 w78 x79 S; have B := B.trans x79; refine t_a rfl ?_ rfl; refine t_d ?_; refine x_b ?_; refine x_s ?_; refine w_g ?_; refine t_m rfl ?_ rfl; refine t_add rfl rfl (by omega) ?_ rfl; refine t_a rfl ?_ rfl; refine t_d ?_; have S := S.f1.tail; refine x_r (X := Nat × List Path × Value) (j + 1, out ++ [joinUD sx y], v74) ?_ (by exact ⟨rfl, rfl, rfl, rfl, rfl, rfl, rfl, rfl, rfl, rfl, trivial⟩) (by (try dsimp only); omega); (try dsimp only); exact ⟨by omega, by rw [ho5, pairs_succ sx hy (by omega), List.append_assoc], B, S⟩
   ·intro hp; refine w_k ?_; refine x_b ?_; refine x_s ?_; refine w_g ?_; refine t_m rfl ?_ rfl; refine t_add rfl rfl (by omega) ?_ rfl; refine t_a rfl ?_ rfl; refine t_d ?_; have S := S.tail.tail; refine x_r (X := Nat × List Path × Value) (j + 1, out, u) ?_ (by exact ⟨rfl, rfl, rfl, rfl, rfl, rfl, rfl, rfl, rfl, rfl, trivial⟩) (by (try dsimp only); omega); (try dsimp only); exact ⟨by omega, by rw [ho5, pairs_skip sx hy (by omega)], B, S⟩
  intro hge3; rw [List.take_of_length_le (by omega)] at ho5; refine w_exit ?_; (iterate 2 refine x_then_exit ?_); refine x_block_exit ?_; refine x_b ?_; refine x_s ?_; refine w_g ?_; refine t_m rfl ?_ rfl; refine t_add rfl rfl (by omega) ?_ rfl; refine t_a rfl ?_ rfl; refine t_d ?_; refine x_r (X := Nat × List Path × Value) (i + 1, out, u) ?_ (by exact ⟨rfl, rfl, rfl, rfl, rfl, rfl, rfl, rfl, rfl, trivial⟩) (by (try dsimp only); omega); (try dsimp only); exact ⟨by omega, by rw [ho5, ho4', ho4, flat_succ _ hx, List.append_assoc], B, S⟩
 intro hge4; rw [List.take_of_length_le (by omega)] at ho4; obtain ⟨o4, ho4'⟩ : ∃ o, o = out := ⟨_, rfl⟩; rw [← ho4'] at hol4; refine w_exit ?_; (iterate 2 refine x_then_exit ?_); refine x_block_exit ?_; refine x_s ?_; refine w_h ?_; refine t_g (fun w => b_seg0 w) rfl ?_ rfl; refine t_w S z_seg rfl ?_ rfl rfl; intro g15 w80 x81 S; have B := bx Hb B x81; refine t_stn S sb_seg rfl rfl rfl rfl (by simp [Value.oneCell']) ?_; intro w82 b83 S; have B := B.trans b83; refine t_e ?_; refine w_s ?_; refine w_cut (X := List Path × Value) (fun x wq => (fun out u => out = o4 ++ (if coreAt t a then (downs q b).flatMap fun d => cores q seg0 a (firstS d) d else []) ∧ Below w41.heap.size w41 wq ∧ Sep w41.heap.size wq [slO pathT 38 u out, bxO g15 67 #[I 0, I 0, .slice none 0 0], slO segT 67 v42 (downs q a), slO segT 67 v45 (downs q b)]) x.1 x.2) (fun x => (fun out u => [(9, u), (3, I b), (4, p4), (5, p5), (8, .slice none 0 0), (10, v42), (11, v45), (15, .pointer (some ⟨g15, 0, none⟩))]) x.1 x.2) ?_ ?_
 ·refine w_s ?_; refine w_g ?_; refine t_a rfl ?_ rfl; refine t_e ?_; refine w_block ?_; refine w_loop (X := Nat × List Path × Value) (fun x wq => (fun k out u => k ≤ (downs q b).length ∧ out = o4 ++ (if coreAt t a then ((downs q b).take k).flatMap (fun d => cores q seg0 a (firstS d) d) else []) ∧ Below w41.heap.size w41 wq ∧ Sep w41.heap.size wq [slO pathT 38 u out, bxO g15 67 #[I 0, I 0, .slice none 0 0], slO segT 67 v42 (downs q a), slO segT 67 v45 (downs q b)]) x.1 x.2.1 x.2.2) (fun x => (fun k out u => [(16, I ((k : Int))), (9, u), (2, I a), (3, I b), (4, p4), (5, p5), (8, .slice none 0 0), (10, v42), (11, v45), (15, .pointer (some ⟨g15, 0, none⟩))]) x.1 x.2.1 x.2.2) (fun x => (fun k out u => (downs q b).length - k) x.1 x.2.1 x.2.2) (0, out, _) ?_ ⟨rfl, rfl, rfl, rfl, rfl, rfl, rfl, rfl, rfl, rfl, trivial⟩ ?_
  ·exact ⟨by omega, by rw [ho4']; simp, B, S.f1⟩
  rintro ⟨k, out, u⟩ w84 hI; (try dsimp only at hI ⊢); obtain ⟨hk, ho5, B, S⟩ := hI
  have hol5 : out.length ≤ 559 := by rw [ho5, List.length_append]; have := fm_bd (f := fun d => cores q seg0 a (firstS d) d) (c := 26) (fun d => hcl _ _ _ _) hds k; split; omega; simp; omega
  (iterate 2 refine w_s ?_); refine w_g ?_; (iterate 2 refine t_m rfl ?_ rfl); refine t_len e_seg (S.tail.tail.tail.sl) rfl rfl ?_ rfl; refine t_lss rfl rfl ?_ rfl; refine t_m rfl ?_ rfl; refine t_partp (t := 80) rfl ?_ ?_
  ·intro hlt; obtain ⟨sx, hx⟩ : ∃ e, (downs q b)[k]? = some e := getx (by omega); have hxz := downs_hops (List.mem_of_getElem? hx); have kx := hcl seg0 a (firstS sx) sx; refine t_on rfl rfl ?_; refine t_fld ln_topo_0 ‹_› fb_topo_0 rfl ?_ rfl; intro p81 hp81; refine t_on rfl rfl ?_; refine t_lds ‹_› ab_s_asn B rfl ?_ rfl; intro v82 hv82; refine t_on rfl rfl ?_; refine t_m rfl ?_ rfl; refine t_on rfl rfl ?_; refine t_idx e_asn (k := a.toNat) ‹_› hea B rfl rfl (by first | rfl | omega) ?_ rfl; intro p84 hp84; refine t_on rfl rfl ?_; refine t_fld ln_asn_1 ‹_› fb_asn_1 rfl ?_ rfl; intro p85 hp85; refine t_on rfl rfl ?_; refine t_ldb ‹_› ab_bool B rfl ?_ rfl; refine t_q rfl rfl ?_ rfl; refine t_e ?_; refine w_ifb rfl ?_ ?_
   ·intro hc; refine w_k ?_; refine x_s ?_; refine w_s ?_; refine w_block ?_; refine w_draw (.st .take 0 (.st .take 1 (.st .take 2 (.st .take 3 (.st .take 4 (.st .take 5 (.st .take 6 (.st .take 7 (.st .take 9 (.st .take 10 (.st .take 11 (.st .take 12 (.st .run 8 (.st .run 13 (.st .fin 14 (.st .fin 15 .done)))))))))))))))) mixed (by kernel_rfl) ?_; intro w85 x86; have B := bx Hb B x86; have S := S.below x86; refine t_m rfl ?_ rfl; refine t_lda ‹_› ab_sdb sb_sdb B rfl ?_ rfl; intro v91 hv91; obtain ⟨v91_0, v91_1, rfl, hv91_0, hv91_1⟩ := sdb_va hv91; refine t_b S.tail.box ab_seg sb_seg rfl rfl ?_ rfl; (iterate 3 refine t_m rfl ?_ rfl); refine t_idx e_seg (k := k) (S.tail.tail.tail.sl) hx (Below.refl _ _) rfl rfl (by first | rfl | omega) ?_ rfl; intro p96 hp96; refine t_lda ‹_› ab_seg sb_seg (Below.refl _ _) rfl ?_ rfl; intro v97 hv97; obtain ⟨v97_2, rfl, hv97_2⟩ := seg_va hv97; (iterate 2 refine t_m rfl ?_ rfl); refine t_idx e_seg (k := k) (S.tail.tail.tail.sl) hx (Below.refl _ _) rfl rfl (by first | rfl | omega) ?_ rfl; intro p101 hp101; refine t_lda ‹_› ab_seg sb_seg (Below.refl _ _) rfl ?_ rfl; intro v102 hv102; obtain ⟨v102_2, rfl, hv102_2⟩ := seg_va hv102
    refine t_x Tryz.call103 rfl (spec_FirstAS sx _ _ (by first | assumption | exact VA.below ‹_› B | exact seg_mkv (by first | assumption | exact SlR.below ‹_› B)) (by omega)) ?_ rfl rfl; intro w87 x88; have B := bx Hb B x88; have S := S.below x88; replace hv97_2 := hv97_2.below x88; replace hv102_2 := hv102_2.below x88; refine t_c Tryz.call102 rfl (spec_l23Cores q seg0 sx _ _ _ _ _ _ (by first | assumption | exact VA.below ‹_› B | exact sdb_mkv (by first | assumption | exact SlR.below ‹_› B) (by first | assumption | exact SlR.below ‹_› B)) (seg_mkv (x := seg0) nilR) (by first | assumption | exact VA.below ‹_› B | exact seg_mkv (by first | assumption | exact SlR.below ‹_› B)) (by omega) (by first | omega | (show 0 ≤ 1048576; omega)) (by first | omega | (show 0 ≤ 1048576; omega))) ?_ rfl rfl; rintro e w89 ⟨v103, fpv103, rfl, hOv103, x90⟩; refine ⟨_, rfl, x90, ?_⟩; have S := S.add (o := slO _ _ _ _) x90 hOv103; have B := bx Hb B x90; replace hv97_2 := hv97_2.below x90; replace hv102_2 := hv102_2.below x90; have S := S.f1; refine t_mvw e_path S rfl rfl rfl (by first | omega | (simp; done) | (simp; omega)) (by (simp only [maxLen]); first | omega | (simp; done) | (simp; omega)) ?_ rfl
    intro v104 w91 x92 S; have B := B.trans x92; refine t_a rfl ?_ rfl; refine t_d' ?_; refine x_b ?_; refine x_s ?_; refine w_g ?_; refine t_m rfl ?_ rfl; refine t_add rfl rfl (by omega) ?_ rfl; refine t_a rfl ?_ rfl; refine t_d ?_; refine x_r (X := Nat × List Path × Value) (k + 1, out ++ cores q seg0 a (firstS sx) sx, v104) ?_ (by exact ⟨rfl, rfl, rfl, rfl, rfl, rfl, rfl, rfl, rfl, rfl, trivial⟩) (by (try dsimp only); omega); (try dsimp only); exact ⟨by omega, by rw [ho5, hca, hc, if_pos rfl, if_pos rfl, flat_succ _ hx, List.append_assoc], B, S⟩
   ·intro hc; refine w_exit ?_; (iterate 2 refine x_then_exit ?_); refine x_block_exit ?_; refine x_cut (X := List Path × Value) (out, u) ?_ ?_; rotate_left
    ·exact ⟨rfl, rfl, rfl, rfl, rfl, rfl, rfl, rfl, trivial⟩
    (try dsimp only); exact ⟨by rw [ho5, hca, hc]; rfl, B, S⟩
  ·intro hge; (iterate 6 refine t_off rfl rfl rfl ?_ rfl); refine t_p rfl rfl ?_ rfl; refine t_e ?_; refine w_no rfl ?_; refine w_exit ?_; (iterate 2 refine x_then_exit ?_); refine x_block_exit ?_; refine x_cut (X := List Path × Value) (out, u) ?_ ?_; rotate_left
   ·exact ⟨rfl, rfl, rfl, rfl, rfl, rfl, rfl, rfl, trivial⟩
   (try dsimp only); exact ⟨by rw [ho5, List.take_of_length_le (by omega)], B, S⟩
 rintro ⟨out, u⟩ w93 hI; (try dsimp only at hI ⊢); obtain ⟨ho5, B, S⟩ := hI
 have hol5 : out.length ≤ 559 := by rw [ho5, List.length_append]; have := fm_len (f := fun d => cores q seg0 a (firstS d) d) (c := 26) (fun d => hcl _ _ _ _) (downs q b); split; omega; simp; omega
 obtain ⟨o5, o5E⟩ : ∃ o, o = out := ⟨_, rfl⟩; rw [← o5E] at hol5; refine w_s ?_; refine w_cut (X := List Path × Value) (fun x wq => (fun out u => out = o5 ++ (if coreAt t b then (downs q a).flatMap fun d => cores q d (firstS d) b seg0 else []) ∧ Below w41.heap.size w41 wq ∧ Sep w41.heap.size wq [slO pathT 38 u out, bxO g15 67 #[I 0, I 0, .slice none 0 0], slO segT 67 v42 (downs q a), slO segT 67 v45 (downs q b)]) x.1 x.2) (fun x => (fun out u => [(9, u), (5, p5), (8, .slice none 0 0), (10, v42), (11, v45)]) x.1 x.2) ?_ ?_
 ·refine w_s ?_; refine w_g ?_; refine t_a rfl ?_ rfl; refine t_e ?_; refine w_block ?_; refine w_loop (X := Nat × List Path × Value) (fun x wq => (fun k out u => k ≤ (downs q a).length ∧ out = o5 ++ (if coreAt t b then ((downs q a).take k).flatMap (fun d => cores q d (firstS d) b seg0) else []) ∧ Below w41.heap.size w41 wq ∧ Sep w41.heap.size wq [slO pathT 38 u out, bxO g15 67 #[I 0, I 0, .slice none 0 0], slO segT 67 v42 (downs q a), slO segT 67 v45 (downs q b)]) x.1 x.2.1 x.2.2) (fun x => (fun k out u => [(17, I ((k : Int))), (9, u), (3, I b), (4, p4), (5, p5), (8, .slice none 0 0), (10, v42), (11, v45), (15, .pointer (some ⟨g15, 0, none⟩))]) x.1 x.2.1 x.2.2) (fun x => (fun k out u => (downs q a).length - k) x.1 x.2.1 x.2.2) (0, out, _) ?_ ⟨rfl, rfl, rfl, rfl, rfl, rfl, rfl, rfl, rfl, trivial⟩ ?_
  ·exact ⟨by omega, by rw [o5E]; simp, B, S⟩
  rintro ⟨k, out, u⟩ w94 hI; (try dsimp only at hI ⊢); obtain ⟨hk, ho6, B, S⟩ := hI
  have hol6 : out.length ≤ 897 := by rw [ho6, List.length_append]; have := fm_bd (f := fun d => cores q d (firstS d) b seg0) (c := 26) (fun d => hcl _ _ _ _) hus k; split; omega; simp; omega
  (iterate 2 refine w_s ?_); refine w_g ?_; (iterate 2 refine t_m rfl ?_ rfl); refine t_len e_seg (S.tail.tail.sl) rfl rfl ?_ rfl; refine t_lss rfl rfl ?_ rfl; refine t_m rfl ?_ rfl; refine t_partp (t := 109) rfl ?_ ?_
  ·intro hlt; obtain ⟨sx, hx⟩ : ∃ e, (downs q a)[k]? = some e := getx (by omega); have hxz := downs_hops (List.mem_of_getElem? hx); have kx := hcl sx (firstS sx) b seg0; refine t_on rfl rfl ?_; refine t_fld ln_topo_0 ‹_› fb_topo_0 rfl ?_ rfl; intro p110 hp110; refine t_on rfl rfl ?_; refine t_lds ‹_› ab_s_asn B rfl ?_ rfl; intro v111 hv111; refine t_on rfl rfl ?_; refine t_m rfl ?_ rfl; refine t_on rfl rfl ?_; refine t_idx e_asn (k := b.toNat) ‹_› heb B rfl rfl (by first | rfl | omega) ?_ rfl; intro p113 hp113; refine t_on rfl rfl ?_; refine t_fld ln_asn_1 ‹_› fb_asn_1 rfl ?_ rfl; intro p114 hp114; refine t_on rfl rfl ?_; refine t_ldb ‹_› ab_bool B rfl ?_ rfl; refine t_q rfl rfl ?_ rfl; refine t_e ?_; refine w_ifb rfl ?_ ?_
   ·intro hc; refine w_k ?_; refine x_s ?_; refine w_s ?_; refine w_block ?_; refine w_draw (.st .take 0 (.st .take 1 (.st .take 2 (.st .take 3 (.st .take 4 (.st .take 5 (.st .take 6 (.st .take 7 (.st .take 8 (.st .take 9 (.st .take 11 (.st .take 12 (.st .run 10 (.st .run 13 (.st .fin 14 (.st .fin 15 .done)))))))))))))))) mixed (by kernel_rfl) ?_; intro w95 x96; have B := bx Hb B x96; have S := S.below x96; refine t_m rfl ?_ rfl; refine t_lda ‹_› ab_sdb sb_sdb B rfl ?_ rfl; intro v120 hv120; obtain ⟨v120_0, v120_1, rfl, hv120_0, hv120_1⟩ := sdb_va hv120; (iterate 2 refine t_m rfl ?_ rfl); refine t_idx e_seg (k := k) (S.tail.tail.sl) hx (Below.refl _ _) rfl rfl (by first | rfl | omega) ?_ rfl; intro p123 hp123; refine t_lda ‹_› ab_seg sb_seg (Below.refl _ _) rfl ?_ rfl; intro v124 hv124; obtain ⟨v124_2, rfl, hv124_2⟩ := seg_va hv124; (iterate 2 refine t_m rfl ?_ rfl); refine t_idx e_seg (k := k) (S.tail.tail.sl) hx (Below.refl _ _) rfl rfl (by first | rfl | omega) ?_ rfl; intro p127 hp127; refine t_lda ‹_› ab_seg sb_seg (Below.refl _ _) rfl ?_ rfl; intro v128 hv128; obtain ⟨v128_2, rfl, hv128_2⟩ := seg_va hv128; refine t_m rfl ?_ rfl
    refine t_b S.tail.box ab_seg sb_seg rfl rfl ?_ rfl; refine t_x Tryz.call103 rfl (spec_FirstAS sx _ _ (by first | assumption | exact VA.below ‹_› B | exact seg_mkv (by first | assumption | exact SlR.below ‹_› B)) (by omega)) ?_ rfl rfl; intro w97 x98; have B := bx Hb B x98; have S := S.below x98; replace hv124_2 := hv124_2.below x98; replace hv128_2 := hv128_2.below x98; refine t_c Tryz.call102 rfl (spec_l23Cores q sx seg0 _ _ _ _ _ _ (by first | assumption | exact VA.below ‹_› B | exact sdb_mkv (by first | assumption | exact SlR.below ‹_› B) (by first | assumption | exact SlR.below ‹_› B)) (by first | assumption | exact VA.below ‹_› B | exact seg_mkv (by first | assumption | exact SlR.below ‹_› B)) (seg_mkv (x := seg0) nilR) (by omega) (by first | omega | (show 0 ≤ 1048576; omega)) (by first | omega | (show 0 ≤ 1048576; omega))) ?_ rfl rfl; rintro e w99 ⟨v132, fpv132, rfl, hOv132, x100⟩; refine ⟨_, rfl, x100, ?_⟩; have S := S.add (o := slO _ _ _ _) x100 hOv132; have B := bx Hb B x100; replace hv124_2 := hv124_2.below x100; replace hv128_2 := hv128_2.below x100; have S := S.f1
    refine t_mvw e_path S rfl rfl rfl (by first | omega | (simp; done) | (simp; omega)) (by (simp only [maxLen]); first | omega | (simp; done) | (simp; omega)) ?_ rfl; intro v133 w101 x102 S; have B := B.trans x102; refine t_a rfl ?_ rfl; refine t_d' ?_; refine x_b ?_; refine x_s ?_; refine w_g ?_; refine t_m rfl ?_ rfl; refine t_add rfl rfl (by omega) ?_ rfl; refine t_a rfl ?_ rfl; refine t_d ?_; refine x_r (X := Nat × List Path × Value) (k + 1, out ++ cores q sx (firstS sx) b seg0, v133) ?_ (by exact ⟨rfl, rfl, rfl, rfl, rfl, rfl, rfl, rfl, rfl, trivial⟩) (by (try dsimp only); omega); (try dsimp only); exact ⟨by omega, by rw [ho6, hcb, hc, if_pos rfl, if_pos rfl, flat_succ _ hx, List.append_assoc], B, S⟩
   ·intro hc; refine w_exit ?_; (iterate 2 refine x_then_exit ?_); refine x_block_exit ?_; refine x_cut (X := List Path × Value) (out, u) ?_ ?_; rotate_left
    ·exact ⟨rfl, rfl, rfl, rfl, rfl, trivial⟩
    (try dsimp only); exact ⟨by rw [ho6, hcb, hc]; rfl, B, S⟩
  ·intro hge; (iterate 6 refine t_off rfl rfl rfl ?_ rfl); refine t_p rfl rfl ?_ rfl; refine t_e ?_; refine w_no rfl ?_; refine w_exit ?_; (iterate 2 refine x_then_exit ?_); refine x_block_exit ?_; refine x_cut (X := List Path × Value) (out, u) ?_ ?_; rotate_left
   ·exact ⟨rfl, rfl, rfl, rfl, rfl, trivial⟩
   (try dsimp only); exact ⟨by rw [ho6, List.take_of_length_le (by omega)], B, S⟩
 rintro ⟨out, u⟩ w103 hI; (try dsimp only at hI ⊢); obtain ⟨ho6, B, S⟩ := hI
 have hol6 : out.length ≤ 897 := by rw [ho6, List.length_append]; have := fm_len (f := fun d => cores q d (firstS d) b seg0) (c := 26) (fun d => hcl _ _ _ _) (downs q a); split; omega; simp; omega
 obtain ⟨o6, o6E⟩ : ∃ o, o = out := ⟨_, rfl⟩; rw [← o6E] at hol6; (iterate 2 refine w_s ?_); refine w_g ?_; refine t_a rfl ?_ rfl; refine t_e ?_; refine w_block ?_; refine w_loop (X := Nat × List Path × Value) (fun x wq => (fun i out u => i ≤ (downs q a).length ∧ out = o6 ++ ((downs q a).take i).flatMap (fun u => (downs q b).flatMap fun d => cores q u (firstS u) (firstS d) d) ∧ Below w41.heap.size w41 wq ∧ Sep w41.heap.size wq [slO pathT 38 u out, slO segT 67 v42 (downs q a), slO segT 67 v45 (downs q b)]) x.1 x.2.1 x.2.2) (fun x => (fun i out u => [(18, I ((i : Int))), (9, u), (5, p5), (8, .slice none 0 0), (10, v42), (11, v45)]) x.1 x.2.1 x.2.2) (fun x => (fun i out u => (downs q a).length - i) x.1 x.2.1 x.2.2) (0, out, _) ?_ ⟨rfl, rfl, rfl, rfl, rfl, rfl, trivial⟩ ?_
 ·exact ⟨by omega, by rw [o6E]; simp, B, S.f1.tail⟩
 rintro ⟨i, out, u⟩ w104 hI; (try dsimp only at hI ⊢); obtain ⟨hi7, ho7, B, S⟩ := hI
 have hol7 : out.length ≤ 5291 := by
  rw [ho7, List.length_append]; have := fm_bd (f := fun u => (downs q b).flatMap fun d => cores q u (firstS u) (firstS d) d) (c := 338) (fun u => by have := fm_len (f := fun d => cores q u (firstS u) (firstS d) d) (c := 26) (fun d => hcl _ _ _ _) (downs q b); omega) hus i
  omega
 (iterate 2 refine w_s ?_); refine w_g ?_; (iterate 2 refine t_m rfl ?_ rfl); refine t_len e_seg (S.tail.sl) rfl rfl ?_ rfl; refine t_lss rfl rfl ?_ rfl; refine t_e ?_; refine w_if rfl ?_ ?_
 ·intro hlt; obtain ⟨sx, hx⟩ : ∃ e, (downs q a)[i]? = some e := getx (by omega); have hxz := downs_hops (List.mem_of_getElem? hx); obtain ⟨o7, ho7'⟩ : ∃ o, o = out := ⟨_, rfl⟩; rw [← ho7'] at hol7; refine w_k ?_; refine x_s ?_; refine w_s ?_; refine w_block ?_; refine w_h ?_; refine t_a rfl ?_ rfl; refine t_e ?_; refine w_block ?_; refine w_loop (X := Nat × List Path × Value) (fun x wq => (fun j out u => j ≤ (downs q b).length ∧ out = o7 ++ ((downs q b).take j).flatMap (fun d => cores q sx (firstS sx) (firstS d) d) ∧ Below w41.heap.size w41 wq ∧ Sep w41.heap.size wq [slO pathT 38 u out, slO segT 67 v42 (downs q a), slO segT 67 v45 (downs q b)]) x.1 x.2.1 x.2.2) (fun x => (fun j out u => [(19, I ((j : Int))), (9, u), (18, I ((i : Int))), (5, p5), (8, .slice none 0 0), (10, v42), (11, v45)]) x.1 x.2.1 x.2.2) (fun x => (fun j out u => (downs q b).length - j) x.1 x.2.1 x.2.2) (0, out, _) ?_ ⟨rfl, rfl, rfl, rfl, rfl, rfl, rfl, trivial⟩ ?_
  ·exact ⟨by omega, by rw [ho7']; simp, B, S⟩
  rintro ⟨j, out, u⟩ w105 hI; (try dsimp only at hI ⊢); obtain ⟨hj, ho8, B, S⟩ := hI
  have hol8 : out.length ≤ 5629 := by rw [ho8, List.length_append]; have := fm_bd (f := fun d => cores q sx (firstS sx) (firstS d) d) (c := 26) (fun d => hcl _ _ _ _) hds j; omega
  (iterate 2 refine w_s ?_); refine w_g ?_; (iterate 2 refine t_m rfl ?_ rfl); refine t_len e_seg (S.tail.tail.sl) rfl rfl ?_ rfl; refine t_lss rfl rfl ?_ rfl; refine t_e ?_; refine w_if rfl ?_ ?_
  ·intro hlt2; obtain ⟨y, hy⟩ : ∃ e, (downs q b)[j]? = some e := getx (by omega); have hyz := downs_hops (List.mem_of_getElem? hy); have kx := hcl sx (firstS sx) (firstS y) y; refine w_k ?_; refine x_s ?_; refine w_s ?_; refine w_block ?_; refine w_draw (.st .take 0 (.st .take 1 (.st .take 2 (.st .take 3 (.st .take 4 (.st .take 5 (.st .take 6 (.st .take 7 (.st .take 8 (.st .take 9 (.st .take 11 (.st .take 12 (.st .take 13 (.st .take 14 (.st .take 16 (.st .take 17 (.st .take 18 (.st .take 19 (.st .run 10 (.st .run 15 (.st .run 20 (.st .fin 21 (.st .fin 22 .done))))))))))))))))))))))) mixed (by kernel_rfl) ?_; intro w106 x107; have B := bx Hb B x107; have S := S.below x107; refine t_m rfl ?_ rfl; refine t_lda ‹_› ab_sdb sb_sdb B rfl ?_ rfl; intro v147 hv147; obtain ⟨v147_0, v147_1, rfl, hv147_0, hv147_1⟩ := sdb_va hv147; (iterate 2 refine t_m rfl ?_ rfl); refine t_idx e_seg (k := i) (S.tail.sl) hx (Below.refl _ _) rfl rfl (by first | rfl | omega) ?_ rfl; intro p150 hp150; refine t_lda ‹_› ab_seg sb_seg (Below.refl _ _) rfl ?_ rfl; intro v151 hv151; obtain ⟨v151_2, rfl, hv151_2⟩ := seg_va hv151; (iterate 2 refine t_m rfl ?_ rfl)
   refine t_idx e_seg (k := i) (S.tail.sl) hx (Below.refl _ _) rfl rfl (by first | rfl | omega) ?_ rfl; intro p154 hp154; refine t_lda ‹_› ab_seg sb_seg (Below.refl _ _) rfl ?_ rfl; intro v155 hv155; obtain ⟨v155_2, rfl, hv155_2⟩ := seg_va hv155; (iterate 2 refine t_m rfl ?_ rfl); refine t_idx e_seg (k := j) (S.tail.tail.sl) hy (Below.refl _ _) rfl rfl (by first | rfl | omega) ?_ rfl; intro p159 hp159; refine t_lda ‹_› ab_seg sb_seg (Below.refl _ _) rfl ?_ rfl; intro v160 hv160; obtain ⟨v160_2, rfl, hv160_2⟩ := seg_va hv160; (iterate 2 refine t_m rfl ?_ rfl); refine t_idx e_seg (k := j) (S.tail.tail.sl) hy (Below.refl _ _) rfl rfl (by first | rfl | omega) ?_ rfl; intro p164 hp164; refine t_lda ‹_› ab_seg sb_seg (Below.refl _ _) rfl ?_ rfl; intro v165 hv165; obtain ⟨v165_2, rfl, hv165_2⟩ := seg_va hv165; refine t_x Tryz.call103 rfl (spec_FirstAS sx _ _ (by first | assumption | exact VA.below ‹_› B | exact seg_mkv (by first | assumption | exact SlR.below ‹_› B)) (by omega)) ?_ rfl rfl; intro w108 x109; have B := bx Hb B x109; have S := S.below x109; replace hv151_2 := hv151_2.below x109; replace hv155_2 := hv155_2.below x109; replace hv160_2 := hv160_2.below x109
   replace hv165_2 := hv165_2.below x109; refine t_x Tryz.call103 rfl (spec_FirstAS y _ _ (by first | assumption | exact VA.below ‹_› B | exact seg_mkv (by first | assumption | exact SlR.below ‹_› B)) (by omega)) ?_ rfl rfl; intro w110 x111; have B := bx Hb B x111; have S := S.below x111; replace hv151_2 := hv151_2.below x111; replace hv155_2 := hv155_2.below x111; replace hv160_2 := hv160_2.below x111; replace hv165_2 := hv165_2.below x111; refine t_c Tryz.call102 rfl (spec_l23Cores q sx y _ _ _ _ _ _ (by first | assumption | exact VA.below ‹_› B | exact sdb_mkv (by first | assumption | exact SlR.below ‹_› B) (by first | assumption | exact SlR.below ‹_› B)) (by first | assumption | exact VA.below ‹_› B | exact seg_mkv (by first | assumption | exact SlR.below ‹_› B)) (by first | assumption | exact VA.below ‹_› B | exact seg_mkv (by first | assumption | exact SlR.below ‹_› B)) (by omega) (by first | omega | (show 0 ≤ 1048576; omega)) (by first | omega | (show 0 ≤ 1048576; omega))) ?_ rfl rfl; rintro e w112 ⟨v166, fpv166, rfl, hOv166, x113⟩; refine ⟨_, rfl, x113, ?_⟩; have S := S.add (o := slO _ _ _ _) x113 hOv166; have B := bx Hb B x113; replace hv151_2 := hv151_2.below x113
   replace hv155_2 := hv155_2.below x113; replace hv160_2 := hv160_2.below x113; replace hv165_2 := hv165_2.below x113; have S := S.f1; refine t_mvw e_path S rfl rfl rfl (by first | omega | (simp; done) | (simp; omega)) (by (simp only [maxLen]); first | omega | (simp; done) | (simp; omega)) ?_ rfl; intro v167 w114 x115 S; have B := B.trans x115; refine t_a rfl ?_ rfl; refine t_d' ?_; refine x_b ?_; refine x_s ?_; refine w_g ?_; refine t_m rfl ?_ rfl; refine t_add rfl rfl (by omega) ?_ rfl; refine t_a rfl ?_ rfl; refine t_d ?_; refine x_r (X := Nat × List Path × Value) (j + 1, out ++ cores q sx (firstS sx) (firstS y) y, v167) ?_ (by exact ⟨rfl, rfl, rfl, rfl, rfl, rfl, rfl, trivial⟩) (by (try dsimp only); omega); (try dsimp only); exact ⟨by omega, by rw [ho8, flat_succ _ hy, List.append_assoc], B, S⟩
  intro hge3; rw [List.take_of_length_le (by omega)] at ho8; refine w_exit ?_; (iterate 2 refine x_then_exit ?_); refine x_block_exit ?_; refine x_b ?_; refine x_s ?_; refine w_g ?_; refine t_m rfl ?_ rfl; refine t_add rfl rfl (by omega) ?_ rfl; refine t_a rfl ?_ rfl; refine t_d ?_; refine x_r (X := Nat × List Path × Value) (i + 1, out, u) ?_ (by exact ⟨rfl, rfl, rfl, rfl, rfl, rfl, trivial⟩) (by (try dsimp only); omega); (try dsimp only); exact ⟨by omega, by rw [ho8, ho7', ho7, flat_succ _ hx, List.append_assoc], B, S⟩
 intro hge7; rw [List.take_of_length_le (by omega)] at ho7; refine w_exit ?_; (iterate 2 refine x_then_exit ?_); refine x_block_exit ?_; refine x_s ?_; refine w_h ?_; refine t_m rfl ?_ rfl; refine t_a rfl ?_ rfl; refine t_e ?_; refine w_r ?_; refine x_ret1 rfl rfl ?_; obtain ⟨fp, hO⟩ := (S.mono X0.size).head
 have e : out = combL t q a b (downs q a) (downs q b) := by
  rw [ho7, o6E, ho6, o5E, ho5, ho4', ho4, ho3]
  rfl
 rw [e] at hO; exact ⟨_, fp, rfl, hO, ext_trans X0 B⟩
section
variable {P : Program} {n : Nat} {L : Frm} {w : World}
theorem x_retccttt {fn : Func} {R : Ending → World → Prop} {t0 g0 sz0 : Nat} {tt0 tb0 : TypeId} {C0 : Array Value} {t1 g1 sz1 : Nat} {tt1 tb1 : TypeId} {C1 : Array Value} {t2 : Nat} {v2 : Value} {t3 : Nat} {v3 : Value} {t4 : Nat} {v4 : Value} (hr : fn.results = #[.cell t0 tt0, .cell t1 tt1, .tmp t2, .tmp t3, .tmp t4]) (h0 : look L t0 = some (.pointer (some ⟨g0, 0, none⟩))) (hb0 : w.heap[g0]? = some (.cells C0 tb0 (0, 0))) (ha0 : aggB P tt0 = some true) (hs0 : sizeB P tt0 = some sz0) (hz0 : C0.size = sz0) (h1 : look L t1 = some (.pointer (some ⟨g1, 0, none⟩))) (hb1 : w.heap[g1]? = some (.cells C1 tb1 (0, 0))) (ha1 : aggB P tt1 = some true) (hs1 : sizeB P tt1 = some sz1) (hz1 : C1.size = sz1) (h2 : look L t2 = some v2) (h3 : look L t3 = some v3) (h4 : look L t4 = some v4) (h : R (.returned (.tuple #[.agg C0, .agg C1, v2, v3, v4])) w) : WX n (bodyPost P fn R) .ret L w := by
  intro a hE; subst hz0; subst hz1; have k0 := hE.at_ _ _ h0; have k1 := hE.at_ _ _ h1; have k2 := hE.at_ _ _ h2; have k3 := hE.at_ _ _ h3; have k4 := hE.at_ _ _ h4; refine bodyPost_ret ?_ hE.defers h
  simp [results, hr, k0, asAddr, run_loadBox hb0 ha0 hs0, k1, run_loadBox hb1 ha1 hs1, k2, k3, k4]
end
theorem addSeg_n (t : Topo) (q : Sdb) (s : Seg) : (addSeg t q s).down.length + (addSeg t q s).core.length ≤ q.down.length + q.core.length + 1 := by
  unfold addSeg
  split
  · split <;> simp <;> omega
  · omega
theorem TopK.kinds {A : List ASd} {L : List Lnk} (T : TopK A L) : ∀ x ∈ (⟨A, L⟩ : Topo).links, 1 ≤ x.kind ∧ x.kind ≤ 3 := fun x hx => by have := T.lnk x hx; unfold LnkK at this; omega
theorem TopK.doors {A : List ASd} {L : List Lnk} (T : TopK A L) : ∀ x ∈ (⟨A, L⟩ : Topo).links, x.a < x.b ∧ 1 ≤ x.ai ∧ 1 ≤ x.bi := fun x hx => by have := T.lnk x hx; unfold LnkK at this; omega
theorem TopK.sz {A : List ASd} {L : List Lnk} (T : TopK A L) : sz_topo (⟨A, L⟩ : Topo) ≤ 1000 := by
  have := T.1.2.1; have := T.len
  simp only [sz_topo]; omega
theorem spec_l23Ends {b n c : Nat} {w : World} {v vd vc : Value} {os : List Ow} (q : Sdb) (S : Sep b w (curO v n c 123 :: slO segT 67 vd q.down :: slO segT 67 vc q.core :: os)) (K : CodeK b w v n) (hz : sz_sdb q ≤ 1000) : Calls Tryz.prog 61 #[.pointer (some ⟨c, 0, none⟩), .agg #[vd, vc]] w fun e w' =>
  ∃ y z : Int, e = .returned (.tuple #[I y, I z]) ∧ True ∧ Sep b w' (curO v n c 123 :: slO segT 67 vd q.down :: slO segT 67 vc q.core :: os) ∧ Below b w w' := by
 have hz1 : sz_segs q.down ≤ 1000 := by unfold sz_sdb at hz; omega
 have hl1 : q.down.length ≤ 1000 := by unfold sz_segs at hz1; omega
 have hS : ∀ s ∈ q.down, s.hops.length ≤ 1000 := fun s hs => by have := sz_segs_mem hs; omega
 have X0 := Below.refl w.heap.size w; refine enter Tryz.func61 rfl Tryz.ntmps61 rfl ?_; have B := Below.refl b w; have Hb := S.base; refine w_h ?_; refine t_boxo S rfl rfl ?_ rfl rfl; intro g3 w1 x2 S; have B := bx Hb B x2; (iterate 2 refine t_a rfl ?_ rfl); refine t_k ?_; refine t_m rfl ?_ rfl; have S := S.f1; refine t_f Tryz.call68 rfl (spec_l1Below 8 S (K.below B)) ?_ rfl; rintro e w3 ⟨y9, rfl, hf9, S, x4⟩; refine ⟨_, rfl, ?_⟩; have B := B.trans x4; refine t_a rfl ?_ rfl; refine t_k ?_; refine t_m rfl ?_ rfl; refine t_f Tryz.call68 rfl (spec_l1Below 8 S (K.below B)) ?_ rfl; rintro e w5 ⟨y11, rfl, hf11, S, x6⟩; refine ⟨_, rfl, ?_⟩; have B := B.trans x6; refine t_a rfl ?_ rfl; refine t_e ?_; refine w_s ?_; refine w_cut (X := Int) (fun y wq => Below b w wq ∧ Sep b wq (curO v n c 123 :: slO segT 67 vd q.down :: slO segT 67 vc q.core :: bxO g3 30 #[vd, vc] :: os)) (fun y => [(6, I y), (0, .pointer (some ⟨c, 0, none⟩)), (3, .pointer (some ⟨g3, 0, none⟩)), (4, I 0), (5, I 0), (7, I y11)]) ?_ ?_
 ·refine w_s ?_; refine w_g ?_; refine t_y fb_sdb_0 rfl rfl ?_ rfl; refine t_bx1 S.tail.box ab_s_seg rfl rfl ?_ rfl; refine t_len e_seg (S.tail.tail.sl) rfl rfl ?_ rfl; refine t_gtr rfl rfl ?_ rfl; refine t_m rfl ?_ rfl; refine t_partp (t := 16) rfl ?_ ?_
  ·intro hc1; refine t_on rfl rfl ?_; refine t_m rfl ?_ rfl; refine t_on rfl rfl ?_; refine t_f Tryz.call70 rfl (spec_l1Once 4 S (K.below B)) ?_ rfl; rintro e w7 ⟨y18, rfl, hf18, S, x8⟩; refine ⟨_, rfl, ?_⟩; have B := B.trans x8; refine t_on rfl rfl ?_; refine t_not rfl ?_ rfl; refine t_q rfl rfl ?_ rfl; refine t_e ?_; refine w_if rfl ?_ ?_
   ·intro hc2; refine w_drawP [0, 2, 3] (.alt (.st .fin 1 (.st .fin 4 (.st .fin 5 (.st .fin 6 (.st .fin 7 (.st .fin 8 (.st .fin 9 (.st .fin 10 .done)))))))) (.st .fin 4 (.alt (.st .fin 1 (.st .fin 5 (.st .fin 6 (.st .fin 7 (.st .fin 8 (.st .fin 9 (.st .fin 10 .done))))))) (.st .fin 5 (.alt (.st .fin 1 (.st .fin 6 (.st .fin 7 (.st .fin 8 (.st .fin 9 (.st .fin 10 .done)))))) (.st .fin 6 (.st .fin 1 (.st .fin 7 (.st .fin 8 (.st .fin 9 (.st .fin 10 .done))))))))))) mixed (by kernel_rfl) ?_; intro w9 x10; have B := bx Hb B x10; have S := S.below x10; refine p_fldx fb_sdb_0 rfl rfl ?_ rfl; refine p_move rfl ?_ rfl; refine p_fldx fb_sdb_0 rfl rfl ?_ rfl; refine p_done ?_; refine t_alt ?_ ?_
    ·refine t_bx1 S.tail.box ab_s_seg rfl rfl ?_ rfl; refine t_bx1 S.tail.box ab_s_seg rfl rfl ?_ rfl; refine t_len e_seg (S.tail.tail.sl) rfl rfl ?_ rfl; refine t_f Tryz.call68 rfl (spec_l1Below (q.down.length : Int) S (K.below B)) ?_ rfl; rintro e w11 ⟨y27, rfl, hf27, S, x12⟩; refine ⟨_, rfl, ?_⟩; have B := B.trans x12; obtain ⟨e28, he28⟩ : ∃ e, (q.down)[y27.toNat]? = some e := getx (by omega); refine t_idx e_seg (k := y27.toNat) (S.tail.tail.sl) he28 (Below.refl _ _) rfl rfl (by first | rfl | omega) ?_ rfl; intro p28 hp28; refine t_lda ‹_› ab_seg sb_seg (Below.refl _ _) rfl ?_ rfl; intro v29 hv29; obtain ⟨v29_2, rfl, hv29_2⟩ := seg_va hv29; refine t_x Tryz.call114 rfl (spec_LastAS e28 _ _ (by first | assumption | exact VA.below ‹_› B | exact seg_mkv (by first | assumption | exact SlR.below ‹_› B)) (by have := hS e28 (List.mem_of_getElem? ‹_›); omega)) ?_ rfl rfl; intro w13 x14; have B := bx Hb B x14; have S := S.below x14; replace hp28 := hp28.below x14; replace hv29_2 := hv29_2.below x14; refine t_a rfl ?_ rfl; refine t_d' ?_; have S := S.f1.f3.f3.f3; refine x_cut (X := Int) (lastS e28) ?_ ?_; rotate_left
     ·exact ⟨rfl, rfl, rfl, rfl, rfl, rfl, trivial⟩
     (try dsimp only); exact ⟨B, S⟩
    ·refine t_bx1 S.tail.box ab_s_seg rfl rfl ?_ rfl; refine t_alt ?_ ?_
     ·refine t_bx1 S.tail.box ab_s_seg rfl rfl ?_ rfl; refine t_len e_seg (S.tail.tail.sl) rfl rfl ?_ rfl; refine t_f Tryz.call68 rfl (spec_l1Below (q.down.length : Int) S (K.below B)) ?_ rfl; rintro e w15 ⟨y27, rfl, hf27, S, x16⟩; refine ⟨_, rfl, ?_⟩; have B := B.trans x16; obtain ⟨e28, he28⟩ : ∃ e, (q.down)[y27.toNat]? = some e := getx (by omega); refine t_idx e_seg (k := y27.toNat) (S.tail.tail.sl) he28 (Below.refl _ _) rfl rfl (by first | rfl | omega) ?_ rfl; intro p28 hp28; refine t_lda ‹_› ab_seg sb_seg (Below.refl _ _) rfl ?_ rfl; intro v29 hv29; obtain ⟨v29_2, rfl, hv29_2⟩ := seg_va hv29; refine t_x Tryz.call114 rfl (spec_LastAS e28 _ _ (by first | assumption | exact VA.below ‹_› B | exact seg_mkv (by first | assumption | exact SlR.below ‹_› B)) (by have := hS e28 (List.mem_of_getElem? ‹_›); omega)) ?_ rfl rfl; intro w17 x18; have B := bx Hb B x18; have S := S.below x18; replace hp28 := hp28.below x18; replace hv29_2 := hv29_2.below x18; refine t_a rfl ?_ rfl; refine t_d' ?_; have S := S.f1.f3.f3.f3; refine x_cut (X := Int) (lastS e28) ?_ ?_; rotate_left
      ·exact ⟨rfl, rfl, rfl, rfl, rfl, rfl, trivial⟩
      (try dsimp only); exact ⟨B, S⟩
     ·refine t_len e_seg (S.tail.tail.sl) rfl rfl ?_ rfl; refine t_alt ?_ ?_
      ·refine t_bx1 S.tail.box ab_s_seg rfl rfl ?_ rfl; refine t_f Tryz.call68 rfl (spec_l1Below (q.down.length : Int) S (K.below B)) ?_ rfl; rintro e w19 ⟨y27, rfl, hf27, S, x20⟩; refine ⟨_, rfl, ?_⟩; have B := B.trans x20; obtain ⟨e28, he28⟩ : ∃ e, (q.down)[y27.toNat]? = some e := getx (by omega); refine t_idx e_seg (k := y27.toNat) (S.tail.tail.sl) he28 (Below.refl _ _) rfl rfl (by first | rfl | omega) ?_ rfl; intro p28 hp28; refine t_lda ‹_› ab_seg sb_seg (Below.refl _ _) rfl ?_ rfl; intro v29 hv29; obtain ⟨v29_2, rfl, hv29_2⟩ := seg_va hv29; refine t_x Tryz.call114 rfl (spec_LastAS e28 _ _ (by first | assumption | exact VA.below ‹_› B | exact seg_mkv (by first | assumption | exact SlR.below ‹_› B)) (by have := hS e28 (List.mem_of_getElem? ‹_›); omega)) ?_ rfl rfl; intro w21 x22; have B := bx Hb B x22; have S := S.below x22; replace hp28 := hp28.below x22; replace hv29_2 := hv29_2.below x22; refine t_a rfl ?_ rfl; refine t_d' ?_; have S := S.f1.f3.f3.f3; refine x_cut (X := Int) (lastS e28) ?_ ?_; rotate_left
       ·exact ⟨rfl, rfl, rfl, rfl, rfl, rfl, trivial⟩
       (try dsimp only); exact ⟨B, S⟩
      ·refine t_f Tryz.call68 rfl (spec_l1Below (q.down.length : Int) S (K.below B)) ?_ rfl; rintro e w23 ⟨y27, rfl, hf27, S, x24⟩; refine ⟨_, rfl, ?_⟩; have B := B.trans x24; refine t_bx1 S.tail.box ab_s_seg rfl rfl ?_ rfl; obtain ⟨e28, he28⟩ : ∃ e, (q.down)[y27.toNat]? = some e := getx (by omega); refine t_idx e_seg (k := y27.toNat) (S.tail.tail.sl) he28 (Below.refl _ _) rfl rfl (by first | rfl | omega) ?_ rfl; intro p28 hp28; refine t_lda ‹_› ab_seg sb_seg (Below.refl _ _) rfl ?_ rfl; intro v29 hv29; obtain ⟨v29_2, rfl, hv29_2⟩ := seg_va hv29; refine t_x Tryz.call114 rfl (spec_LastAS e28 _ _ (by first | assumption | exact VA.below ‹_› B | exact seg_mkv (by first | assumption | exact SlR.below ‹_› B)) (by have := hS e28 (List.mem_of_getElem? ‹_›); omega)) ?_ rfl rfl; intro w25 x26; have B := bx Hb B x26; have S := S.below x26; replace hp28 := hp28.below x26; replace hv29_2 := hv29_2.below x26; refine t_a rfl ?_ rfl; refine t_d' ?_; have S := S.f1.f3.f3.f3; refine x_cut (X := Int) (lastS e28) ?_ ?_; rotate_left
       ·exact ⟨rfl, rfl, rfl, rfl, rfl, rfl, trivial⟩
       (try dsimp only); exact ⟨B, S⟩
   ·intro hc3; refine w_k ?_; have S := S.f1.f3.f3.f3; refine x_cut (X := Int) (y9) ?_ ?_; rotate_left
    ·exact ⟨rfl, rfl, rfl, rfl, rfl, rfl, trivial⟩
    (try dsimp only); exact ⟨B, S⟩
  ·intro hc4; (iterate 3 refine t_off rfl rfl rfl ?_ rfl); refine t_p rfl rfl ?_ rfl; refine t_e ?_; refine w_no rfl ?_; refine w_k ?_; have S := S.f1.f3.f3.f3; refine x_cut (X := Int) (y9) ?_ ?_; rotate_left
   ·exact ⟨rfl, rfl, rfl, rfl, rfl, rfl, trivial⟩
   (try dsimp only); exact ⟨B, S⟩
 rintro y w27 hI; (try dsimp only at hI ⊢); obtain ⟨B, S⟩ := hI; refine w_s ?_; refine w_cut (X := Int) (fun z wq => Below b w wq ∧ Sep b wq (curO v n c 123 :: slO segT 67 vd q.down :: slO segT 67 vc q.core :: bxO g3 30 #[vd, vc] :: os)) (fun z => [(7, I z), (6, I y), (4, I 0), (5, I 0)]) ?_ ?_
 ·refine w_s ?_; refine w_g ?_; refine t_y fb_sdb_0 rfl rfl ?_ rfl; refine t_bx1 S.tail.tail.tail.box ab_s_seg rfl rfl ?_ rfl; refine t_len e_seg (S.tail.sl) rfl rfl ?_ rfl; refine t_gtr rfl rfl ?_ rfl; refine t_m rfl ?_ rfl; refine t_partp (t := 35) rfl ?_ ?_
  ·intro hc5; refine t_on rfl rfl ?_; refine t_m rfl ?_ rfl; refine t_on rfl rfl ?_; refine t_f Tryz.call70 rfl (spec_l1Once 3 S (K.below B)) ?_ rfl; rintro e w28 ⟨y37, rfl, hf37, S, x29⟩; refine ⟨_, rfl, ?_⟩; have B := B.trans x29; refine t_on rfl rfl ?_; refine t_not rfl ?_ rfl; refine t_q rfl rfl ?_ rfl; refine t_e ?_; refine w_if rfl ?_ ?_
   ·intro hc6; refine w_drawP [0, 2, 3] (.alt (.st .fin 1 (.st .fin 4 (.st .fin 5 (.st .fin 6 (.st .fin 7 (.st .fin 8 (.st .fin 9 (.st .fin 10 .done)))))))) (.st .fin 4 (.alt (.st .fin 1 (.st .fin 5 (.st .fin 6 (.st .fin 7 (.st .fin 8 (.st .fin 9 (.st .fin 10 .done))))))) (.st .fin 5 (.alt (.st .fin 1 (.st .fin 6 (.st .fin 7 (.st .fin 8 (.st .fin 9 (.st .fin 10 .done)))))) (.st .fin 6 (.st .fin 1 (.st .fin 7 (.st .fin 8 (.st .fin 9 (.st .fin 10 .done))))))))))) mixed (by kernel_rfl) ?_; intro w30 x31; have B := bx Hb B x31; have S := S.below x31; refine p_fldx fb_sdb_0 rfl rfl ?_ rfl; refine p_move rfl ?_ rfl; refine p_fldx fb_sdb_0 rfl rfl ?_ rfl; refine p_done ?_; refine t_alt ?_ ?_
    ·refine t_bx1 S.tail.tail.tail.box ab_s_seg rfl rfl ?_ rfl; refine t_bx1 S.tail.tail.tail.box ab_s_seg rfl rfl ?_ rfl; refine t_len e_seg (S.tail.sl) rfl rfl ?_ rfl; refine t_f Tryz.call68 rfl (spec_l1Below (q.down.length : Int) S (K.below B)) ?_ rfl; rintro e w32 ⟨y46, rfl, hf46, S, x33⟩; refine ⟨_, rfl, ?_⟩; have B := B.trans x33; obtain ⟨e47, he47⟩ : ∃ e, (q.down)[y46.toNat]? = some e := getx (by omega); refine t_idx e_seg (k := y46.toNat) (S.tail.sl) he47 (Below.refl _ _) rfl rfl (by first | rfl | omega) ?_ rfl; intro p47 hp47; refine t_lda ‹_› ab_seg sb_seg (Below.refl _ _) rfl ?_ rfl; intro v48 hv48; obtain ⟨v48_2, rfl, hv48_2⟩ := seg_va hv48; refine t_x Tryz.call114 rfl (spec_LastAS e47 _ _ (by first | assumption | exact VA.below ‹_› B | exact seg_mkv (by first | assumption | exact SlR.below ‹_› B)) (by have := hS e47 (List.mem_of_getElem? ‹_›); omega)) ?_ rfl rfl; intro w34 x35; have B := bx Hb B x35; have S := S.below x35; replace hp47 := hp47.below x35; replace hv48_2 := hv48_2.below x35; refine t_a rfl ?_ rfl; refine t_d' ?_; refine x_cut (X := Int) (lastS e47) ?_ ?_; rotate_left
     ·exact ⟨rfl, rfl, rfl, rfl, trivial⟩
     (try dsimp only); exact ⟨B, S⟩
    ·refine t_bx1 S.tail.tail.tail.box ab_s_seg rfl rfl ?_ rfl; refine t_alt ?_ ?_
     ·refine t_bx1 S.tail.tail.tail.box ab_s_seg rfl rfl ?_ rfl; refine t_len e_seg (S.tail.sl) rfl rfl ?_ rfl; refine t_f Tryz.call68 rfl (spec_l1Below (q.down.length : Int) S (K.below B)) ?_ rfl; rintro e w36 ⟨y46, rfl, hf46, S, x37⟩; refine ⟨_, rfl, ?_⟩; have B := B.trans x37; obtain ⟨e47, he47⟩ : ∃ e, (q.down)[y46.toNat]? = some e := getx (by omega); refine t_idx e_seg (k := y46.toNat) (S.tail.sl) he47 (Below.refl _ _) rfl rfl (by first | rfl | omega) ?_ rfl; intro p47 hp47; refine t_lda ‹_› ab_seg sb_seg (Below.refl _ _) rfl ?_ rfl; intro v48 hv48; obtain ⟨v48_2, rfl, hv48_2⟩ := seg_va hv48; refine t_x Tryz.call114 rfl (spec_LastAS e47 _ _ (by first | assumption | exact VA.below ‹_› B | exact seg_mkv (by first | assumption | exact SlR.below ‹_› B)) (by have := hS e47 (List.mem_of_getElem? ‹_›); omega)) ?_ rfl rfl; intro w38 x39; have B := bx Hb B x39; have S := S.below x39; replace hp47 := hp47.below x39; replace hv48_2 := hv48_2.below x39; refine t_a rfl ?_ rfl; refine t_d' ?_; refine x_cut (X := Int) (lastS e47) ?_ ?_; rotate_left
      ·exact ⟨rfl, rfl, rfl, rfl, trivial⟩
      (try dsimp only); exact ⟨B, S⟩
     ·refine t_len e_seg (S.tail.sl) rfl rfl ?_ rfl; refine t_alt ?_ ?_
      ·refine t_bx1 S.tail.tail.tail.box ab_s_seg rfl rfl ?_ rfl; refine t_f Tryz.call68 rfl (spec_l1Below (q.down.length : Int) S (K.below B)) ?_ rfl; rintro e w40 ⟨y46, rfl, hf46, S, x41⟩; refine ⟨_, rfl, ?_⟩; have B := B.trans x41; obtain ⟨e47, he47⟩ : ∃ e, (q.down)[y46.toNat]? = some e := getx (by omega); refine t_idx e_seg (k := y46.toNat) (S.tail.sl) he47 (Below.refl _ _) rfl rfl (by first | rfl | omega) ?_ rfl; intro p47 hp47; refine t_lda ‹_› ab_seg sb_seg (Below.refl _ _) rfl ?_ rfl; intro v48 hv48; obtain ⟨v48_2, rfl, hv48_2⟩ := seg_va hv48; refine t_x Tryz.call114 rfl (spec_LastAS e47 _ _ (by first | assumption | exact VA.below ‹_› B | exact seg_mkv (by first | assumption | exact SlR.below ‹_› B)) (by have := hS e47 (List.mem_of_getElem? ‹_›); omega)) ?_ rfl rfl; intro w42 x43; have B := bx Hb B x43; have S := S.below x43; replace hp47 := hp47.below x43; replace hv48_2 := hv48_2.below x43; refine t_a rfl ?_ rfl; refine t_d' ?_; refine x_cut (X := Int) (lastS e47) ?_ ?_; rotate_left
       ·exact ⟨rfl, rfl, rfl, rfl, trivial⟩
       (try dsimp only); exact ⟨B, S⟩
      ·refine t_f Tryz.call68 rfl (spec_l1Below (q.down.length : Int) S (K.below B)) ?_ rfl; rintro e w44 ⟨y46, rfl, hf46, S, x45⟩; refine ⟨_, rfl, ?_⟩; have B := B.trans x45; refine t_bx1 S.tail.tail.tail.box ab_s_seg rfl rfl ?_ rfl; obtain ⟨e47, he47⟩ : ∃ e, (q.down)[y46.toNat]? = some e := getx (by omega); refine t_idx e_seg (k := y46.toNat) (S.tail.sl) he47 (Below.refl _ _) rfl rfl (by first | rfl | omega) ?_ rfl; intro p47 hp47; refine t_lda ‹_› ab_seg sb_seg (Below.refl _ _) rfl ?_ rfl; intro v48 hv48; obtain ⟨v48_2, rfl, hv48_2⟩ := seg_va hv48; refine t_x Tryz.call114 rfl (spec_LastAS e47 _ _ (by first | assumption | exact VA.below ‹_› B | exact seg_mkv (by first | assumption | exact SlR.below ‹_› B)) (by have := hS e47 (List.mem_of_getElem? ‹_›); omega)) ?_ rfl rfl; intro w46 x47; have B := bx Hb B x47; have S := S.below x47; replace hp47 := hp47.below x47; replace hv48_2 := hv48_2.below x47; refine t_a rfl ?_ rfl; refine t_d' ?_; refine x_cut (X := Int) (lastS e47) ?_ ?_; rotate_left
       ·exact ⟨rfl, rfl, rfl, rfl, trivial⟩
       (try dsimp only); exact ⟨B, S⟩
   ·intro hc7; refine w_k ?_; refine x_cut (X := Int) (y11) ?_ ?_; rotate_left
    ·exact ⟨rfl, rfl, rfl, rfl, trivial⟩
    (try dsimp only); exact ⟨B, S⟩
  ·intro hc8; (iterate 3 refine t_off rfl rfl rfl ?_ rfl); refine t_p rfl rfl ?_ rfl; refine t_e ?_; refine w_no rfl ?_; refine w_k ?_; refine x_cut (X := Int) (y11) ?_ ?_; rotate_left
   ·exact ⟨rfl, rfl, rfl, rfl, trivial⟩
   (try dsimp only); exact ⟨B, S⟩
 rintro z w48 hI; (try dsimp only at hI ⊢); obtain ⟨B, S⟩ := hI; refine w_h ?_; (iterate 2 refine t_m rfl ?_ rfl); (iterate 2 refine t_a rfl ?_ rfl); refine t_e ?_; refine w_r ?_; refine x_ret2 rfl rfl rfl ?_; have S := S.f3.tail.f2.f2.f2; exact ⟨_, _, rfl, trivial, S, B⟩
set_option maxHeartbeats 8000000 in
theorem spec_l23Book {b n c : Nat} {w : World} {v : Value} {os : List Ow} (S : Sep b w (curO v n c 123 :: os)) (K : CodeK b w v n) : Calls Tryz.prog 60 #[.pointer (some ⟨c, 0, none⟩)] w fun e w' =>
  ∃ (va vl vd vc : Value) (A : List ASd) (L : List Lnk) (q : Sdb), e = .returned (.tuple #[.agg #[va, vl], .agg #[vd, vc]]) ∧ (TopK A L ∧ DbL ⟨A, L⟩ q ∧ DbN q) ∧ Sep b w' (slO segT 67 vd q.down :: slO segT 67 vc q.core :: slO asnT 117 va A :: slO linkT 90 vl L :: curO v n c 123 :: os) ∧ Below b w w' := by
 have X0 := Below.refl w.heap.size w; refine enter Tryz.func60 rfl Tryz.ntmps60 rfl ?_; have B := Below.refl b w; have Hb := S.base; refine w_h ?_; refine t_w S z_topo rfl ?_ rfl rfl; intro g2 w49 x50 S; have B := bx Hb B x50; refine t_w S z_sdb rfl ?_ rfl rfl; intro g3 w51 x52 S; have B := bx Hb B x52; refine t_k ?_; refine t_m rfl ?_ rfl; have S := S.f2; refine t_f Tryz.call97 rfl (spec_l5Draw S (K.below B)) ?_ rfl; rintro e w53 ⟨va9, vl9, A9, L9, rfl, hf9, S, x54⟩; refine ⟨_, rfl, ?_⟩; have B := B.trans x54; refine t_w S z_topo rfl ?_ rfl rfl; intro g4 w55 x56 S; have B := bx Hb B x56; refine t_stn S sb_topo rfl rfl rfl rfl (by repeat first | exact oc0 | refine oc rfl ?_ | refine oc (SlR.cells (S.tail.sl)).2 ?_ | refine oc (SlR.cells (S.tail.tail.sl)).2 ?_) ?_; intro w57 b58 S; have B := B.trans b58; refine t_e ?_; refine w_s ?_; have T : TopK A9 L9 := hf9; have hst := T.sz; refine w_g ?_; refine t_g (fun w => b_sdb0 w) rfl ?_ rfl; refine t_w S z_sdb rfl ?_ rfl rfl; intro g5 w59 x60 S; have B := bx Hb B x60; refine t_stn S sb_sdb rfl rfl rfl rfl (by simp [Value.oneCell']) ?_; intro w61 b62 S; have B := B.trans b62; refine t_e ?_; (iterate 2 refine w_s ?_); refine w_g ?_
 refine t_m rfl ?_ rfl; have S := S.f4; refine t_f Tryz.call68 rfl (spec_l1Below 8 S (K.below B)) ?_ rfl; rintro e w63 ⟨y12, rfl, hf12, S, x64⟩; refine ⟨_, rfl, ?_⟩; have B := B.trans x64; refine t_add rfl rfl (by omega) ?_ rfl; refine t_a rfl ?_ rfl; refine t_e ?_; refine w_block ?_; have S := S.f6.f6.f4.f4.f6.f6.f6
 refine w_loop (X := Int × Sdb × Value × Value) (fun x wq => (fun i q vd vc => ((q.down.length + q.core.length : Nat) : Int) + i ≤ 13 ∧ 0 ≤ i ∧ DbL ⟨A9, L9⟩ q ∧ Below b w wq ∧ Sep b wq (slO segT 67 vd q.down :: slO segT 67 vc q.core :: curO v n c 123 :: slO asnT 117 va9 A9 :: slO linkT 90 vl9 L9 :: bxO g5 30 #[vd, vc] :: bxO g4 27 #[va9, vl9] :: bxO g3 30 #[.slice none 0 0, .slice none 0 0] :: bxO g2 27 #[.slice none 0 0, .slice none 0 0] :: os)) x.1 x.2.1 x.2.2.1 x.2.2.2) (fun x => (fun i q vd vc => [(6, I i), (0, .pointer (some ⟨c, 0, none⟩)), (2, .pointer (some ⟨g2, 0, none⟩)), (3, .pointer (some ⟨g3, 0, none⟩)), (4, .pointer (some ⟨g4, 0, none⟩)), (5, .pointer (some ⟨g5, 0, none⟩))]) x.1 x.2.1 x.2.2.1 x.2.2.2) (fun x => (fun i q vd vc => i.toNat) x.1 x.2.1 x.2.2.1 x.2.2.2) (6 + y12, ⟨[], []⟩, .slice none 0 0, .slice none 0 0) ?_ ⟨rfl, rfl, rfl, rfl, rfl, rfl, trivial⟩ ?_
 ·exact ⟨by simp; omega, by dsimp only; omega, DbL.nil _, B, S.addNil.addNil⟩
 rintro ⟨i, q, vd, vc⟩ w65 hI; (try dsimp only at hI ⊢); obtain ⟨hi, hi0, D, B, S⟩ := hI; (iterate 2 refine w_s ?_); refine w_g ?_; refine t_m rfl ?_ rfl; refine t_gtr rfl rfl ?_ rfl; refine t_e ?_; refine w_if rfl ?_ ?_
 ·intro hlt
  have hN : DbN q := by unfold DbN; omega
  have hq := db_sz D.db hN; refine w_k ?_; refine x_s ?_; refine w_s ?_; refine w_block ?_; refine w_h ?_; refine t_a rfl ?_ rfl; refine t_e ?_; refine w_s ?_; refine w_cut (X := Int) (fun kd wq => Below b w wq ∧ Sep b wq (slO segT 67 vd q.down :: slO segT 67 vc q.core :: curO v n c 123 :: slO asnT 117 va9 A9 :: slO linkT 90 vl9 L9 :: bxO g5 30 #[vd, vc] :: bxO g4 27 #[va9, vl9] :: bxO g3 30 #[.slice none 0 0, .slice none 0 0] :: bxO g2 27 #[.slice none 0 0, .slice none 0 0] :: os)) (fun kd => [(7, I kd), (6, I i), (0, .pointer (some ⟨c, 0, none⟩)), (2, .pointer (some ⟨g2, 0, none⟩)), (3, .pointer (some ⟨g3, 0, none⟩)), (4, .pointer (some ⟨g4, 0, none⟩)), (5, .pointer (some ⟨g5, 0, none⟩))]) ?_ ?_
  ·refine w_s ?_; refine w_g ?_; refine t_m rfl ?_ rfl; have S := S.f2; refine t_f Tryz.call70 rfl (spec_l1Once 3 S (K.below B)) ?_ rfl; rintro e w66 ⟨y19, rfl, hf19, S, x67⟩; refine ⟨_, rfl, ?_⟩; have B := B.trans x67; refine t_e ?_; refine w_if rfl ?_ ?_
   ·intro hc9; refine w_g ?_; refine t_a rfl ?_ rfl; refine t_d ?_; have S := S.f8.f8.f8.f8.f8.f8.f6.f8.f8; refine x_cut (X := Int) (1) ?_ ?_; rotate_left
    ·exact ⟨rfl, rfl, rfl, rfl, rfl, rfl, rfl, trivial⟩
    (try dsimp only); exact ⟨B, S⟩
   ·intro hc10; refine w_k ?_; have S := S.f8.f8.f8.f8.f8.f8.f6.f8.f8; refine x_cut (X := Int) (2) ?_ ?_; rotate_left
    ·exact ⟨rfl, rfl, rfl, rfl, rfl, rfl, rfl, trivial⟩
    (try dsimp only); exact ⟨B, S⟩
  rintro kd w68 hI; (try dsimp only at hI ⊢); obtain ⟨B, S⟩ := hI; refine w_drawP [2, 4] (.alt (.st .fin 0 (.alt (.st .fin 1 (.st .fin 3 (.st .fin 5 (.st .fin 6 (.st .fin 7 .done))))) (.st .fin 3 (.alt (.st .fin 1 (.st .fin 5 (.st .fin 6 (.st .fin 7 .done)))) (.st .fin 5 (.st .fin 1 (.st .fin 6 (.st .fin 7 .done)))))))) (.alt (.st .fin 1 (.alt (.st .fin 0 (.st .fin 3 (.st .fin 5 (.st .fin 6 (.st .fin 7 .done))))) (.st .fin 3 (.alt (.st .fin 0 (.st .fin 5 (.st .fin 6 (.st .fin 7 .done)))) (.st .fin 5 (.st .fin 0 (.st .fin 6 (.st .fin 7 .done)))))))) (.st .fin 3 (.alt (.st .fin 0 (.alt (.st .fin 1 (.st .fin 5 (.st .fin 6 (.st .fin 7 .done)))) (.st .fin 5 (.st .fin 1 (.st .fin 6 (.st .fin 7 .done)))))) (.alt (.st .fin 1 (.alt (.st .fin 0 (.st .fin 5 (.st .fin 6 (.st .fin 7 .done)))) (.st .fin 5 (.st .fin 0 (.st .fin 6 (.st .fin 7 .done)))))) (.st .fin 5 (.alt (.st .fin 0 (.st .fin 1 (.st .fin 6 (.st .fin 7 .done)))) (.st .fin 1 (.st .fin 0 (.st .fin 6 (.st .fin 7 .done))))))))))) mixed (by kernel_rfl) ?_; intro w69 x70; have B := bx Hb B x70; have S := S.below x70; (iterate 2 refine p_move rfl ?_ rfl); refine p_done ?_; refine t_alt ?_ (t_alt ?_ ?_)
  ·refine t_b S.t4.tail.tail.box ab_topo sb_topo rfl rfl ?_ rfl; refine t_alt ?_ ?_
   ·refine t_b S.t4.tail.box ab_sdb sb_sdb rfl rfl ?_ rfl; refine t_b S.t4.tail.tail.box ab_topo sb_topo rfl rfl ?_ rfl; have S := S.f4.f4.f4; refine t_f Tryz.call98 rfl (spec_l9Grow kd T S (K.below B)) ?_ rfl; rintro e w71 ⟨vh25, s25, rfl, hf25, S, x72⟩; refine ⟨_, rfl, ?_⟩; have B := B.trans x72; refine t_c Tryz.call113 rfl (spec_AddSegment (⟨A9, L9⟩ : Topo) q s25 _ _ _ _ (topo_mkv (S.tail.tail.sl) (S.tail.tail.tail.sl)) (sdb_mkv (S.t4.sl) (S.t4.tail.sl)) (seg_mkv (S.sl)) (by omega) (by omega) (by have := SegK.len (s := s25) ‹_›; omega)) ?_ rfl rfl; rintro e w73 ⟨vd26, vc26, rfl, hf26, S9, x74⟩; refine ⟨_, rfl, x74, ?_⟩; have S := S.join2 x74 S9; clear S9; have B := bx Hb B x74; have S := S.f8; refine t_stn S sb_sdb rfl rfl rfl rfl (by repeat first | exact oc0 | refine oc rfl ?_ | refine oc (SlR.cells (S.tail.sl)).2 ?_ | refine oc (SlR.cells (S.tail.tail.sl)).2 ?_) ?_; intro w75 b76 S; have B := B.trans b76; refine t_d' ?_; refine x_b ?_; refine x_s ?_; refine w_g ?_; refine t_m rfl ?_ rfl; refine t_sub rfl rfl (by omega) ?_ rfl; refine t_a rfl ?_ rfl; refine t_d ?_; have S := S.f3.tail.f6.tail.f6.tail.f8.f8.f8.f3.f8.f8.f8.f8.f8
    refine x_r (X := Int × Sdb × Value × Value) (i - 1, addSeg ⟨A9, L9⟩ q s25, vd26, vc26) ?_ (by exact ⟨rfl, rfl, rfl, rfl, rfl, rfl, trivial⟩) (by (try dsimp only); omega); (try dsimp only); exact ⟨by have := addSeg_n ⟨A9, L9⟩ q s25; omega, by omega, addSeg_L T.kinds D hf25, B, S⟩
   ·refine t_b S.t4.tail.tail.box ab_topo sb_topo rfl rfl ?_ rfl; refine t_alt ?_ ?_
    ·refine t_b S.t4.tail.box ab_sdb sb_sdb rfl rfl ?_ rfl; have S := S.f4.f4.f4; refine t_f Tryz.call98 rfl (spec_l9Grow kd T S (K.below B)) ?_ rfl; rintro e w77 ⟨vh25, s25, rfl, hf25, S, x78⟩; refine ⟨_, rfl, ?_⟩; have B := B.trans x78; refine t_c Tryz.call113 rfl (spec_AddSegment (⟨A9, L9⟩ : Topo) q s25 _ _ _ _ (topo_mkv (S.tail.tail.sl) (S.tail.tail.tail.sl)) (sdb_mkv (S.t4.sl) (S.t4.tail.sl)) (seg_mkv (S.sl)) (by omega) (by omega) (by have := SegK.len (s := s25) ‹_›; omega)) ?_ rfl rfl; rintro e w79 ⟨vd26, vc26, rfl, hf26, S9, x80⟩; refine ⟨_, rfl, x80, ?_⟩; have S := S.join2 x80 S9; clear S9; have B := bx Hb B x80; have S := S.f8; refine t_stn S sb_sdb rfl rfl rfl rfl (by repeat first | exact oc0 | refine oc rfl ?_ | refine oc (SlR.cells (S.tail.sl)).2 ?_ | refine oc (SlR.cells (S.tail.tail.sl)).2 ?_) ?_; intro w81 b82 S; have B := B.trans b82; refine t_d' ?_; refine x_b ?_; refine x_s ?_; refine w_g ?_; refine t_m rfl ?_ rfl; refine t_sub rfl rfl (by omega) ?_ rfl; refine t_a rfl ?_ rfl; refine t_d ?_; have S := S.f3.tail.f6.tail.f6.tail.f8.f8.f8.f3.f8.f8.f8.f8.f8
     refine x_r (X := Int × Sdb × Value × Value) (i - 1, addSeg ⟨A9, L9⟩ q s25, vd26, vc26) ?_ (by exact ⟨rfl, rfl, rfl, rfl, rfl, rfl, trivial⟩) (by (try dsimp only); omega); (try dsimp only); exact ⟨by have := addSeg_n ⟨A9, L9⟩ q s25; omega, by omega, addSeg_L T.kinds D hf25, B, S⟩
    ·have S := S.f4; have S := S.f4.f4; refine t_f Tryz.call98 rfl (spec_l9Grow kd T S (K.below B)) ?_ rfl; rintro e w83 ⟨vh25, s25, rfl, hf25, S, x84⟩; refine ⟨_, rfl, ?_⟩; have B := B.trans x84; refine t_b S.t4.tail.tail.box ab_sdb sb_sdb rfl rfl ?_ rfl; refine t_c Tryz.call113 rfl (spec_AddSegment (⟨A9, L9⟩ : Topo) q s25 _ _ _ _ (topo_mkv (S.tail.tail.sl) (S.tail.tail.tail.sl)) (sdb_mkv (S.t4.sl) (S.t4.tail.sl)) (seg_mkv (S.sl)) (by omega) (by omega) (by have := SegK.len (s := s25) ‹_›; omega)) ?_ rfl rfl; rintro e w85 ⟨vd26, vc26, rfl, hf26, S9, x86⟩; refine ⟨_, rfl, x86, ?_⟩; have S := S.join2 x86 S9; clear S9; have B := bx Hb B x86; have S := S.f8; refine t_stn S sb_sdb rfl rfl rfl rfl (by repeat first | exact oc0 | refine oc rfl ?_ | refine oc (SlR.cells (S.tail.sl)).2 ?_ | refine oc (SlR.cells (S.tail.tail.sl)).2 ?_) ?_; intro w87 b88 S; have B := B.trans b88; refine t_d' ?_; refine x_b ?_; refine x_s ?_; refine w_g ?_; refine t_m rfl ?_ rfl; refine t_sub rfl rfl (by omega) ?_ rfl; refine t_a rfl ?_ rfl; refine t_d ?_; have S := S.f3.tail.f6.tail.f6.tail.f8.f8.f8.f3.f8.f8.f8.f8.f8
     refine x_r (X := Int × Sdb × Value × Value) (i - 1, addSeg ⟨A9, L9⟩ q s25, vd26, vc26) ?_ (by exact ⟨rfl, rfl, rfl, rfl, rfl, rfl, trivial⟩) (by (try dsimp only); omega); (try dsimp only); exact ⟨by have := addSeg_n ⟨A9, L9⟩ q s25; omega, by omega, addSeg_L T.kinds D hf25, B, S⟩
  ·refine t_b S.t4.tail.box ab_sdb sb_sdb rfl rfl ?_ rfl; refine t_alt ?_ ?_
   ·refine t_b S.t4.tail.tail.box ab_topo sb_topo rfl rfl ?_ rfl; refine t_b S.t4.tail.tail.box ab_topo sb_topo rfl rfl ?_ rfl; have S := S.f4.f4.f4; refine t_f Tryz.call98 rfl (spec_l9Grow kd T S (K.below B)) ?_ rfl; rintro e w89 ⟨vh25, s25, rfl, hf25, S, x90⟩; refine ⟨_, rfl, ?_⟩; have B := B.trans x90; refine t_c Tryz.call113 rfl (spec_AddSegment (⟨A9, L9⟩ : Topo) q s25 _ _ _ _ (topo_mkv (S.tail.tail.sl) (S.tail.tail.tail.sl)) (sdb_mkv (S.t4.sl) (S.t4.tail.sl)) (seg_mkv (S.sl)) (by omega) (by omega) (by have := SegK.len (s := s25) ‹_›; omega)) ?_ rfl rfl; rintro e w91 ⟨vd26, vc26, rfl, hf26, S9, x92⟩; refine ⟨_, rfl, x92, ?_⟩; have S := S.join2 x92 S9; clear S9; have B := bx Hb B x92; have S := S.f8; refine t_stn S sb_sdb rfl rfl rfl rfl (by repeat first | exact oc0 | refine oc rfl ?_ | refine oc (SlR.cells (S.tail.sl)).2 ?_ | refine oc (SlR.cells (S.tail.tail.sl)).2 ?_) ?_; intro w93 b94 S; have B := B.trans b94; refine t_d' ?_; refine x_b ?_; refine x_s ?_; refine w_g ?_; refine t_m rfl ?_ rfl; refine t_sub rfl rfl (by omega) ?_ rfl; refine t_a rfl ?_ rfl; refine t_d ?_; have S := S.f3.tail.f6.tail.f6.tail.f8.f8.f8.f3.f8.f8.f8.f8.f8
    refine x_r (X := Int × Sdb × Value × Value) (i - 1, addSeg ⟨A9, L9⟩ q s25, vd26, vc26) ?_ (by exact ⟨rfl, rfl, rfl, rfl, rfl, rfl, trivial⟩) (by (try dsimp only); omega); (try dsimp only); exact ⟨by have := addSeg_n ⟨A9, L9⟩ q s25; omega, by omega, addSeg_L T.kinds D hf25, B, S⟩
   ·refine t_b S.t4.tail.tail.box ab_topo sb_topo rfl rfl ?_ rfl; refine t_alt ?_ ?_
    ·refine t_b S.t4.tail.tail.box ab_topo sb_topo rfl rfl ?_ rfl; have S := S.f4.f4.f4; refine t_f Tryz.call98 rfl (spec_l9Grow kd T S (K.below B)) ?_ rfl; rintro e w95 ⟨vh25, s25, rfl, hf25, S, x96⟩; refine ⟨_, rfl, ?_⟩; have B := B.trans x96; refine t_c Tryz.call113 rfl (spec_AddSegment (⟨A9, L9⟩ : Topo) q s25 _ _ _ _ (topo_mkv (S.tail.tail.sl) (S.tail.tail.tail.sl)) (sdb_mkv (S.t4.sl) (S.t4.tail.sl)) (seg_mkv (S.sl)) (by omega) (by omega) (by have := SegK.len (s := s25) ‹_›; omega)) ?_ rfl rfl; rintro e w97 ⟨vd26, vc26, rfl, hf26, S9, x98⟩; refine ⟨_, rfl, x98, ?_⟩; have S := S.join2 x98 S9; clear S9; have B := bx Hb B x98; have S := S.f8; refine t_stn S sb_sdb rfl rfl rfl rfl (by repeat first | exact oc0 | refine oc rfl ?_ | refine oc (SlR.cells (S.tail.sl)).2 ?_ | refine oc (SlR.cells (S.tail.tail.sl)).2 ?_) ?_; intro w99 b100 S; have B := B.trans b100; refine t_d' ?_; refine x_b ?_; refine x_s ?_; refine w_g ?_; refine t_m rfl ?_ rfl; refine t_sub rfl rfl (by omega) ?_ rfl; refine t_a rfl ?_ rfl; refine t_d ?_; have S := S.f3.tail.f6.tail.f6.tail.f8.f8.f8.f3.f8.f8.f8.f8.f8
     refine x_r (X := Int × Sdb × Value × Value) (i - 1, addSeg ⟨A9, L9⟩ q s25, vd26, vc26) ?_ (by exact ⟨rfl, rfl, rfl, rfl, rfl, rfl, trivial⟩) (by (try dsimp only); omega); (try dsimp only); exact ⟨by have := addSeg_n ⟨A9, L9⟩ q s25; omega, by omega, addSeg_L T.kinds D hf25, B, S⟩
    ·have S := S.f4; have S := S.f4.f4; refine t_f Tryz.call98 rfl (spec_l9Grow kd T S (K.below B)) ?_ rfl; rintro e w101 ⟨vh25, s25, rfl, hf25, S, x102⟩; refine ⟨_, rfl, ?_⟩; have B := B.trans x102; refine t_b S.t4.tail.tail.tail.box ab_topo sb_topo rfl rfl ?_ rfl; refine t_c Tryz.call113 rfl (spec_AddSegment (⟨A9, L9⟩ : Topo) q s25 _ _ _ _ (topo_mkv (S.tail.tail.sl) (S.tail.tail.tail.sl)) (sdb_mkv (S.t4.sl) (S.t4.tail.sl)) (seg_mkv (S.sl)) (by omega) (by omega) (by have := SegK.len (s := s25) ‹_›; omega)) ?_ rfl rfl; rintro e w103 ⟨vd26, vc26, rfl, hf26, S9, x104⟩; refine ⟨_, rfl, x104, ?_⟩; have S := S.join2 x104 S9; clear S9; have B := bx Hb B x104; have S := S.f8; refine t_stn S sb_sdb rfl rfl rfl rfl (by repeat first | exact oc0 | refine oc rfl ?_ | refine oc (SlR.cells (S.tail.sl)).2 ?_ | refine oc (SlR.cells (S.tail.tail.sl)).2 ?_) ?_; intro w105 b106 S; have B := B.trans b106; refine t_d' ?_; refine x_b ?_; refine x_s ?_; refine w_g ?_; refine t_m rfl ?_ rfl; refine t_sub rfl rfl (by omega) ?_ rfl; refine t_a rfl ?_ rfl; refine t_d ?_; have S := S.f3.tail.f6.tail.f6.tail.f8.f8.f8.f3.f8.f8.f8.f8.f8
     refine x_r (X := Int × Sdb × Value × Value) (i - 1, addSeg ⟨A9, L9⟩ q s25, vd26, vc26) ?_ (by exact ⟨rfl, rfl, rfl, rfl, rfl, rfl, trivial⟩) (by (try dsimp only); omega); (try dsimp only); exact ⟨by have := addSeg_n ⟨A9, L9⟩ q s25; omega, by omega, addSeg_L T.kinds D hf25, B, S⟩
  ·refine t_b S.t4.tail.tail.box ab_topo sb_topo rfl rfl ?_ rfl; refine t_alt ?_ (t_alt ?_ ?_)
   ·refine t_b S.t4.tail.tail.box ab_topo sb_topo rfl rfl ?_ rfl; refine t_alt ?_ ?_
    ·refine t_b S.t4.tail.box ab_sdb sb_sdb rfl rfl ?_ rfl; have S := S.f4.f4.f4; refine t_f Tryz.call98 rfl (spec_l9Grow kd T S (K.below B)) ?_ rfl; rintro e w107 ⟨vh25, s25, rfl, hf25, S, x108⟩; refine ⟨_, rfl, ?_⟩; have B := B.trans x108; refine t_c Tryz.call113 rfl (spec_AddSegment (⟨A9, L9⟩ : Topo) q s25 _ _ _ _ (topo_mkv (S.tail.tail.sl) (S.tail.tail.tail.sl)) (sdb_mkv (S.t4.sl) (S.t4.tail.sl)) (seg_mkv (S.sl)) (by omega) (by omega) (by have := SegK.len (s := s25) ‹_›; omega)) ?_ rfl rfl; rintro e w109 ⟨vd26, vc26, rfl, hf26, S9, x110⟩; refine ⟨_, rfl, x110, ?_⟩; have S := S.join2 x110 S9; clear S9; have B := bx Hb B x110; have S := S.f8; refine t_stn S sb_sdb rfl rfl rfl rfl (by repeat first | exact oc0 | refine oc rfl ?_ | refine oc (SlR.cells (S.tail.sl)).2 ?_ | refine oc (SlR.cells (S.tail.tail.sl)).2 ?_) ?_; intro w111 b112 S; have B := B.trans b112; refine t_d' ?_; refine x_b ?_; refine x_s ?_; refine w_g ?_; refine t_m rfl ?_ rfl; refine t_sub rfl rfl (by omega) ?_ rfl; refine t_a rfl ?_ rfl; refine t_d ?_; have S := S.f3.tail.f6.tail.f6.tail.f8.f8.f8.f3.f8.f8.f8.f8.f8
     refine x_r (X := Int × Sdb × Value × Value) (i - 1, addSeg ⟨A9, L9⟩ q s25, vd26, vc26) ?_ (by exact ⟨rfl, rfl, rfl, rfl, rfl, rfl, trivial⟩) (by (try dsimp only); omega); (try dsimp only); exact ⟨by have := addSeg_n ⟨A9, L9⟩ q s25; omega, by omega, addSeg_L T.kinds D hf25, B, S⟩
    ·have S := S.f4; have S := S.f4.f4; refine t_f Tryz.call98 rfl (spec_l9Grow kd T S (K.below B)) ?_ rfl; rintro e w113 ⟨vh25, s25, rfl, hf25, S, x114⟩; refine ⟨_, rfl, ?_⟩; have B := B.trans x114; refine t_b S.t4.tail.tail.box ab_sdb sb_sdb rfl rfl ?_ rfl; refine t_c Tryz.call113 rfl (spec_AddSegment (⟨A9, L9⟩ : Topo) q s25 _ _ _ _ (topo_mkv (S.tail.tail.sl) (S.tail.tail.tail.sl)) (sdb_mkv (S.t4.sl) (S.t4.tail.sl)) (seg_mkv (S.sl)) (by omega) (by omega) (by have := SegK.len (s := s25) ‹_›; omega)) ?_ rfl rfl; rintro e w115 ⟨vd26, vc26, rfl, hf26, S9, x116⟩; refine ⟨_, rfl, x116, ?_⟩; have S := S.join2 x116 S9; clear S9; have B := bx Hb B x116; have S := S.f8; refine t_stn S sb_sdb rfl rfl rfl rfl (by repeat first | exact oc0 | refine oc rfl ?_ | refine oc (SlR.cells (S.tail.sl)).2 ?_ | refine oc (SlR.cells (S.tail.tail.sl)).2 ?_) ?_; intro w117 b118 S; have B := B.trans b118; refine t_d' ?_; refine x_b ?_; refine x_s ?_; refine w_g ?_; refine t_m rfl ?_ rfl; refine t_sub rfl rfl (by omega) ?_ rfl; refine t_a rfl ?_ rfl; refine t_d ?_; have S := S.f3.tail.f6.tail.f6.tail.f8.f8.f8.f3.f8.f8.f8.f8.f8
     refine x_r (X := Int × Sdb × Value × Value) (i - 1, addSeg ⟨A9, L9⟩ q s25, vd26, vc26) ?_ (by exact ⟨rfl, rfl, rfl, rfl, rfl, rfl, trivial⟩) (by (try dsimp only); omega); (try dsimp only); exact ⟨by have := addSeg_n ⟨A9, L9⟩ q s25; omega, by omega, addSeg_L T.kinds D hf25, B, S⟩
   ·refine t_b S.t4.tail.box ab_sdb sb_sdb rfl rfl ?_ rfl; refine t_alt ?_ ?_
    ·refine t_b S.t4.tail.tail.box ab_topo sb_topo rfl rfl ?_ rfl; have S := S.f4.f4.f4; refine t_f Tryz.call98 rfl (spec_l9Grow kd T S (K.below B)) ?_ rfl; rintro e w119 ⟨vh25, s25, rfl, hf25, S, x120⟩; refine ⟨_, rfl, ?_⟩; have B := B.trans x120; refine t_c Tryz.call113 rfl (spec_AddSegment (⟨A9, L9⟩ : Topo) q s25 _ _ _ _ (topo_mkv (S.tail.tail.sl) (S.tail.tail.tail.sl)) (sdb_mkv (S.t4.sl) (S.t4.tail.sl)) (seg_mkv (S.sl)) (by omega) (by omega) (by have := SegK.len (s := s25) ‹_›; omega)) ?_ rfl rfl; rintro e w121 ⟨vd26, vc26, rfl, hf26, S9, x122⟩; refine ⟨_, rfl, x122, ?_⟩; have S := S.join2 x122 S9; clear S9; have B := bx Hb B x122; have S := S.f8; refine t_stn S sb_sdb rfl rfl rfl rfl (by repeat first | exact oc0 | refine oc rfl ?_ | refine oc (SlR.cells (S.tail.sl)).2 ?_ | refine oc (SlR.cells (S.tail.tail.sl)).2 ?_) ?_; intro w123 b124 S; have B := B.trans b124; refine t_d' ?_; refine x_b ?_; refine x_s ?_; refine w_g ?_; refine t_m rfl ?_ rfl; refine t_sub rfl rfl (by omega) ?_ rfl; refine t_a rfl ?_ rfl; refine t_d ?_; have S := S.f3.tail.f6.tail.f6.tail.f8.f8.f8.f3.f8.f8.f8.f8.f8
     refine x_r (X := Int × Sdb × Value × Value) (i - 1, addSeg ⟨A9, L9⟩ q s25, vd26, vc26) ?_ (by exact ⟨rfl, rfl, rfl, rfl, rfl, rfl, trivial⟩) (by (try dsimp only); omega); (try dsimp only); exact ⟨by have := addSeg_n ⟨A9, L9⟩ q s25; omega, by omega, addSeg_L T.kinds D hf25, B, S⟩
    ·have S := S.f4; have S := S.f4.f4; refine t_f Tryz.call98 rfl (spec_l9Grow kd T S (K.below B)) ?_ rfl; rintro e w125 ⟨vh25, s25, rfl, hf25, S, x126⟩; refine ⟨_, rfl, ?_⟩; have B := B.trans x126; refine t_b S.t4.tail.tail.tail.box ab_topo sb_topo rfl rfl ?_ rfl; refine t_c Tryz.call113 rfl (spec_AddSegment (⟨A9, L9⟩ : Topo) q s25 _ _ _ _ (topo_mkv (S.tail.tail.sl) (S.tail.tail.tail.sl)) (sdb_mkv (S.t4.sl) (S.t4.tail.sl)) (seg_mkv (S.sl)) (by omega) (by omega) (by have := SegK.len (s := s25) ‹_›; omega)) ?_ rfl rfl; rintro e w127 ⟨vd26, vc26, rfl, hf26, S9, x128⟩; refine ⟨_, rfl, x128, ?_⟩; have S := S.join2 x128 S9; clear S9; have B := bx Hb B x128; have S := S.f8; refine t_stn S sb_sdb rfl rfl rfl rfl (by repeat first | exact oc0 | refine oc rfl ?_ | refine oc (SlR.cells (S.tail.sl)).2 ?_ | refine oc (SlR.cells (S.tail.tail.sl)).2 ?_) ?_; intro w129 b130 S; have B := B.trans b130; refine t_d' ?_; refine x_b ?_; refine x_s ?_; refine w_g ?_; refine t_m rfl ?_ rfl; refine t_sub rfl rfl (by omega) ?_ rfl; refine t_a rfl ?_ rfl; refine t_d ?_; have S := S.f3.tail.f6.tail.f6.tail.f8.f8.f8.f3.f8.f8.f8.f8.f8
     refine x_r (X := Int × Sdb × Value × Value) (i - 1, addSeg ⟨A9, L9⟩ q s25, vd26, vc26) ?_ (by exact ⟨rfl, rfl, rfl, rfl, rfl, rfl, trivial⟩) (by (try dsimp only); omega); (try dsimp only); exact ⟨by have := addSeg_n ⟨A9, L9⟩ q s25; omega, by omega, addSeg_L T.kinds D hf25, B, S⟩
   ·have S := S.f4; have S := S.f4.f4; refine t_f Tryz.call98 rfl (spec_l9Grow kd T S (K.below B)) ?_ rfl; rintro e w131 ⟨vh25, s25, rfl, hf25, S, x132⟩; refine ⟨_, rfl, ?_⟩; have B := B.trans x132; refine t_alt ?_ ?_
    ·refine t_b S.t4.tail.tail.tail.box ab_topo sb_topo rfl rfl ?_ rfl; refine t_b S.t4.tail.tail.box ab_sdb sb_sdb rfl rfl ?_ rfl; refine t_c Tryz.call113 rfl (spec_AddSegment (⟨A9, L9⟩ : Topo) q s25 _ _ _ _ (topo_mkv (S.tail.tail.sl) (S.tail.tail.tail.sl)) (sdb_mkv (S.t4.sl) (S.t4.tail.sl)) (seg_mkv (S.sl)) (by omega) (by omega) (by have := SegK.len (s := s25) ‹_›; omega)) ?_ rfl rfl; rintro e w133 ⟨vd26, vc26, rfl, hf26, S9, x134⟩; refine ⟨_, rfl, x134, ?_⟩; have S := S.join2 x134 S9; clear S9; have B := bx Hb B x134; have S := S.f8; refine t_stn S sb_sdb rfl rfl rfl rfl (by repeat first | exact oc0 | refine oc rfl ?_ | refine oc (SlR.cells (S.tail.sl)).2 ?_ | refine oc (SlR.cells (S.tail.tail.sl)).2 ?_) ?_; intro w135 b136 S; have B := B.trans b136; refine t_d' ?_; refine x_b ?_; refine x_s ?_; refine w_g ?_; refine t_m rfl ?_ rfl; refine t_sub rfl rfl (by omega) ?_ rfl; refine t_a rfl ?_ rfl; refine t_d ?_; have S := S.f3.tail.f6.tail.f6.tail.f8.f8.f8.f3.f8.f8.f8.f8.f8; refine x_r (X := Int × Sdb × Value × Value) (i - 1, addSeg ⟨A9, L9⟩ q s25, vd26, vc26) ?_ (by exact ⟨rfl, rfl, rfl, rfl, rfl, rfl, trivial⟩) (by (try dsimp only); omega); (try dsimp only)
     exact ⟨by have := addSeg_n ⟨A9, L9⟩ q s25; omega, by omega, addSeg_L T.kinds D hf25, B, S⟩
    ·refine t_b S.t4.tail.tail.box ab_sdb sb_sdb rfl rfl ?_ rfl; refine t_b S.t4.tail.tail.tail.box ab_topo sb_topo rfl rfl ?_ rfl; refine t_c Tryz.call113 rfl (spec_AddSegment (⟨A9, L9⟩ : Topo) q s25 _ _ _ _ (topo_mkv (S.tail.tail.sl) (S.tail.tail.tail.sl)) (sdb_mkv (S.t4.sl) (S.t4.tail.sl)) (seg_mkv (S.sl)) (by omega) (by omega) (by have := SegK.len (s := s25) ‹_›; omega)) ?_ rfl rfl; rintro e w137 ⟨vd26, vc26, rfl, hf26, S9, x138⟩; refine ⟨_, rfl, x138, ?_⟩; have S := S.join2 x138 S9; clear S9; have B := bx Hb B x138; have S := S.f8; refine t_stn S sb_sdb rfl rfl rfl rfl (by repeat first | exact oc0 | refine oc rfl ?_ | refine oc (SlR.cells (S.tail.sl)).2 ?_ | refine oc (SlR.cells (S.tail.tail.sl)).2 ?_) ?_; intro w139 b140 S; have B := B.trans b140; refine t_d' ?_; refine x_b ?_; refine x_s ?_; refine w_g ?_; refine t_m rfl ?_ rfl; refine t_sub rfl rfl (by omega) ?_ rfl; refine t_a rfl ?_ rfl; refine t_d ?_; have S := S.f3.tail.f6.tail.f6.tail.f8.f8.f8.f3.f8.f8.f8.f8.f8; refine x_r (X := Int × Sdb × Value × Value) (i - 1, addSeg ⟨A9, L9⟩ q s25, vd26, vc26) ?_ (by exact ⟨rfl, rfl, rfl, rfl, rfl, rfl, trivial⟩) (by (try dsimp only); omega); (try dsimp only)
     exact ⟨by have := addSeg_n ⟨A9, L9⟩ q s25; omega, by omega, addSeg_L T.kinds D hf25, B, S⟩
 ·intro hge
  have hN : DbN q := by unfold DbN; omega
  refine w_exit ?_; (iterate 2 refine x_then_exit ?_); refine x_block_exit ?_; refine x_s ?_; refine w_s ?_; refine w_drawP [] (.alt (.st .fin 0 (.alt (.st .fin 1 (.st .fin 2 (.st .fin 3 .done))) (.st .fin 2 (.st .fin 1 (.st .fin 3 .done))))) (.st .fin 1 (.st .fin 0 (.st .fin 2 (.st .fin 3 .done))))) mixed (by kernel_rfl) ?_; intro w141 x142; have B := bx Hb B x142; have S := S.below x142; refine t_alt ?_ ?_
  ·refine t_b S.t4.tail.tail.box ab_topo sb_topo rfl rfl ?_ rfl; refine t_alt ?_ ?_
   ·refine t_b S.t4.tail.box ab_sdb sb_sdb rfl rfl ?_ rfl; have S := S.f8; refine t_stn S sb_topo rfl rfl rfl rfl (by repeat first | exact oc0 | refine oc rfl ?_ | refine oc (SlR.cells (S.t4.sl)).2 ?_ | refine oc (SlR.cells (S.t4.tail.sl)).2 ?_) ?_; intro w143 b144 S; have B := B.trans b144; have S := S.f8; refine t_stn S sb_sdb rfl rfl rfl rfl (by repeat first | exact oc0 | refine oc rfl ?_ | refine oc (SlR.cells (S.tail.tail.sl)).2 ?_ | refine oc (SlR.cells (S.tail.tail.tail.sl)).2 ?_) ?_; intro w145 b146 S; have B := B.trans b146; refine t_e' ?_; refine w_r ?_; refine x_retcc rfl rfl S.tail.box ab_topo sb_topo rfl rfl S.box ab_sdb sb_sdb rfl ?_; have S := S.tail.tail.f5.tail.f5.tail.f2.f4.f4.f4.f4; exact ⟨_, _, _, _, _, _, q, rfl, ⟨T, D, hN⟩, S, B⟩
   ·have S := S.f8; refine t_stn S sb_topo rfl rfl rfl rfl (by repeat first | exact oc0 | refine oc rfl ?_ | refine oc (SlR.cells (S.t4.sl)).2 ?_ | refine oc (SlR.cells (S.t4.tail.sl)).2 ?_) ?_; intro w147 b148 S; have B := B.trans b148; refine t_b S.t4.tail.tail.box ab_sdb sb_sdb rfl rfl ?_ rfl; have S := S.f8; refine t_stn S sb_sdb rfl rfl rfl rfl (by repeat first | exact oc0 | refine oc rfl ?_ | refine oc (SlR.cells (S.tail.tail.sl)).2 ?_ | refine oc (SlR.cells (S.tail.tail.tail.sl)).2 ?_) ?_; intro w149 b150 S; have B := B.trans b150; refine t_e' ?_; refine w_r ?_; refine x_retcc rfl rfl S.tail.box ab_topo sb_topo rfl rfl S.box ab_sdb sb_sdb rfl ?_; have S := S.tail.tail.f5.tail.f5.tail.f2.f4.f4.f4.f4; exact ⟨_, _, _, _, _, _, q, rfl, ⟨T, D, hN⟩, S, B⟩
  ·refine t_b S.t4.tail.box ab_sdb sb_sdb rfl rfl ?_ rfl; refine t_b S.t4.tail.tail.box ab_topo sb_topo rfl rfl ?_ rfl; have S := S.f8; refine t_stn S sb_topo rfl rfl rfl rfl (by repeat first | exact oc0 | refine oc rfl ?_ | refine oc (SlR.cells (S.t4.sl)).2 ?_ | refine oc (SlR.cells (S.t4.tail.sl)).2 ?_) ?_; intro w151 b152 S; have B := B.trans b152; have S := S.f8; refine t_stn S sb_sdb rfl rfl rfl rfl (by repeat first | exact oc0 | refine oc rfl ?_ | refine oc (SlR.cells (S.tail.tail.sl)).2 ?_ | refine oc (SlR.cells (S.tail.tail.tail.sl)).2 ?_) ?_; intro w153 b154 S; have B := B.trans b154; refine t_e' ?_; refine w_r ?_; refine x_retcc rfl rfl S.tail.box ab_topo sb_topo rfl rfl S.box ab_sdb sb_sdb rfl ?_; have S := S.tail.tail.f5.tail.f5.tail.f2.f4.f4.f4.f4; exact ⟨_, _, _, _, _, _, q, rfl, ⟨T, D, hN⟩, S, B⟩
set_option maxHeartbeats 4000000 in
theorem spec_DrawSegmentDatabase (code : List UInt8) (v : Value) (w : World) (h : SlR byteT w v code) (hz : code.length ≤ 1048576) : Calls Tryz.prog 8 #[v] w fun e w' =>
  ∃ (va vl vd vc : Value) (A : List ASd) (L : List Lnk) (q : Sdb) (y z : Int) , e = .returned (.tuple #[.agg #[va, vl], .agg #[vd, vc], I y, I z, I 50]) ∧ (TopK A L ∧ DbL ⟨A, L⟩ q ∧ DbN q ∧ True) ∧ Sep w.heap.size w' [slO segT 67 vd q.down, slO segT 67 vc q.core, slO asnT 117 va A, slO linkT 90 vl L] ∧ Ext w w' := by
 have K := CodeK.of h hz; have X0 := Below.refl w.heap.size w; refine enter Tryz.func8 rfl Tryz.ntmps8 rfl ?_; have S := Sep.nil w; have B := Below.refl w.heap.size w; have Hb := Nat.le_refl w.heap.size; refine w_h ?_; refine t_w S z_topo rfl ?_ rfl rfl; intro g2 w169 x170 S; have B := bx Hb B x170; refine t_w S z_sdb rfl ?_ rfl rfl; intro g3 w171 x172 S; have B := bx Hb B x172; (iterate 3 refine t_a rfl ?_ rfl); refine t_k ?_; refine t_m rfl ?_ rfl; refine t_c Tryz.call59 rfl (spec_l1New _ _ _ (by first | assumption | exact SlR.below ‹_› B) (by omega)) ?_ rfl rfl; rintro e w173 ⟨g13, fpg13, rfl, hOg13, x174⟩; refine ⟨_, rfl, x174, ?_⟩; have S := S.add (o := curO _ _ _ _) x174 hOg13; have B := bx Hb B x174; refine t_a rfl ?_ rfl; refine t_k ?_; refine t_m rfl ?_ rfl; refine t_f Tryz.call60 rfl (spec_l23Book S (K.below B)) ?_ rfl; rintro e w175 ⟨va16, vl16, vd16, vc16, A16, L16, q16, rfl, hf16, S, x176⟩; refine ⟨_, rfl, ?_⟩; have B := B.trans x176; refine t_m rfl ?_ rfl; (iterate 2 refine t_extract rfl rfl ?_ rfl); refine t_w S z_topo rfl ?_ rfl rfl; intro g8 w177 x178 S; have B := bx Hb B x178; refine t_w S z_sdb rfl ?_ rfl rfl; intro g9 w179 x180 S; have B := bx Hb B x180
 have S := S.f1; refine t_stn S sb_topo rfl rfl rfl rfl (by repeat first | exact oc0 | refine oc rfl ?_ | refine oc (SlR.cells (S.t4.sl)).2 ?_ | refine oc (SlR.cells (S.t4.tail.sl)).2 ?_) ?_; intro w181 b182 S; have B := B.trans b182; have S := S.f1; refine t_stn S sb_sdb rfl rfl rfl rfl (by repeat first | exact oc0 | refine oc rfl ?_ | refine oc (SlR.cells (S.tail.tail.sl)).2 ?_ | refine oc (SlR.cells (S.tail.tail.tail.sl)).2 ?_) ?_; intro w183 b184 S; have B := B.trans b184; refine t_e ?_; refine w_s ?_; obtain ⟨T, D, hN⟩ := hf16; have hq := db_sz D.db hN; refine w_g ?_; refine t_m rfl ?_ rfl; refine t_b S.box ab_sdb sb_sdb rfl rfl ?_ rfl; have S := S.f3.f3.f6; refine t_f Tryz.call61 rfl (spec_l23Ends q16 S (K.below B) ‹_›) ?_ rfl; rintro e w185 ⟨y22, z22, rfl, hf22, S, x186⟩; refine ⟨_, rfl, ?_⟩; have B := B.trans x186; refine t_m rfl ?_ rfl; (iterate 2 refine t_extract rfl rfl ?_ rfl); (iterate 2 refine t_a rfl ?_ rfl); refine t_e ?_; refine w_s ?_
 refine w_drawP [2, 3] (.alt (.st .fin 0 (.alt (.st .fin 1 (.st .fin 4 (.st .fin 5 (.st .fin 6 (.st .fin 7 (.st .fin 8 .done)))))) (.st .fin 4 (.st .fin 1 (.st .fin 5 (.st .fin 6 (.st .fin 7 (.st .fin 8 .done)))))))) (.st .fin 1 (.st .fin 0 (.st .fin 4 (.st .fin 5 (.st .fin 6 (.st .fin 7 (.st .fin 8 .done)))))))) mixed (by kernel_rfl) ?_; intro w187 x188; have B := bx Hb B x188; have S := S.below x188; (iterate 2 refine p_move rfl ?_ rfl); refine p_done ?_; refine t_alt ?_ ?_
 ·refine t_b S.t4.box ab_topo sb_topo rfl rfl ?_ rfl; refine t_alt ?_ ?_
  ·refine t_b S.tail.tail.tail.box ab_sdb sb_sdb rfl rfl ?_ rfl; have S := S.f8; refine t_stn S sb_topo rfl rfl rfl rfl (by repeat first | exact oc0 | refine oc rfl ?_ | refine oc (SlR.cells (S.t4.tail.tail.sl)).2 ?_ | refine oc (SlR.cells (S.t4.tail.tail.tail.sl)).2 ?_) ?_; intro w189 b190 S; have B := B.trans b190; have S := S.f8; refine t_stn S sb_sdb rfl rfl rfl rfl (by repeat first | exact oc0 | refine oc rfl ?_ | refine oc (SlR.cells (S.tail.tail.tail.sl)).2 ?_ | refine oc (SlR.cells (S.t4.sl)).2 ?_) ?_; intro w191 b192 S; have B := B.trans b192; (iterate 3 refine t_a rfl ?_ rfl); refine t_e' ?_; refine w_r ?_; refine x_retccttt rfl rfl S.tail.box ab_topo sb_topo rfl rfl S.box ab_sdb sb_sdb rfl rfl rfl rfl ?_; have S := S.tail.tail.tail.f2.tail.f2.tail.f3.f3.f3.f3; exact ⟨_, _, _, _, _, _, _, _, _,  rfl, ⟨T, D, hN, trivial⟩, S, ext_trans X0 B⟩
  ·have S := S.f8; refine t_stn S sb_topo rfl rfl rfl rfl (by repeat first | exact oc0 | refine oc rfl ?_ | refine oc (SlR.cells (S.t4.tail.tail.sl)).2 ?_ | refine oc (SlR.cells (S.t4.tail.tail.tail.sl)).2 ?_) ?_; intro w193 b194 S; have B := B.trans b194; refine t_b S.t4.box ab_sdb sb_sdb rfl rfl ?_ rfl; have S := S.f8; refine t_stn S sb_sdb rfl rfl rfl rfl (by repeat first | exact oc0 | refine oc rfl ?_ | refine oc (SlR.cells (S.tail.tail.tail.sl)).2 ?_ | refine oc (SlR.cells (S.t4.sl)).2 ?_) ?_; intro w195 b196 S; have B := B.trans b196; (iterate 3 refine t_a rfl ?_ rfl); refine t_e' ?_; refine w_r ?_; refine x_retccttt rfl rfl S.tail.box ab_topo sb_topo rfl rfl S.box ab_sdb sb_sdb rfl rfl rfl rfl ?_; have S := S.tail.tail.tail.f2.tail.f2.tail.f3.f3.f3.f3; exact ⟨_, _, _, _, _, _, _, _, _,  rfl, ⟨T, D, hN, trivial⟩, S, ext_trans X0 B⟩
 ·refine t_b S.tail.tail.tail.box ab_sdb sb_sdb rfl rfl ?_ rfl; refine t_b S.t4.box ab_topo sb_topo rfl rfl ?_ rfl; have S := S.f8; refine t_stn S sb_topo rfl rfl rfl rfl (by repeat first | exact oc0 | refine oc rfl ?_ | refine oc (SlR.cells (S.t4.tail.tail.sl)).2 ?_ | refine oc (SlR.cells (S.t4.tail.tail.tail.sl)).2 ?_) ?_; intro w197 b198 S; have B := B.trans b198; have S := S.f8; refine t_stn S sb_sdb rfl rfl rfl rfl (by repeat first | exact oc0 | refine oc rfl ?_ | refine oc (SlR.cells (S.tail.tail.tail.sl)).2 ?_ | refine oc (SlR.cells (S.t4.sl)).2 ?_) ?_; intro w199 b200 S; have B := B.trans b200; (iterate 3 refine t_a rfl ?_ rfl); refine t_e' ?_; refine w_r ?_; refine x_retccttt rfl rfl S.tail.box ab_topo sb_topo rfl rfl S.box ab_sdb sb_sdb rfl rfl rfl rfl ?_; have S := S.tail.tail.tail.f2.tail.f2.tail.f3.f3.f3.f3; exact ⟨_, _, _, _, _, _, _, _, _,  rfl, ⟨T, D, hN, trivial⟩, S, ext_trans X0 B⟩
/-- What FindPaths does with one path more. -/
def pick (t : Topo) (now : Int) (out : List Path) (p : Path) : List Path := if (out.length : Int) < 24 ∧ usable t p now = true ∧ ¬ p ∈ out then out ++ [p] else out
def findP (t : Topo) (now : Int) (l : List Path) : List Path := l.foldl (pick t now) []
theorem findP_succ {t : Topo} {now : Int} {l : List Path} {k : Nat} {x : Path} (h : l[k]? = some x) : findP t now (l.take (k + 1)) = pick t now (findP t now (l.take k)) x := by
  unfold findP
  rw [take_succ h, List.foldl_append]
  rfl
theorem pick_full {t : Topo} {now : Int} {out : List Path} (h : ¬ (out.length : Int) < 24) : ∀ l : List Path, l.foldl (pick t now) out = out
  | [] => rfl
  | p :: l => by
    have : pick t now out p = out := by unfold pick; rw [if_neg fun z => h z.1]
    rw [List.foldl_cons, this]; exact pick_full h l
theorem findP_all {t : Topo} {now : Int} (l : List Path) : (∀ x ∈ findP t now l, x ∈ l ∧ usable t x now = true) ∧ (findP t now l).Nodup ∧ (findP t now l).length ≤ 24 ∧ ((findP t now l).length = 0 → ∀ x ∈ l, usable t x now = false) := by
  suffices H : ∀ (l out m : List Path), (∀ x ∈ out, x ∈ m ∧ usable t x now = true) → out.Nodup → out.length ≤ 24 → (out.length = 0 → ∀ x ∈ m, usable t x now = false) → (∀ x ∈ l.foldl (pick t now) out, x ∈ m ++ l ∧ usable t x now = true) ∧ (l.foldl (pick t now) out).Nodup ∧ (l.foldl (pick t now) out).length ≤ 24 ∧ ((l.foldl (pick t now) out).length = 0 → ∀ x ∈ m ++ l, usable t x now = false) by
    have := H l [] [] (fun x h => by simp at h) List.nodup_nil (by simp) (fun _ x h => by simp at h); rw [List.nil_append] at this; exact this
  intro l
  induction l with
  | nil => intro out m h1 h2 h3 h4; rw [List.append_nil]; exact ⟨h1, h2, h3, h4⟩
  | cons p l ih =>
    intro out m h1 h2 h3 h4; rw [List.foldl_cons, List.append_cons]
    unfold pick
    split
    · rename_i hc
      refine ih _ _ (fun x hx => ?_) ?_ ?_ ?_
      · rcases List.mem_append.1 hx with hx | hx
        · exact ⟨List.mem_append_left _ (h1 x hx).1, (h1 x hx).2⟩
        · rw [List.mem_singleton] at hx
          exact ⟨by rw [hx]; simp, by rw [hx]; exact hc.2.1⟩
      · rw [List.nodup_append]
        refine ⟨h2, by simp, fun x hx y hy => ?_⟩; rw [List.mem_singleton] at hy; intro e; rw [e, hy] at hx; exact hc.2.2 hx
      · rw [List.length_append, List.length_singleton]; omega
      · intro h; simp at h
    · rename_i hc
      refine ih _ _ (fun x hx => ⟨List.mem_append_left _ (h1 x hx).1, (h1 x hx).2⟩) h2 h3 fun h0 x hx => ?_
      rcases List.mem_append.1 hx with hx | hx
      · exact h4 h0 x hx
      · rw [List.mem_singleton] at hx
        rw [hx, Bool.eq_false_iff]; intro hu; have ho : out = [] := List.length_eq_zero_iff.1 h0; exact hc ⟨by omega, hu, by rw [ho]; simp⟩
theorem take_eq_of {α : Type} {a b : List α} {k : Nat} {x : α} (h : a.take k = b.take k) (ha : a[k]? = some x) (hb : b[k]? = some x) : a.take (k + 1) = b.take (k + 1) := by
  rw [take_succ ha, take_succ hb, h]
theorem ne_of_at {α : Type} {a b : List α} {k : Nat} {x y : α} (ha : a[k]? = some x) (hb : b[k]? = some y) (hxy : x ≠ y) : a ≠ b := by
  rintro rfl; rw [ha] at hb
  injection hb with hb
  exact hxy hb
theorem hop_ne {x0 x1 x2 x3 x4 y0 y1 y2 y3 y4 : Int} (h : ¬ (Hop.mk x0 x1 x2 x3 x4) = Hop.mk y0 y1 y2 y3 y4) :
    (x0 == y0) = false ∨ (x0 = y0 ∧ (x1 == y1) = false) ∨ (x0 = y0 ∧ x1 = y1 ∧ (x2 == y2) = false) ∨ (x0 = y0 ∧ x1 = y1 ∧ x2 = y2 ∧ (x3 == y3) = false) ∨ (x0 = y0 ∧ x1 = y1 ∧ x2 = y2 ∧ x3 = y3 ∧ (x4 == y4) = false) := by
  simp only [Hop.mk.injEq] at h
  simp only [beq_eq_false_iff_ne, ne_eq]
  omega
set_option maxRecDepth 100000 in
theorem impl_sameHops (a b : List Hop) (v u : Value) (w : World) (h : SlR hopT w v a) (h' : SlR hopT w u b) (hn : a.length ≤ 1048576) (hn' : b.length ≤ 1048576) :
  Calls Tryz.prog 162 #[v, u] w fun e w' => e = .returned (.bool (decide (a = b))) ∧ Below w.heap.size w w' := by
 obtain ⟨A, c, rfl, _⟩ := h.form; obtain ⟨A', c', rfl, _⟩ := h'.form; obtain ⟨n, H⟩ : ∃ n, Hid (n = a.length) := ⟨_, rfl⟩; obtain ⟨n', H'⟩ : ∃ n, Hid (n = b.length) := ⟨_, rfl⟩
 by_cases hnn : n = n'
 ·subst hnn; rw [← H.out] at h hn ⊢; rw [← H'.out] at h' hn' ⊢
  go_enter Tryz.func162, Tryz.ntmps162
  go_wp2
  go_loopw [13] (fun i wr => ∃ k : Nat, k ≤ n ∧ i = I k ∧ a.take k = b.take k ∧ Below w.heap.size w wr) (fun i _ => n - (intOf i).toNat)
  case atStart => exact ⟨0, by omega, rfl, rfl, Below.refl _ _⟩
  case round =>
   rename_i wr
   obtain ⟨k, hk, rfl, hab, hb⟩ := hrel; have Hab := hid hab; clear hab
   by_cases hlt : k < n
   ·obtain ⟨g, o, q, x, e, hg, hxk, c0, c1, c2, c3, c4⟩ := hop_at (h.below hb) (by rw [← H.out]; exact hlt); obtain ⟨g', o', q', y, e', hg', hyk, b0, b1, b2, b3, b4⟩ := hop_at (h'.below hb) (by rw [← H'.out]; exact hlt); rw [← H.out] at e; rw [← H'.out] at e'; cases e; cases e'
    by_cases hxy : x = y
    ·subst hxy
     go_wp2
     go_quiet (fail)
     go_wp2
     go_roundw
     case rel => exact ⟨k + 1, by omega, by go_num, take_eq_of Hab.out hxk.out hyk.out, below_drewN hb _⟩
     case measure => simp [intOf]; omega
    ·have hne : Hid (decide (a = b) = false) := by simp [ne_of_at hxk.out hyk.out hxy, Hid]
     obtain ⟨x0, x1, x2, x3, x4⟩ := x; obtain ⟨y0, y1, y2, y3, y4⟩ := y; dsimp only at c0 c1 c2 c3 c4 b0 b1 b2 b3 b4; have hd := hop_ne hxy; clear hxy hxk hyk
     rcases hd with t | ⟨rfl, t⟩ | ⟨rfl, rfl, t⟩ | ⟨rfl, rfl, rfl, t⟩ | ⟨rfl, rfl, rfl, rfl, t⟩
     all_goals
      go_wp2
      go_quiet (fail)
      go_wp2
      go_ret
      exact ⟨by rw [hne.out]; rfl, below_drewN hb _⟩
   ·go_wp2
    go_ret
    have hkn : k = n := by omega
    subst hkn; have h1 := Hab.out; rw [H.out, List.take_length, ← H.out, H'.out, List.take_length] at h1; exact ⟨by rw [h1]; simp, hb⟩
 ·have hne : Hid (decide (a = b) = false) := by
   have : a ≠ b := by rintro rfl; exact hnn (H.out.trans H'.out.symm)
   simp [this, Hid]
  rw [hne.out, ← H.out, ← H'.out]
  go_enter Tryz.func162, Tryz.ntmps162
  go_wp2
  go_ret
  exact ⟨rfl, Below.refl _ _⟩
set_option maxRecDepth 100000 in
theorem spec_sameHops (a b : List Hop) (v u : Value) (w : World) (h : SlR hopT w v a) (h' : SlR hopT w u b) (hn : a.length ≤ 1048576) (hn' : b.length ≤ 1048576) :
  Calls Tryz.prog 163 #[v, u] w fun e w' => e = .returned (.bool (decide (a = b))) ∧ Below w.heap.size w w' := by
 obtain ⟨A, c, rfl, _⟩ := h.form; obtain ⟨A', c', rfl, _⟩ := h'.form; obtain ⟨n, H⟩ : ∃ n, Hid (n = a.length) := ⟨_, rfl⟩; obtain ⟨n', H'⟩ : ∃ n, Hid (n = b.length) := ⟨_, rfl⟩
 by_cases hnn : n = n'
 ·subst hnn; rw [← H.out] at h hn ⊢; rw [← H'.out] at h' hn' ⊢
  go_enter Tryz.func163, Tryz.ntmps163
  go_wp2
  go_loopw [5] (fun i wr => ∃ k : Nat, k ≤ n ∧ i = I k ∧ a.take k = b.take k ∧ Below w.heap.size w wr) (fun i _ => n - (intOf i).toNat)
  case atStart => exact ⟨0, by omega, rfl, rfl, Below.refl _ _⟩
  case round =>
   rename_i wr
   obtain ⟨k, hk, rfl, hab, hb⟩ := hrel; have Hab := hid hab; clear hab
   by_cases hlt : k < n
   ·obtain ⟨g, o, q, x, e, hg, hxk, c0, c1, c2, c3, c4⟩ := hop_at (h.below hb) (by rw [← H.out]; exact hlt); obtain ⟨g', o', q', y, e', hg', hyk, b0, b1, b2, b3, b4⟩ := hop_at (h'.below hb) (by rw [← H'.out]; exact hlt); rw [← H.out] at e; rw [← H'.out] at e'; cases e; cases e'
    by_cases hxy : x = y
    ·subst hxy
     go_wp2
     go_quiet (fail)
     go_wp2
     go_roundw
     case rel => exact ⟨k + 1, by omega, by go_num, take_eq_of Hab.out hxk.out hyk.out, below_drewN hb _⟩
     case measure => simp [intOf]; omega
    ·have hne : Hid (decide (a = b) = false) := by simp [ne_of_at hxk.out hyk.out hxy, Hid]
     obtain ⟨x0, x1, x2, x3, x4⟩ := x; obtain ⟨y0, y1, y2, y3, y4⟩ := y; dsimp only at c0 c1 c2 c3 c4 b0 b1 b2 b3 b4; have hd := hop_ne hxy; clear hxy hxk hyk
     rcases hd with t | ⟨rfl, t⟩ | ⟨rfl, rfl, t⟩ | ⟨rfl, rfl, rfl, t⟩ | ⟨rfl, rfl, rfl, rfl, t⟩
     all_goals
      go_wp2
      go_quiet (fail)
      go_wp2
      go_ret
      exact ⟨by rw [hne.out]; rfl, below_drewN hb _⟩
   ·go_wp2
    go_ret
    have hkn : k = n := by omega
    subst hkn; have h1 := Hab.out; rw [H.out, List.take_length, ← H.out, H'.out, List.take_length] at h1; exact ⟨by rw [h1]; simp, hb⟩
 ·have hne : Hid (decide (a = b) = false) := by
   have : a ≠ b := by rintro rfl; exact hnn (H.out.trans H'.out.symm)
   simp [this, Hid]
  rw [hne.out, ← H.out, ← H'.out]
  go_enter Tryz.func163, Tryz.ntmps163
  go_wp2
  go_ret
  exact ⟨rfl, Below.refl _ _⟩
theorem part_eq_iff (a b : Part) : a = b ↔ a.kind = b.kind ∧ a.ts = b.ts ∧ a.beta = b.beta ∧ a.hops = b.hops := by
  cases a; cases b; simp
theorem impl_EqualParts (a b : Part) (cs ds : List Value) (w : World) (h : partT.R w cs a) (h' : partT.R w ds b) (hn : sz_part a ≤ 1048576) (hn' : sz_part b ≤ 1048576) :
  Calls Tryz.prog 122 #[.agg cs.toArray, .agg ds.toArray] w fun e w' => e = .returned (.bool (decide (a = b))) ∧ Below w.heap.size w w' := by
 obtain ⟨A, c, rfl, ⟨k, _⟩⟩ := part_form h; obtain ⟨B, d, rfl, ⟨k', _⟩⟩ := part_form h'; have hd := part_eq_iff a b; obtain ⟨r, Hr⟩ : ∃ r, Hid (r = decide (a = b)) := ⟨_, rfl⟩; rw [← Hr.out]
 by_cases e0 : a.kind = b.kind
 ·have f0 : (a.kind == b.kind) = true := by simp [e0]
  by_cases e1 : a.ts = b.ts
  ·have f1 : (a.ts == b.ts) = true := by simp [e1]
   by_cases e2 : a.beta = b.beta
   ·have f2 : (a.beta == b.beta) = true := by simp [e2]
    have HR : Hid (r = decide (a.hops = b.hops)) := by show r = _; rw [Hr.out]; simp [hd, e0, e1, e2]
    clear hd e0 e1 e2
    go_enter Tryz.func122, Tryz.ntmps122
    go_wp2_with (fail)
    refine (impl_sameHops a.hops b.hops _ _ _ (k.below ?e1) (k'.below ?e1) hn hn').mono ?_
    case e1 => exact ext_alloc (ext_alloc1 _ _) _
    rintro e w1 ⟨rfl, hb1⟩; rw [← HR.out]
    go_wp2_with (fail)
    go_ret
    exact ⟨rfl, ext_trans (ext_alloc (ext_alloc1 _ _) _) hb1⟩
   ·have f2 : (a.beta == b.beta) = false := by simp [e2]
    have HR : Hid (r = false) := by show r = _; rw [Hr.out]; simp [hd, e2]
    clear hd e0 e1 e2
    go_enter Tryz.func122, Tryz.ntmps122
    go_wp2_with (fail)
    go_ret
    exact ⟨by rw [HR.out]; rfl, ext_alloc (ext_alloc1 _ _) _⟩
  ·have f1 : (a.ts == b.ts) = false := by simp [e1]
   have HR : Hid (r = false) := by show r = _; rw [Hr.out]; simp [hd, e1]
   clear hd e0 e1
   go_enter Tryz.func122, Tryz.ntmps122
   go_wp2_with (fail)
   go_ret
   exact ⟨by rw [HR.out]; rfl, ext_alloc (ext_alloc1 _ _) _⟩
 ·have f0 : (a.kind == b.kind) = false := by simp [e0]
  have HR : Hid (r = false) := by show r = _; rw [Hr.out]; simp [hd, e0]
  clear hd e0
  go_enter Tryz.func122, Tryz.ntmps122
  go_wp2_with (fail)
  go_ret
  exact ⟨by rw [HR.out]; rfl, ext_alloc (ext_alloc1 _ _) _⟩
theorem spec_EqualParts (a b : Part) (cs ds : List Value) (w : World) (h : partT.R w cs a) (h' : partT.R w ds b) (hn : sz_part a ≤ 1048576) (hn' : sz_part b ≤ 1048576) :
  Calls Tryz.prog 123 #[.agg cs.toArray, .agg ds.toArray] w fun e w' => e = .returned (.bool (decide (a = b))) ∧ Below w.heap.size w w' := by
 obtain ⟨A, c, rfl, ⟨k, _⟩⟩ := part_form h; obtain ⟨B, d, rfl, ⟨k', _⟩⟩ := part_form h'; have hd := part_eq_iff a b; obtain ⟨r, Hr⟩ : ∃ r, Hid (r = decide (a = b)) := ⟨_, rfl⟩; rw [← Hr.out]
 by_cases e0 : a.kind = b.kind
 ·have f0 : (a.kind == b.kind) = true := by simp [e0]
  by_cases e1 : a.ts = b.ts
  ·have f1 : (a.ts == b.ts) = true := by simp [e1]
   by_cases e2 : a.beta = b.beta
   ·have f2 : (a.beta == b.beta) = true := by simp [e2]
    have HR : Hid (r = decide (a.hops = b.hops)) := by show r = _; rw [Hr.out]; simp [hd, e0, e1, e2]
    clear hd e0 e1 e2
    go_enter Tryz.func123, Tryz.ntmps123
    go_wp2_with (fail)
    refine (spec_sameHops a.hops b.hops _ _ _ (k.below ?e1) (k'.below ?e1) hn hn').mono ?_
    case e1 => exact ext_alloc (ext_alloc1 _ _) _
    rintro e w1 ⟨rfl, hb1⟩; rw [← HR.out]
    go_wp2_with (fail)
    go_ret
    exact ⟨rfl, ext_trans (ext_alloc (ext_alloc1 _ _) _) hb1⟩
   ·have f2 : (a.beta == b.beta) = false := by simp [e2]
    have HR : Hid (r = false) := by show r = _; rw [Hr.out]; simp [hd, e2]
    clear hd e0 e1 e2
    go_enter Tryz.func123, Tryz.ntmps123
    go_wp2_with (fail)
    go_ret
    exact ⟨by rw [HR.out]; rfl, ext_alloc (ext_alloc1 _ _) _⟩
  ·have f1 : (a.ts == b.ts) = false := by simp [e1]
   have HR : Hid (r = false) := by show r = _; rw [Hr.out]; simp [hd, e1]
   clear hd e0 e1
   go_enter Tryz.func123, Tryz.ntmps123
   go_wp2_with (fail)
   go_ret
   exact ⟨by rw [HR.out]; rfl, ext_alloc (ext_alloc1 _ _) _⟩
 ·have f0 : (a.kind == b.kind) = false := by simp [e0]
  have HR : Hid (r = false) := by show r = _; rw [Hr.out]; simp [hd, e0]
  clear hd e0
  go_enter Tryz.func123, Tryz.ntmps123
  go_wp2_with (fail)
  go_ret
  exact ⟨by rw [HR.out]; rfl, ext_alloc (ext_alloc1 _ _) _⟩
theorem mem_sz_path {p : Path} {x : Part} (h : x ∈ p) : sz_part x ≤ sz_path p := by
  have := le_sum_of_mem (List.mem_map.2 ⟨x, h, rfl⟩ : sz_part x ∈ p.map sz_part)
  show _ ≤ List.length p + _
  omega
set_option maxRecDepth 100000 in
theorem impl_EqualPaths (a : Path) (cs : List Value) (b : Path) (ds : List Value) (w : World) (h : pathT.R w cs a) (hz : sz_path a ≤ 1048576) (hl : lenOk_path a) (hg : rng_path a) (h' : pathT.R w ds b) (hz' : sz_path b ≤ 1048576) (hl' : lenOk_path b) (hg' : rng_path b) :
  Calls Tryz.prog 72 #[.agg cs.toArray, .agg ds.toArray] w fun e w' => e = .returned (.bool (decide (a = b))) ∧ Below w.heap.size w w' := by
 obtain ⟨A, c, rfl, ⟨h, _⟩⟩ := path_form h; obtain ⟨A', c', rfl, ⟨h', _⟩⟩ := path_form h'; obtain ⟨n, H⟩ : ∃ n, Hid (n = a.length) := ⟨_, rfl⟩; obtain ⟨n', H'⟩ : ∃ n, Hid (n = b.length) := ⟨_, rfl⟩
 have hn : n ≤ 1048576 := by rw [H.out]; have : sz_path a = List.length a + (a.map sz_part).sum := rfl; omega
 have hn' : n' ≤ 1048576 := by rw [H'.out]; have : sz_path b = List.length b + (b.map sz_part).sum := rfl; omega
 obtain ⟨r, Hr⟩ : ∃ r, Hid (r = decide (a = b)) := ⟨_, rfl⟩; rw [← Hr.out]; clear hl hg hl' hg'; have Hz := hid hz; have Hz' := hid hz'; clear hz hz'; rw [← H.out] at h ⊢; rw [← H'.out] at h' ⊢; have hb0 : Below w.heap.size w ((w.alloc (.cells #[.slice A n c] 38)).alloc (.cells #[.slice A' n' c'] 38)) := ext_alloc (ext_alloc1 _ _) _
 by_cases hnn : n = n'
 ·subst hnn
  have p0 : ((w.alloc (.cells #[.slice A n c] 38)).alloc (.cells #[.slice A' n c'] 38)).cell? ⟨w.heap.size, 0, none⟩ = some (.slice A n c) := by simp
  have p1 : ((w.alloc (.cells #[.slice A n c] 38)).alloc (.cells #[.slice A' n c'] 38)).cell? ⟨w.heap.size + 1, 0, none⟩ = some (.slice A' n c') := by simp
  have P0 := hid p0; have P1 := hid p1; clear p0 p1
  go_enter Tryz.func72, Tryz.ntmps72
  go_wp2
  go_loopw [16] (fun i wr => ∃ k : Nat, k ≤ n ∧ i = I k ∧ a.take k = b.take k ∧ Below w.heap.size w wr ∧ wr.cell? ⟨w.heap.size, 0, none⟩ = some (.slice A n c) ∧ wr.cell? ⟨w.heap.size + 1, 0, none⟩ = some (.slice A' n c')) (fun i _ => n - (intOf i).toNat)
  case atStart => exact ⟨0, by omega, rfl, rfl, hb0, P0.out, P1.out⟩
  case round =>
   rename_i wr
   obtain ⟨k, hk, rfl, hab, hb, p0, p1⟩ := hrel; have Hab := hid hab; clear hab P0 P1 hb0
   by_cases hlt : k < n
   ·obtain ⟨g, o, q, x, B, d, e, hg, hxk, hin, hd, c0, c1, c2, c3⟩ := part_at (h.below hb) (by rw [← H.out]; exact hlt); obtain ⟨g', o', q', y, B', d', e', hg', hyk, hin', hd', b0, b1, b2, b3⟩ := part_at (h'.below hb) (by rw [← H'.out]; exact hlt); rw [← H.out] at e; rw [← H'.out] at e'; cases e; cases e'; have sx : sz_part x ≤ 1048576 := Nat.le_trans (mem_sz_path (List.mem_of_getElem? hxk.out)) Hz.out; have sy : sz_part y ≤ 1048576 := Nat.le_trans (mem_sz_path (List.mem_of_getElem? hyk.out)) Hz'.out
    go_wp2
    go_still_tail 10, (by kernel_rfl)
    go_wp2_with (fail)
    refine (impl_EqualParts x y _ _ _ (part_mk (hin.below (below_drew _))) (part_mk (hin'.below (below_drew _))) sx sy).mono ?_; rintro e w1 ⟨rfl, hb1⟩; have x1 : Below w.heap.size w w1 := ext_trans hb.drew hb1; have p0' := ck hb1 (show wr.drew.cell? _ = _ from p0); have p1' := ck hb1 (show wr.drew.cell? _ = _ from p1)
    by_cases hxy : x = y
    ·have hdx : decide (x = y) = true := by simp [hxy]
     have Hxy := hid hxy; clear hxy; rw [hdx]; clear hdx
     go_wp2_with (fail)
     go_roundw
     case rel => exact ⟨k + 1, by omega, by go_num, take_eq_of Hab.out hxk.out (Hxy.out ▸ hyk.out), x1, p0', p1'⟩
     case measure => simp [intOf]; omega
    ·have hdx : decide (x = y) = false := by simp [hxy]
     have HR : Hid (r = false) := by show r = _; rw [Hr.out]; simp [ne_of_at hxk.out hyk.out hxy]
     rw [hdx]; clear hdx hxy
     go_wp2_with (fail)
     go_ret
     exact ⟨by rw [HR.out]; rfl, x1⟩
   ·go_wp2
    go_ret
    have hkn : k = n := by omega
    subst hkn; have h1 := Hab.out; rw [H.out, List.take_length, ← H.out, H'.out, List.take_length] at h1; exact ⟨by rw [Hr.out, h1]; simp, hb⟩
 ·have HR : Hid (r = false) := by
   have : a ≠ b := by rintro rfl; exact hnn (H.out.trans H'.out.symm)
   show r = _; rw [Hr.out]; simp [this]
  go_enter Tryz.func72, Tryz.ntmps72
  go_wp2
  go_ret
  exact ⟨by rw [HR.out]; rfl, hb0⟩
set_option maxRecDepth 100000 in
theorem spec_EqualPaths (a : Path) (cs : List Value) (b : Path) (ds : List Value) (w : World) (h : pathT.R w cs a) (hz : sz_path a ≤ 1048576) (hl : lenOk_path a) (hg : rng_path a) (h' : pathT.R w ds b) (hz' : sz_path b ≤ 1048576) (hl' : lenOk_path b) (hg' : rng_path b) :
  Calls Tryz.prog 73 #[.agg cs.toArray, .agg ds.toArray] w fun e w' => e = .returned (.bool (decide (a = b))) ∧ Below w.heap.size w w' := by
 obtain ⟨A, c, rfl, ⟨h, _⟩⟩ := path_form h; obtain ⟨A', c', rfl, ⟨h', _⟩⟩ := path_form h'; obtain ⟨n, H⟩ : ∃ n, Hid (n = a.length) := ⟨_, rfl⟩; obtain ⟨n', H'⟩ : ∃ n, Hid (n = b.length) := ⟨_, rfl⟩
 have hn : n ≤ 1048576 := by rw [H.out]; have : sz_path a = List.length a + (a.map sz_part).sum := rfl; omega
 have hn' : n' ≤ 1048576 := by rw [H'.out]; have : sz_path b = List.length b + (b.map sz_part).sum := rfl; omega
 obtain ⟨r, Hr⟩ : ∃ r, Hid (r = decide (a = b)) := ⟨_, rfl⟩; rw [← Hr.out]; clear hl hg hl' hg'; have Hz := hid hz; have Hz' := hid hz'; clear hz hz'; rw [← H.out] at h ⊢; rw [← H'.out] at h' ⊢; have hb0 : Below w.heap.size w ((w.alloc (.cells #[.slice A n c] 38)).alloc (.cells #[.slice A' n' c'] 38)) := ext_alloc (ext_alloc1 _ _) _
 by_cases hnn : n = n'
 ·subst hnn
  have p0 : ((w.alloc (.cells #[.slice A n c] 38)).alloc (.cells #[.slice A' n c'] 38)).cell? ⟨w.heap.size, 0, none⟩ = some (.slice A n c) := by simp
  have p1 : ((w.alloc (.cells #[.slice A n c] 38)).alloc (.cells #[.slice A' n c'] 38)).cell? ⟨w.heap.size + 1, 0, none⟩ = some (.slice A' n c') := by simp
  have P0 := hid p0; have P1 := hid p1; clear p0 p1
  go_enter Tryz.func73, Tryz.ntmps73
  go_wp2
  go_loopw [5] (fun i wr => ∃ k : Nat, k ≤ n ∧ i = I k ∧ a.take k = b.take k ∧ Below w.heap.size w wr ∧ wr.cell? ⟨w.heap.size, 0, none⟩ = some (.slice A n c) ∧ wr.cell? ⟨w.heap.size + 1, 0, none⟩ = some (.slice A' n c')) (fun i _ => n - (intOf i).toNat)
  case atStart => exact ⟨0, by omega, rfl, rfl, hb0, P0.out, P1.out⟩
  case round =>
   rename_i wr
   obtain ⟨k, hk, rfl, hab, hb, p0, p1⟩ := hrel; have Hab := hid hab; clear hab P0 P1 hb0
   by_cases hlt : k < n
   ·obtain ⟨g, o, q, x, B, d, e, hg, hxk, hin, hd, c0, c1, c2, c3⟩ := part_at (h.below hb) (by rw [← H.out]; exact hlt); obtain ⟨g', o', q', y, B', d', e', hg', hyk, hin', hd', b0, b1, b2, b3⟩ := part_at (h'.below hb) (by rw [← H'.out]; exact hlt); rw [← H.out] at e; rw [← H'.out] at e'; cases e; cases e'; have sx : sz_part x ≤ 1048576 := Nat.le_trans (mem_sz_path (List.mem_of_getElem? hxk.out)) Hz.out; have sy : sz_part y ≤ 1048576 := Nat.le_trans (mem_sz_path (List.mem_of_getElem? hyk.out)) Hz'.out
    go_wp2
    go_still_tail 10, (by kernel_rfl)
    go_wp2_with (fail)
    refine (spec_EqualParts x y _ _ _ (part_mk (hin.below (below_drew _))) (part_mk (hin'.below (below_drew _))) sx sy).mono ?_; rintro e w1 ⟨rfl, hb1⟩; have x1 : Below w.heap.size w w1 := ext_trans hb.drew hb1; have p0' := ck hb1 (show wr.drew.cell? _ = _ from p0); have p1' := ck hb1 (show wr.drew.cell? _ = _ from p1)
    by_cases hxy : x = y
    ·have hdx : decide (x = y) = true := by simp [hxy]
     have Hxy := hid hxy; clear hxy; rw [hdx]; clear hdx
     go_wp2_with (fail)
     go_roundw
     case rel => exact ⟨k + 1, by omega, by go_num, take_eq_of Hab.out hxk.out (Hxy.out ▸ hyk.out), x1, p0', p1'⟩
     case measure => simp [intOf]; omega
    ·have hdx : decide (x = y) = false := by simp [hxy]
     have HR : Hid (r = false) := by show r = _; rw [Hr.out]; simp [ne_of_at hxk.out hyk.out hxy]
     rw [hdx]; clear hdx hxy
     go_wp2_with (fail)
     go_ret
     exact ⟨by rw [HR.out]; rfl, x1⟩
   ·go_wp2
    go_ret
    have hkn : k = n := by omega
    subst hkn; have h1 := Hab.out; rw [H.out, List.take_length, ← H.out, H'.out, List.take_length] at h1; exact ⟨by rw [Hr.out, h1]; simp, hb⟩
 ·have HR : Hid (r = false) := by
   have : a ≠ b := by rintro rfl; exact hnn (H.out.trans H'.out.symm)
   show r = _; rw [Hr.out]; simp [this]
  go_enter Tryz.func73, Tryz.ntmps73
  go_wp2
  go_ret
  exact ⟨by rw [HR.out]; rfl, hb0⟩
theorem mem_sz_paths {l : List Path} {x : Path} (h : x ∈ l) : sz_path x ≤ sz_paths l := by
  have := le_sum_of_mem (List.mem_map.2 ⟨x, h, rfl⟩ : sz_path x ∈ l.map sz_path)
  show _ ≤ l.length + _
  omega
theorem not_mem_succ {l : List Path} {k : Nat} {x p : Path} (h : ¬ p ∈ l.take k) (hx : l[k]? = some x) (hn : ¬ x = p) : ¬ p ∈ l.take (k + 1) := by
  rw [take_succ hx]; intro hm
  rcases List.mem_append.1 hm with hm | hm
  · exact h hm
  · rw [List.mem_singleton] at hm; exact hn hm.symm
set_option maxRecDepth 100000 in
theorem impl_HasPath (l : List Path) (v : Value) (p : Path) (cs : List Value) (w : World) (h : SlR pathT w v l) (hz : sz_paths l ≤ 1048576) (hl : l.length ≤ 9223372036854775807 ∧ ∀ x ∈ l, lenOk_path x) (hg : ∀ x ∈ l, rng_path x) (h' : pathT.R w cs p) (hz' : sz_path p ≤ 1048576) (hl' : lenOk_path p) (hg' : rng_path p) :
  Calls Tryz.prog 22 #[v, .agg cs.toArray] w fun e w' => e = .returned (.bool (decide (p ∈ l))) ∧ Below w.heap.size w w' := by
 obtain ⟨A, c, rfl, hc⟩ := h.form; have hp' := h'; obtain ⟨A', c', rfl, _⟩ := path_form h'; obtain ⟨n, H⟩ : ∃ n, Hid (n = l.length) := ⟨_, rfl⟩
 have hn : n ≤ 1048576 := by rw [H.out]; have : sz_paths l = l.length + (l.map sz_path).sum := rfl; omega
 obtain ⟨r, Hr⟩ : ∃ r, Hid (r = decide (p ∈ l)) := ⟨_, rfl⟩; rw [← Hr.out]; have Hz := hid hz; have Hl := hid hl.2; have Hg := hid hg; clear hz hl hg hc; rw [← H.out] at h ⊢; have hb0 : Below w.heap.size w (w.alloc (.cells #[.slice A' (List.length p) c'] 38)) := ext_alloc1 _ _
 have p0 : Hid ((w.alloc (.cells #[.slice A' (List.length p) c'] 38)).cell? ⟨w.heap.size, 0, none⟩ = some (.slice A' (List.length p) c')) := by show _ = _; simp
 go_enter Tryz.func22, Tryz.ntmps22
 go_wp2
 go_loopw [9] (fun i wr => ∃ k : Nat, k ≤ n ∧ i = I k ∧ ¬ p ∈ l.take k ∧ Below w.heap.size w wr ∧ wr.cell? ⟨w.heap.size, 0, none⟩ = some (.slice A' (List.length p) c')) (fun i _ => n - (intOf i).toNat)
 case atStart => exact ⟨0, by omega, rfl, by simp, hb0, p0.out⟩
 case round =>
  obtain ⟨k, hk, rfl, hab, hb, p1⟩ := hrel; have Hab := hid hab; clear hab p0 hb0
  by_cases hlt : k < n
  ·obtain ⟨g, o, q, x, B, d, e, hgg, hxk, hin, hd, c0⟩ := path_at (h.below hb) (by rw [← H.out]; exact hlt); rw [← H.out] at e; cases e; have hm := List.mem_of_getElem? hxk.out; have HC := hid (impl_EqualPaths x _ p _ (wr.alloc (.cells #[.slice B (List.length x) d] 38)) (path_mk (hin.below (ext_alloc1 _ _))) (Nat.le_trans (mem_sz_paths hm) Hz.out) (Hl.out x hm) (Hg.out x hm) (pathT.kp hp' (ext_alloc hb _)) hz' hl' hg'); clear hm; have hs : w.heap.size < wr.heap.size := World.block_lt_of_cell? wr _ p1
   go_wp2_with (fail)
   refine HC.out.mono ?_; rintro e w1 ⟨rfl, hb1⟩; have x1 : Below w.heap.size w w1 := ext_trans (ext_alloc hb _) hb1; have p2 := ck hb1 (ck (ext_alloc1 _ _) p1)
   by_cases hxy : x = p
   ·have hdx : decide (x = p) = true := by simp [hxy]
    have HR : Hid (r = true) := by show r = _; rw [Hr.out]; simp [← hxy, List.mem_of_getElem? hxk.out]
    rw [hdx]; clear hdx hxy
    go_wp2_with (fail)
    go_ret
    exact ⟨by rw [HR.out]; rfl, x1⟩
   ·have hdx : decide (x = p) = false := by simp [hxy]
    have Hxy := hid hxy; rw [hdx]; clear hdx hxy
    go_wp2_with (fail)
    go_roundw
    case rel => exact ⟨k + 1, by omega, by go_num, not_mem_succ Hab.out hxk.out Hxy.out, x1, p2⟩
    case measure => simp [intOf]; omega
  ·have hkn : k = n := by omega
   subst hkn
   have HR : Hid (r = false) := by show r = _; rw [Hr.out]; have := Hab.out; rw [H.out, List.take_length] at this; simp [this]
   go_wp2
   go_ret
   exact ⟨by rw [HR.out]; rfl, hb⟩
set_option maxRecDepth 100000 in
theorem spec_HasPath (l : List Path) (v : Value) (p : Path) (cs : List Value) (w : World) (h : SlR pathT w v l) (hz : sz_paths l ≤ 1048576) (hl : l.length ≤ 9223372036854775807 ∧ ∀ x ∈ l, lenOk_path x) (hg : ∀ x ∈ l, rng_path x) (h' : pathT.R w cs p) (hz' : sz_path p ≤ 1048576) (hl' : lenOk_path p) (hg' : rng_path p) :
  Calls Tryz.prog 23 #[v, .agg cs.toArray] w fun e w' => e = .returned (.bool (decide (p ∈ l))) ∧ Below w.heap.size w w' := by
 obtain ⟨A, c, rfl, hc⟩ := h.form; have hp' := h'; obtain ⟨A', c', rfl, _⟩ := path_form h'; obtain ⟨n, H⟩ : ∃ n, Hid (n = l.length) := ⟨_, rfl⟩
 have hn : n ≤ 1048576 := by rw [H.out]; have : sz_paths l = l.length + (l.map sz_path).sum := rfl; omega
 obtain ⟨r, Hr⟩ : ∃ r, Hid (r = decide (p ∈ l)) := ⟨_, rfl⟩; rw [← Hr.out]; have Hz := hid hz; have Hl := hid hl.2; have Hg := hid hg; clear hz hl hg hc; rw [← H.out] at h ⊢; have hb0 : Below w.heap.size w (w.alloc (.cells #[.slice A' (List.length p) c'] 38)) := ext_alloc1 _ _
 have p0 : Hid ((w.alloc (.cells #[.slice A' (List.length p) c'] 38)).cell? ⟨w.heap.size, 0, none⟩ = some (.slice A' (List.length p) c')) := by show _ = _; simp
 go_enter Tryz.func23, Tryz.ntmps23
 go_wp2
 go_loopw [5] (fun i wr => ∃ k : Nat, k ≤ n ∧ i = I k ∧ ¬ p ∈ l.take k ∧ Below w.heap.size w wr ∧ wr.cell? ⟨w.heap.size, 0, none⟩ = some (.slice A' (List.length p) c')) (fun i _ => n - (intOf i).toNat)
 case atStart => exact ⟨0, by omega, rfl, by simp, hb0, p0.out⟩
 case round =>
  obtain ⟨k, hk, rfl, hab, hb, p1⟩ := hrel; have Hab := hid hab; clear hab p0 hb0
  by_cases hlt : k < n
  ·obtain ⟨g, o, q, x, B, d, e, hgg, hxk, hin, hd, c0⟩ := path_at (h.below hb) (by rw [← H.out]; exact hlt); rw [← H.out] at e; cases e; have hm := List.mem_of_getElem? hxk.out; have HC := hid (spec_EqualPaths x _ p _ wr.drew (path_mk (hin.below (below_drew _))) (Nat.le_trans (mem_sz_paths hm) Hz.out) (Hl.out x hm) (Hg.out x hm) (pathT.kp hp' hb.drew) hz' hl' hg'); clear hm; have hs : w.heap.size < wr.heap.size := World.block_lt_of_cell? wr _ p1
   go_wp2
   go_still_tail 5, (by kernel_rfl)
   go_wp2_with (fail)
   refine HC.out.mono ?_; rintro e w1 ⟨rfl, hb1⟩; have x1 : Below w.heap.size w w1 := ext_trans hb.drew hb1; have p2 := ck hb1 (show wr.drew.cell? _ = _ from p1)
   by_cases hxy : x = p
   ·have hdx : decide (x = p) = true := by simp [hxy]
    have HR : Hid (r = true) := by show r = _; rw [Hr.out]; simp [← hxy, List.mem_of_getElem? hxk.out]
    rw [hdx]; clear hdx hxy
    go_wp2_with (fail)
    go_ret
    exact ⟨by rw [HR.out]; rfl, x1⟩
   ·have hdx : decide (x = p) = false := by simp [hxy]
    have Hxy := hid hxy; rw [hdx]; clear hdx hxy
    go_wp2_with (fail)
    go_roundw
    case rel => exact ⟨k + 1, by omega, by go_num, not_mem_succ Hab.out hxk.out Hxy.out, x1, p2⟩
    case measure => simp [intOf]; omega
  ·have hkn : k = n := by omega
   subst hkn
   have HR : Hid (r = false) := by show r = _; rw [Hr.out]; have := Hab.out; rw [H.out, List.take_length] at this; simp [this]
   go_wp2
   go_ret
   exact ⟨by rw [HR.out]; rfl, hb⟩
theorem lastIa_eq {y : Part} {x : Hop} (h : y.hops[y.hops.length - 1]? = some x) : lastIa y = x.ia := by unfold lastIa; rw [h]
theorem firstIa_eq {y : Part} {x : Hop} (h : y.hops[0]? = some x) : firstIa y = x.ia := by unfold firstIa; rw [h]
theorem all_at {α : Type} {f : α → Bool} {l : List α} {k j : Nat} {x : α} (ha : (l.take k).all f = true) (hj : j < k) (hx : l[j]? = some x) : f x = true := by
  rw [List.all_eq_true] at ha; exact ha x (List.mem_of_getElem? (i := j) (by rw [List.getElem?_take_of_lt hj]; exact hx))
theorem impl_placeOf (k : Int) (w : World) : Calls Tryz.prog 111 #[I k] w fun e w' => e = .returned (I (place k)) ∧ w = w' := by
 have X0 := Below.refl w.heap.size w; refine enter Tryz.func111 rfl Tryz.ntmps111 rfl ?_; refine w_h ?_; have S := Sep.nil w; have B := Below.refl w.heap.size w; have Hb := Nat.le_refl w.heap.size; refine t_a rfl ?_ rfl; refine t_e ?_; (iterate 2 refine w_s ?_); refine w_g ?_; refine t_m rfl ?_ rfl; refine t_e ?_; refine w_block ?_; refine w_h ?_; refine t_eql rfl rfl ?_ rfl; refine t_a rfl ?_ rfl; refine t_e ?_; refine w_if rfl ?_ ?_
 ·intro h1; refine w_h ?_; refine t_a rfl ?_ rfl; refine t_e ?_; refine w_r ?_; refine x_block_ret ?_; refine x_t ?_; refine x_ret1 rfl rfl ?_; exact ⟨ret_int (by simp [place, h1]), rfl⟩
 ·intro h1; (iterate 2 refine w_s ?_); refine w_g ?_; refine t_eql rfl rfl ?_ rfl; refine t_a rfl ?_ rfl; refine t_e ?_; refine w_if rfl ?_ ?_
  ·intro h2; refine w_k ?_; refine x_s ?_; refine w_if rfl ?_ (fun h => (by exact absurd h2 h)); intro hc6; refine w_h ?_; refine t_a rfl ?_ rfl; refine t_e ?_; refine w_r ?_; refine x_block_ret ?_; refine x_t ?_; refine x_ret1 rfl rfl ?_; exact ⟨ret_int (by simp [place, h2]), rfl⟩
  ·intro h2; refine w_g ?_; refine t_eql rfl rfl ?_ rfl; refine t_a rfl ?_ rfl; refine t_e ?_; refine w_if rfl ?_ ?_
   ·intro h3; refine w_h ?_; refine t_a rfl ?_ rfl; refine t_e ?_; refine w_r ?_; refine x_block_ret ?_; refine x_t ?_; refine x_ret1 rfl rfl ?_; exact ⟨ret_int (by simp [place, h3]), rfl⟩
   ·intro h3; refine w_k ?_; refine x_b ?_; refine x_s ?_; refine w_h ?_; refine t_a rfl ?_ rfl; refine t_e ?_; refine w_r ?_; refine x_ret1 rfl rfl ?_; exact ⟨ret_int (by simp [place, h1, h2, h3]), rfl⟩
theorem spec_l22Rank (k : Int) (w : World) : Calls Tryz.prog 181 #[I k] w fun e w' => e = .returned (I (place k)) ∧ w = w' := by
 have X0 := Below.refl w.heap.size w; refine enter Tryz.func181 rfl Tryz.ntmps181 rfl ?_; refine w_h ?_; have S := Sep.nil w; have B := Below.refl w.heap.size w; have Hb := Nat.le_refl w.heap.size; refine t_a rfl ?_ rfl; refine t_e ?_; (iterate 2 refine w_s ?_); refine w_g ?_; refine t_m rfl ?_ rfl; refine t_e ?_; refine w_block ?_; refine w_h ?_; refine t_eql rfl rfl ?_ rfl; refine t_a rfl ?_ rfl; refine t_e ?_; refine w_if rfl ?_ ?_
 ·intro h1; refine w_h ?_; refine t_a rfl ?_ rfl; refine t_e ?_; refine w_r ?_; refine x_block_ret ?_; refine x_t ?_; refine x_ret1 rfl rfl ?_; exact ⟨ret_int (by simp [place, h1]), rfl⟩
 ·intro h1; (iterate 2 refine w_s ?_); refine w_g ?_; refine t_eql rfl rfl ?_ rfl; refine t_a rfl ?_ rfl; refine t_e ?_; refine w_if rfl ?_ ?_
  ·intro h2; refine w_k ?_; refine x_s ?_; refine w_if rfl ?_ (fun h => (by exact absurd h2 h)); intro hc6; refine w_h ?_; refine t_a rfl ?_ rfl; refine t_e ?_; refine w_r ?_; refine x_block_ret ?_; refine x_t ?_; refine x_ret1 rfl rfl ?_; exact ⟨ret_int (by simp [place, h2]), rfl⟩
  ·intro h2; refine w_g ?_; refine t_eql rfl rfl ?_ rfl; refine t_a rfl ?_ rfl; refine t_e ?_; refine w_if rfl ?_ ?_
   ·intro h3; refine w_h ?_; refine t_a rfl ?_ rfl; refine t_e ?_; refine w_r ?_; refine x_block_ret ?_; refine x_t ?_; refine x_ret1 rfl rfl ?_; exact ⟨ret_int (by simp [place, h3]), rfl⟩
   ·intro h3; refine w_k ?_; refine x_b ?_; refine x_s ?_; refine w_h ?_; refine t_a rfl ?_ rfl; refine t_e ?_; refine w_r ?_; refine x_ret1 rfl rfl ?_; exact ⟨ret_int (by simp [place, h1, h2, h3]), rfl⟩
theorem impl_WellFormedPath (t : Topo) (v : Value) (p : Path) (u : Value) (w : World) (h : VA topoT w v t) (hp : VA pathT w u p) (hz : sz_topo t ≤ 1048576) (hz' : sz_path p ≤ 1048576) : Calls Tryz.prog 57 #[v, u] w fun e w' => e = .returned (.bool (wellFormed t p)) ∧ Below w.heap.size w w' := by
 have hpl : List.length p ≤ sz_path p := by show List.length p ≤ List.length p + _; omega
 have X0 := Below.refl w.heap.size w; refine enter Tryz.func57 rfl Tryz.ntmps57 rfl ?_; refine w_h ?_; refine t_boxr ‹_› rfl ?_ rfl rfl; intro p2 w1 x2 hp2; replace h := h.below x2; replace hp := hp.below x2; have X0 := ext_trans X0 x2; refine t_boxr ‹_› rfl ?_ rfl rfl; intro p3 w3 x4 hp3; replace h := h.below x4; replace hp := hp.below x4; replace hp2 := hp2.below x4; have X0 := ext_trans X0 x4; have S := Sep.nil w3; have B := Below.refl w3.heap.size w3; have Hb := Nat.le_refl w3.heap.size; refine t_a rfl ?_ rfl; refine t_e ?_; (iterate 2 refine w_s ?_); refine w_g ?_; refine t_fld ln_path_0 ‹_› fb_path_0 rfl ?_ rfl; intro p8 hp8; refine t_lds ‹_› ab_s_part B rfl ?_ rfl; intro v9 hv9; refine t_len e_part ‹_› rfl rfl ?_ rfl; refine t_calls Tryz.call109 rfl (impl_InRange _ _ _ _) ?_ rfl rfl; refine t_notb rfl ?_ rfl; refine t_e ?_; refine w_ifb rfl ?_ ?_
 ·intro h1; refine w_h ?_; refine t_a rfl ?_ rfl; refine t_e ?_; refine w_r ?_; refine x_t ?_; refine x_ret1 rfl rfl ?_; exact ⟨ret_bool (by simp at h1; simp [wellFormed, h1]), ext_trans X0 B⟩
 intro h1
 have h1' : inR (List.length p) 1 3 = true := by simpa using h1
 refine w_k ?_; refine x_s ?_; (iterate 2 refine w_s ?_); refine w_g ?_; refine t_fld ln_path_0 ‹_› fb_path_0 rfl ?_ rfl; intro p13 hp13; refine t_lds ‹_› ab_s_part B rfl ?_ rfl; intro v14 hv14; refine t_len e_part ‹_› rfl rfl ?_ rfl; refine t_m rfl ?_ rfl; refine t_e ?_; refine w_block ?_; refine w_loop (X := Nat) (fun k wq => k ≤ List.length p ∧ (p.take k).all (validPart t) = true ∧ (∀ j, j < k - 1 → joinOk p j = true) ∧ Below w3.heap.size w3 wq ∧ Sep w3.heap.size wq []) (fun k => [(16, I ((k : Int))), (2, p2), (3, p3), (14, v14), (15, I ((p.length : Int)))]) (fun k => List.length p - k) (0) ?_ ⟨rfl, rfl, rfl, rfl, rfl, trivial⟩ ?_
 ·exact ⟨by omega, rfl, by omega, B, S⟩
 ·rintro k w5 hI; (try dsimp only at hI ⊢); obtain ⟨hk, ha, hb, B, S⟩ := hI; refine w_h ?_; refine t_lss rfl rfl ?_ rfl; refine t_e ?_; refine w_s ?_; refine w_if rfl ?_ ?_
  ·intro hlt; obtain ⟨e19, he19⟩ : ∃ e, p[k]? = some e := getx (by omega); have hhl := hops_sz he19; refine w_k ?_; refine x_s ?_; refine w_s ?_; refine w_block ?_; refine w_h ?_; refine t_m rfl ?_ rfl; refine t_idx e_part (k := k) ‹_› he19 B rfl rfl (by first | rfl | omega) ?_ rfl; intro p19 hp19; refine t_lda ‹_› ab_part sb_part B rfl ?_ rfl; intro v20 hv20; obtain ⟨v20_3, rfl, hv20_3⟩ := part_va hv20; refine t_w S z_part rfl ?_ rfl rfl; intro g6 w6 x7 S; have B := bx Hb B x7; refine t_a rfl ?_ rfl; refine t_stn S sb_part rfl rfl rfl rfl (by repeat first | exact oc0 | refine oc rfl ?_ | refine oc (SlR.cells ‹_›).2 ?_) ?_; intro w8 b9 S; have B := B.trans b9; refine t_e ?_; (iterate 2 refine w_s ?_); refine w_g ?_; refine t_lda ‹_› ab_topo sb_topo B rfl ?_ rfl; intro v21 hv21; obtain ⟨v21_0, v21_1, rfl, hv21_0, hv21_1⟩ := topo_va hv21; refine t_b S.box ab_part sb_part rfl rfl ?_ rfl
   refine t_x Tryz.call110 rfl (impl_ValidPart _ _ _ _ _ (by first | assumption | exact VA.below ‹_› B | exact topo_mkv (by first | assumption | exact SlR.below ‹_› B) (by first | assumption | exact SlR.below ‹_› B)) (by first | assumption | exact VA.below ‹_› B | exact part_mkv (by first | assumption | exact SlR.below ‹_› B)) (by omega) (by omega)) ?_ rfl rfl; intro w10 x11; have B := bx Hb B x11; have S := S.below x11; refine t_notb rfl ?_ rfl; refine t_e ?_; refine w_ifb rfl ?_ ?_
   ·intro h2; refine w_h ?_; refine t_a rfl ?_ rfl; refine t_e ?_; refine w_r ?_; refine x_t ?_; refine x_block_ret ?_; (iterate 2 refine x_t ?_); refine x_block_ret ?_; refine x_t ?_; refine x_ret1 rfl rfl ?_; exact ⟨ret_bool (by rw [wellFormed, allF_bad he19 (by simpa using h2)]; simp), ext_trans X0 B⟩
   intro h2
   have h2' : validPart t e19 = true := by simpa using h2
   have ha2 := allF_succ he19 ha h2'; have hl2 := valid_len h2'; refine w_k ?_; refine x_s ?_; refine w_h ?_; refine t_m rfl ?_ rfl; refine t_gtr rfl rfl ?_ rfl; refine t_e ?_; refine w_if rfl ?_ ?_
   ·intro h3
    have hk3 : k - 1 + 1 = k := by omega
    have hlt3 : k - 1 < List.length p - 1 := by omega
    obtain ⟨e31, he31⟩ : ∃ e, p[k - 1]? = some e := getx (by omega); have hl3 := valid_len (all_at ha (by omega) he31); have hhl3 := hops_sz he31; have hJ := joinOk_eq he31 (by rw [hk3]; exact he19); obtain ⟨e47, he47⟩ : ∃ e, e31.hops[e31.hops.length - 1]? = some e := getx (by omega); obtain ⟨e52, he52⟩ : ∃ e, e19.hops[0]? = some e := getx (by omega); rw [lastIa_eq he47, firstIa_eq he52] at hJ; refine w_h ?_; refine t_fld ln_path_0 ‹_› fb_path_0 rfl ?_ rfl; intro p27 hp27; refine t_lds ‹_› ab_s_part B rfl ?_ rfl; intro v28 hv28; refine t_m rfl ?_ rfl; refine t_sub rfl rfl (by omega) ?_ rfl; refine t_idx e_part (k := (k - 1)) ‹_› he31 B rfl rfl (by first | rfl | omega) ?_ rfl; intro p31 hp31; refine t_lda ‹_› ab_part sb_part B rfl ?_ rfl; intro v32 hv32; obtain ⟨v32_3, rfl, hv32_3⟩ := part_va hv32; refine t_w S z_part rfl ?_ rfl rfl; intro g7 w12 x13 S; have B := bx Hb B x13; refine t_stn S sb_part rfl rfl rfl rfl (by repeat first | exact oc0 | refine oc rfl ?_ | refine oc (SlR.cells ‹_›).2 ?_) ?_; intro w14 b15 S; have B := B.trans b15; refine t_e ?_; refine w_s ?_
    refine w_draw (.st .take 0 (.st .take 1 (.st .take 3 (.st .take 4 (.st .run 2 (.st .run 5 (.st .take 6 (.st .take 7 (.st .take 8 (.st .take 9 (.st .take 10 (.st .take 11 (.st .take 12 (.st .take 13 (.st .take 14 (.st .take 15 (.st .take 16 (.st .take 17 (.st .take 18 (.st .take 19 (.st .take 20 (.st .take 21 (.st .take 22 (.st .take 23 .done)))))))))))))))))))))))) mixed (by kernel_rfl) ?_; intro w16 x17; have B := bx Hb B x17; have S := S.below x17; refine t_y fb_part_0 rfl rfl ?_ rfl; refine t_bx1 S.box ab_int rfl rfl ?_ rfl; refine t_y fb_part_0 rfl rfl ?_ rfl; refine t_bx1 S.tail.box ab_int rfl rfl ?_ rfl; refine t_calls Tryz.call111 rfl (impl_placeOf _ _) ?_ rfl rfl; refine t_calls Tryz.call111 rfl (impl_placeOf _ _) ?_ rfl rfl; refine t_geq rfl rfl ?_ rfl; refine t_m rfl ?_ rfl; refine t_partp (t := 40) rfl ?_ ?_
    ·intro h4; (iterate 15 refine t_off rfl rfl rfl ?_ rfl); refine t_q rfl rfl ?_ rfl; refine t_e' ?_; refine w_yes rfl ?_; refine w_h ?_; refine t_a rfl ?_ rfl; refine t_e ?_; refine w_r ?_; refine x_block_ret ?_; (iterate 2 refine x_t ?_); refine x_block_ret ?_; refine x_t ?_; refine x_ret1 rfl rfl ?_; exact ⟨ret_bool (by rw [wellFormed, all_no hlt3 (by rw [hJ, decide_eq_false (by omega)]; rfl)]; simp), ext_trans X0 B⟩
    intro h4; refine t_on rfl rfl ?_; refine t_y fb_part_3 rfl rfl ?_ rfl; refine t_on rfl rfl ?_; refine t_bx1 S.box ab_s_hop rfl rfl ?_ rfl; refine t_on rfl rfl ?_; refine t_y fb_part_3 rfl rfl ?_ rfl; refine t_on rfl rfl ?_; refine t_bx1 S.box ab_s_hop rfl rfl ?_ rfl; refine t_on rfl rfl ?_; refine t_len e_hop ‹_› rfl rfl ?_ rfl; refine t_on rfl rfl ?_; refine t_sub rfl rfl (by omega) ?_ rfl; refine t_on rfl rfl ?_; refine t_idx e_hop (k := (e31.hops.length - 1)) ‹_› he47 B rfl rfl (by first | rfl | omega) ?_ rfl; intro p47 hp47; refine t_on rfl rfl ?_; refine t_fld ln_hop_0 ‹_› fb_hop_0 rfl ?_ rfl; intro p48 hp48; refine t_on rfl rfl ?_; refine t_ldi ‹_› ab_int B rfl ?_ rfl; refine t_on rfl rfl ?_; refine t_y fb_part_3 rfl rfl ?_ rfl; refine t_on rfl rfl ?_; refine t_bx1 S.tail.box ab_s_hop rfl rfl ?_ rfl; refine t_on rfl rfl ?_; refine t_idx e_hop (k := 0) ‹_› he52 B rfl rfl (by first | rfl | omega) ?_ rfl; intro p52 hp52; refine t_on rfl rfl ?_; refine t_fld ln_hop_0 ‹_› fb_hop_0 rfl ?_ rfl; intro p53 hp53; refine t_on rfl rfl ?_; refine t_ldi ‹_› ab_int B rfl ?_ rfl; refine t_on rfl rfl ?_; refine t_neq rfl rfl ?_ rfl; refine t_p rfl rfl ?_ rfl; refine t_e' ?_
    refine w_if rfl ?_ ?_
    ·intro h5; refine w_h ?_; refine t_a rfl ?_ rfl; refine t_e ?_; refine w_r ?_; refine x_block_ret ?_; (iterate 2 refine x_t ?_); refine x_block_ret ?_; refine x_t ?_; refine x_ret1 rfl rfl ?_; exact ⟨ret_bool (by rw [wellFormed, all_no hlt3 (by rw [hJ, decide_eq_false h5]; simp)]; simp), ext_trans X0 B⟩
    intro h5; refine w_k ?_; refine x_b ?_; refine x_s ?_; refine w_g ?_; refine t_add rfl rfl (by omega) ?_ rfl; refine t_m rfl ?_ rfl; refine t_d ?_; have S := S.tail.tail; refine x_r (X := Nat) (k + 1) ?_ (by exact ⟨rfl, rfl, rfl, rfl, rfl, trivial⟩) (by (try dsimp only); omega); (try dsimp only); refine ⟨by omega, ha2, fun j hj => ?_, B, S⟩; refine upto_succ (k := k - 1) hb ?_ j (by omega); rw [hJ, decide_eq_true (by omega), decide_eq_true (by omega)]
    rfl
   ·intro h3; refine w_k ?_; refine x_b ?_; refine x_s ?_; refine w_g ?_; refine t_add rfl rfl (by omega) ?_ rfl; refine t_m rfl ?_ rfl; refine t_d ?_; have S := S.tail; refine x_r (X := Nat) (k + 1) ?_ (by exact ⟨rfl, rfl, rfl, rfl, rfl, trivial⟩) (by (try dsimp only); omega); (try dsimp only); exact ⟨by omega, ha2, fun j hj => by omega, B, S⟩
  ·intro hge; refine w_exit ?_; (iterate 2 refine x_then_exit ?_); refine x_block_exit ?_; refine x_s ?_; refine w_h ?_; refine t_a rfl ?_ rfl; refine t_e ?_; refine w_r ?_; refine x_ret1 rfl rfl ?_; exact ⟨ret_bool (by rw [wellFormed, h1', allF_end (by omega) ha, all_ok fun j hj => hb j (by omega)]; rfl), ext_trans X0 B⟩
theorem spec_WellFormedPath (t : Topo) (v : Value) (p : Path) (u : Value) (w : World) (h : VA topoT w v t) (hp : VA pathT w u p) (hz : sz_topo t ≤ 1048576) (hz' : sz_path p ≤ 1048576) : Calls Tryz.prog 159 #[v, u] w fun e w' => e = .returned (.bool (wellFormed t p)) ∧ Below w.heap.size w w' := by
 have hpl : List.length p ≤ sz_path p := by show List.length p ≤ List.length p + _; omega
 have X0 := Below.refl w.heap.size w; refine enter Tryz.func159 rfl Tryz.ntmps159 rfl ?_; refine w_h ?_; refine t_boxr ‹_› rfl ?_ rfl rfl; intro p2 w18 x19 hp2; replace h := h.below x19; replace hp := hp.below x19; have X0 := ext_trans X0 x19; refine t_boxr ‹_› rfl ?_ rfl rfl; intro p3 w20 x21 hp3; replace h := h.below x21; replace hp := hp.below x21; replace hp2 := hp2.below x21; have X0 := ext_trans X0 x21; have S := Sep.nil w20; have B := Below.refl w20.heap.size w20; have Hb := Nat.le_refl w20.heap.size; refine t_a rfl ?_ rfl; refine t_e ?_; (iterate 2 refine w_s ?_); refine w_g ?_; refine t_fld ln_path_0 ‹_› fb_path_0 rfl ?_ rfl; intro p7 hp7; refine t_lds ‹_› ab_s_part B rfl ?_ rfl; intro v8 hv8; refine t_len e_part ‹_› rfl rfl ?_ rfl; refine t_calls Tryz.call144 rfl (spec_l1In _ _ _ _) ?_ rfl rfl; refine t_notb rfl ?_ rfl; refine t_e ?_; refine w_ifb rfl ?_ ?_
 ·intro h1; refine w_h ?_; refine t_a rfl ?_ rfl; refine t_e ?_; refine w_r ?_; refine x_t ?_; refine x_ret1 rfl rfl ?_; exact ⟨ret_bool (by simp at h1; simp [wellFormed, h1]), ext_trans X0 B⟩
 intro h1
 have h1' : inR (List.length p) 1 3 = true := by simpa using h1
 refine w_k ?_; refine x_s ?_; (iterate 2 refine w_s ?_); refine w_g ?_; refine t_a rfl ?_ rfl; refine t_e ?_; refine w_block ?_; refine w_loop (X := Nat) (fun k wq => k ≤ List.length p ∧ (p.take k).all (validPart t) = true ∧ (∀ j, j < k - 1 → joinOk p j = true) ∧ Below w20.heap.size w20 wq ∧ Sep w20.heap.size wq []) (fun k => [(5, I ((k : Int))), (2, p2), (3, p3)]) (fun k => List.length p - k) (0) ?_ ⟨rfl, rfl, rfl, trivial⟩ ?_
 ·exact ⟨by omega, rfl, by omega, B, S⟩
 ·rintro k w22 hI; (try dsimp only at hI ⊢); obtain ⟨hk, ha, hb, B, S⟩ := hI; (iterate 2 refine w_s ?_); refine w_g ?_; refine t_m rfl ?_ rfl; refine t_fld ln_path_0 ‹_› fb_path_0 rfl ?_ rfl; intro p13 hp13; refine t_lds ‹_› ab_s_part B rfl ?_ rfl; intro v14 hv14; refine t_len e_part ‹_› rfl rfl ?_ rfl; refine t_lss rfl rfl ?_ rfl; refine t_e ?_; refine w_if rfl ?_ ?_
  ·intro hlt; obtain ⟨e23, he23⟩ : ∃ e, p[k]? = some e := getx (by omega); have hhl := hops_sz he23; refine w_k ?_; refine x_s ?_; refine w_s ?_; refine w_block ?_; (iterate 2 refine w_s ?_); refine w_draw (.st .take 0 (.st .take 1 (.st .take 2 (.st .take 3 (.st .take 4 (.st .take 5 (.st .run 6 (.st .take 7 .done)))))))) mixed (by kernel_rfl) ?_; intro w23 x24; have B := bx Hb B x24; have S := S.below x24; refine t_lda ‹_› ab_topo sb_topo B rfl ?_ rfl; intro v19 hv19; obtain ⟨v19_0, v19_1, rfl, hv19_0, hv19_1⟩ := topo_va hv19; refine t_fld ln_path_0 ‹_› fb_path_0 rfl ?_ rfl; intro p20 hp20; refine t_lds ‹_› ab_s_part B rfl ?_ rfl; intro v21 hv21; refine t_m rfl ?_ rfl; refine t_idx e_part (k := k) ‹_› he23 B rfl rfl (by first | rfl | omega) ?_ rfl; intro p23 hp23; refine t_lda ‹_› ab_part sb_part B rfl ?_ rfl; intro v24 hv24; obtain ⟨v24_3, rfl, hv24_3⟩ := part_va hv24
   refine t_x Tryz.call180 rfl (spec_ValidPart _ _ _ _ _ (by first | assumption | exact VA.below ‹_› B | exact topo_mkv (by first | assumption | exact SlR.below ‹_› B) (by first | assumption | exact SlR.below ‹_› B)) (by first | assumption | exact VA.below ‹_› B | exact part_mkv (by first | assumption | exact SlR.below ‹_› B)) (by omega) (by omega)) ?_ rfl rfl; intro w25 x26; have B := bx Hb B x26; have S := S.below x26; refine t_notb rfl ?_ rfl; refine t_e' ?_; refine w_ifb rfl ?_ ?_
   ·intro h2; refine w_h ?_; refine t_a rfl ?_ rfl; refine t_e ?_; refine w_r ?_; refine x_t ?_; refine x_block_ret ?_; (iterate 2 refine x_t ?_); refine x_block_ret ?_; refine x_t ?_; refine x_ret1 rfl rfl ?_; exact ⟨ret_bool (by rw [wellFormed, allF_bad he23 (by simpa using h2)]; simp), ext_trans X0 B⟩
   intro h2
   have h2' : validPart t e23 = true := by simpa using h2
   have ha2 := allF_succ he23 ha h2'; have hl2 := valid_len h2'; refine w_k ?_; refine x_s ?_; refine w_h ?_; refine t_m rfl ?_ rfl; refine t_gtr rfl rfl ?_ rfl; refine t_e ?_; refine w_if rfl ?_ ?_
   ·intro h3
    have hk3 : k - 1 + 1 = k := by omega
    have hlt3 : k - 1 < List.length p - 1 := by omega
    obtain ⟨e33, he33⟩ : ∃ e, p[k - 1]? = some e := getx (by omega); have hl3 := valid_len (all_at ha (by omega) he33); have hhl3 := hops_sz he33; have hJ := joinOk_eq he33 (by rw [hk3]; exact he23); obtain ⟨e53, he53⟩ : ∃ e, e33.hops[e33.hops.length - 1]? = some e := getx (by omega); obtain ⟨e62, he62⟩ : ∃ e, e23.hops[0]? = some e := getx (by omega); rw [lastIa_eq he53, firstIa_eq he62] at hJ; refine w_h ?_; refine t_fld ln_path_0 ‹_› fb_path_0 rfl ?_ rfl; intro p29 hp29; refine t_lds ‹_› ab_s_part B rfl ?_ rfl; intro v30 hv30; refine t_m rfl ?_ rfl; refine t_sub rfl rfl (by omega) ?_ rfl; refine t_idx e_part (k := (k - 1)) ‹_› he33 B rfl rfl (by first | rfl | omega) ?_ rfl; intro p33 hp33; refine t_lda ‹_› ab_part sb_part B rfl ?_ rfl; intro v34 hv34; obtain ⟨v34_3, rfl, hv34_3⟩ := part_va hv34; refine t_w S z_part rfl ?_ rfl rfl; intro g6 w27 x28 S; have B := bx Hb B x28; refine t_stn S sb_part rfl rfl rfl rfl (by repeat first | exact oc0 | refine oc rfl ?_ | refine oc (SlR.cells ‹_›).2 ?_) ?_; intro w29 b30 S; have B := B.trans b30; refine t_e ?_; refine w_s ?_
    refine w_draw (.st .take 0 (.st .take 1 (.st .take 3 (.st .take 4 (.st .take 5 (.st .take 6 (.st .take 7 (.st .take 8 (.st .run 2 (.st .run 9 (.st .take 10 (.st .take 11 (.st .take 12 (.st .take 13 (.st .take 14 (.st .take 15 (.st .take 16 (.st .take 17 (.st .take 18 (.st .take 19 (.st .take 20 (.st .take 21 (.st .take 22 (.st .take 23 (.st .take 24 (.st .take 25 (.st .take 26 (.st .take 27 (.st .take 28 (.st .take 29 (.st .take 30 (.st .take 31 .done)))))))))))))))))))))))))))))))) mixed (by kernel_rfl) ?_; intro w31 x32; have B := bx Hb B x32; have S := S.below x32; refine t_y fb_part_0 rfl rfl ?_ rfl; refine t_bx1 S.box ab_int rfl rfl ?_ rfl; refine t_fld ln_path_0 ‹_› fb_path_0 rfl ?_ rfl; intro p38 hp38; refine t_lds ‹_› ab_s_part B rfl ?_ rfl; intro v39 hv39; refine t_m rfl ?_ rfl; refine t_idx e_part (k := k) ‹_› he23 B rfl rfl (by first | rfl | omega) ?_ rfl; intro p41 hp41; refine t_fld ln_part_0 ‹_› fb_part_0 rfl ?_ rfl; intro p42 hp42; refine t_ldi ‹_› ab_int B rfl ?_ rfl; refine t_calls Tryz.call181 rfl (spec_l22Rank _ _) ?_ rfl rfl; refine t_calls Tryz.call181 rfl (spec_l22Rank _ _) ?_ rfl rfl; refine t_geq rfl rfl ?_ rfl; refine t_m rfl ?_ rfl
    refine t_partp (t := 46) rfl ?_ ?_
    ·intro h4; (iterate 19 refine t_off rfl rfl rfl ?_ rfl); refine t_q rfl rfl ?_ rfl; refine t_e' ?_; refine w_yes rfl ?_; refine w_h ?_; refine t_a rfl ?_ rfl; refine t_e ?_; refine w_r ?_; refine x_block_ret ?_; (iterate 2 refine x_t ?_); refine x_block_ret ?_; refine x_t ?_; refine x_ret1 rfl rfl ?_; exact ⟨ret_bool (by rw [wellFormed, all_no hlt3 (by rw [hJ, decide_eq_false (by omega)]; rfl)]; simp), ext_trans X0 B⟩
    intro h4; refine t_on rfl rfl ?_; refine t_y fb_part_3 rfl rfl ?_ rfl; refine t_on rfl rfl ?_; refine t_bx1 S.box ab_s_hop rfl rfl ?_ rfl; refine t_on rfl rfl ?_; refine t_y fb_part_3 rfl rfl ?_ rfl; refine t_on rfl rfl ?_; refine t_bx1 S.box ab_s_hop rfl rfl ?_ rfl; refine t_on rfl rfl ?_; refine t_len e_hop ‹_› rfl rfl ?_ rfl; refine t_on rfl rfl ?_; refine t_sub rfl rfl (by omega) ?_ rfl; refine t_on rfl rfl ?_; refine t_idx e_hop (k := (e33.hops.length - 1)) ‹_› he53 B rfl rfl (by first | rfl | omega) ?_ rfl; intro p53 hp53; refine t_on rfl rfl ?_; refine t_fld ln_hop_0 ‹_› fb_hop_0 rfl ?_ rfl; intro p54 hp54; refine t_on rfl rfl ?_; refine t_ldi ‹_› ab_int B rfl ?_ rfl; refine t_on rfl rfl ?_; refine t_fld ln_path_0 ‹_› fb_path_0 rfl ?_ rfl; intro p56 hp56; refine t_on rfl rfl ?_; refine t_lds ‹_› ab_s_part B rfl ?_ rfl; intro v57 hv57; refine t_on rfl rfl ?_; refine t_m rfl ?_ rfl; refine t_on rfl rfl ?_; refine t_idx e_part (k := k) ‹_› he23 B rfl rfl (by first | rfl | omega) ?_ rfl; intro p59 hp59; refine t_on rfl rfl ?_; refine t_fld ln_part_3 ‹_› fb_part_3 rfl ?_ rfl; intro p60 hp60; refine t_on rfl rfl ?_; refine t_lds ‹_› ab_s_hop B rfl ?_ rfl; intro v61 hv61
    refine t_on rfl rfl ?_; refine t_idx e_hop (k := 0) ‹_› he62 B rfl rfl (by first | rfl | omega) ?_ rfl; intro p62 hp62; refine t_on rfl rfl ?_; refine t_fld ln_hop_0 ‹_› fb_hop_0 rfl ?_ rfl; intro p63 hp63; refine t_on rfl rfl ?_; refine t_ldi ‹_› ab_int B rfl ?_ rfl; refine t_on rfl rfl ?_; refine t_neq rfl rfl ?_ rfl; refine t_p rfl rfl ?_ rfl; refine t_e' ?_; refine w_if rfl ?_ ?_
    ·intro h5; refine w_h ?_; refine t_a rfl ?_ rfl; refine t_e ?_; refine w_r ?_; refine x_block_ret ?_; (iterate 2 refine x_t ?_); refine x_block_ret ?_; refine x_t ?_; refine x_ret1 rfl rfl ?_; exact ⟨ret_bool (by rw [wellFormed, all_no hlt3 (by rw [hJ, decide_eq_false h5]; simp)]; simp), ext_trans X0 B⟩
    intro h5; refine w_k ?_; refine x_b ?_; refine x_s ?_; refine w_g ?_; refine t_m rfl ?_ rfl; refine t_add rfl rfl (by omega) ?_ rfl; refine t_a rfl ?_ rfl; refine t_d ?_; have S := S.tail; refine x_r (X := Nat) (k + 1) ?_ (by exact ⟨rfl, rfl, rfl, trivial⟩) (by (try dsimp only); omega); (try dsimp only); refine ⟨by omega, ha2, fun j hj => ?_, B, S⟩; refine upto_succ (k := k - 1) hb ?_ j (by omega); rw [hJ, decide_eq_true (by omega), decide_eq_true (by omega)]
    rfl
   ·intro h3; refine w_k ?_; refine x_b ?_; refine x_s ?_; refine w_g ?_; refine t_m rfl ?_ rfl; refine t_add rfl rfl (by omega) ?_ rfl; refine t_a rfl ?_ rfl; refine t_d ?_; refine x_r (X := Nat) (k + 1) ?_ (by exact ⟨rfl, rfl, rfl, trivial⟩) (by (try dsimp only); omega); (try dsimp only); exact ⟨by omega, ha2, fun j hj => by omega, B, S⟩
  ·intro hge; refine w_exit ?_; (iterate 2 refine x_then_exit ?_); refine x_block_exit ?_; refine x_s ?_; refine w_h ?_; refine t_a rfl ?_ rfl; refine t_e ?_; refine w_r ?_; refine x_ret1 rfl rfl ?_; exact ⟨ret_bool (by rw [wellFormed, h1', allF_end (by omega) ha, all_ok fun j hj => hb j (by omega)]; rfl), ext_trans X0 B⟩
theorem fresh_eq {l : List Int} {k : Nat} {x : Int} (h : l[k]? = some x) : fresh l k = !(l.take k).contains x := by unfold fresh; rw [h]
theorem impl_SimplePath (t : Topo) (v : Value) (p : Path) (u : Value) (w : World) (h : VA topoT w v t) (hp : VA pathT w u p) (hz : sz_topo t ≤ 1048576) (hz' : sz_path p ≤ 1048576) (hl : lenOk_path p) (hg : rng_path p) : Calls Tryz.prog 112 #[v, u] w fun e w' => e = .returned (.bool (simplePath t p)) ∧ Below w.heap.size w w' := by
 have hsl := pathSteps_len p; have hnl := nums_len (pathSteps p); have X0 := Below.refl w.heap.size w; refine enter Tryz.func112 rfl Tryz.ntmps112 rfl ?_; refine w_h ?_; refine t_boxr ‹_› rfl ?_ rfl rfl; intro p2 w33 x34 hp2; replace h := h.below x34; replace hp := hp.below x34; have X0 := ext_trans X0 x34; refine t_boxr ‹_› rfl ?_ rfl rfl; intro p3 w35 x36 hp3; replace h := h.below x36; replace hp := hp.below x36; replace hp2 := hp2.below x36; have X0 := ext_trans X0 x36; have S := Sep.nil w35; have B := Below.refl w35.heap.size w35; have Hb := Nat.le_refl w35.heap.size; refine t_a rfl ?_ rfl; refine t_e ?_; (iterate 2 refine w_s ?_); refine w_g ?_; refine t_lda ‹_› ab_topo sb_topo B rfl ?_ rfl; intro v8 hv8; obtain ⟨v8_0, v8_1, rfl, hv8_0, hv8_1⟩ := topo_va hv8; refine t_lda ‹_› ab_path sb_path B rfl ?_ rfl; intro v9 hv9; obtain ⟨v9_0, rfl, hv9_0⟩ := path_va hv9
 refine t_x Tryz.call57 rfl (impl_WellFormedPath _ _ _ _ _ (by first | assumption | exact VA.below ‹_› B | exact topo_mkv (by first | assumption | exact SlR.below ‹_› B) (by first | assumption | exact SlR.below ‹_› B)) (by first | assumption | exact VA.below ‹_› B | exact path_mkv (by first | assumption | exact SlR.below ‹_› B)) (by omega) (by omega)) ?_ rfl rfl; intro w37 x38; have B := bx Hb B x38; have S := S.below x38; refine t_notb rfl ?_ rfl; refine t_e ?_; refine w_ifb rfl ?_ ?_
 ·intro h1; refine w_h ?_; refine t_a rfl ?_ rfl; refine t_e ?_; refine w_r ?_; refine x_t ?_; refine x_ret1 rfl rfl ?_; exact ⟨ret_bool (by simp at h1; simp [simplePath, h1]), ext_trans X0 B⟩
 intro h1
 have h1' : wellFormed t p = true := by simpa using h1
 refine w_k ?_; refine x_s ?_; refine w_h ?_; refine t_lda ‹_› ab_path sb_path B rfl ?_ rfl; intro v12 hv12; obtain ⟨v12_0, rfl, hv12_0⟩ := path_va hv12; refine t_c Tryz.call44 rfl (va1 (by first | assumption | exact VA.below ‹_› B | exact path_mkv (by first | assumption | exact SlR.below ‹_› B)) fun cs h => impl_InterfacesUsed _ cs _ h (by omega) ‹_› ‹_›) ?_ rfl rfl; rintro e w39 ⟨v13, fpv13, rfl, hOv13, x40⟩; refine ⟨_, rfl, x40, ?_⟩; have S := S.add (o := slO _ _ _ _) x40 hOv13; have B := bx Hb B x40; refine t_a rfl ?_ rfl; refine t_e ?_; (iterate 2 refine w_s ?_); refine w_g ?_; refine t_m rfl ?_ rfl; refine t_len e_int (S.sl) rfl rfl ?_ rfl; refine t_m rfl ?_ rfl; refine t_e ?_; refine w_block ?_; refine w_loop (X := Nat) (fun k wq => k ≤ (nums (pathSteps p)).length ∧ (∀ j, j < k → fresh (nums (pathSteps p)) j = true) ∧ Below w35.heap.size w35 wq ∧ Sep w35.heap.size wq [slO intT 3 v13 (nums (pathSteps p))]) (fun k => [(16, I ((k : Int))), (5, v13), (14, v13), (15, I (((nums (pathSteps p)).length : Int)))]) (fun k => (nums (pathSteps p)).length - k) (0) ?_ ⟨rfl, rfl, rfl, rfl, trivial⟩ ?_
 ·exact ⟨by omega, by omega, B, S⟩
 ·rintro k w41 hI; (try dsimp only at hI ⊢); obtain ⟨hk, ha, B, S⟩ := hI
  have htl : ((nums (pathSteps p)).take k).length ≤ 16777216 := by rw [List.length_take]; omega
  refine w_h ?_; refine t_lss rfl rfl ?_ rfl; refine t_e ?_; refine w_s ?_; refine w_if rfl ?_ ?_
  ·intro hlt; refine w_k ?_; refine x_s ?_; refine w_s ?_; refine w_block ?_; refine w_h ?_; refine t_m rfl ?_ rfl; obtain ⟨e19, he19⟩ : ∃ e, (nums (pathSteps p))[k]? = some e := getx (by omega); refine t_idx e_int (k := k) (S.sl) he19 (Below.refl _ _) rfl rfl (by first | rfl | omega) ?_ rfl; intro p19 hp19; refine t_ldi ‹_› ab_int (Below.refl _ _) rfl ?_ rfl; (iterate 2 refine t_a rfl ?_ rfl); refine t_k ?_; (iterate 2 refine t_m rfl ?_ rfl); refine t_slt e_int (k := k) (S.sl) rfl rfl (by first | rfl | omega) (by omega) ?_ rfl; intro v23 hv23; refine t_m rfl ?_ rfl; refine t_calls Tryz.call80 rfl (impl_hasInt _ _ _ _ (by first | assumption | exact SlR.below ‹_› B) (by (try rw [List.length_take]); (try rw [List.length_map]); omega)) ?_ rfl rfl; refine t_e ?_; have hF := fresh_eq he19; refine w_ifb rfl ?_ ?_
   ·intro h2; refine w_h ?_; refine t_a rfl ?_ rfl; refine t_e ?_; refine w_r ?_; refine x_block_ret ?_; (iterate 2 refine x_t ?_); refine x_block_ret ?_; refine x_t ?_; refine x_ret1 rfl rfl ?_; exact ⟨ret_bool (by rw [simplePath, all_no (k := k) (by omega) (by rw [hF, h2]; rfl)]; simp), ext_trans X0 B⟩
   ·intro h2; refine w_k ?_; refine x_b ?_; refine x_s ?_; refine w_g ?_; refine t_add rfl rfl (by omega) ?_ rfl; refine t_m rfl ?_ rfl; refine t_d ?_; refine x_r (X := Nat) (k + 1) ?_ (by exact ⟨rfl, rfl, rfl, rfl, trivial⟩) (by (try dsimp only); omega); (try dsimp only); exact ⟨by omega, upto_succ ha (by rw [hF, h2]; rfl), B, S⟩
  ·intro hge; refine w_exit ?_; (iterate 2 refine x_then_exit ?_); refine x_block_exit ?_; refine x_s ?_; refine w_h ?_; refine t_a rfl ?_ rfl; refine t_e ?_; refine w_r ?_; refine x_ret1 rfl rfl ?_; exact ⟨ret_bool (by rw [simplePath, h1', all_ok fun j hj => ha j (by omega)]; rfl), ext_trans X0 B⟩
theorem spec_SimplePath (t : Topo) (v : Value) (p : Path) (u : Value) (w : World) (h : VA topoT w v t) (hp : VA pathT w u p) (hz : sz_topo t ≤ 1048576) (hz' : sz_path p ≤ 1048576) (hl : lenOk_path p) (hg : rng_path p) : Calls Tryz.prog 115 #[v, u] w fun e w' => e = .returned (.bool (simplePath t p)) ∧ Below w.heap.size w w' := by
 have hsl := pathSteps_len p; have hnl := nums_len (pathSteps p); have X0 := Below.refl w.heap.size w; refine enter Tryz.func115 rfl Tryz.ntmps115 rfl ?_; refine w_h ?_; refine t_boxr ‹_› rfl ?_ rfl rfl; intro p2 w42 x43 hp2; replace h := h.below x43; replace hp := hp.below x43; have X0 := ext_trans X0 x43; refine t_boxr ‹_› rfl ?_ rfl rfl; intro p3 w44 x45 hp3; replace h := h.below x45; replace hp := hp.below x45; replace hp2 := hp2.below x45; have X0 := ext_trans X0 x45; have S := Sep.nil w44; have B := Below.refl w44.heap.size w44; have Hb := Nat.le_refl w44.heap.size; refine t_a rfl ?_ rfl; refine t_e ?_; (iterate 2 refine w_s ?_); refine w_g ?_; refine t_lda ‹_› ab_topo sb_topo B rfl ?_ rfl; intro v7 hv7; obtain ⟨v7_0, v7_1, rfl, hv7_0, hv7_1⟩ := topo_va hv7; refine t_lda ‹_› ab_path sb_path B rfl ?_ rfl; intro v8 hv8; obtain ⟨v8_0, rfl, hv8_0⟩ := path_va hv8
 refine t_x Tryz.call159 rfl (spec_WellFormedPath _ _ _ _ _ (by first | assumption | exact VA.below ‹_› B | exact topo_mkv (by first | assumption | exact SlR.below ‹_› B) (by first | assumption | exact SlR.below ‹_› B)) (by first | assumption | exact VA.below ‹_› B | exact path_mkv (by first | assumption | exact SlR.below ‹_› B)) (by omega) (by omega)) ?_ rfl rfl; intro w46 x47; have B := bx Hb B x47; have S := S.below x47; refine t_notb rfl ?_ rfl; refine t_e ?_; refine w_ifb rfl ?_ ?_
 ·intro h1; refine w_h ?_; refine t_a rfl ?_ rfl; refine t_e ?_; refine w_r ?_; refine x_t ?_; refine x_ret1 rfl rfl ?_; exact ⟨ret_bool (by simp at h1; simp [simplePath, h1]), ext_trans X0 B⟩
 intro h1
 have h1' : wellFormed t p = true := by simpa using h1
 refine w_k ?_; refine x_s ?_; refine w_h ?_; refine t_lda ‹_› ab_path sb_path B rfl ?_ rfl; intro v11 hv11; obtain ⟨v11_0, rfl, hv11_0⟩ := path_va hv11; refine t_c Tryz.call81 rfl (va1 (by first | assumption | exact VA.below ‹_› B | exact path_mkv (by first | assumption | exact SlR.below ‹_› B)) fun cs h => spec_InterfacesUsed _ cs _ h (by omega) ‹_› ‹_›) ?_ rfl rfl; rintro e w48 ⟨v12, fpv12, rfl, hOv12, x49⟩; refine ⟨_, rfl, x49, ?_⟩; have S := S.add (o := slO _ _ _ _) x49 hOv12; have B := bx Hb B x49; refine t_a rfl ?_ rfl; refine t_e ?_; (iterate 2 refine w_s ?_); refine w_g ?_; refine t_a rfl ?_ rfl; refine t_e ?_; refine w_block ?_; refine w_loop (X := Nat) (fun k wq => k ≤ (nums (pathSteps p)).length ∧ (∀ j, j < k → fresh (nums (pathSteps p)) j = true) ∧ Below w44.heap.size w44 wq ∧ Sep w44.heap.size wq [slO intT 3 v12 (nums (pathSteps p))]) (fun k => [(6, I ((k : Int))), (5, v12)]) (fun k => (nums (pathSteps p)).length - k) (0) ?_ ⟨rfl, rfl, trivial⟩ ?_
 ·exact ⟨by omega, by omega, B, S⟩
 ·rintro k w50 hI; (try dsimp only at hI ⊢); obtain ⟨hk, ha, B, S⟩ := hI
  have htl : ((nums (pathSteps p)).take k).length ≤ 16777216 := by rw [List.length_take]; omega
  (iterate 2 refine w_s ?_); refine w_g ?_; (iterate 2 refine t_m rfl ?_ rfl); refine t_len e_int (S.sl) rfl rfl ?_ rfl; refine t_lss rfl rfl ?_ rfl; refine t_e ?_; refine w_if rfl ?_ ?_
  ·intro hlt; refine w_k ?_; refine x_s ?_; refine w_s ?_; refine w_block ?_; refine w_s ?_; refine w_draw (.st .take 0 (.st .take 1 (.st .take 2 (.st .take 3 (.st .take 4 (.st .take 5 (.st .take 6 (.st .run 7 .done)))))))) mixed (by kernel_rfl) ?_; intro w51 x52; have B := bx Hb B x52; have S := S.below x52; (iterate 2 refine t_m rfl ?_ rfl); refine t_slt e_int (k := k) (S.sl) rfl rfl (by first | rfl | omega) (by omega) ?_ rfl; intro v21 hv21; (iterate 2 refine t_m rfl ?_ rfl); obtain ⟨e24, he24⟩ : ∃ e, (nums (pathSteps p))[k]? = some e := getx (by omega); refine t_idx e_int (k := k) (S.sl) he24 (Below.refl _ _) rfl rfl (by first | rfl | omega) ?_ rfl; intro p24 hp24; refine t_ldi ‹_› ab_int (Below.refl _ _) rfl ?_ rfl; refine t_calls Tryz.call82 rfl (spec_l9Has _ _ _ _ (by first | assumption | exact SlR.below ‹_› B) (by (try rw [List.length_take]); (try rw [List.length_map]); omega)) ?_ rfl rfl; refine t_e' ?_; have hF := fresh_eq he24; refine w_ifb rfl ?_ ?_
   ·intro h2; refine w_h ?_; refine t_a rfl ?_ rfl; refine t_e ?_; refine w_r ?_; refine x_block_ret ?_; (iterate 2 refine x_t ?_); refine x_block_ret ?_; refine x_t ?_; refine x_ret1 rfl rfl ?_; exact ⟨ret_bool (by rw [simplePath, all_no (k := k) (by omega) (by rw [hF, h2]; rfl)]; simp), ext_trans X0 B⟩
   ·intro h2; refine w_k ?_; refine x_b ?_; refine x_s ?_; refine w_g ?_; refine t_m rfl ?_ rfl; refine t_add rfl rfl (by omega) ?_ rfl; refine t_a rfl ?_ rfl; refine t_d ?_; refine x_r (X := Nat) (k + 1) ?_ (by exact ⟨rfl, rfl, trivial⟩) (by (try dsimp only); omega); (try dsimp only); exact ⟨by omega, upto_succ ha (by rw [hF, h2]; rfl), B, S⟩
  ·intro hge; refine w_exit ?_; (iterate 2 refine x_then_exit ?_); refine x_block_exit ?_; refine x_s ?_; refine w_h ?_; refine t_a rfl ?_ rfl; refine t_e ?_; refine w_r ?_; refine x_ret1 rfl rfl ?_; exact ⟨ret_bool (by rw [simplePath, h1', all_ok fun j hj => ha j (by omega)]; rfl), ext_trans X0 B⟩
theorem least_le (now : Int) (hs : List Hop) : hs ≠ [] → (now ≤ leastE hs ↔ ∀ h ∈ hs, now ≤ h.exp) := by
  suffices H : ∀ n (hs : List Hop), hs.length = n → hs ≠ [] → (now ≤ leastE hs ↔ ∀ h ∈ hs, now ≤ h.exp) from H _ hs rfl
  intro n
  induction n with
  | zero => intro hs hl hne; exact absurd (List.eq_nil_of_length_eq_zero hl) hne
  | succ n ih =>
    intro hs hl hne
    rcases List.eq_nil_or_concat hs with h1 | ⟨t, x, h1⟩
    · exact absurd h1 hne
    · rw [List.concat_eq_append] at h1
      subst h1
      by_cases ht : t = []
      · subst ht
        simp [leastE_first]
      · have h2 := ih t (by simp at hl; exact hl) ht
        rw [leastE_snoc x ht]
        constructor
        · intro h h3 hm
          rcases List.mem_append.1 hm with hm | hm
          · refine h2.1 ?_ h3 hm
            split at h <;> omega
          · rw [List.mem_singleton] at hm
            subst hm
            split at h <;> omega
        · intro h
          have h4 := h2.2 fun y hy => h y (List.mem_append.2 (.inl hy))
          have h5 := h x (List.mem_append.2 (.inr (List.mem_singleton.2 rfl)))
          split <;> omega
theorem wf_partsU {t : Topo} {p : Path} (h : simplePath t p = true) {k : Nat} {x : Part} (hx : p[k]? = some x) : 1 ≤ x.hops.length := by
  unfold simplePath wellFormed at h
  simp only [Bool.and_eq_true, List.all_eq_true] at h
  exact valid_len (h.1.1.2 x (List.mem_of_getElem? hx))
theorem partNow_no {now : Int} {x : Part} {k : Nat} {y : Hop} (hy : x.hops[k]? = some y) (h : y.exp < now) : partNow now x = false := by
  unfold partNow
  have hm := List.mem_of_getElem? hy
  have : ¬ now ≤ leastE x.hops := fun hc => by
    have := (least_le now x.hops (List.ne_nil_of_mem hm)).1 hc y hm
    omega
  rw [decide_eq_false this, Bool.and_false]
theorem partNow_yes {now : Int} {x : Part} (h0 : 1 ≤ x.hops.length) (hts : x.ts ≤ now) (h : ∀ y ∈ x.hops, now ≤ y.exp) : partNow now x = true := by
  unfold partNow
  rw [decide_eq_true hts, decide_eq_true ((least_le now x.hops (by intro h1; rw [h1] at h0; simp at h0)).2 h)]
  rfl
theorem spec_HopNow (x : Hop) (now : Int) (w : World) : Calls Tryz.prog 117 #[.agg #[I x.ia, I x.ing, I x.eg, I x.exp, I x.mac], I now] w fun e w' => e = .returned (.bool (decide (now ≤ x.exp))) ∧ Below w.heap.size w w' := by
  have hx := hop_mkv w x; have X0 := Below.refl w.heap.size w; refine enter Tryz.func117 rfl Tryz.ntmps117 rfl ?_; refine w_h ?_; refine t_boxr ‹_› rfl ?_ rfl rfl; intro p2 w1 x2 hp2; replace hx := hx.below x2; have X0 := ext_trans X0 x2; have S := Sep.nil w1; have B := Below.refl w1.heap.size w1; have Hb := Nat.le_refl w1.heap.size; refine t_a rfl ?_ rfl; refine t_k ?_; refine t_m rfl ?_ rfl; refine t_fld ln_hop_3 ‹_› fb_hop_3 rfl ?_ rfl; intro p6 hp6; refine t_ldi ‹_› ab_int B rfl ?_ rfl; refine t_leq rfl rfl ?_ rfl; refine t_a rfl ?_ rfl; refine t_e ?_; refine w_r ?_; refine x_ret1 rfl rfl ?_; exact ⟨rfl, ext_trans X0 B⟩
theorem impl_PathUsable (t : Topo) (v : Value) (p : Path) (u : Value) (now : Int) (w : World) (h : VA topoT w v t) (hp : VA pathT w u p) (hz : sz_topo t ≤ 1048576) (hz' : sz_path p ≤ 1048576) (hl : lenOk_path p) (hg : rng_path p) : Calls Tryz.prog 58 #[v, u, I now] w fun e w' => e = .returned (.bool (usable t p now)) ∧ Below w.heap.size w w' := by
 have hpl : List.length p ≤ sz_path p := by show List.length p ≤ List.length p + _; omega
 have X0 := Below.refl w.heap.size w; refine enter Tryz.func58 rfl Tryz.ntmps58 rfl ?_; refine w_h ?_; refine t_boxr ‹_› rfl ?_ rfl rfl; intro p3 w3 x4 hp3; replace h := h.below x4; replace hp := hp.below x4; have X0 := ext_trans X0 x4; refine t_boxr ‹_› rfl ?_ rfl rfl; intro p4 w5 x6 hp4; replace h := h.below x6; replace hp := hp.below x6; replace hp3 := hp3.below x6; have X0 := ext_trans X0 x6; have S := Sep.nil w5; have B := Below.refl w5.heap.size w5; have Hb := Nat.le_refl w5.heap.size; refine t_a rfl ?_ rfl; refine t_e ?_; (iterate 2 refine w_s ?_); refine w_g ?_; refine t_lda ‹_› ab_topo sb_topo B rfl ?_ rfl; intro v9 hv9; obtain ⟨v9_0, v9_1, rfl, hv9_0, hv9_1⟩ := topo_va hv9; refine t_lda ‹_› ab_path sb_path B rfl ?_ rfl; intro v10 hv10; obtain ⟨v10_0, rfl, hv10_0⟩ := path_va hv10; refine t_x Tryz.call112 rfl (impl_SimplePath _ _ _ _ _ (by first | assumption | exact VA.below ‹_› B | exact topo_mkv (by first | assumption | exact SlR.below ‹_› B) (by first | assumption | exact SlR.below ‹_› B)) (by first | assumption | exact VA.below ‹_› B | exact path_mkv (by first | assumption | exact SlR.below ‹_› B)) (by omega) (by omega) ‹_› ‹_›) ?_ rfl rfl; intro w7 x8
 have B := bx Hb B x8; have S := S.below x8; refine t_notb rfl ?_ rfl; refine t_m rfl ?_ rfl; refine t_part (t := 13) rfl ?_ ?_
 ·intro h1; (iterate 4 refine t_off rfl rfl rfl ?_ rfl); refine t_q rfl rfl ?_ rfl; refine t_e ?_; refine w_yes rfl ?_; refine w_h ?_; refine t_a rfl ?_ rfl; refine t_e ?_; refine w_r ?_; refine x_t ?_; refine x_ret1 rfl rfl ?_; exact ⟨ret_bool (by simp at h1; simp [usable, h1]), ext_trans X0 B⟩
 intro h1
 have h1' : simplePath t p = true := by simpa using h1
 refine t_on rfl rfl ?_; refine t_lda ‹_› ab_topo sb_topo B rfl ?_ rfl; intro v14 hv14; obtain ⟨v14_0, v14_1, rfl, hv14_0, hv14_1⟩ := topo_va hv14; refine t_on rfl rfl ?_; refine t_lda ‹_› ab_path sb_path B rfl ?_ rfl; intro v15 hv15; obtain ⟨v15_0, rfl, hv15_0⟩ := path_va hv15; refine t_on rfl rfl ?_; refine t_x Tryz.call56 rfl (impl_VerifyPath _ _ _ _ _ (by first | assumption | exact VA.below ‹_› B | exact topo_mkv (by first | assumption | exact SlR.below ‹_› B) (by first | assumption | exact SlR.below ‹_› B)) (by first | assumption | exact VA.below ‹_› B | exact path_mkv (by first | assumption | exact SlR.below ‹_› B)) (by omega) (by omega)) ?_ rfl rfl; intro w9 x10; have B := bx Hb B x10; have S := S.below x10; refine t_on rfl rfl ?_; refine t_notb rfl ?_ rfl; refine t_p rfl rfl ?_ rfl; refine t_e ?_; refine w_ifb rfl ?_ ?_
 ·intro h2; refine w_h ?_; refine t_a rfl ?_ rfl; refine t_e ?_; refine w_r ?_; refine x_t ?_; refine x_ret1 rfl rfl ?_; exact ⟨ret_bool (by simp at h2; simp [usable, h2]), ext_trans X0 B⟩
 intro h2
 have h2' : verifyPath t p = true := by simpa using h2
 refine w_k ?_; refine x_s ?_; (iterate 2 refine w_s ?_); refine w_g ?_; refine t_fld ln_path_0 ‹_› fb_path_0 rfl ?_ rfl; intro p19 hp19; refine t_lds ‹_› ab_s_part B rfl ?_ rfl; intro v20 hv20; refine t_len e_part ‹_› rfl rfl ?_ rfl; refine t_m rfl ?_ rfl; refine t_e ?_; refine w_block ?_; refine w_loop (X := Nat) (fun k wq => k ≤ List.length p ∧ (p.take k).all (partNow now) = true ∧ Below w5.heap.size w5 wq ∧ Sep w5.heap.size wq []) (fun k => [(22, I ((k : Int))), (2, I now), (20, v20), (21, I ((p.length : Int)))]) (fun k => List.length p - k) (0) ?_ ⟨rfl, rfl, rfl, rfl, trivial⟩ ?_
 ·exact ⟨by omega, rfl, B, S⟩
 ·rintro k w11 hI; (try dsimp only at hI ⊢); obtain ⟨hk, ha, B, S⟩ := hI; refine w_h ?_; refine t_lss rfl rfl ?_ rfl; refine t_e ?_; refine w_s ?_; refine w_if rfl ?_ ?_
  ·intro hlt; obtain ⟨e24, he24⟩ : ∃ e, p[k]? = some e := getx (by omega); have hhl := hops_sz he24; refine w_k ?_; refine x_s ?_; refine w_s ?_; refine w_block ?_; refine w_h ?_; refine t_idx e_part (k := k) ‹_› he24 B rfl rfl (by first | rfl | omega) ?_ rfl; intro p24 hp24; refine t_lda ‹_› ab_part sb_part B rfl ?_ rfl; intro v25 hv25; obtain ⟨v25_3, rfl, hv25_3⟩ := part_va hv25; refine t_w S z_part rfl ?_ rfl rfl; intro g8 w12 x13 S; have B := bx Hb B x13; refine t_stn S sb_part rfl rfl rfl rfl (by repeat first | exact oc0 | refine oc rfl ?_ | refine oc (SlR.cells ‹_›).2 ?_) ?_; intro w14 b15 S; have B := B.trans b15; refine t_k ?_; refine t_y fb_part_1 rfl rfl ?_ rfl; refine t_bx1 S.box ab_int rfl rfl ?_ rfl; refine t_m rfl ?_ rfl; refine t_gtr rfl rfl ?_ rfl; refine t_m rfl ?_ rfl; refine t_partp (t := 30) rfl ?_ ?_
   ·intro h3; (iterate 5 refine t_off rfl rfl rfl ?_ rfl); refine t_q rfl rfl ?_ rfl; refine t_e ?_; refine w_yes rfl ?_; refine w_h ?_; refine t_a rfl ?_ rfl; refine t_e ?_; refine w_r ?_; refine x_block_ret ?_; (iterate 2 refine x_t ?_); refine x_block_ret ?_; refine x_t ?_; refine x_ret1 rfl rfl ?_; exact ⟨ret_bool (by rw [usable, allF_bad he24 (by unfold partNow; rw [decide_eq_false (by omega)]; rfl)]; simp), ext_trans X0 B⟩
   intro h3; refine t_on rfl rfl ?_; refine t_m rfl ?_ rfl; refine t_on rfl rfl ?_; refine t_y fb_part_3 rfl rfl ?_ rfl; refine t_on rfl rfl ?_; refine t_bx1 S.box ab_s_hop rfl rfl ?_ rfl; refine t_on rfl rfl ?_; refine t_x Tryz.call84 rfl (impl_leastExpiry _ _ _ (by first | assumption | exact SlR.below ‹_› B) (by omega)) ?_ rfl rfl; intro w16 x17; have B := bx Hb B x17; have S := S.below x17; refine t_on rfl rfl ?_; refine t_gtr rfl rfl ?_ rfl; refine t_p rfl rfl ?_ rfl; refine t_e ?_; refine w_if rfl ?_ ?_
   ·intro h4; refine w_h ?_; refine t_a rfl ?_ rfl; refine t_e ?_; refine w_r ?_; refine x_block_ret ?_; (iterate 2 refine x_t ?_); refine x_block_ret ?_; refine x_t ?_; refine x_ret1 rfl rfl ?_; exact ⟨ret_bool (by rw [usable, allF_bad he24 (by unfold partNow; rw [decide_eq_false (p := now ≤ _) (by omega)]; simp)]; simp), ext_trans X0 B⟩
   intro h4; refine w_k ?_; refine x_b ?_; refine x_s ?_; refine w_g ?_; refine t_add rfl rfl (by omega) ?_ rfl; refine t_m rfl ?_ rfl; refine t_d ?_; have S := S.tail; refine x_r (X := Nat) (k + 1) ?_ (by exact ⟨rfl, rfl, rfl, rfl, trivial⟩) (by (try dsimp only); omega); (try dsimp only); exact ⟨by omega, allF_succ he24 ha (by unfold partNow; rw [decide_eq_true (by omega), decide_eq_true (by omega)]; rfl), B, S⟩
  ·intro hge; refine w_exit ?_; (iterate 2 refine x_then_exit ?_); refine x_block_exit ?_; refine x_s ?_; refine w_h ?_; refine t_a rfl ?_ rfl; refine t_e ?_; refine w_r ?_; refine x_ret1 rfl rfl ?_; exact ⟨ret_bool (by rw [usable, h1', h2', allF_end (by omega) ha]; rfl), ext_trans X0 B⟩
theorem spec_PathUsable (t : Topo) (v : Value) (p : Path) (u : Value) (now : Int) (w : World) (h : VA topoT w v t) (hp : VA pathT w u p) (hz : sz_topo t ≤ 1048576) (hz' : sz_path p ≤ 1048576) (hl : lenOk_path p) (hg : rng_path p) : Calls Tryz.prog 62 #[v, u, I now] w fun e w' => e = .returned (.bool (usable t p now)) ∧ Below w.heap.size w w' := by
 have hpl : List.length p ≤ sz_path p := by show List.length p ≤ List.length p + _; omega
 have X0 := Below.refl w.heap.size w; refine enter Tryz.func62 rfl Tryz.ntmps62 rfl ?_; refine w_h ?_; refine t_boxr ‹_› rfl ?_ rfl rfl; intro p3 w18 x19 hp3; replace h := h.below x19; replace hp := hp.below x19; have X0 := ext_trans X0 x19; refine t_boxr ‹_› rfl ?_ rfl rfl; intro p4 w20 x21 hp4; replace h := h.below x21; replace hp := hp.below x21; replace hp3 := hp3.below x21; have X0 := ext_trans X0 x21; have S := Sep.nil w20; have B := Below.refl w20.heap.size w20; have Hb := Nat.le_refl w20.heap.size; refine t_a rfl ?_ rfl; refine t_e ?_; (iterate 2 refine w_s ?_); refine w_g ?_; refine t_lda ‹_› ab_topo sb_topo B rfl ?_ rfl; intro v9 hv9; obtain ⟨v9_0, v9_1, rfl, hv9_0, hv9_1⟩ := topo_va hv9; refine t_lda ‹_› ab_path sb_path B rfl ?_ rfl; intro v10 hv10; obtain ⟨v10_0, rfl, hv10_0⟩ := path_va hv10; refine t_x Tryz.call115 rfl (spec_SimplePath _ _ _ _ _ (by first | assumption | exact VA.below ‹_› B | exact topo_mkv (by first | assumption | exact SlR.below ‹_› B) (by first | assumption | exact SlR.below ‹_› B)) (by first | assumption | exact VA.below ‹_› B | exact path_mkv (by first | assumption | exact SlR.below ‹_› B)) (by omega) (by omega) ‹_› ‹_›) ?_ rfl rfl; intro w22 x23
 have B := bx Hb B x23; have S := S.below x23; refine t_notb rfl ?_ rfl; refine t_m rfl ?_ rfl; refine t_part (t := 13) rfl ?_ ?_
 ·intro h1; (iterate 4 refine t_off rfl rfl rfl ?_ rfl); refine t_q rfl rfl ?_ rfl; refine t_e ?_; refine w_yes rfl ?_; refine w_h ?_; refine t_a rfl ?_ rfl; refine t_e ?_; refine w_r ?_; refine x_t ?_; refine x_ret1 rfl rfl ?_; exact ⟨ret_bool (by simp at h1; simp [usable, h1]), ext_trans X0 B⟩
 intro h1
 have h1' : simplePath t p = true := by simpa using h1
 refine t_on rfl rfl ?_; refine t_lda ‹_› ab_topo sb_topo B rfl ?_ rfl; intro v14 hv14; obtain ⟨v14_0, v14_1, rfl, hv14_0, hv14_1⟩ := topo_va hv14; refine t_on rfl rfl ?_; refine t_lda ‹_› ab_path sb_path B rfl ?_ rfl; intro v15 hv15; obtain ⟨v15_0, rfl, hv15_0⟩ := path_va hv15; refine t_on rfl rfl ?_; refine t_x Tryz.call116 rfl (spec_VerifyPath _ _ _ _ _ (by first | assumption | exact VA.below ‹_› B | exact topo_mkv (by first | assumption | exact SlR.below ‹_› B) (by first | assumption | exact SlR.below ‹_› B)) (by first | assumption | exact VA.below ‹_› B | exact path_mkv (by first | assumption | exact SlR.below ‹_› B)) (by omega) (by omega)) ?_ rfl rfl; intro w24 x25; have B := bx Hb B x25; have S := S.below x25; refine t_on rfl rfl ?_; refine t_notb rfl ?_ rfl; refine t_p rfl rfl ?_ rfl; refine t_e ?_; refine w_ifb rfl ?_ ?_
 ·intro h2; refine w_h ?_; refine t_a rfl ?_ rfl; refine t_e ?_; refine w_r ?_; refine x_t ?_; refine x_ret1 rfl rfl ?_; exact ⟨ret_bool (by simp at h2; simp [usable, h2]), ext_trans X0 B⟩
 intro h2
 have h2' : verifyPath t p = true := by simpa using h2
 refine w_k ?_; refine x_s ?_; (iterate 2 refine w_s ?_); refine w_g ?_; refine t_a rfl ?_ rfl; refine t_e ?_; refine w_block ?_; refine w_loop (X := Nat) (fun k wq => k ≤ List.length p ∧ (p.take k).all (partNow now) = true ∧ Below w20.heap.size w20 wq ∧ Sep w20.heap.size wq []) (fun k => [(7, I ((k : Int))), (2, I now), (4, p4)]) (fun k => List.length p - k) (0) ?_ ⟨rfl, rfl, rfl, trivial⟩ ?_
 ·exact ⟨by omega, rfl, B, S⟩
 ·rintro k w26 hI; (try dsimp only at hI ⊢); obtain ⟨hk, ha, B, S⟩ := hI; (iterate 2 refine w_s ?_); refine w_g ?_; refine t_m rfl ?_ rfl; refine t_fld ln_path_0 ‹_› fb_path_0 rfl ?_ rfl; intro p20 hp20; refine t_lds ‹_› ab_s_part B rfl ?_ rfl; intro v21 hv21; refine t_len e_part ‹_› rfl rfl ?_ rfl; refine t_lss rfl rfl ?_ rfl; refine t_e ?_; refine w_if rfl ?_ ?_
  ·intro hlt; obtain ⟨x, hx⟩ : ∃ e, p[k]? = some e := getx (by omega); have hhl := hops_sz hx; have hl1 := wf_partsU h1' hx; refine w_k ?_; refine x_s ?_; refine w_s ?_; refine w_block ?_; (iterate 2 refine w_s ?_); refine w_g ?_; refine t_fld ln_path_0 ‹_› fb_path_0 rfl ?_ rfl; intro p26 hp26; refine t_lds ‹_› ab_s_part B rfl ?_ rfl; intro v27 hv27; refine t_m rfl ?_ rfl; refine t_idx e_part (k := k) ‹_› hx B rfl rfl (by first | rfl | omega) ?_ rfl; intro p29 hp29; refine t_fld ln_part_1 ‹_› fb_part_1 rfl ?_ rfl; intro p30 hp30; refine t_ldi ‹_› ab_int B rfl ?_ rfl; refine t_m rfl ?_ rfl; refine t_gtr rfl rfl ?_ rfl; refine t_e ?_; refine w_if rfl ?_ ?_
   ·intro h3; refine w_h ?_; refine t_a rfl ?_ rfl; refine t_e ?_; refine w_r ?_; refine x_t ?_; refine x_block_ret ?_; (iterate 2 refine x_t ?_); refine x_block_ret ?_; refine x_t ?_; refine x_ret1 rfl rfl ?_; exact ⟨ret_bool (by rw [usable, allF_bad hx (by unfold partNow; rw [decide_eq_false (by omega)]; rfl)]; simp), ext_trans X0 B⟩
   intro h3; refine w_k ?_; refine x_s ?_; refine w_h ?_; refine t_a rfl ?_ rfl; refine t_e ?_; refine w_block ?_; refine w_loop (X := Nat) (fun j wq => j ≤ x.hops.length ∧ (∀ y ∈ x.hops.take j, now ≤ y.exp) ∧ Below w20.heap.size w20 wq ∧ Sep w20.heap.size wq []) (fun j => [(8, I ((j : Int))), (7, I ((k : Int))), (2, I now), (4, p4)]) (fun j => x.hops.length - j) (0) ?_ ⟨rfl, rfl, rfl, rfl, trivial⟩ ?_
   ·exact ⟨by omega, (fun y hy => by cases hy), B, S⟩
   ·rintro j w27 hI; (try dsimp only at hI ⊢); obtain ⟨hj, hy, B, S⟩ := hI; (iterate 2 refine w_s ?_); refine w_g ?_; refine t_m rfl ?_ rfl; refine t_fld ln_path_0 ‹_› fb_path_0 rfl ?_ rfl; intro p35 hp35; refine t_lds ‹_› ab_s_part B rfl ?_ rfl; intro v36 hv36; refine t_m rfl ?_ rfl; refine t_idx e_part (k := k) ‹_› hx B rfl rfl (by first | rfl | omega) ?_ rfl; intro p38 hp38; refine t_fld ln_part_3 ‹_› fb_part_3 rfl ?_ rfl; intro p39 hp39; refine t_lds ‹_› ab_s_hop B rfl ?_ rfl; intro v40 hv40; refine t_len e_hop ‹_› rfl rfl ?_ rfl; refine t_lss rfl rfl ?_ rfl; refine t_e ?_; refine w_if rfl ?_ ?_
    ·intro hlt2; obtain ⟨y, hyy⟩ : ∃ e, x.hops[j]? = some e := getx (by omega); refine w_k ?_; refine x_s ?_; refine w_s ?_; refine w_block ?_; refine w_h ?_; refine t_fld ln_path_0 ‹_› fb_path_0 rfl ?_ rfl; intro p45 hp45; refine t_lds ‹_› ab_s_part B rfl ?_ rfl; intro v46 hv46; refine t_m rfl ?_ rfl; refine t_idx e_part (k := k) ‹_› hx B rfl rfl (by first | rfl | omega) ?_ rfl; intro p48 hp48; refine t_fld ln_part_3 ‹_› fb_part_3 rfl ?_ rfl; intro p49 hp49; refine t_lds ‹_› ab_s_hop B rfl ?_ rfl; intro v50 hv50; refine t_m rfl ?_ rfl; refine t_idx e_hop (k := j) ‹_› hyy B rfl rfl (by first | rfl | omega) ?_ rfl; intro p52 hp52; refine t_lda ‹_› ab_hop sb_hop B rfl ?_ rfl; intro v53 hv53; obtain rfl := hop_va hv53; refine t_m rfl ?_ rfl; refine t_x Tryz.call117 rfl (spec_HopNow _ _ _) ?_ rfl rfl; intro w28 x29; have B := bx Hb B x29; have S := S.below x29; refine t_not rfl ?_ rfl; refine t_e ?_; refine w_if rfl ?_ ?_
     ·intro h4; refine w_h ?_; refine t_a rfl ?_ rfl; refine t_e ?_; refine w_r ?_; refine x_block_ret ?_; (iterate 2 refine x_t ?_); (iterate 2 refine x_block_ret ?_); (iterate 2 refine x_t ?_); refine x_block_ret ?_; refine x_t ?_; refine x_ret1 rfl rfl ?_; exact ⟨ret_bool (by rw [usable, allF_bad hx (partNow_no hyy (by omega))]; simp), ext_trans X0 B⟩
     intro h4; refine w_k ?_; refine x_b ?_; refine x_s ?_; refine w_g ?_; refine t_m rfl ?_ rfl; refine t_add rfl rfl (by omega) ?_ rfl; refine t_a rfl ?_ rfl; refine t_d ?_; refine x_r (X := Nat) (j + 1) ?_ (by exact ⟨rfl, rfl, rfl, rfl, trivial⟩) (by (try dsimp only); omega); (try dsimp only); refine ⟨by omega, fun z hz => ?_, B, S⟩; rw [take_succ hyy] at hz
     rcases List.mem_append.1 hz with hz | hz
     ·exact hy z hz
     ·rw [List.mem_singleton] at hz; subst hz
      omega
    ·intro hge2; refine w_exit ?_; (iterate 2 refine x_then_exit ?_); refine x_block_exit ?_; refine x_b ?_; refine x_s ?_; refine w_g ?_; refine t_m rfl ?_ rfl; refine t_add rfl rfl (by omega) ?_ rfl; refine t_a rfl ?_ rfl; refine t_d ?_; refine x_r (X := Nat) (k + 1) ?_ (by exact ⟨rfl, rfl, rfl, trivial⟩) (by (try dsimp only); omega); (try dsimp only); refine ⟨by omega, allF_succ hx ha (partNow_yes hl1 (by omega) fun y hyy => hy y ?_), B, S⟩; rw [List.take_of_length_le (by omega)]; exact hyy
  ·intro hge; refine w_exit ?_; (iterate 2 refine x_then_exit ?_); refine x_block_exit ?_; refine x_s ?_; refine w_h ?_; refine t_a rfl ?_ rfl; refine t_e ?_; refine w_r ?_; refine x_ret1 rfl rfl ?_; exact ⟨ret_bool (by rw [usable, h1', h2', allF_end (by omega) ha]; rfl), ext_trans X0 B⟩
theorem pick_va {fp : List Nat} {w0 w : World} {u : Value} {x : Path} (h : VA (pickT pathT fp w0) w u x) : ∃ v0, u = .agg #[v0] ∧ ∀ w', (∀ y ∈ fp, w'.heap[y]? = w0.heap[y]?) → pathT.R w' [v0] x := by
  obtain ⟨cs, rfl, h2⟩ := h; have hl : cs.length = 1 := pathT.len _ _ _ (h2 w0 fun _ _ => rfl); obtain ⟨c, rfl⟩ := List.length_eq_one_iff.1 hl; exact ⟨c, rfl, h2⟩
theorem pk_rd {fp : List Nat} {w0 w : World} {v0 : Value} {x : Path} (h : ∀ w', (∀ y ∈ fp, w'.heap[y]? = w0.heap[y]?) → pathT.R w' [v0] x) (k : ∀ y ∈ fp, w.heap[y]? = w0.heap[y]?) : SlR partT w v0 x := by
  obtain ⟨v, e, h2⟩ := h w k; cases e; exact h2
theorem impl_HasP (l : List Path) (v : Value) (p : Path) (u : Value) (w : World) (h : SlR pathT w v l) (h' : VA pathT w u p) (hz : sz_paths l ≤ 1048576) (hl : ∀ x ∈ l, lenOk_path x) (hg : ∀ x ∈ l, rng_path x) (hz' : sz_path p ≤ 1048576) (hl' : lenOk_path p) (hg' : rng_path p) : Calls Tryz.prog 22 #[v, u] w fun e w' => e = .returned (.bool (decide (p ∈ l))) ∧ Below w.heap.size w w' := by
  obtain ⟨cs, rfl, h2⟩ := h'
  have hln : l.length ≤ 9223372036854775807 := by unfold sz_paths at hz; omega
  exact impl_HasPath l v p cs w h hz ⟨hln, hl⟩ hg h2 hz' hl' hg'
theorem spec_HasP (l : List Path) (v : Value) (p : Path) (u : Value) (w : World) (h : SlR pathT w v l) (h' : VA pathT w u p) (hz : sz_paths l ≤ 1048576) (hl : ∀ x ∈ l, lenOk_path x) (hg : ∀ x ∈ l, rng_path x) (hz' : sz_path p ≤ 1048576) (hl' : lenOk_path p) (hg' : rng_path p) : Calls Tryz.prog 23 #[v, u] w fun e w' => e = .returned (.bool (decide (p ∈ l))) ∧ Below w.heap.size w w' := by
  obtain ⟨cs, rfl, h2⟩ := h'
  have hln : l.length ≤ 9223372036854775807 := by unfold sz_paths at hz; omega
  exact spec_HasPath l v p cs w h hz ⟨hln, hl⟩ hg h2 hz' hl' hg'
theorem pick_no {t : Topo} {now : Int} {out : List Path} {x : Path} (h : ¬ ((out.length : Int) < 24 ∧ usable t x now = true ∧ ¬ x ∈ out)) : pick t now out x = out := by unfold pick; rw [if_neg h]
theorem pick_yes {t : Topo} {now : Int} {out : List Path} {x : Path} (h : (out.length : Int) < 24 ∧ usable t x now = true ∧ ¬ x ∈ out) : pick t now out x = out ++ [x] := by unfold pick; rw [if_pos h]
theorem findP_S {t : Topo} {now : Int} {l : List Path} (h : PathsS l) (k : Nat) : PathsS (findP t now (l.take k)) := by
  obtain ⟨h1, _, h3, _⟩ := findP_all (t := t) (now := now) (l.take k); exact ⟨by omega, fun x hx => h.2 x (List.mem_of_mem_take (h1 x hx).1)⟩
theorem findP_full {t : Topo} {now : Int} {l : List Path} {k : Nat} (h : ¬ ((findP t now (l.take k)).length : Int) < 24) : findP t now l = findP t now (l.take k) := by
  have e : findP t now l = (l.drop k).foldl (pick t now) (findP t now (l.take k)) := by
    unfold findP
    rw [← List.foldl_append, List.take_append_drop]
  rw [e, pick_full h]
set_option maxHeartbeats 4000000 in
theorem impl_FindPaths (t : Topo) (q : Sdb) (v v1 : Value) (a b now : Int) (w : World) (h : VA topoT w v t) (h' : VA sdbT w v1 q) (hz : sz_topo t ≤ 1048576) (hz' : sz_sdb q ≤ 1048576) (hn : DbN q) (hP : PathsS (comb t q a b)) : Calls Tryz.prog 9 #[v, v1, I a, I b, I now] w fun e w' => ∃ v, e = .returned v ∧ True ∧ Sep w.heap.size w' [rdO pathT v (findP t now (comb t q a b))] ∧ Ext w w' := by
 have hPl := hP.1; have X0 := Below.refl w.heap.size w; refine enter Tryz.func9 rfl Tryz.ntmps9 rfl ?_; refine w_h ?_; refine t_boxr ‹_› rfl ?_ rfl rfl; intro p5 w1 x2 hp5; replace h := h.below x2; replace h' := h'.below x2; have X0 := ext_trans X0 x2; refine t_boxr ‹_› rfl ?_ rfl rfl; intro p6 w3 x4 hp6; replace h := h.below x4; replace h' := h'.below x4; replace hp5 := hp5.below x4; have X0 := ext_trans X0 x4; have S := Sep.nil w3; have B := Below.refl w3.heap.size w3; have Hb := Nat.le_refl w3.heap.size; refine t_a rfl ?_ rfl; refine t_k ?_; refine t_a rfl ?_ rfl; refine t_e ?_; (iterate 2 refine w_s ?_); refine w_g ?_; refine t_lda ‹_› ab_topo sb_topo B rfl ?_ rfl; intro v14 hv14; obtain ⟨v14_0, v14_1, rfl, hv14_0, hv14_1⟩ := topo_va hv14; refine t_lda ‹_› ab_sdb sb_sdb B rfl ?_ rfl; intro v15 hv15; obtain ⟨v15_0, v15_1, rfl, hv15_0, hv15_1⟩ := sdb_va hv15; (iterate 2 refine t_m rfl ?_ rfl)
 refine t_c Tryz.call45 rfl (impl_CombinePaths t q _ _ _ _ _ (by first | assumption | exact VA.below ‹_› B | exact topo_mkv (by first | assumption | exact SlR.below ‹_› B) (by first | assumption | exact SlR.below ‹_› B)) (by first | assumption | exact VA.below ‹_› B | exact sdb_mkv (by first | assumption | exact SlR.below ‹_› B) (by first | assumption | exact SlR.below ‹_› B)) (by omega) (by omega) ‹_›) ?_ rfl rfl; rintro e w5 ⟨v18, fpv18, rfl, hOv18, x6⟩; refine ⟨_, rfl, x6, ?_⟩; have S := S.add (o := slO _ _ _ _) x6 hOv18; have B := bx Hb B x6; refine t_len e_path (S.sl) rfl rfl ?_ rfl; refine t_m rfl ?_ rfl; refine t_e ?_; refine w_block ?_; obtain ⟨fp, hpk, S⟩ := S.toKeep
 skip
 refine w_loop (X := Nat × List Path × Value) (fun x wq => (fun k out u => k ≤ (comb t q a b).length ∧ out = findP t now ((comb t q a b).take k) ∧ Below w3.heap.size w3 wq ∧ Sep w3.heap.size wq [slO (pickT pathT fp w5) 38 u out, keepO fp w5]) x.1 x.2.1 x.2.2) (fun x => (fun k out u => [(20, I ((k : Int))), (11, u), (4, I now), (5, p5), (10, .slice none 0 0), (18, v18), (19, I (((comb t q a b).length : Int)))]) x.1 x.2.1 x.2.2) (fun x => (fun k out u => (comb t q a b).length - k) x.1 x.2.1 x.2.2) (0, [], _) ?_ ⟨rfl, rfl, rfl, rfl, rfl, rfl, rfl, trivial⟩ ?_
 ·exact ⟨by omega, rfl, B, S.addNil⟩
 rintro ⟨k, out, u⟩ w7 hI; (try dsimp only at hI ⊢); obtain ⟨hk, ho, B, S⟩ := hI
 have hoS : PathsS out := by rw [ho]; exact findP_S hP k
 have hso := hoS.sz; have hlo := hoS.lenOk; have hgo := hoS.rng
 have hol : out.length ≤ 24 := by rw [ho]; exact (findP_all _).2.2.1
 refine w_h ?_; refine t_lss rfl rfl ?_ rfl; refine t_e ?_; refine w_s ?_; refine w_if rfl ?_ ?_
 ·intro hlt; obtain ⟨x, hx⟩ : ∃ e, (comb t q a b)[k]? = some e := getx (by omega); have hxS := hP.2 x (List.mem_of_getElem? hx); have hxz := hxS.sz; have hxl := hxS.lenOk; have hxr := hxS.rng; have hsucc := findP_succ (t := t) (now := now) hx; rw [← ho] at hsucc; refine w_k ?_; refine x_s ?_; refine w_s ?_; refine w_block ?_; refine w_h ?_; refine t_idxk e_path (k := k) hpk S.tail.kept hx rfl rfl (by first | rfl | omega) ?_ rfl; intro p22 hp22; refine t_lda (T := (pickT pathT fp w5)) (hp22 _ S.tail.kept) ab_path sb_path (Below.refl _ _) rfl ?_ rfl; intro v23 hv23; obtain ⟨v23_0, rfl, qv23_0⟩ := pick_va hv23; refine t_allocx S z_path rfl ?_ rfl rfl; intro g13 w8 ge13 x9 S; have B := bx Hb B x9; refine t_stx S sb_path rfl rfl rfl rfl (by repeat first | exact oc0 | refine oc rfl ?_ | refine oc (SlR.cells (pk_rd qv23_0 S.tail.tail.kept)).2 ?_) x9 ge13 ?_; intro w10 b11 S cb11; have B := B.trans b11; refine t_k ?_; refine t_m rfl ?_ rfl; refine t_len e_path (pick_sl S.tail.sl S.tail.tail.kept) rfl rfl ?_ rfl; refine t_lss rfl rfl ?_ rfl; refine t_m rfl ?_ rfl; refine t_partp (t := 27) rfl ?_ ?_
  ·intro h1; refine t_on rfl rfl ?_; refine t_lda ‹_› ab_topo sb_topo B rfl ?_ rfl; intro v28 hv28; obtain ⟨v28_0, v28_1, rfl, hv28_0, hv28_1⟩ := topo_va hv28; refine t_on rfl rfl ?_; refine t_b S.box ab_path sb_path rfl rfl ?_ rfl; refine t_on rfl rfl ?_; refine t_m rfl ?_ rfl; refine t_on rfl rfl ?_; refine t_x Tryz.call58 rfl (impl_PathUsable t _ x _ _ _ (by first | assumption | exact VA.below ‹_› B | exact topo_mkv (by first | assumption | exact SlR.below ‹_› B) (by first | assumption | exact SlR.below ‹_› B)) (path_mkv (pk_rd qv23_0 S.tail.tail.kept)) (by omega) (by omega) ‹_› ‹_›) ?_ rfl rfl; intro w12 x13; have B := bx Hb B x13; have S := S.below x13; refine t_q rfl rfl ?_ rfl; refine t_m rfl ?_ rfl; refine t_part (t := 33) rfl ?_ ?_
   ·intro h2; refine t_on rfl rfl ?_; refine t_m rfl ?_ rfl; refine t_on rfl rfl ?_; refine t_b S.box ab_path sb_path rfl rfl ?_ rfl; refine t_on rfl rfl ?_; refine t_x Tryz.call22 rfl (impl_HasP out _ x _ _ (pick_sl S.tail.sl S.tail.tail.kept) (path_mkv (pk_rd qv23_0 S.tail.tail.kept)) (by omega) ‹_› ‹_› (by omega) ‹_› ‹_›) ?_ rfl rfl; intro w14 x15; have B := bx Hb B x15; have S := S.below x15; refine t_on rfl rfl ?_; refine t_not rfl ?_ rfl; refine t_q rfl rfl ?_ rfl; refine t_e ?_; refine w_if rfl ?_ ?_
    ·intro h3; refine w_g ?_; refine t_m rfl ?_ rfl; refine t_b S.box ab_path sb_path rfl rfl ?_ rfl; refine t_lit1 (fun w => bs_path1 _ w) rfl ?_ rfl rfl; intro A41 w16 x17 hA41; have B := bx Hb B x17; have S := S.below x17; have S := S.f1; have S := Sep.addFlat (T := (pickT pathT fp w5)) (cs := [v23_0]) (a := x) S ⟨qv23_0, rfl⟩; have S := S.f1; refine t_snoc (T := (pickT pathT fp w5)) e_path S hA41 rfl rfl rfl (by first | omega | (simp; done) | (simp; omega)) (by (simp only [maxLen]); first | omega | (simp; done) | (simp; omega)) ?_ rfl; intro v42 w18 x19 S; have B := B.trans x19; refine t_a rfl ?_ rfl; refine t_d ?_; refine x_b ?_; refine x_s ?_; refine w_g ?_; refine t_add rfl rfl (by omega) ?_ rfl; refine t_m rfl ?_ rfl; refine t_d ?_; have S := S.f1.tail; refine x_r (X := Nat × List Path × Value) (k + 1, out ++ [x], v42) ?_ (by exact ⟨rfl, rfl, rfl, rfl, rfl, rfl, rfl, trivial⟩) (by (try dsimp only); omega); (try dsimp only); exact ⟨by omega, by rw [hsucc, pick_yes ⟨h1, h2, h3⟩], B, S⟩
    ·intro h3; refine w_k ?_; refine x_b ?_; refine x_s ?_; refine w_g ?_; refine t_add rfl rfl (by omega) ?_ rfl; refine t_m rfl ?_ rfl; refine t_d ?_; have S := S.tail; refine x_r (X := Nat × List Path × Value) (k + 1, out, u) ?_ (by exact ⟨rfl, rfl, rfl, rfl, rfl, rfl, rfl, trivial⟩) (by (try dsimp only); omega); (try dsimp only); exact ⟨by omega, by rw [hsucc, pick_no (fun z => h3 z.2.2)], B, S⟩
   ·intro h2; (iterate 4 refine t_off rfl rfl rfl ?_ rfl); refine t_p rfl rfl ?_ rfl; refine t_e ?_; refine w_no rfl ?_; refine w_k ?_; refine x_b ?_; refine x_s ?_; refine w_g ?_; refine t_add rfl rfl (by omega) ?_ rfl; refine t_m rfl ?_ rfl; refine t_d ?_; have S := S.tail; refine x_r (X := Nat × List Path × Value) (k + 1, out, u) ?_ (by exact ⟨rfl, rfl, rfl, rfl, rfl, rfl, rfl, trivial⟩) (by (try dsimp only); omega); (try dsimp only); exact ⟨by omega, by rw [hsucc, pick_no (fun z => by rw [h2] at z; exact absurd z.2.1 (by simp))], B, S⟩
  ·intro h1; (iterate 4 refine t_off rfl rfl rfl ?_ rfl); refine t_p rfl rfl ?_ rfl; refine t_m rfl ?_ rfl; (iterate 4 refine t_off rfl rfl rfl ?_ rfl); refine t_p rfl rfl ?_ rfl; refine t_e ?_; refine w_no rfl ?_; refine w_k ?_; refine x_b ?_; refine x_s ?_; refine w_g ?_; refine t_add rfl rfl (by omega) ?_ rfl; refine t_m rfl ?_ rfl; refine t_d ?_; have S := S.tail; refine x_r (X := Nat × List Path × Value) (k + 1, out, u) ?_ (by exact ⟨rfl, rfl, rfl, rfl, rfl, rfl, rfl, trivial⟩) (by (try dsimp only); omega); (try dsimp only); exact ⟨by omega, by rw [hsucc, pick_no (fun z => h1 z.1)], B, S⟩
 intro hge; rw [List.take_of_length_le (by omega)] at ho; refine w_exit ?_; (iterate 2 refine x_then_exit ?_); refine x_block_exit ?_; refine x_s ?_; refine w_h ?_; refine t_m rfl ?_ rfl; refine t_a rfl ?_ rfl; refine t_e ?_; refine w_r ?_; refine x_ret1 rfl rfl ?_; rw [ho] at S; exact ⟨_, rfl, trivial, (pick_end S).mono X0.size, ext_trans X0 B⟩
set_option maxHeartbeats 4000000 in
theorem spec_FindPaths (t : Topo) (q : Sdb) (v v1 : Value) (a b now : Int) (w : World) (h : VA topoT w v t) (h' : VA sdbT w v1 q) (hz : sz_topo t ≤ 1048576) (hz' : sz_sdb q ≤ 1048576) (hn : DbN q) (hP : PathsS (comb t q a b)) : Calls Tryz.prog 10 #[v, v1, I a, I b, I now] w fun e w' => ∃ v, e = .returned v ∧ True ∧ Sep w.heap.size w' [rdO pathT v (findP t now (comb t q a b))] ∧ Ext w w' := by
 have hPl := hP.1; have X0 := Below.refl w.heap.size w; refine enter Tryz.func10 rfl Tryz.ntmps10 rfl ?_; refine w_h ?_; refine t_boxr ‹_› rfl ?_ rfl rfl; intro p5 w20 x21 hp5; replace h := h.below x21; replace h' := h'.below x21; have X0 := ext_trans X0 x21; refine t_boxr ‹_› rfl ?_ rfl rfl; intro p6 w22 x23 hp6; replace h := h.below x23; replace h' := h'.below x23; replace hp5 := hp5.below x23; have X0 := ext_trans X0 x23; have S := Sep.nil w22; have B := Below.refl w22.heap.size w22; have Hb := Nat.le_refl w22.heap.size; refine t_a rfl ?_ rfl; refine t_k ?_; refine t_lit0 (T := pathT) S bs_path0 rfl ?_ rfl rfl; intro A14 w24 x25 S; have B := bx Hb B x25; refine t_a rfl ?_ rfl; refine t_k ?_; refine t_lda ‹_› ab_topo sb_topo B rfl ?_ rfl; intro v15 hv15; obtain ⟨v15_0, v15_1, rfl, hv15_0, hv15_1⟩ := topo_va hv15; refine t_lda ‹_› ab_sdb sb_sdb B rfl ?_ rfl; intro v16 hv16; obtain ⟨v16_0, v16_1, rfl, hv16_0, hv16_1⟩ := sdb_va hv16; (iterate 2 refine t_m rfl ?_ rfl)
 refine t_c Tryz.call48 rfl (spec_CombinePaths t q _ _ _ _ _ (by first | assumption | exact VA.below ‹_› B | exact topo_mkv (by first | assumption | exact SlR.below ‹_› B) (by first | assumption | exact SlR.below ‹_› B)) (by first | assumption | exact VA.below ‹_› B | exact sdb_mkv (by first | assumption | exact SlR.below ‹_› B) (by first | assumption | exact SlR.below ‹_› B)) (by omega) (by omega) ‹_›) ?_ rfl rfl; rintro e w26 ⟨v19, fpv19, rfl, hOv19, x27⟩; refine ⟨_, rfl, x27, ?_⟩; have S := S.add (o := slO _ _ _ _) x27 hOv19; have B := bx Hb B x27; refine t_a rfl ?_ rfl; refine t_e ?_; (iterate 2 refine w_s ?_); refine w_g ?_; refine t_a rfl ?_ rfl; refine t_e ?_; refine w_block ?_; obtain ⟨fp, hpk, S⟩ := S.toKeep
 skip
 refine w_loop (X := Nat × List Path × Value) (fun x wq => (fun k out u => k ≤ (comb t q a b).length ∧ out = findP t now ((comb t q a b).take k) ∧ Below w22.heap.size w22 wq ∧ Sep w22.heap.size wq [slO (pickT pathT fp w26) 38 u out, keepO fp w26]) x.1 x.2.1 x.2.2) (fun x => (fun k out u => [(13, I ((k : Int))), (11, u), (4, I now), (5, p5), (10, .slice none 0 0), (12, v19)]) x.1 x.2.1 x.2.2) (fun x => (fun k out u => (comb t q a b).length - k) x.1 x.2.1 x.2.2) (0, [], _) ?_ ⟨rfl, rfl, rfl, rfl, rfl, rfl, trivial⟩ ?_
 ·exact ⟨by omega, rfl, B, S.f1.pickNil⟩
 rintro ⟨k, out, u⟩ w28 hI; (try dsimp only at hI ⊢); obtain ⟨hk, ho, B, S⟩ := hI
 have hoS : PathsS out := by rw [ho]; exact findP_S hP k
 have hso := hoS.sz; have hlo := hoS.lenOk; have hgo := hoS.rng
 have hol : out.length ≤ 24 := by rw [ho]; exact (findP_all _).2.2.1
 (iterate 2 refine w_s ?_); refine w_g ?_; (iterate 2 refine t_m rfl ?_ rfl); refine t_len (T := (pickT pathT fp w26)) e_path (S.tail.kp hpk) rfl rfl ?_ rfl; refine t_lss rfl rfl ?_ rfl; refine t_m rfl ?_ rfl; refine t_partp (t := 24) rfl ?_ ?_
 ·intro hlt; obtain ⟨x, hx⟩ : ∃ e, (comb t q a b)[k]? = some e := getx (by omega); have hxS := hP.2 x (List.mem_of_getElem? hx); have hxz := hxS.sz; have hxl := hxS.lenOk; have hxr := hxS.rng; have hsucc := findP_succ (t := t) (now := now) hx; rw [← ho] at hsucc; refine t_on rfl rfl ?_; refine t_m rfl ?_ rfl; refine t_on rfl rfl ?_; refine t_len e_path (pick_sl S.sl S.tail.kept) rfl rfl ?_ rfl; refine t_on rfl rfl ?_; refine t_lss rfl rfl ?_ rfl; refine t_q rfl rfl ?_ rfl; refine t_e ?_; refine w_if rfl ?_ ?_
  ·intro h1; refine w_k ?_; refine x_s ?_; refine w_s ?_; refine w_block ?_; refine w_s ?_; refine w_draw (.st .take 0 (.st .take 1 (.st .take 2 (.st .take 3 (.st .take 4 (.st .take 5 (.st .run 6 (.st .take 7 (.st .take 8 (.st .take 9 (.st .take 10 (.st .take 11 (.st .take 12 (.st .run 13 (.st .take 14 (.st .take 15 .done)))))))))))))))) mixed (by kernel_rfl) ?_; intro w29 x30; have B := bx Hb B x30; have S := S.below x30; refine t_lda ‹_› ab_topo sb_topo B rfl ?_ rfl; intro v31 hv31; obtain ⟨v31_0, v31_1, rfl, hv31_0, hv31_1⟩ := topo_va hv31; (iterate 2 refine t_m rfl ?_ rfl); refine t_idxk e_path (k := k) hpk S.tail.kept hx rfl rfl (by first | rfl | omega) ?_ rfl; intro p34 hp34; refine t_lda (T := (pickT pathT fp w26)) (hp34 _ S.tail.kept) ab_path sb_path (Below.refl _ _) rfl ?_ rfl; intro v35 hv35; obtain ⟨v35_0, rfl, qv35_0⟩ := pick_va hv35; refine t_m rfl ?_ rfl; refine t_x Tryz.call62 rfl (spec_PathUsable t _ x _ _ _ (by first | assumption | exact VA.below ‹_› B | exact topo_mkv (by first | assumption | exact SlR.below ‹_› B) (by first | assumption | exact SlR.below ‹_› B)) (path_mkv (pk_rd qv35_0 S.tail.kept)) (by omega) (by omega) ‹_› ‹_›) ?_ rfl rfl; intro w31 x32
   have B := bx Hb B x32; have S := S.below x32; refine t_m rfl ?_ rfl; refine t_part (t := 38) rfl ?_ ?_
   ·intro h2; refine t_on rfl rfl ?_; refine t_m rfl ?_ rfl; refine t_on rfl rfl ?_; refine t_m rfl ?_ rfl; refine t_on rfl rfl ?_; refine t_m rfl ?_ rfl; refine t_on rfl rfl ?_; refine t_idxk e_path (k := k) hpk S.tail.kept hx rfl rfl (by first | rfl | omega) ?_ rfl; intro p42 hp42; refine t_on rfl rfl ?_; refine t_lda (T := (pickT pathT fp w26)) (hp42 _ S.tail.kept) ab_path sb_path (Below.refl _ _) rfl ?_ rfl; intro v43 hv43; obtain ⟨v43_0, rfl, qv43_0⟩ := pick_va hv43; refine t_on rfl rfl ?_; refine t_x Tryz.call23 rfl (spec_HasP out _ x _ _ (pick_sl S.sl S.tail.kept) (path_mkv (pk_rd qv43_0 S.tail.kept)) (by omega) ‹_› ‹_› (by omega) ‹_› ‹_›) ?_ rfl rfl; intro w33 x34; have B := bx Hb B x34; have S := S.below x34; refine t_on rfl rfl ?_; refine t_not rfl ?_ rfl; refine t_q rfl rfl ?_ rfl; refine t_e' ?_; refine w_if rfl ?_ ?_
    ·intro h3; refine w_g ?_; (iterate 3 refine t_m rfl ?_ rfl); refine t_idxk e_path (k := k) hpk S.tail.kept hx rfl rfl (by first | rfl | omega) ?_ rfl; intro p50 hp50; refine t_lda (T := (pickT pathT fp w26)) (hp50 _ S.tail.kept) ab_path sb_path (Below.refl _ _) rfl ?_ rfl; intro v51 hv51; obtain ⟨v51_0, rfl, qv51_0⟩ := pick_va hv51; refine t_lit1 (fun w => bs_path1 _ w) rfl ?_ rfl rfl; intro A52 w35 x36 hA52; have B := bx Hb B x36; have S := S.below x36; have S := Sep.addFlat (T := (pickT pathT fp w26)) (cs := [v51_0]) (a := x) S ⟨qv51_0, rfl⟩; have S := S.f1; refine t_snoc (T := (pickT pathT fp w26)) e_path S hA52 rfl rfl rfl (by first | omega | (simp; done) | (simp; omega)) (by (simp only [maxLen]); first | omega | (simp; done) | (simp; omega)) ?_ rfl; intro v53 w37 x38 S; have B := B.trans x38; refine t_a rfl ?_ rfl; refine t_d ?_; refine x_b ?_; refine x_s ?_; refine w_g ?_; refine t_m rfl ?_ rfl; refine t_add rfl rfl (by omega) ?_ rfl; refine t_a rfl ?_ rfl; refine t_d ?_; refine x_r (X := Nat × List Path × Value) (k + 1, out ++ [x], v53) ?_ (by exact ⟨rfl, rfl, rfl, rfl, rfl, rfl, trivial⟩) (by (try dsimp only); omega); (try dsimp only)
     exact ⟨by omega, by rw [hsucc, pick_yes ⟨h1, h2, h3⟩], B, S⟩
    ·intro h3; refine w_k ?_; refine x_b ?_; refine x_s ?_; refine w_g ?_; refine t_m rfl ?_ rfl; refine t_add rfl rfl (by omega) ?_ rfl; refine t_a rfl ?_ rfl; refine t_d ?_; refine x_r (X := Nat × List Path × Value) (k + 1, out, u) ?_ (by exact ⟨rfl, rfl, rfl, rfl, rfl, rfl, trivial⟩) (by (try dsimp only); omega); (try dsimp only); exact ⟨by omega, by rw [hsucc, pick_no (fun z => h3 z.2.2)], B, S⟩
   ·intro h2; (iterate 7 refine t_off rfl rfl rfl ?_ rfl); refine t_p rfl rfl ?_ rfl; refine t_e' ?_; refine w_no rfl ?_; refine w_k ?_; refine x_b ?_; refine x_s ?_; refine w_g ?_; refine t_m rfl ?_ rfl; refine t_add rfl rfl (by omega) ?_ rfl; refine t_a rfl ?_ rfl; refine t_d ?_; refine x_r (X := Nat × List Path × Value) (k + 1, out, u) ?_ (by exact ⟨rfl, rfl, rfl, rfl, rfl, rfl, trivial⟩) (by (try dsimp only); omega); (try dsimp only); exact ⟨by omega, by rw [hsucc, pick_no (fun z => by rw [h2] at z; exact absurd z.2.1 (by simp))], B, S⟩
  ·intro h1; refine w_exit ?_; (iterate 2 refine x_then_exit ?_); refine x_block_exit ?_; refine x_s ?_; refine w_h ?_; refine t_m rfl ?_ rfl; refine t_a rfl ?_ rfl; refine t_e ?_; refine w_r ?_; refine x_ret1 rfl rfl ?_; rw [ho] at h1; rw [ho, ← findP_full h1] at S; exact ⟨_, rfl, trivial, (pick_end S).mono X0.size, ext_trans X0 B⟩
 ·intro hge; rw [List.take_of_length_le (by omega)] at ho; (iterate 3 refine t_off rfl rfl rfl ?_ rfl); refine t_p rfl rfl ?_ rfl; refine t_e ?_; refine w_no rfl ?_; refine w_exit ?_; (iterate 2 refine x_then_exit ?_); refine x_block_exit ?_; refine x_s ?_; refine w_h ?_; refine t_m rfl ?_ rfl; refine t_a rfl ?_ rfl; refine t_e ?_; refine w_r ?_; refine x_ret1 rfl rfl ?_; rw [ho] at S; exact ⟨_, rfl, trivial, (pick_end S).mono X0.size, ext_trans X0 B⟩
theorem findP_S0 {t : Topo} {now : Int} {l : List Path} (h : PathsS l) : PathsS (findP t now l) := by
  obtain ⟨h1, _, h3, _⟩ := findP_all (t := t) (now := now) l; exact ⟨by omega, fun x hx => h.2 x (h1 x hx).1⟩
theorem comb_valley {t : Topo} (hU : Uniq t.links) (hK : ∀ x ∈ t.links, x.a < x.b ∧ 1 ≤ x.ai ∧ 1 ≤ x.bi) (hE : ∀ x ∈ t.links, 0 ≤ x.a) {k : Sdb} (D : DbL t k) {a b now : Int} {p : Path} (h : p ∈ comb t k a b) (hu : usable t p now = true) : Valley t (pathSteps p) := by
  have hs : simplePath t p = true := by unfold usable at hu; simp only [Bool.and_eq_true] at hu; exact hu.1.1
  obtain ⟨hw, _⟩ := simple_nd hs; obtain ⟨hne, hc⟩ := (comb_iff D.db).1 h
  have hK' : ∀ x ∈ t.links, 1 ≤ x.ai ∧ 1 ≤ x.bi := fun x hx => (hK x hx).2
  have T := steps_wf hK' hw; have hg := comb_good hU hK D.db p h
  refine valley hU hK D hs (comb_parts D.db hc) fun s hm => ?_
  obtain ⟨m, hlt, e⟩ := List.mem_iff_getElem.1 hm
  have hm' : (pathSteps p)[m]? = some s := by rw [List.getElem?_eq_getElem hlt, e]
  rcases Nat.eq_zero_or_pos m with h0 | h0
  · subst h0
    have he := hg.2.2.1
    unfold endA at he
    have hpos := T.pos; rw [if_neg (by omega)] at he
    have hf : firstOf (pathSteps p) = s := by unfold firstOf; rw [hm']; rfl
    rw [hf] at he
    have : isAS t a = true := by
      cases hA : isAS t a with
      | true => rfl
      | false => exact absurd (.inr (.inl hA)) hne
    have := inR_iff.1 this
    omega
  · obtain ⟨r, hr⟩ : ∃ r, (pathSteps p)[m - 1]? = some r := getx (by omega)
    have hn := T.next (m - 1) r s hr (by rw [show m - 1 + 1 = m by omega]; exact hm')
    have hi : s.ing ≠ 0 := fun z => by have := (T.ing m s hm').1 z; omega
    by_cases hf : idxI (findL t.links r.ia r.eg) < 0
    · rw [remote_none hf] at hn
      exact absurd (congrArg Prod.snd hn).symm hi
    · have hlt2 := idx_lt t.links r.ia r.eg
      obtain ⟨x, hx⟩ : ∃ x, t.links[(idxI (findL t.links r.ia r.eg)).toNat]? = some x := getx (by omega); rw [remote_some hf hx] at hn; have hxm := List.mem_of_getElem? hx; have h1 := hK x hxm; have h2 := hE x hxm
      split at hn
      · have := congrArg Prod.fst hn; dsimp only at this; omega
      · have := congrArg Prod.fst hn; dsimp only at this; omega
theorem valley_forbid {t : Topo} {l : List Stp} (V : Valley t l) : forbid t l = -1 := forbid_none (List.all_eq_true.2 V.ok)
theorem find_in {t : Topo} {now : Int} {l : List Path} {k : Nat} {x : Path} (h : (findP t now l)[k]? = some x) : x ∈ l ∧ usable t x now = true ∧ ¬ x ∈ (findP t now l).take k := by
  obtain ⟨h1, h2, _, _⟩ := findP_all (t := t) (now := now) l; have hx := h1 x (List.mem_of_getElem? h); refine ⟨hx.1, hx.2, fun hm => ?_⟩; obtain ⟨j, hj, e⟩ := List.mem_iff_getElem.1 hm; have hk := List.getElem?_eq_some_iff.1 h; rw [List.length_take] at hj; rw [List.getElem_take] at e; have := (List.pairwise_iff_getElem.1 h2) j k (by omega) hk.1 (by omega); exact this (by rw [e, hk.2])
theorem impl_FindP (t : Topo) (q : Sdb) (v v1 : Value) (a b now : Int) (l : List Path) (w : World) (h : VA topoT w v t) (h' : VA sdbT w v1 q) (hz : sz_topo t ≤ 1048576) (hz' : sz_sdb q ≤ 1048576) (hn : DbN q) (hP : PathsS (comb t q a b)) (hl : l = findP t now (comb t q a b)) : Calls Tryz.prog 9 #[v, v1, I a, I b, I now] w fun e w' => ∃ v, e = .returned v ∧ True ∧ Sep w.heap.size w' [rdO pathT v l] ∧ Ext w w' := by
  rw [hl]; exact impl_FindPaths t q v v1 a b now w h h' hz hz' hn hP
theorem spec_FindP (t : Topo) (q : Sdb) (v v1 : Value) (a b now : Int) (l : List Path) (w : World) (h : VA topoT w v t) (h' : VA sdbT w v1 q) (hz : sz_topo t ≤ 1048576) (hz' : sz_sdb q ≤ 1048576) (hn : DbN q) (hP : PathsS (comb t q a b)) (hl : l = findP t now (comb t q a b)) : Calls Tryz.prog 10 #[v, v1, I a, I b, I now] w fun e w' => ∃ v, e = .returned v ∧ True ∧ Sep w.heap.size w' [rdO pathT v l] ∧ Ext w w' := by
  rw [hl]; exact spec_FindPaths t q v v1 a b now w h h' hz hz' hn hP
section
variable (P : Program) (f : FuncId) (fn : Func) (s : ChangeSpec) (c : OpenClaim)
def jnA : Bool := c.wf (OpenSpec.ofChange s) && laidOutB P && mapsRowed P && fn.params.all (P.readableRec ·) && namedTie P c.named s.vars && (c.stops == []) && (P.stops == []) && (c.knobs == []) && (P.stopKnobs == [])
def jnB : Bool := (c.inPlace == P.inPlace f) && (c.unfollowed == P.unfollowed f) && (c.recurses == P.recurses f) && (c.named == P.varsNamed f)
def jnC : Bool := (c.maps == (fn.params.toList ++ s.plain.varTypes P).any (P.mapsRec ·)) && (c.ifaces == (fn.params.toList ++ s.plain.varTypes P).any (P.ifacesRec ·)) && (c.mapsOut == P.mapsAmong fn.resultTypes.toList) &&
  (c.loops == (fn.params.toList ++ s.plain.varTypes P).any (P.loopsFrom ·)) && (c.wideKeys == (fn.params.toList ++ s.plain.varTypes P ++ fn.resultTypes.toList).any (P.wideKeysFrom ·)) &&
  s.vars.all (P.varReadable ·) && fn.resultTypes.all (fun t => P.readableRec t && decide (t < P.types.size)) && (c.ifacesOut == fn.resultTypes.toList.any (P.ifacesRec ·)) && (c.loopsOut == fn.resultTypes.toList.any (P.loopsFrom ·)) && (c.plainKeys == P.plainKeys) && c.shortTexts.isNone
def jnD : Bool := P.stopsHeard
def jnE : Bool := P.mayEnter
def jnF : Bool := c.lifted == P.liftsFinal
def jnG : Bool := P.make == some c.make
def jnH : Bool := (c.kinds == (if c.domain.isEmpty then [] else fn.params.toList.map fun t => match P.underlying t with | some (.int k) => some k | _ => none))
def jnI : Bool := c.pinned == c.pinnedBy
def jnJ : Bool := (c.veiled == (fn.params.toList ++ s.plain.varTypes P ++ fn.resultTypes.toList).any (P.veiledRec ·)) && c.veiledFits P fn.params.toList (fn.params.toList ++ s.plain.varTypes P ++ fn.resultTypes.toList)
end
theorem joined_of {P : Program} {f : FuncId} {fn : Func} {s : ChangeSpec} {c : OpenClaim} (hA : jnA P fn s c = true) (hB : jnB P f c = true) (hC : jnC P fn s c = true) (hD : jnD P = true) (hE : jnE P = true) (hF : jnF P c = true) (hG : jnG P c = true) (hH : jnH P fn c = true) (hI : jnI c = true) (hJ : jnJ P fn s c = true) : joinedFacts P f fn s c = true := by
  unfold jnA at hA
  unfold jnB at hB
  unfold jnC at hC
  unfold jnD at hD
  unfold jnE at hE
  unfold jnF at hF
  unfold jnG at hG
  unfold jnH at hH
  unfold jnI at hI
  unfold jnJ at hJ
  simp only [Bool.and_eq_true] at hA hB hC hJ
  unfold joinedFacts
  simp only [Bool.and_eq_true]
  obtain ⟨⟨⟨⟨⟨⟨⟨⟨a1, a2⟩, a3⟩, a4⟩, a5⟩, a6⟩, a7⟩, a8⟩, a9⟩ := hA; obtain ⟨⟨⟨b1, b2⟩, b3⟩, b4⟩ := hB; obtain ⟨⟨⟨⟨⟨⟨⟨⟨⟨⟨c1, c2⟩, c3⟩, c4⟩, c5⟩, c6⟩, c7⟩, c8⟩, c9⟩, c10⟩, c11⟩ := hC; obtain ⟨d1, d2⟩ := hJ; exact ⟨⟨⟨⟨⟨⟨⟨⟨⟨⟨⟨⟨⟨⟨⟨⟨⟨⟨⟨⟨⟨⟨⟨⟨⟨⟨⟨⟨⟨⟨⟨a1, a2⟩, a3⟩, a4⟩, a5⟩, a6⟩, a7⟩, a8⟩, a9⟩, b1⟩, b2⟩, b3⟩, b4⟩, c1⟩, c2⟩, c3⟩, c4⟩, c5⟩, c6⟩, c7⟩, c8⟩, c9⟩, c10⟩, c11⟩, hD⟩, hE⟩, hF⟩, hG⟩, hH⟩, hI⟩, d1⟩, d2⟩
open Go.ChangeShapes Go.WideShapes Go.ChangeAt Go.RowKit Go.Deep
theorem knob : ownKnob Tryz.prog.godebug = none := by kernel_rfl
theorem laidOut : laidOutB Tryz.prog = true := by kernel_rfl
section
variable {H : Type} {enc : TypeId × Value → H} {P : Program} {w : World} {base : Nat} {spare : Nat → Bool} {held : Bool}
/-- A slice, by its elements. -/
theorem open_sl {α : Type} (T : Ty α) (good : α → Prop) {t e : TypeId} (ht : P.underlying t = some (.slice e)) (hC : P.cellsOf e = T.size)
  (hel : ∀ (n : Nat) cs y, DataW.trod enc P w base spare held n e cs = some y → ∃ a, T.R w cs a ∧ good a) {fuel : Nat} {cs : List Value} {x : DataW H × List MemPlace} (h : DataW.trod enc P w base spare held fuel t cs = some x) :
  ∃ A c l, cs = [.slice A l.length c] ∧ SlR T w (.slice A l.length c) l ∧ l.length ≤ 9223372036854775807 ∧ ∀ a ∈ l, good a := by
 rcases open_slice ht h with ⟨h0, _⟩ | ⟨a, len, cap, m, n, D, Pl, hcs, hb, hl, hm, hmm, hx, hi⟩
 ·exact ⟨none, 0, [], h0, ⟨none, 0, [], rfl, Nat.le_refl _, rfl, Rd.nil, fun i cs a hi => by simp at hi⟩, by simp, by simp⟩
 ·have hlm : len ≤ m := by rw [hmm]; split <;> omega
  have hall : ∀ i : Fin len, ∃ (cs : List Value) (x : α), T.R w cs x ∧ good x ∧ cs.length = T.size ∧ ∀ j, j < T.size → w.cell? ((a.add (i * T.size)).add j) = cs[j]? := fun i => by
   obtain ⟨cs', h1, h2⟩ := hi i (by omega); obtain ⟨x, h3, h4⟩ := hel _ _ _ h2; obtain ⟨_, h5, h6⟩ := World.cells?_some h1; rw [hC] at h5 h6; exact ⟨cs', x, h3, h4, h5, h6⟩
  obtain ⟨f, hf⟩ := Classical.axiomOfChoice hall; obtain ⟨g, hg⟩ := Classical.axiomOfChoice hf; have hlen : (List.ofFn g).length = len := List.length_ofFn; refine ⟨some a, cap, List.ofFn g, by rw [hlen]; exact hcs, ⟨some a, cap, List.ofFn f, rfl, by rw [hlen]; exact hl, by simp, ?_, ?_⟩, by rw [hlen]; simp only [maxLen] at hm; omega, ?_⟩
  ·intro hpos
   have hp : 0 < len := by
    rcases Nat.eq_zero_or_pos len with h0 | h0
    ·subst h0; simp at hpos
    ·exact h0
   have hsz := T.pos; have hc0 := (hg ⟨0, hp⟩).2.2.2 0 hsz
   simp only [Nat.zero_mul] at hc0
   have hspot : a.spot = none := by
    have hsome : (w.cell? a).isSome = true := by
     have h9 : w.cell? a = (f ⟨0, hp⟩)[0]? := by
      have : (a.add 0).add 0 = a := by simp [Addr.add]
      rw [← this]; exact hc0
     rw [h9, List.getElem?_eq_getElem (by rw [(hg ⟨0, hp⟩).2.2.1]; exact hsz)]
     rfl
    unfold World.cell? at hsome
    split at hsome
    ·split at hsome
     ·simp at hsome
     ·rename_i hs; simpa using hs
    ·simp at hsome
   obtain ⟨ab, ao, as'⟩ := a
   simp only at hspot
   subst hspot; refine ⟨ab, ao, rfl, fun j u hu => ?_⟩
   have hfl : ∀ (i : Nat) cs, (List.ofFn f)[i]? = some cs → cs.length = T.size := fun i cs hi => by
    obtain ⟨hlt, rfl⟩ := List.getElem?_eq_some_iff.1 hi; rw [List.getElem_ofFn]; exact (hg _).2.2.1
   have hj : j < len * T.size := by
    have := (List.getElem?_eq_some_iff.1 hu).1; rw [flatten_len hfl, List.length_ofFn] at this; exact this
   have hq : j / T.size < len := Nat.div_lt_of_lt_mul (by rw [Nat.mul_comm]; exact hj); have hr := Nat.mod_lt j hsz
   have ej : j / T.size * T.size + j % T.size = j := by rw [Nat.mul_comm]; exact Nat.div_add_mod j T.size
   have h1 := (hg ⟨j / T.size, hq⟩).2.2.2 (j % T.size) hr; have h2 := flatten_at hfl (j / T.size) (f ⟨j / T.size, hq⟩) (by rw [List.getElem?_ofFn, dif_pos hq]) (j % T.size) hr; rw [ej] at h2; rw [Addr.add_lit, Addr.add_lit] at h1
   simp only [Nat.add_assoc] at h1
   rw [ej] at h1; rw [h1, ← h2]; exact hu
  ·intro i cs x hi hx
   have hlt : i < len := by
    have := (List.getElem?_eq_some_iff.1 hi).1
    simpa using this
   rw [List.getElem?_ofFn, dif_pos hlt] at hi hx
   injection hi with hi
   injection hx with hx
   subst hi hx; exact (hg _).1
  ·intro x hx; obtain ⟨i, hi, rfl⟩ := List.getElem_of_mem hx; rw [List.getElem_ofFn]; exact (hg _).2.1
end
section
variable {H : Type} {enc : TypeId × Value → H} {w : World} {base : Nat} {spare : Nat → Bool} {held : Bool}
end
open Go.ChangeShapes Go.WideShapes Go.ChangeAt Go.RowKit Go.Deep
section
variable {H : Type} {enc : TypeId × Value → H} {w : World} {base : Nat} {spare : Nat → Bool} {held : Bool}
theorem byte_of (n : Nat) (cs : List Value) (y : DataW H × List MemPlace) (h : DataW.trod enc Tryz.prog w base spare held n 5 cs = some y) : ∃ a : UInt8, byteT.R w cs a ∧ True := by
  obtain ⟨a, e, _, wf⟩ := DataW.trod_int Tryz.underlying5 h; have hb := bounds_u8 wf; refine ⟨UInt8.ofNat a.toNat, ?_, trivial⟩
  show cs = [.int .u8 ((UInt8.ofNat a.toNat).toNat : Int)]
  rw [e, UInt8.toNat_ofNat', Nat.mod_eq_of_lt (by omega), Int.toNat_of_nonneg hb.1]
end
open Go.ChangeShapes Go.WideShapes Go.ChangeAt Go.RowKit Go.Deep
section
variable {H : Type} {enc : TypeId × Value → H} {w : World} {base : Nat} {spare : Nat → Bool} {held : Bool}
theorem open_byteS {r : Reach} {b0 : Nat} {v : Value} {d : DataW H} {p : List MemPlace} (hv : Value.okWide Tryz.prog w r b0 22 v) (h : DataW.Trod enc Tryz.prog w base spare held 22 v d p) :
    ∃ l, SlR byteT w v l ∧ l.length ≤ 9223372036854775807 := by
  obtain ⟨a0, len, cap, rfl⟩ := okWide_slice Tryz.underlying22 hv; obtain ⟨fuel, hf⟩ := h; obtain ⟨A, c, l, e, hR, hn, hg⟩ := open_sl byteT (fun _ => True) Tryz.underlying22 (by kernel_rfl) byte_of hf
  simp [Value.cells] at e
  obtain ⟨rfl, rfl, rfl⟩ := e; exact ⟨l, hR, hn⟩
end
end Go.Proofs.YtljkgpembicloaaGreat
