/- hopInts, PathInts of the program. -/
import Derived.Test.YtaapaafagmbkoaaHole
import Derived.Test.YtaapaafagmbkoaaPathInts
namespace Go.Proofs.Ytaapaafagmbkoaa
open Go.RowKit
set_option linter.unusedVariables false
set_option maxRecDepth 20000

theorem impl_hopInts (x : Hop) (w : World) : Calls Try.prog 70 #[.agg #[I x.ia, I x.ing, I x.eg, I x.exp, I x.mac]] w fun e w' => ∃ v fp, e = .returned v ∧ SlO intT 3 w.heap.size w' v (piH x) fp ∧ Below w.heap.size w w' := by
  have hx := hop_mkv w x
  have X0 := Below.refl w.heap.size w
  refine enter Try.func70 rfl Try.ntmps70 rfl ?_
  refine w_seq ?_
  refine w_region ?_
  refine t_boxr (by assumption) rfl ?_ rfl rfl
  intro p1 w1 x2 hp1
  replace hx := hx.below x2
  have X0 := ext_trans X0 x2
  have S := Sep.nil w1
  have B := Below.refl w1.heap.size w1
  have Hb := Nat.le_refl w1.heap.size
  refine t_assign rfl ?_ rfl
  refine t_done ?_
  refine x_seq ?_
  refine w_seq ?_
  refine w_region ?_
  refine t_fld ln_hop_0 (by assumption) fb_hop_0 rfl ?_ rfl
  intro p3 hp3
  refine t_ldi (by assumption) ab_int B rfl ?_ rfl
  refine t_fld ln_hop_1 (by assumption) fb_hop_1 rfl ?_ rfl
  intro p5 hp5
  refine t_ldi (by assumption) ab_int B rfl ?_ rfl
  refine t_fld ln_hop_2 (by assumption) fb_hop_2 rfl ?_ rfl
  intro p7 hp7
  refine t_ldi (by assumption) ab_int B rfl ?_ rfl
  refine t_fld ln_hop_3 (by assumption) fb_hop_3 rfl ?_ rfl
  intro p9 hp9
  refine t_ldi (by assumption) ab_int B rfl ?_ rfl
  refine t_fld ln_hop_4 (by assumption) fb_hop_4 rfl ?_ rfl
  intro p11 hp11
  refine t_ldi (by assumption) ab_int B rfl ?_ rfl
  refine t_lit (T := intT) (l := [x.ia, x.ing, x.eg, x.exp, x.mac]) (css := ([x.ia, x.ing, x.eg, x.exp, x.mac]).map fun a => [I a]) int_flat S (fun w => bs_int5 _ _ _ _ _ w) rfl rfl rfl rfl (by simp [maxLen]) (litR_int _) ?_ rfl rfl
  intro u13 w3 x4 S
  have B := bx Hb B x4
  refine t_assign rfl ?_ rfl
  refine t_done ?_
  refine x_seq ?_
  refine w_ret ?_
  refine x_ret1 rfl rfl ?_
  obtain ⟨fp, hO⟩ := (S.mono X0.size).head
  exact ⟨_, fp, rfl, hO, ext_trans X0 B⟩

theorem pathInts_len (p : Path) : (pathInts p).length ≤ 5 * sz_path p := intsOf_len piP piH (fun _ => by simp [piP]) (fun _ => by simp [piH]) p
theorem impl_PathInts (p : Path) (v : Value) (w : World) (h : VA pathT w v p) (hz : sz_path p ≤ 1048576) : Calls Try.prog 18 #[v] w fun e w' => ∃ v fp, e = .returned v ∧ SlO intT 3 w.heap.size w' v (pathInts p) fp ∧ Below w.heap.size w w' := by
  have hT : (intsOf piP piH p).length ≤ 5 * sz_path p := pathInts_len p
  have hpl : List.length p ≤ sz_path p := by show List.length p ≤ List.length p + _; omega
  have X0 := Below.refl w.heap.size w
  refine enter Try.func18 rfl Try.ntmps18 rfl ?_
  refine w_seq ?_
  refine w_region ?_
  refine t_boxr (by assumption) rfl ?_ rfl rfl
  intro p1 w5 x6 hp1
  replace h := h.below x6
  have X0 := ext_trans X0 x6
  have S := Sep.nil w5
  have B := Below.refl w5.heap.size w5
  have Hb := Nat.le_refl w5.heap.size
  refine t_assign rfl ?_ rfl
  refine t_done ?_
  refine x_seq ?_
  refine w_seq ?_
  refine w_region ?_
  refine t_assign rfl ?_ rfl
  refine t_done ?_
  refine x_seq ?_
  refine w_seq ?_
  refine w_seq ?_
  refine w_region ?_
  refine t_fld ln_path_0 (by assumption) fb_path_0 rfl ?_ rfl
  intro p8 hp8
  refine t_lds (by assumption) ab_s_part B rfl ?_ rfl
  intro v9 hv9
  refine t_len e_part (by assumption) rfl rfl ?_ rfl
  refine t_move rfl ?_ rfl
  refine t_done ?_
  refine x_seq ?_
  refine w_block ?_
  refine w_loop (X := Nat × Value) (fun x wq => (fun k v => k ≤ List.length p ∧ Below w5.heap.size w5 wq ∧ Sep w5.heap.size wq [slO intT 3 v (intsOf piP piH (p.take k))]) x.1 x.2) (fun x => (fun k v => [(11, I ((k : Int))), (3, v), (2, .slice none 0 0), (9, v9), (10, I ((p.length : Int)))]) x.1 x.2) (fun x => (fun k v => List.length p - k) x.1 x.2) (0, .slice none 0 0) ?_ ⟨rfl, rfl, rfl, rfl, rfl, trivial⟩ ?_
  · exact ⟨by omega, B, S.addNil⟩
  · rintro ⟨k, v⟩ w7 hI
    try dsimp only at hI ⊢
    obtain ⟨hk, B, S⟩ := hI
    refine w_seq ?_
    refine w_region ?_
    refine t_lss rfl rfl ?_ rfl
    refine t_done ?_
    refine x_seq ?_
    refine w_seq ?_
    refine w_if rfl ?_ ?_
    · intro hlt
      obtain ⟨e13, he13⟩ : ∃ e, p[k]? = some e := getx (by omega)
      have hml := mem_len_path (List.mem_of_getElem? he13)
      have hle := take_len_le (f := piP) (g := piH) he13 e13.hops.length
      have hp4 : (piP e13).length = 4 := rfl
      refine w_skip ?_
      refine x_seq ?_
      refine w_seq ?_
      refine w_block ?_
      refine w_seq ?_
      refine w_region ?_
      refine t_idx e_part (k := k) (by assumption) he13 B rfl rfl (by first | rfl | omega) ?_ rfl
      intro p13 hp13
      refine t_lda (by assumption) ab_part sb_part B rfl ?_ rfl
      intro v14 hv14
      obtain ⟨v14_3, rfl, hv14_3⟩ := part_va hv14
      refine t_alloc S z_part rfl ?_ rfl rfl
      intro g5 w8 x9 S
      have B := bx Hb B x9
      refine t_stn S sb_part rfl rfl rfl rfl (by intro u hu; simp only [List.mem_cons, List.not_mem_nil, or_false] at hu; rcases hu with rfl | rfl | rfl | rfl <;> first | rfl | exact (SlR.cells (by first | assumption | exact S.tail.sl | exact S.tail.tail.sl | exact S.tail.tail.tail.sl | exact S.tail.tail.tail.tail.sl | exact S.tail.tail.tail.tail.tail.sl | exact S.tail.tail.tail.tail.tail.tail.sl | exact S.tail.tail.tail.tail.tail.tail.tail.sl | exact S.tail.tail.tail.tail.tail.tail.tail.tail.sl)).2) ?_
      intro w10 b11 S
      have B := B.trans b11
      refine t_done ?_
      refine x_seq ?_
      refine w_seq ?_
      refine w_region ?_
      refine t_move rfl ?_ rfl
      refine t_fldx fb_part_0 rfl rfl ?_ rfl
      refine t_bx1 S.box ab_int rfl rfl ?_ rfl
      refine t_fldx fb_part_1 rfl rfl ?_ rfl
      refine t_bx1 S.box ab_int rfl rfl ?_ rfl
      refine t_fldx fb_part_2 rfl rfl ?_ rfl
      refine t_bx1 S.box ab_int rfl rfl ?_ rfl
      refine t_fldx fb_part_3 rfl rfl ?_ rfl
      refine t_bx1 S.box ab_s_hop rfl rfl ?_ rfl
      refine t_len e_hop (by assumption) rfl rfl ?_ rfl
      refine t_lit (T := intT) (l := [e13.kind, e13.ts, e13.beta, (e13.hops.length : Int)]) (css := ([e13.kind, e13.ts, e13.beta, (e13.hops.length : Int)]).map fun a => [I a]) int_flat S (fun w => bs_int4 _ _ _ _ w) rfl rfl rfl rfl (by simp [maxLen]) (litR_int _) ?_ rfl rfl
      intro u25 w12 x13 S
      have B := bx Hb B x13
      have hR := S.sl
      have S := S.f2
      refine t_cat int_flat e_int S hR rfl rfl rfl (by first | omega | (simp [-List.length_flatMap]; omega)) (by (simp [maxLen, -List.length_flatMap]; try omega)) ?_ rfl
      intro v26 w14 x15 S
      have B := B.trans x15
      clear hR
      have S := S.f1
      have S := S.tail
      refine t_assign rfl ?_ rfl
      refine t_done ?_
      refine x_seq ?_
      refine w_seq ?_
      refine w_region ?_
      refine t_fldx fb_part_3 rfl rfl ?_ rfl
      refine t_bx1 S.tail.box ab_s_hop rfl rfl ?_ rfl
      refine t_len e_hop (by assumption) rfl rfl ?_ rfl
      refine t_move rfl ?_ rfl
      refine t_done ?_
      refine x_seq ?_
      refine w_block ?_
      refine w_loop (X := Nat × Value) (fun x wq => (fun j u => j ≤ e13.hops.length ∧ Below w5.heap.size w5 wq ∧ Sep w5.heap.size wq [slO intT 3 u (intsOf piP piH (p.take k) ++ piP e13 ++ (e13.hops.take j).flatMap piH)]) x.1 x.2) (fun x => (fun j u => [(30, I ((j : Int))), (3, u), (11, I ((k : Int))), (2, .slice none 0 0), (9, v9), (10, I ((p.length : Int))), (28, v14_3), (29, I ((e13.hops.length : Int)))]) x.1 x.2) (fun x => (fun j u => e13.hops.length - j) x.1 x.2) (0, v26) ?_ ⟨rfl, rfl, rfl, rfl, rfl, rfl, rfl, rfl, trivial⟩ ?_
      · exact ⟨by omega, B, by simpa [piP] using S.rm1⟩
      · rintro ⟨j, u⟩ w16 hI
        try dsimp only at hI ⊢
        obtain ⟨hj, B, S⟩ := hI
        refine w_seq ?_
        refine w_region ?_
        refine t_lss rfl rfl ?_ rfl
        refine t_done ?_
        refine x_seq ?_
        refine w_seq ?_
        refine w_if rfl ?_ ?_
        · intro hlt2
          have hle2 := take_len_le (f := piP) (g := piH) he13 j
          obtain ⟨e32, he32⟩ : ∃ e, e13.hops[j]? = some e := getx (by omega)
          have hp5 : (piH e32).length = 5 := rfl
          refine w_skip ?_
          refine x_seq ?_
          refine w_seq ?_
          refine w_block ?_
          refine w_seq ?_
          refine w_region ?_
          refine t_idx e_hop (k := j) (by assumption) he32 B rfl rfl (by first | rfl | omega) ?_ rfl
          intro p32 hp32
          refine t_lda (by assumption) ab_hop sb_hop B rfl ?_ rfl
          intro v33 hv33
          obtain rfl := hop_va hv33
          refine t_alloc S z_hop rfl ?_ rfl rfl
          intro g7 w17 x18 S
          have B := bx Hb B x18
          refine t_stn S sb_hop rfl rfl rfl rfl (by simp [Value.oneCell']) ?_
          intro w19 b20 S
          have B := B.trans b20
          refine t_done ?_
          refine x_seq ?_
          refine w_region ?_
          refine t_move rfl ?_ rfl
          refine t_bxn S.box ab_hop sb_hop rfl rfl ?_ rfl
          refine t_call Try.call70 rfl (impl_hopInts _ _) ?_ rfl rfl
          rintro e w21 ⟨v36, fpv36, rfl, hOv36, x22⟩
          refine ⟨_, rfl, x22, ?_⟩
          have S := S.add (o := slO _ _ _ _) x22 hOv36
          have B := bx Hb B x22
          have hR := S.sl
          have S := S.f2
          refine t_cat int_flat e_int S hR rfl rfl rfl (by first | omega | (simp [-List.length_flatMap]; omega)) (by (simp [maxLen, -List.length_flatMap]; try omega)) ?_ rfl
          intro v37 w23 x24 S
          have B := B.trans x24
          clear hR
          refine t_assign rfl ?_ rfl
          refine t_done ?_
          refine x_block_normal ?_
          refine x_seq ?_
          refine w_region ?_
          refine t_add rfl rfl (by omega) ?_ rfl
          refine t_move rfl ?_ rfl
          refine t_done ?_
          have S := S.f1
          have S := S.tail
          have S := S.f1
          have S := S.tail
          refine x_round (I := (fun x wq => (fun j u => j ≤ e13.hops.length ∧ Below w5.heap.size w5 wq ∧ Sep w5.heap.size wq [slO intT 3 u (intsOf piP piH (p.take k) ++ piP e13 ++ (e13.hops.take j).flatMap piH)]) x.1 x.2)) (F := (fun x => (fun j u => [(30, I ((j : Int))), (3, u), (11, I ((k : Int))), (2, .slice none 0 0), (9, v9), (10, I ((p.length : Int))), (28, v14_3), (29, I ((e13.hops.length : Int)))]) x.1 x.2)) (μ := (fun x => (fun j u => e13.hops.length - j) x.1 x.2)) (j + 1, v37) ?_ (by exact ⟨rfl, rfl, rfl, rfl, rfl, rfl, rfl, rfl, trivial⟩) (by (try dsimp only); omega)
          try dsimp only
          refine ⟨by omega, B, ?_⟩
          rw [flat_snoc he32, ← List.append_assoc]
          exact S
        · intro hge2
          have : j = e13.hops.length := by omega
          subst this
          rw [List.take_length] at S
          refine w_exit ?_
          refine x_then_exit ?_
          refine x_then_exit ?_
          refine x_block_exit ?_
          refine x_block_normal ?_
          refine x_seq ?_
          refine w_region ?_
          refine t_add rfl rfl (by omega) ?_ rfl
          refine t_move rfl ?_ rfl
          refine t_done ?_
          refine x_round (I := (fun x wq => (fun k v => k ≤ List.length p ∧ Below w5.heap.size w5 wq ∧ Sep w5.heap.size wq [slO intT 3 v (intsOf piP piH (p.take k))]) x.1 x.2)) (F := (fun x => (fun k v => [(11, I ((k : Int))), (3, v), (2, .slice none 0 0), (9, v9), (10, I ((p.length : Int)))]) x.1 x.2)) (μ := (fun x => (fun k v => List.length p - k) x.1 x.2)) (k + 1, u) ?_ (by exact ⟨rfl, rfl, rfl, rfl, rfl, trivial⟩) (by (try dsimp only); omega)
          try dsimp only
          refine ⟨by omega, B, ?_⟩
          rw [take_succ he13, intsOf_snoc, ← List.append_assoc]
          exact S
    · intro hge
      refine w_exit ?_
      refine x_then_exit ?_
      refine x_then_exit ?_
      refine x_block_exit ?_
      refine x_seq ?_
      refine w_seq ?_
      refine w_region ?_
      refine t_move rfl ?_ rfl
      refine t_assign rfl ?_ rfl
      refine t_done ?_
      refine x_seq ?_
      refine w_ret ?_
      refine x_ret1 rfl rfl ?_
      have : k = List.length p := by omega
      subst this
      rw [List.take_length] at S
      obtain ⟨fp, hO⟩ := (S.mono X0.size).head
      exact ⟨_, fp, rfl, hO, ext_trans X0 B⟩

end Go.Proofs.Ytaapaafagmbkoaa
