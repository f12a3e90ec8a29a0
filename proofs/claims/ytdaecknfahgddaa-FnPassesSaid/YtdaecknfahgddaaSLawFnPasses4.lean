/- What LawFnPasses needs of the texts below it, part 4: contracts of functions, plain lemmas. (Put together by slim.py.) -/
import Derived.Test.YtdaecknfahgddaaSLawFnPasses3
namespace Go.Proofs.Ytdaecknfahgddaa
open Go.RowKit
set_option linter.unusedVariables false
set_option maxRecDepth 20000
/-- A link as_ it is drawn, among n realms. -/
def LnkK (n : Nat) (x : Lnk) : Prop := 0 ≤ x.a ∧ x.a < x.b ∧ x.b < n ∧ 1 ≤ x.ai ∧ x.ai ≤ 6 ∧ 1 ≤ x.bi ∧ x.bi ≤ 6 ∧ 1 ≤ x.kind ∧ x.kind ≤ 3
theorem Grown.mem {n m : Nat} {L : List Lnk} (h : Grown n m L) : ∀ x ∈ L, LnkK n x := by
  induction h with
  | nil => simp
  | add a c k h h1 h2 h3 h4 h5 ih =>
    intro x hx
    unfold addL at hx
    split at hx
    · rename_i hc
      rw [List.mem_append, List.mem_singleton] at hx
      rcases hx with hx | rfl
      · exact ih x hx
      · refine ⟨h1, h2, h3, ?_, hc.1, ?_, hc.2, h4, h5⟩ <;> dsimp only <;> omega
    · exact ih x hx
theorem rl_asn_1 {x : ASd} : ∀ (w : World) cs, asnT.R w cs x → cs[1]? = some (.bool x.core) := fun w cs h => by rw [asn_form h]; rfl
theorem so_asn_1 {b : Nat} {x : ASd} {k : Bool} : ∀ (w : World) cs f, asnT.O b w cs x f → asnT.O b w (cs.set 1 (.bool k)) { x with core := k } f := fun w cs f h => ⟨by rw [asn_form (w := w) h.1]; rfl, h.2⟩
set_option maxHeartbeats 8000000 in
theorem spec_l5Any {b n c : Nat} {w : World} {v : Value} {os : List Ow} (S : Sep b w (curO v n c 109 :: os)) (K : CodeK b w v n) : Calls Try.prog 65 #[.pointer (some ⟨c, 0, none⟩)] w fun e w' =>
    ∃ (va vl : Value) (A : List ASd) (L : List Lnk), e = .returned (.agg #[va, vl]) ∧ (A.length ≤ 8 ∧ L.length ≤ 61) ∧ Sep b w' (slO asnT 121 va A :: slO linkT 78 vl L :: curO v n c 109 :: os) ∧ Below b w w' := by
  have X0 := Below.refl w.heap.size w
  refine enter Try.func65 rfl Try.ntmps65 rfl ?_
  have B := Below.refl b w
  have Hb := S.base
  refine w_seq ?_
  refine w_region ?_
  refine t_alloc S z_topo rfl ?_ rfl rfl
  intro g2 w1 x2 S
  have B := bx Hb B x2
  refine t_done ?_
  refine x_seq ?_
  refine w_seq ?_
  refine w_region ?_
  refine t_move rfl ?_ rfl
  have S := S.f1
  refine t_callf Try.call94 rfl (spec_l5Draw S (K.below B)) ?_ rfl
  rintro e w3 ⟨va6, vl6, A6, L6, rfl, hf6, S, x4⟩
  refine ⟨_, rfl, ?_⟩
  have B := B.trans x4
  refine t_alloc S z_topo rfl ?_ rfl rfl
  intro g3 w5 x6 S
  have B := bx Hb B x6
  refine t_stn S sb_topo rfl rfl rfl rfl (by intro zz hu; have hu : zz ∈ ([va6, vl6] : List Value) := hu; simp only [List.mem_cons, List.not_mem_nil, or_false] at hu; rcases hu with rfl | rfl <;> first | rfl | exact (SlR.cells (by first | assumption | exact S.tail.sl | exact S.tail.tail.sl | exact S.tail.tail.tail.sl | exact S.tail.tail.tail.tail.sl | exact S.tail.tail.tail.tail.tail.sl | exact S.tail.tail.tail.tail.tail.tail.sl | exact S.tail.tail.tail.tail.tail.tail.tail.sl | exact S.tail.tail.tail.tail.tail.tail.tail.tail.sl)).2) ?_
  intro w7 b8 S
  have B := B.trans b8
  refine t_done ?_
  refine x_seq ?_
  refine w_seq ?_
  refine w_region ?_
  refine t_move rfl ?_ rfl
  refine t_fldx fb_topo_0 rfl rfl ?_ rfl
  refine t_bx1 S.box ab_s_asn rfl rfl ?_ rfl
  refine t_len e_asn (S.tail.sl) rfl rfl ?_ rfl
  have S := S.f3
  refine t_callf Try.call64 rfl (spec_l1Below (A6.length : Int) S (K.below B)) ?_ rfl
  rintro e w9 ⟨y11, rfl, hf11, S, x10⟩
  refine ⟨_, rfl, ?_⟩
  have B := B.trans x10
  refine t_assign rfl ?_ rfl
  refine t_done ?_
  refine x_seq ?_
  refine w_seq ?_
  refine w_seq ?_
  refine w_region ?_
  refine t_move rfl ?_ rfl
  refine t_callf Try.call64 rfl (spec_l1Below 14 S (K.below B)) ?_ rfl
  rintro e w11 ⟨y13, rfl, hf13, S, x12⟩
  refine ⟨_, rfl, ?_⟩
  have B := B.trans x12
  refine t_done ?_
  refine x_seq ?_
  refine w_block ?_
  refine w_seq ?_
  refine w_region ?_
  refine t_eql rfl rfl ?_ rfl
  refine t_assign rfl ?_ rfl
  refine t_done ?_
  refine x_seq ?_
  obtain ⟨⟨hA1, hA8, hAK⟩, m, L0, hm, hG, hsub⟩ := hf6
  have hL : L6.length ≤ 60 := Nat.le_trans (Nat.le_trans hsub.length_le hG.len) hm
  have S := S.f2
  obtain ⟨Gva6, Cva6, rfl⟩ := S.addr (by omega)
  obtain ⟨e0, he0⟩ := getx (l := A6) (k := 0) (by omega)
  obtain ⟨ek, hek⟩ := getx (l := A6) (k := y11.toNat) (by omega)
  refine w_if rfl ?_ ?_
  · intro h0
    refine w_drawP [0, 2, 3, 4] (.alt (.st .fin 1 (.st .fin 5 (.st .fin 6 (.st .fin 7 (.st .fin 8 (.st .fin 9 (.st .fin 10 (.st .fin 11 (.st .fin 12 (.st .fin 13 .done)))))))))) (.st .fin 5 (.alt (.st .fin 1 (.st .fin 6 (.st .fin 7 (.st .fin 8 (.st .fin 9 (.st .fin 10 (.st .fin 11 (.st .fin 12 (.st .fin 13 .done))))))))) (.st .fin 6 (.alt (.st .fin 1 (.st .fin 7 (.st .fin 8 (.st .fin 9 (.st .fin 10 (.st .fin 11 (.st .fin 12 (.st .fin 13 .done)))))))) (.st .fin 7 (.alt (.st .fin 1 (.st .fin 8 (.st .fin 9 (.st .fin 10 (.st .fin 11 (.st .fin 12 (.st .fin 13 .done))))))) (.st .fin 8 (.alt (.st .fin 1 (.st .fin 9 (.st .fin 10 (.st .fin 11 (.st .fin 12 (.st .fin 13 .done)))))) (.st .fin 9 (.alt (.st .fin 1 (.st .fin 10 (.st .fin 11 (.st .fin 12 (.st .fin 13 .done))))) (.st .fin 10 (.st .fin 1 (.st .fin 11 (.st .fin 12 (.st .fin 13 .done)))))))))))))))) mixed (by kernel_rfl) ?_
    intro w13 x14
    have B := bx Hb B x14
    have S := S.below x14
    refine p_fldx fb_topo_0 rfl rfl ?_ rfl
    refine p_move rfl ?_ rfl
    refine p_move rfl ?_ rfl
    refine p_fldx fb_topo_0 rfl rfl ?_ rfl
    refine p_done ?_
    refine t_alt ?_ ?_
    · refine t_bx1 S.tail.tail.box ab_s_asn rfl rfl ?_ rfl
      refine t_bx1 S.tail.tail.box ab_s_asn rfl rfl ?_ rfl
      refine t_idxx e_asn (k := 0) rfl rfl (by first | rfl | omega) (by omega) rfl ?_ rfl
      refine t_fldx fb_asn_2 rfl rfl ?_ rfl
      refine t_ldS (T := asnT) (j := 2) S ab_int rfl he0 rfl rl_asn_2 ?_ rfl
      refine t_lit (T := intT) (l := [0, (-1), 2147483647, e0.key]) (css := ([0, (-1), 2147483647, e0.key]).map fun a => [I a]) int_flat S (fun w => bs_int4 _ _ _ _ w) rfl rfl rfl rfl (by simp [maxLen]) (litR_int _) ?_ rfl rfl
      intro u25 w15 x16 S
      have B := bx Hb B x16
      have S := S.f2
      refine t_callf Try.call79 rfl (spec_l1Int S (K.below B) (by simp)) ?_ rfl
      rintro e w17 ⟨y26, rfl, hf26, S, x18⟩
      refine ⟨_, rfl, ?_⟩
      have B := B.trans x18
      refine t_idxx e_asn (k := y11.toNat) rfl rfl (by first | rfl | omega) (by omega) rfl ?_ rfl
      refine t_fldx fb_asn_2 rfl rfl ?_ rfl
      have S := S.f2
      refine t_stS (T := asnT) (j := 2) (x' := { ek with key := y26 }) S (by first | rfl | ((try simp only [List.length_set]); first | omega | simp)) sb_int rfl rfl hek rfl (by decide) rfl rfl so_asn_2 ?_
      intro w19 b20 S
      have B := B.trans b20
      have hq21 := set_at (y := { ek with key := y26 }) hek
      refine t_done' ?_
      refine x_block_normal ?_
      refine x_seq ?_
      refine w_seq ?_
      refine w_region ?_
      refine t_bxn S.tail.tail.tail.box ab_topo sb_topo rfl rfl ?_ rfl
      have S := S.f5
      refine t_stn S sb_topo rfl rfl rfl rfl (by intro zz hu; have hu : zz ∈ ([(.slice (some ⟨Gva6, 0, none⟩) A6.length Cva6), vl6] : List Value) := hu; simp only [List.mem_cons, List.not_mem_nil, or_false] at hu; rcases hu with rfl | rfl <;> first | rfl | exact (SlR.cells (by first | assumption | exact S.tail.sl | exact S.tail.tail.sl | exact S.tail.tail.tail.sl | exact S.tail.tail.tail.tail.sl | exact S.tail.tail.tail.tail.tail.sl | exact S.tail.tail.tail.tail.tail.tail.sl | exact S.tail.tail.tail.tail.tail.tail.tail.sl | exact S.tail.tail.tail.tail.tail.tail.tail.tail.sl)).2) ?_
      intro w22 b23 S
      have B := B.trans b23
      refine t_done ?_
      refine x_seq ?_
      refine w_ret ?_
      refine x_retc rfl rfl S.box ab_topo sb_topo rfl ?_
      have S := S.tail
      have S := S.f2
      have S := S.tail
      have S := S.f2
      have S := S.tail
      have S := S.f1
      have S := S.f2
      have S := S.f2
      exact ⟨_, _, _, _, rfl, ⟨by first | omega | (rw [List.length_set]; omega), by omega⟩, S, B⟩
    · refine t_bx1 S.tail.tail.box ab_s_asn rfl rfl ?_ rfl
      refine t_alt ?_ ?_
      · refine t_bx1 S.tail.tail.box ab_s_asn rfl rfl ?_ rfl
        refine t_idxx e_asn (k := 0) rfl rfl (by first | rfl | omega) (by omega) rfl ?_ rfl
        refine t_fldx fb_asn_2 rfl rfl ?_ rfl
        refine t_ldS (T := asnT) (j := 2) S ab_int rfl he0 rfl rl_asn_2 ?_ rfl
        refine t_lit (T := intT) (l := [0, (-1), 2147483647, e0.key]) (css := ([0, (-1), 2147483647, e0.key]).map fun a => [I a]) int_flat S (fun w => bs_int4 _ _ _ _ w) rfl rfl rfl rfl (by simp [maxLen]) (litR_int _) ?_ rfl rfl
        intro u25 w24 x25 S
        have B := bx Hb B x25
        have S := S.f2
        refine t_callf Try.call79 rfl (spec_l1Int S (K.below B) (by simp)) ?_ rfl
        rintro e w26 ⟨y26, rfl, hf26, S, x27⟩
        refine ⟨_, rfl, ?_⟩
        have B := B.trans x27
        refine t_idxx e_asn (k := y11.toNat) rfl rfl (by first | rfl | omega) (by omega) rfl ?_ rfl
        refine t_fldx fb_asn_2 rfl rfl ?_ rfl
        have S := S.f2
        refine t_stS (T := asnT) (j := 2) (x' := { ek with key := y26 }) S (by first | rfl | ((try simp only [List.length_set]); first | omega | simp)) sb_int rfl rfl hek rfl (by decide) rfl rfl so_asn_2 ?_
        intro w28 b29 S
        have B := B.trans b29
        have hq30 := set_at (y := { ek with key := y26 }) hek
        refine t_done' ?_
        refine x_block_normal ?_
        refine x_seq ?_
        refine w_seq ?_
        refine w_region ?_
        refine t_bxn S.tail.tail.tail.box ab_topo sb_topo rfl rfl ?_ rfl
        have S := S.f5
        refine t_stn S sb_topo rfl rfl rfl rfl (by intro zz hu; have hu : zz ∈ ([(.slice (some ⟨Gva6, 0, none⟩) A6.length Cva6), vl6] : List Value) := hu; simp only [List.mem_cons, List.not_mem_nil, or_false] at hu; rcases hu with rfl | rfl <;> first | rfl | exact (SlR.cells (by first | assumption | exact S.tail.sl | exact S.tail.tail.sl | exact S.tail.tail.tail.sl | exact S.tail.tail.tail.tail.sl | exact S.tail.tail.tail.tail.tail.sl | exact S.tail.tail.tail.tail.tail.tail.sl | exact S.tail.tail.tail.tail.tail.tail.tail.sl | exact S.tail.tail.tail.tail.tail.tail.tail.tail.sl)).2) ?_
        intro w31 b32 S
        have B := B.trans b32
        refine t_done ?_
        refine x_seq ?_
        refine w_ret ?_
        refine x_retc rfl rfl S.box ab_topo sb_topo rfl ?_
        have S := S.tail
        have S := S.f2
        have S := S.tail
        have S := S.f2
        have S := S.tail
        have S := S.f1
        have S := S.f2
        have S := S.f2
        exact ⟨_, _, _, _, rfl, ⟨by first | omega | (rw [List.length_set]; omega), by omega⟩, S, B⟩
      · refine t_idxx e_asn (k := 0) rfl rfl (by first | rfl | omega) (by omega) rfl ?_ rfl
        refine t_alt ?_ ?_
        · refine t_bx1 S.tail.tail.box ab_s_asn rfl rfl ?_ rfl
          refine t_fldx fb_asn_2 rfl rfl ?_ rfl
          refine t_ldS (T := asnT) (j := 2) S ab_int rfl he0 rfl rl_asn_2 ?_ rfl
          refine t_lit (T := intT) (l := [0, (-1), 2147483647, e0.key]) (css := ([0, (-1), 2147483647, e0.key]).map fun a => [I a]) int_flat S (fun w => bs_int4 _ _ _ _ w) rfl rfl rfl rfl (by simp [maxLen]) (litR_int _) ?_ rfl rfl
          intro u25 w33 x34 S
          have B := bx Hb B x34
          have S := S.f2
          refine t_callf Try.call79 rfl (spec_l1Int S (K.below B) (by simp)) ?_ rfl
          rintro e w35 ⟨y26, rfl, hf26, S, x36⟩
          refine ⟨_, rfl, ?_⟩
          have B := B.trans x36
          refine t_idxx e_asn (k := y11.toNat) rfl rfl (by first | rfl | omega) (by omega) rfl ?_ rfl
          refine t_fldx fb_asn_2 rfl rfl ?_ rfl
          have S := S.f2
          refine t_stS (T := asnT) (j := 2) (x' := { ek with key := y26 }) S (by first | rfl | ((try simp only [List.length_set]); first | omega | simp)) sb_int rfl rfl hek rfl (by decide) rfl rfl so_asn_2 ?_
          intro w37 b38 S
          have B := B.trans b38
          have hq39 := set_at (y := { ek with key := y26 }) hek
          refine t_done' ?_
          refine x_block_normal ?_
          refine x_seq ?_
          refine w_seq ?_
          refine w_region ?_
          refine t_bxn S.tail.tail.tail.box ab_topo sb_topo rfl rfl ?_ rfl
          have S := S.f5
          refine t_stn S sb_topo rfl rfl rfl rfl (by intro zz hu; have hu : zz ∈ ([(.slice (some ⟨Gva6, 0, none⟩) A6.length Cva6), vl6] : List Value) := hu; simp only [List.mem_cons, List.not_mem_nil, or_false] at hu; rcases hu with rfl | rfl <;> first | rfl | exact (SlR.cells (by first | assumption | exact S.tail.sl | exact S.tail.tail.sl | exact S.tail.tail.tail.sl | exact S.tail.tail.tail.tail.sl | exact S.tail.tail.tail.tail.tail.sl | exact S.tail.tail.tail.tail.tail.tail.sl | exact S.tail.tail.tail.tail.tail.tail.tail.sl | exact S.tail.tail.tail.tail.tail.tail.tail.tail.sl)).2) ?_
          intro w40 b41 S
          have B := B.trans b41
          refine t_done ?_
          refine x_seq ?_
          refine w_ret ?_
          refine x_retc rfl rfl S.box ab_topo sb_topo rfl ?_
          have S := S.tail
          have S := S.f2
          have S := S.tail
          have S := S.f2
          have S := S.tail
          have S := S.f1
          have S := S.f2
          have S := S.f2
          exact ⟨_, _, _, _, rfl, ⟨by first | omega | (rw [List.length_set]; omega), by omega⟩, S, B⟩
        · refine t_fldx fb_asn_2 rfl rfl ?_ rfl
          refine t_alt ?_ ?_
          · refine t_bx1 S.tail.tail.box ab_s_asn rfl rfl ?_ rfl
            refine t_ldS (T := asnT) (j := 2) S ab_int rfl he0 rfl rl_asn_2 ?_ rfl
            refine t_lit (T := intT) (l := [0, (-1), 2147483647, e0.key]) (css := ([0, (-1), 2147483647, e0.key]).map fun a => [I a]) int_flat S (fun w => bs_int4 _ _ _ _ w) rfl rfl rfl rfl (by simp [maxLen]) (litR_int _) ?_ rfl rfl
            intro u25 w42 x43 S
            have B := bx Hb B x43
            have S := S.f2
            refine t_callf Try.call79 rfl (spec_l1Int S (K.below B) (by simp)) ?_ rfl
            rintro e w44 ⟨y26, rfl, hf26, S, x45⟩
            refine ⟨_, rfl, ?_⟩
            have B := B.trans x45
            refine t_idxx e_asn (k := y11.toNat) rfl rfl (by first | rfl | omega) (by omega) rfl ?_ rfl
            refine t_fldx fb_asn_2 rfl rfl ?_ rfl
            have S := S.f2
            refine t_stS (T := asnT) (j := 2) (x' := { ek with key := y26 }) S (by first | rfl | ((try simp only [List.length_set]); first | omega | simp)) sb_int rfl rfl hek rfl (by decide) rfl rfl so_asn_2 ?_
            intro w46 b47 S
            have B := B.trans b47
            have hq48 := set_at (y := { ek with key := y26 }) hek
            refine t_done' ?_
            refine x_block_normal ?_
            refine x_seq ?_
            refine w_seq ?_
            refine w_region ?_
            refine t_bxn S.tail.tail.tail.box ab_topo sb_topo rfl rfl ?_ rfl
            have S := S.f5
            refine t_stn S sb_topo rfl rfl rfl rfl (by intro zz hu; have hu : zz ∈ ([(.slice (some ⟨Gva6, 0, none⟩) A6.length Cva6), vl6] : List Value) := hu; simp only [List.mem_cons, List.not_mem_nil, or_false] at hu; rcases hu with rfl | rfl <;> first | rfl | exact (SlR.cells (by first | assumption | exact S.tail.sl | exact S.tail.tail.sl | exact S.tail.tail.tail.sl | exact S.tail.tail.tail.tail.sl | exact S.tail.tail.tail.tail.tail.sl | exact S.tail.tail.tail.tail.tail.tail.sl | exact S.tail.tail.tail.tail.tail.tail.tail.sl | exact S.tail.tail.tail.tail.tail.tail.tail.tail.sl)).2) ?_
            intro w49 b50 S
            have B := B.trans b50
            refine t_done ?_
            refine x_seq ?_
            refine w_ret ?_
            refine x_retc rfl rfl S.box ab_topo sb_topo rfl ?_
            have S := S.tail
            have S := S.f2
            have S := S.tail
            have S := S.f2
            have S := S.tail
            have S := S.f1
            have S := S.f2
            have S := S.f2
            exact ⟨_, _, _, _, rfl, ⟨by first | omega | (rw [List.length_set]; omega), by omega⟩, S, B⟩
          · refine t_ldS (T := asnT) (j := 2) S ab_int rfl he0 rfl rl_asn_2 ?_ rfl
            refine t_alt ?_ ?_
            · refine t_bx1 S.tail.tail.box ab_s_asn rfl rfl ?_ rfl
              refine t_lit (T := intT) (l := [0, (-1), 2147483647, e0.key]) (css := ([0, (-1), 2147483647, e0.key]).map fun a => [I a]) int_flat S (fun w => bs_int4 _ _ _ _ w) rfl rfl rfl rfl (by simp [maxLen]) (litR_int _) ?_ rfl rfl
              intro u25 w51 x52 S
              have B := bx Hb B x52
              have S := S.f2
              refine t_callf Try.call79 rfl (spec_l1Int S (K.below B) (by simp)) ?_ rfl
              rintro e w53 ⟨y26, rfl, hf26, S, x54⟩
              refine ⟨_, rfl, ?_⟩
              have B := B.trans x54
              refine t_idxx e_asn (k := y11.toNat) rfl rfl (by first | rfl | omega) (by omega) rfl ?_ rfl
              refine t_fldx fb_asn_2 rfl rfl ?_ rfl
              have S := S.f2
              refine t_stS (T := asnT) (j := 2) (x' := { ek with key := y26 }) S (by first | rfl | ((try simp only [List.length_set]); first | omega | simp)) sb_int rfl rfl hek rfl (by decide) rfl rfl so_asn_2 ?_
              intro w55 b56 S
              have B := B.trans b56
              have hq57 := set_at (y := { ek with key := y26 }) hek
              refine t_done' ?_
              refine x_block_normal ?_
              refine x_seq ?_
              refine w_seq ?_
              refine w_region ?_
              refine t_bxn S.tail.tail.tail.box ab_topo sb_topo rfl rfl ?_ rfl
              have S := S.f5
              refine t_stn S sb_topo rfl rfl rfl rfl (by intro zz hu; have hu : zz ∈ ([(.slice (some ⟨Gva6, 0, none⟩) A6.length Cva6), vl6] : List Value) := hu; simp only [List.mem_cons, List.not_mem_nil, or_false] at hu; rcases hu with rfl | rfl <;> first | rfl | exact (SlR.cells (by first | assumption | exact S.tail.sl | exact S.tail.tail.sl | exact S.tail.tail.tail.sl | exact S.tail.tail.tail.tail.sl | exact S.tail.tail.tail.tail.tail.sl | exact S.tail.tail.tail.tail.tail.tail.sl | exact S.tail.tail.tail.tail.tail.tail.tail.sl | exact S.tail.tail.tail.tail.tail.tail.tail.tail.sl)).2) ?_
              intro w58 b59 S
              have B := B.trans b59
              refine t_done ?_
              refine x_seq ?_
              refine w_ret ?_
              refine x_retc rfl rfl S.box ab_topo sb_topo rfl ?_
              have S := S.tail
              have S := S.f2
              have S := S.tail
              have S := S.f2
              have S := S.tail
              have S := S.f1
              have S := S.f2
              have S := S.f2
              exact ⟨_, _, _, _, rfl, ⟨by first | omega | (rw [List.length_set]; omega), by omega⟩, S, B⟩
            · refine t_lit (T := intT) (l := [0, (-1), 2147483647, e0.key]) (css := ([0, (-1), 2147483647, e0.key]).map fun a => [I a]) int_flat S (fun w => bs_int4 _ _ _ _ w) rfl rfl rfl rfl (by simp [maxLen]) (litR_int _) ?_ rfl rfl
              intro u25 w60 x61 S
              have B := bx Hb B x61
              refine t_alt ?_ ?_
              · refine t_bx1 S.tail.tail.tail.box ab_s_asn rfl rfl ?_ rfl
                have S := S.f2
                refine t_callf Try.call79 rfl (spec_l1Int S (K.below B) (by simp)) ?_ rfl
                rintro e w62 ⟨y26, rfl, hf26, S, x63⟩
                refine ⟨_, rfl, ?_⟩
                have B := B.trans x63
                refine t_idxx e_asn (k := y11.toNat) rfl rfl (by first | rfl | omega) (by omega) rfl ?_ rfl
                refine t_fldx fb_asn_2 rfl rfl ?_ rfl
                have S := S.f2
                refine t_stS (T := asnT) (j := 2) (x' := { ek with key := y26 }) S (by first | rfl | ((try simp only [List.length_set]); first | omega | simp)) sb_int rfl rfl hek rfl (by decide) rfl rfl so_asn_2 ?_
                intro w64 b65 S
                have B := B.trans b65
                have hq66 := set_at (y := { ek with key := y26 }) hek
                refine t_done' ?_
                refine x_block_normal ?_
                refine x_seq ?_
                refine w_seq ?_
                refine w_region ?_
                refine t_bxn S.tail.tail.tail.box ab_topo sb_topo rfl rfl ?_ rfl
                have S := S.f5
                refine t_stn S sb_topo rfl rfl rfl rfl (by intro zz hu; have hu : zz ∈ ([(.slice (some ⟨Gva6, 0, none⟩) A6.length Cva6), vl6] : List Value) := hu; simp only [List.mem_cons, List.not_mem_nil, or_false] at hu; rcases hu with rfl | rfl <;> first | rfl | exact (SlR.cells (by first | assumption | exact S.tail.sl | exact S.tail.tail.sl | exact S.tail.tail.tail.sl | exact S.tail.tail.tail.tail.sl | exact S.tail.tail.tail.tail.tail.sl | exact S.tail.tail.tail.tail.tail.tail.sl | exact S.tail.tail.tail.tail.tail.tail.tail.sl | exact S.tail.tail.tail.tail.tail.tail.tail.tail.sl)).2) ?_
                intro w67 b68 S
                have B := B.trans b68
                refine t_done ?_
                refine x_seq ?_
                refine w_ret ?_
                refine x_retc rfl rfl S.box ab_topo sb_topo rfl ?_
                have S := S.tail
                have S := S.f2
                have S := S.tail
                have S := S.f2
                have S := S.tail
                have S := S.f1
                have S := S.f2
                have S := S.f2
                exact ⟨_, _, _, _, rfl, ⟨by first | omega | (rw [List.length_set]; omega), by omega⟩, S, B⟩
              · have S := S.f2
                refine t_callf Try.call79 rfl (spec_l1Int S (K.below B) (by simp)) ?_ rfl
                rintro e w69 ⟨y26, rfl, hf26, S, x70⟩
                refine ⟨_, rfl, ?_⟩
                have B := B.trans x70
                refine t_bx1 S.tail.tail.tail.box ab_s_asn rfl rfl ?_ rfl
                refine t_idxx e_asn (k := y11.toNat) rfl rfl (by first | rfl | omega) (by omega) rfl ?_ rfl
                refine t_fldx fb_asn_2 rfl rfl ?_ rfl
                have S := S.f2
                refine t_stS (T := asnT) (j := 2) (x' := { ek with key := y26 }) S (by first | rfl | ((try simp only [List.length_set]); first | omega | simp)) sb_int rfl rfl hek rfl (by decide) rfl rfl so_asn_2 ?_
                intro w71 b72 S
                have B := B.trans b72
                have hq73 := set_at (y := { ek with key := y26 }) hek
                refine t_done' ?_
                refine x_block_normal ?_
                refine x_seq ?_
                refine w_seq ?_
                refine w_region ?_
                refine t_bxn S.tail.tail.tail.box ab_topo sb_topo rfl rfl ?_ rfl
                have S := S.f5
                refine t_stn S sb_topo rfl rfl rfl rfl (by intro zz hu; have hu : zz ∈ ([(.slice (some ⟨Gva6, 0, none⟩) A6.length Cva6), vl6] : List Value) := hu; simp only [List.mem_cons, List.not_mem_nil, or_false] at hu; rcases hu with rfl | rfl <;> first | rfl | exact (SlR.cells (by first | assumption | exact S.tail.sl | exact S.tail.tail.sl | exact S.tail.tail.tail.sl | exact S.tail.tail.tail.tail.sl | exact S.tail.tail.tail.tail.tail.sl | exact S.tail.tail.tail.tail.tail.tail.sl | exact S.tail.tail.tail.tail.tail.tail.tail.sl | exact S.tail.tail.tail.tail.tail.tail.tail.tail.sl)).2) ?_
                intro w74 b75 S
                have B := B.trans b75
                refine t_done ?_
                refine x_seq ?_
                refine w_ret ?_
                refine x_retc rfl rfl S.box ab_topo sb_topo rfl ?_
                have S := S.tail
                have S := S.f2
                have S := S.tail
                have S := S.f2
                have S := S.tail
                have S := S.f1
                have S := S.f2
                have S := S.f2
                exact ⟨_, _, _, _, rfl, ⟨by first | omega | (rw [List.length_set]; omega), by omega⟩, S, B⟩
  · intro h0
    refine w_seq ?_
    refine w_region ?_
    refine t_eql rfl rfl ?_ rfl
    refine t_assign rfl ?_ rfl
    refine t_done ?_
    refine x_seq ?_
    refine w_if rfl ?_ ?_
    · intro h1
      refine w_drawP [0, 2, 3] (.alt (.st .fin 1 (.st .fin 4 (.st .fin 5 (.st .fin 6 (.st .fin 7 (.st .fin 8 .done)))))) (.st .fin 4 (.alt (.st .fin 1 (.st .fin 5 (.st .fin 6 (.st .fin 7 (.st .fin 8 .done))))) (.st .fin 5 (.st .fin 1 (.st .fin 6 (.st .fin 7 (.st .fin 8 .done)))))))) mixed (by kernel_rfl) ?_
      intro w76 x77
      have B := bx Hb B x77
      have S := S.below x77
      refine p_fldx fb_topo_0 rfl rfl ?_ rfl
      refine p_move rfl ?_ rfl
      refine p_move rfl ?_ rfl
      refine p_done ?_
      refine t_alt ?_ ?_
      · refine t_bx1 S.tail.tail.box ab_s_asn rfl rfl ?_ rfl
        refine t_lit (T := intT) (l := [(-1), 3, 2]) (css := ([(-1), 3, 2]).map fun a => [I a]) int_flat S (fun w => bs_int3 _ _ _ w) rfl rfl rfl rfl (by simp [maxLen]) (litR_int _) ?_ rfl rfl
        intro u35 w78 x79 S
        have B := bx Hb B x79
        have S := S.f2
        refine t_callf Try.call79 rfl (spec_l1Int S (K.below B) (by simp)) ?_ rfl
        rintro e w80 ⟨y36, rfl, hf36, S, x81⟩
        refine ⟨_, rfl, ?_⟩
        have B := B.trans x81
        refine t_idxx e_asn (k := y11.toNat) rfl rfl (by first | rfl | omega) (by omega) rfl ?_ rfl
        refine t_fldx fb_asn_0 rfl rfl ?_ rfl
        have S := S.f2
        refine t_stS (T := asnT) (j := 0) (x' := { ek with isd := y36 }) S (by first | rfl | ((try simp only [List.length_set]); first | omega | simp)) sb_int rfl rfl hek rfl (by decide) rfl rfl so_asn_0 ?_
        intro w82 b83 S
        have B := B.trans b83
        have hq84 := set_at (y := { ek with isd := y36 }) hek
        refine t_done' ?_
        refine x_block_normal ?_
        refine x_seq ?_
        refine w_seq ?_
        refine w_region ?_
        refine t_bxn S.tail.tail.tail.box ab_topo sb_topo rfl rfl ?_ rfl
        have S := S.f5
        refine t_stn S sb_topo rfl rfl rfl rfl (by intro zz hu; have hu : zz ∈ ([(.slice (some ⟨Gva6, 0, none⟩) A6.length Cva6), vl6] : List Value) := hu; simp only [List.mem_cons, List.not_mem_nil, or_false] at hu; rcases hu with rfl | rfl <;> first | rfl | exact (SlR.cells (by first | assumption | exact S.tail.sl | exact S.tail.tail.sl | exact S.tail.tail.tail.sl | exact S.tail.tail.tail.tail.sl | exact S.tail.tail.tail.tail.tail.sl | exact S.tail.tail.tail.tail.tail.tail.sl | exact S.tail.tail.tail.tail.tail.tail.tail.sl | exact S.tail.tail.tail.tail.tail.tail.tail.tail.sl)).2) ?_
        intro w85 b86 S
        have B := B.trans b86
        refine t_done ?_
        refine x_seq ?_
        refine w_ret ?_
        refine x_retc rfl rfl S.box ab_topo sb_topo rfl ?_
        have S := S.tail
        have S := S.f2
        have S := S.tail
        have S := S.f2
        have S := S.tail
        have S := S.f1
        have S := S.f2
        have S := S.f2
        exact ⟨_, _, _, _, rfl, ⟨by first | omega | (rw [List.length_set]; omega), by omega⟩, S, B⟩
      · refine t_lit (T := intT) (l := [(-1), 3, 2]) (css := ([(-1), 3, 2]).map fun a => [I a]) int_flat S (fun w => bs_int3 _ _ _ w) rfl rfl rfl rfl (by simp [maxLen]) (litR_int _) ?_ rfl rfl
        intro u35 w87 x88 S
        have B := bx Hb B x88
        refine t_alt ?_ ?_
        · refine t_bx1 S.tail.tail.tail.box ab_s_asn rfl rfl ?_ rfl
          have S := S.f2
          refine t_callf Try.call79 rfl (spec_l1Int S (K.below B) (by simp)) ?_ rfl
          rintro e w89 ⟨y36, rfl, hf36, S, x90⟩
          refine ⟨_, rfl, ?_⟩
          have B := B.trans x90
          refine t_idxx e_asn (k := y11.toNat) rfl rfl (by first | rfl | omega) (by omega) rfl ?_ rfl
          refine t_fldx fb_asn_0 rfl rfl ?_ rfl
          have S := S.f2
          refine t_stS (T := asnT) (j := 0) (x' := { ek with isd := y36 }) S (by first | rfl | ((try simp only [List.length_set]); first | omega | simp)) sb_int rfl rfl hek rfl (by decide) rfl rfl so_asn_0 ?_
          intro w91 b92 S
          have B := B.trans b92
          have hq93 := set_at (y := { ek with isd := y36 }) hek
          refine t_done' ?_
          refine x_block_normal ?_
          refine x_seq ?_
          refine w_seq ?_
          refine w_region ?_
          refine t_bxn S.tail.tail.tail.box ab_topo sb_topo rfl rfl ?_ rfl
          have S := S.f5
          refine t_stn S sb_topo rfl rfl rfl rfl (by intro zz hu; have hu : zz ∈ ([(.slice (some ⟨Gva6, 0, none⟩) A6.length Cva6), vl6] : List Value) := hu; simp only [List.mem_cons, List.not_mem_nil, or_false] at hu; rcases hu with rfl | rfl <;> first | rfl | exact (SlR.cells (by first | assumption | exact S.tail.sl | exact S.tail.tail.sl | exact S.tail.tail.tail.sl | exact S.tail.tail.tail.tail.sl | exact S.tail.tail.tail.tail.tail.sl | exact S.tail.tail.tail.tail.tail.tail.sl | exact S.tail.tail.tail.tail.tail.tail.tail.sl | exact S.tail.tail.tail.tail.tail.tail.tail.tail.sl)).2) ?_
          intro w94 b95 S
          have B := B.trans b95
          refine t_done ?_
          refine x_seq ?_
          refine w_ret ?_
          refine x_retc rfl rfl S.box ab_topo sb_topo rfl ?_
          have S := S.tail
          have S := S.f2
          have S := S.tail
          have S := S.f2
          have S := S.tail
          have S := S.f1
          have S := S.f2
          have S := S.f2
          exact ⟨_, _, _, _, rfl, ⟨by first | omega | (rw [List.length_set]; omega), by omega⟩, S, B⟩
        · have S := S.f2
          refine t_callf Try.call79 rfl (spec_l1Int S (K.below B) (by simp)) ?_ rfl
          rintro e w96 ⟨y36, rfl, hf36, S, x97⟩
          refine ⟨_, rfl, ?_⟩
          have B := B.trans x97
          refine t_bx1 S.tail.tail.tail.box ab_s_asn rfl rfl ?_ rfl
          refine t_idxx e_asn (k := y11.toNat) rfl rfl (by first | rfl | omega) (by omega) rfl ?_ rfl
          refine t_fldx fb_asn_0 rfl rfl ?_ rfl
          have S := S.f2
          refine t_stS (T := asnT) (j := 0) (x' := { ek with isd := y36 }) S (by first | rfl | ((try simp only [List.length_set]); first | omega | simp)) sb_int rfl rfl hek rfl (by decide) rfl rfl so_asn_0 ?_
          intro w98 b99 S
          have B := B.trans b99
          have hq100 := set_at (y := { ek with isd := y36 }) hek
          refine t_done' ?_
          refine x_block_normal ?_
          refine x_seq ?_
          refine w_seq ?_
          refine w_region ?_
          refine t_bxn S.tail.tail.tail.box ab_topo sb_topo rfl rfl ?_ rfl
          have S := S.f5
          refine t_stn S sb_topo rfl rfl rfl rfl (by intro zz hu; have hu : zz ∈ ([(.slice (some ⟨Gva6, 0, none⟩) A6.length Cva6), vl6] : List Value) := hu; simp only [List.mem_cons, List.not_mem_nil, or_false] at hu; rcases hu with rfl | rfl <;> first | rfl | exact (SlR.cells (by first | assumption | exact S.tail.sl | exact S.tail.tail.sl | exact S.tail.tail.tail.sl | exact S.tail.tail.tail.tail.sl | exact S.tail.tail.tail.tail.tail.sl | exact S.tail.tail.tail.tail.tail.tail.sl | exact S.tail.tail.tail.tail.tail.tail.tail.sl | exact S.tail.tail.tail.tail.tail.tail.tail.tail.sl)).2) ?_
          intro w101 b102 S
          have B := B.trans b102
          refine t_done ?_
          refine x_seq ?_
          refine w_ret ?_
          refine x_retc rfl rfl S.box ab_topo sb_topo rfl ?_
          have S := S.tail
          have S := S.f2
          have S := S.tail
          have S := S.f2
          have S := S.tail
          have S := S.f1
          have S := S.f2
          have S := S.f2
          exact ⟨_, _, _, _, rfl, ⟨by first | omega | (rw [List.length_set]; omega), by omega⟩, S, B⟩
    · intro h1
      refine w_seq ?_
      refine w_region ?_
      refine t_eql rfl rfl ?_ rfl
      refine t_assign rfl ?_ rfl
      refine t_done ?_
      refine x_seq ?_
      refine w_if rfl ?_ ?_
      · intro h2
        refine w_draw (.st .take 0 (.st .take 1 (.st .take 2 (.st .take 3 (.st .take 4 (.st .take 5 (.st .take 6 (.st .take 7 (.st .take 8 (.st .take 9 (.st .take 10 (.st .take 11 (.st .fin 12 .done))))))))))))) mixed (by kernel_rfl) ?_
        intro w103 x104
        have B := bx Hb B x104
        have S := S.below x104
        refine t_fldx fb_topo_0 rfl rfl ?_ rfl
        refine t_bx1 S.tail.tail.box ab_s_asn rfl rfl ?_ rfl
        refine t_move rfl ?_ rfl
        refine t_fldx fb_topo_0 rfl rfl ?_ rfl
        refine t_bx1 S.tail.tail.box ab_s_asn rfl rfl ?_ rfl
        refine t_move rfl ?_ rfl
        refine t_idxx e_asn (k := y11.toNat) rfl rfl (by first | rfl | omega) (by omega) rfl ?_ rfl
        refine t_fldx fb_asn_1 rfl rfl ?_ rfl
        refine t_ldS (T := asnT) (j := 1) S ab_bool rfl hek rfl rl_asn_1 ?_ rfl
        refine t_notb rfl ?_ rfl
        refine t_idxx e_asn (k := y11.toNat) rfl rfl (by first | rfl | omega) (by omega) rfl ?_ rfl
        refine t_fldx fb_asn_1 rfl rfl ?_ rfl
        refine t_stS (T := asnT) (j := 1) (x' := { ek with core := !ek.core }) S (by first | rfl | ((try simp only [List.length_set]); first | omega | simp)) sb_bool rfl rfl hek rfl (by decide) rfl rfl so_asn_1 ?_
        intro w105 b106 S
        have B := B.trans b106
        have hq107 := set_at (y := { ek with core := !ek.core }) hek
        refine t_done' ?_
        refine x_block_normal ?_
        refine x_seq ?_
        refine w_seq ?_
        refine w_region ?_
        refine t_bxn S.tail.tail.box ab_topo sb_topo rfl rfl ?_ rfl
        have S := S.f4
        refine t_stn S sb_topo rfl rfl rfl rfl (by intro zz hu; have hu : zz ∈ ([(.slice (some ⟨Gva6, 0, none⟩) A6.length Cva6), vl6] : List Value) := hu; simp only [List.mem_cons, List.not_mem_nil, or_false] at hu; rcases hu with rfl | rfl <;> first | rfl | exact (SlR.cells (by first | assumption | exact S.tail.sl | exact S.tail.tail.sl | exact S.tail.tail.tail.sl | exact S.tail.tail.tail.tail.sl | exact S.tail.tail.tail.tail.tail.sl | exact S.tail.tail.tail.tail.tail.tail.sl | exact S.tail.tail.tail.tail.tail.tail.tail.sl | exact S.tail.tail.tail.tail.tail.tail.tail.tail.sl)).2) ?_
        intro w108 b109 S
        have B := B.trans b109
        refine t_done ?_
        refine x_seq ?_
        refine w_ret ?_
        refine x_retc rfl rfl S.box ab_topo sb_topo rfl ?_
        have S := S.tail
        have S := S.f2
        have S := S.tail
        have S := S.f1
        have S := S.f2
        have S := S.f2
        exact ⟨_, _, _, _, rfl, ⟨by first | omega | (rw [List.length_set]; omega), by omega⟩, S, B⟩
      · intro h2
        refine w_seq ?_
        refine w_region ?_
        refine t_eql rfl rfl ?_ rfl
        refine t_assign rfl ?_ rfl
        refine t_done ?_
        refine x_seq ?_
        refine w_if rfl ?_ ?_
        · intro h3
          refine w_seq ?_
          refine w_region ?_
          refine t_fldx fb_topo_1 rfl rfl ?_ rfl
          refine t_bx1 S.tail.tail.box ab_s_link rfl rfl ?_ rfl
          refine t_len e_link (S.tail.tail.tail.sl) rfl rfl ?_ rfl
          refine t_gtr rfl rfl ?_ rfl
          refine t_done ?_
          refine x_seq ?_
          refine w_if rfl ?_ ?_
          · intro h4
            refine w_drawP [0, 2, 4, 5] (.alt (.st .fin 1 (.alt (.st .fin 3 (.st .fin 6 (.st .fin 7 (.st .fin 8 (.st .fin 9 (.st .fin 10 (.st .fin 11 (.st .fin 12 (.st .fin 13 (.st .fin 14 .done)))))))))) (.st .fin 6 (.alt (.st .fin 3 (.st .fin 7 (.st .fin 8 (.st .fin 9 (.st .fin 10 (.st .fin 11 (.st .fin 12 (.st .fin 13 (.st .fin 14 .done))))))))) (.st .fin 7 (.alt (.st .fin 3 (.st .fin 8 (.st .fin 9 (.st .fin 10 (.st .fin 11 (.st .fin 12 (.st .fin 13 (.st .fin 14 .done)))))))) (.st .fin 8 (.st .fin 3 (.st .fin 9 (.st .fin 10 (.st .fin 11 (.st .fin 12 (.st .fin 13 (.st .fin 14 .done)))))))))))))) (.alt (.st .fin 3 (.alt (.st .fin 1 (.st .fin 6 (.st .fin 7 (.st .fin 8 (.st .fin 9 (.st .fin 10 (.st .fin 11 (.st .fin 12 (.st .fin 13 (.st .fin 14 .done)))))))))) (.st .fin 6 (.alt (.st .fin 1 (.st .fin 7 (.st .fin 8 (.st .fin 9 (.st .fin 10 (.st .fin 11 (.st .fin 12 (.st .fin 13 (.st .fin 14 .done))))))))) (.st .fin 7 (.alt (.st .fin 1 (.st .fin 8 (.st .fin 9 (.st .fin 10 (.st .fin 11 (.st .fin 12 (.st .fin 13 (.st .fin 14 .done)))))))) (.st .fin 8 (.alt (.st .fin 1 (.st .fin 9 (.st .fin 10 (.st .fin 11 (.st .fin 12 (.st .fin 13 (.st .fin 14 .done))))))) (.st .fin 9 (.alt (.st .fin 1 (.st .fin 10 (.st .fin 11 (.st .fin 12 (.st .fin 13 (.st .fin 14 .done)))))) (.st .fin 10 (.alt (.st .fin 1 (.st .fin 11 (.st .fin 12 (.st .fin 13 (.st .fin 14 .done))))) (.st .fin 11 (.st .fin 1 (.st .fin 12 (.st .fin 13 (.st .fin 14 .done))))))))))))))))) (.st .fin 6 (.alt (.st .fin 1 (.alt (.st .fin 3 (.st .fin 7 (.st .fin 8 (.st .fin 9 (.st .fin 10 (.st .fin 11 (.st .fin 12 (.st .fin 13 (.st .fin 14 .done))))))))) (.st .fin 7 (.alt (.st .fin 3 (.st .fin 8 (.st .fin 9 (.st .fin 10 (.st .fin 11 (.st .fin 12 (.st .fin 13 (.st .fin 14 .done)))))))) (.st .fin 8 (.st .fin 3 (.st .fin 9 (.st .fin 10 (.st .fin 11 (.st .fin 12 (.st .fin 13 (.st .fin 14 .done)))))))))))) (.alt (.st .fin 3 (.alt (.st .fin 1 (.st .fin 7 (.st .fin 8 (.st .fin 9 (.st .fin 10 (.st .fin 11 (.st .fin 12 (.st .fin 13 (.st .fin 14 .done))))))))) (.st .fin 7 (.alt (.st .fin 1 (.st .fin 8 (.st .fin 9 (.st .fin 10 (.st .fin 11 (.st .fin 12 (.st .fin 13 (.st .fin 14 .done)))))))) (.st .fin 8 (.alt (.st .fin 1 (.st .fin 9 (.st .fin 10 (.st .fin 11 (.st .fin 12 (.st .fin 13 (.st .fin 14 .done))))))) (.st .fin 9 (.alt (.st .fin 1 (.st .fin 10 (.st .fin 11 (.st .fin 12 (.st .fin 13 (.st .fin 14 .done)))))) (.st .fin 10 (.alt (.st .fin 1 (.st .fin 11 (.st .fin 12 (.st .fin 13 (.st .fin 14 .done))))) (.st .fin 11 (.st .fin 1 (.st .fin 12 (.st .fin 13 (.st .fin 14 .done))))))))))))))) (.st .fin 7 (.alt (.st .fin 1 (.alt (.st .fin 3 (.st .fin 8 (.st .fin 9 (.st .fin 10 (.st .fin 11 (.st .fin 12 (.st .fin 13 (.st .fin 14 .done)))))))) (.st .fin 8 (.st .fin 3 (.st .fin 9 (.st .fin 10 (.st .fin 11 (.st .fin 12 (.st .fin 13 (.st .fin 14 .done)))))))))) (.alt (.st .fin 3 (.alt (.st .fin 1 (.st .fin 8 (.st .fin 9 (.st .fin 10 (.st .fin 11 (.st .fin 12 (.st .fin 13 (.st .fin 14 .done)))))))) (.st .fin 8 (.alt (.st .fin 1 (.st .fin 9 (.st .fin 10 (.st .fin 11 (.st .fin 12 (.st .fin 13 (.st .fin 14 .done))))))) (.st .fin 9 (.alt (.st .fin 1 (.st .fin 10 (.st .fin 11 (.st .fin 12 (.st .fin 13 (.st .fin 14 .done)))))) (.st .fin 10 (.alt (.st .fin 1 (.st .fin 11 (.st .fin 12 (.st .fin 13 (.st .fin 14 .done))))) (.st .fin 11 (.st .fin 1 (.st .fin 12 (.st .fin 13 (.st .fin 14 .done))))))))))))) (.st .fin 8 (.alt (.st .fin 1 (.st .fin 3 (.st .fin 9 (.st .fin 10 (.st .fin 11 (.st .fin 12 (.st .fin 13 (.st .fin 14 .done)))))))) (.st .fin 3 (.alt (.st .fin 1 (.st .fin 9 (.st .fin 10 (.st .fin 11 (.st .fin 12 (.st .fin 13 (.st .fin 14 .done))))))) (.st .fin 9 (.alt (.st .fin 1 (.st .fin 10 (.st .fin 11 (.st .fin 12 (.st .fin 13 (.st .fin 14 .done)))))) (.st .fin 10 (.alt (.st .fin 1 (.st .fin 11 (.st .fin 12 (.st .fin 13 (.st .fin 14 .done))))) (.st .fin 11 (.st .fin 1 (.st .fin 12 (.st .fin 13 (.st .fin 14 .done))))))))))))))))))))) mixed (by kernel_rfl) ?_
            intro w110 x111
            have B := bx Hb B x111
            have S := S.below x111
            refine p_fldx fb_topo_1 rfl rfl ?_ rfl
            refine p_fldx fb_topo_1 rfl rfl ?_ rfl
            refine p_move rfl ?_ rfl
            refine p_fldx fb_topo_1 rfl rfl ?_ rfl
            refine p_done ?_
            refine t_alt ?_ (t_alt ?_ ?_)
            · refine t_bx1 S.tail.tail.box ab_s_link rfl rfl ?_ rfl
              refine t_alt ?_ ?_
              · refine t_bx1 S.tail.tail.box ab_s_link rfl rfl ?_ rfl
                refine t_bx1 S.tail.tail.box ab_s_link rfl rfl ?_ rfl
                refine t_len e_link (S.tail.tail.tail.sl) rfl rfl ?_ rfl
                have S := S.f1
                refine t_callf Try.call64 rfl (spec_l1Below (L6.length : Int) S (K.below B)) ?_ rfl
                rintro e w112 ⟨y67, rfl, hf67, S, x113⟩
                refine ⟨_, rfl, ?_⟩
                have B := B.trans x113
                obtain ⟨e68, he68⟩ : ∃ e, (L6)[y67.toNat]? = some e := getx (by omega)
                refine t_idx e_link (k := y67.toNat) (S.tail.tail.tail.sl) he68 (Below.refl _ _) rfl rfl (by first | rfl | omega) ?_ rfl
                intro p68 hp68
                refine t_lda (by assumption) ab_link sb_link (Below.refl _ _) rfl ?_ rfl
                intro v69 hv69
                obtain rfl := link_va hv69
                refine t_lit (T := linkT) (l := [(e68 : Lnk)]) (css := [[I e68.a, I e68.ai, I e68.b, I e68.bi, I e68.kind]]) link_flat S (fun w => bs_link1 _ _ _ _ _ w) rfl rfl rfl rfl (by simp [maxLen]) (litR_one fun _ => rfl) ?_ rfl rfl
                intro u70 w114 x115 S
                have B := bx Hb B x115
                have hR := S.sl
                have S := S.f4
                refine t_cat link_flat e_link S hR rfl rfl rfl (by first | omega | (simp [-List.length_flatMap]; omega)) (by (simp [maxLen, -List.length_flatMap]; try omega)) ?_ rfl
                intro v71 w116 x117 S
                have B := B.trans x117
                clear hR
                have S := S.f1
                have S := S.tail
                refine t_fldx fb_topo_1 rfl rfl ?_ rfl
                obtain ⟨Av71, cv71, rfl, _⟩ := S.sl.form
                have S := S.f3
                refine t_st1 S sb_s_link rfl rfl rfl rfl rfl ?_
                intro w118 b119 S
                have B := B.trans b119
                refine t_done' ?_
                refine x_block_normal ?_
                refine x_seq ?_
                refine w_seq ?_
                refine w_region ?_
                refine t_bxn S.box ab_topo sb_topo rfl rfl ?_ rfl
                have S := S.f4
                refine t_stn S sb_topo rfl rfl rfl rfl (by intro zz hu; have hu : zz ∈ ([(.slice (some ⟨Gva6, 0, none⟩) A6.length Cva6), .slice Av71 (L6 ++ ([(e68 : Lnk)])).length cv71] : List Value) := hu; simp only [List.mem_cons, List.not_mem_nil, or_false] at hu; rcases hu with rfl | rfl <;> first | rfl | exact (SlR.cells (by first | assumption | exact S.tail.sl | exact S.tail.tail.sl | exact S.tail.tail.tail.sl | exact S.tail.tail.tail.tail.sl | exact S.tail.tail.tail.tail.tail.sl | exact S.tail.tail.tail.tail.tail.tail.sl | exact S.tail.tail.tail.tail.tail.tail.tail.sl | exact S.tail.tail.tail.tail.tail.tail.tail.tail.sl)).2) ?_
                intro w120 b121 S
                have B := B.trans b121
                refine t_done ?_
                refine x_seq ?_
                refine w_ret ?_
                refine x_retc rfl rfl S.box ab_topo sb_topo rfl ?_
                have S := S.tail
                have S := S.tail
                have S := S.f1
                have S := S.f1
                have S := S.f2
                exact ⟨_, _, _, _, rfl, ⟨by first | omega | exact Nat.zero_le _, by first | omega | (rw [List.length_append, List.length_singleton]; omega)⟩, S, B⟩
              · refine t_bx1 S.tail.tail.box ab_s_link rfl rfl ?_ rfl
                refine t_alt ?_ ?_
                · refine t_bx1 S.tail.tail.box ab_s_link rfl rfl ?_ rfl
                  refine t_len e_link (S.tail.tail.tail.sl) rfl rfl ?_ rfl
                  have S := S.f1
                  refine t_callf Try.call64 rfl (spec_l1Below (L6.length : Int) S (K.below B)) ?_ rfl
                  rintro e w122 ⟨y67, rfl, hf67, S, x123⟩
                  refine ⟨_, rfl, ?_⟩
                  have B := B.trans x123
                  obtain ⟨e68, he68⟩ : ∃ e, (L6)[y67.toNat]? = some e := getx (by omega)
                  refine t_idx e_link (k := y67.toNat) (S.tail.tail.tail.sl) he68 (Below.refl _ _) rfl rfl (by first | rfl | omega) ?_ rfl
                  intro p68 hp68
                  refine t_lda (by assumption) ab_link sb_link (Below.refl _ _) rfl ?_ rfl
                  intro v69 hv69
                  obtain rfl := link_va hv69
                  refine t_lit (T := linkT) (l := [(e68 : Lnk)]) (css := [[I e68.a, I e68.ai, I e68.b, I e68.bi, I e68.kind]]) link_flat S (fun w => bs_link1 _ _ _ _ _ w) rfl rfl rfl rfl (by simp [maxLen]) (litR_one fun _ => rfl) ?_ rfl rfl
                  intro u70 w124 x125 S
                  have B := bx Hb B x125
                  have hR := S.sl
                  have S := S.f4
                  refine t_cat link_flat e_link S hR rfl rfl rfl (by first | omega | (simp [-List.length_flatMap]; omega)) (by (simp [maxLen, -List.length_flatMap]; try omega)) ?_ rfl
                  intro v71 w126 x127 S
                  have B := B.trans x127
                  clear hR
                  have S := S.f1
                  have S := S.tail
                  refine t_fldx fb_topo_1 rfl rfl ?_ rfl
                  obtain ⟨Av71, cv71, rfl, _⟩ := S.sl.form
                  have S := S.f3
                  refine t_st1 S sb_s_link rfl rfl rfl rfl rfl ?_
                  intro w128 b129 S
                  have B := B.trans b129
                  refine t_done' ?_
                  refine x_block_normal ?_
                  refine x_seq ?_
                  refine w_seq ?_
                  refine w_region ?_
                  refine t_bxn S.box ab_topo sb_topo rfl rfl ?_ rfl
                  have S := S.f4
                  refine t_stn S sb_topo rfl rfl rfl rfl (by intro zz hu; have hu : zz ∈ ([(.slice (some ⟨Gva6, 0, none⟩) A6.length Cva6), .slice Av71 (L6 ++ ([(e68 : Lnk)])).length cv71] : List Value) := hu; simp only [List.mem_cons, List.not_mem_nil, or_false] at hu; rcases hu with rfl | rfl <;> first | rfl | exact (SlR.cells (by first | assumption | exact S.tail.sl | exact S.tail.tail.sl | exact S.tail.tail.tail.sl | exact S.tail.tail.tail.tail.sl | exact S.tail.tail.tail.tail.tail.sl | exact S.tail.tail.tail.tail.tail.tail.sl | exact S.tail.tail.tail.tail.tail.tail.tail.sl | exact S.tail.tail.tail.tail.tail.tail.tail.tail.sl)).2) ?_
                  intro w130 b131 S
                  have B := B.trans b131
                  refine t_done ?_
                  refine x_seq ?_
                  refine w_ret ?_
                  refine x_retc rfl rfl S.box ab_topo sb_topo rfl ?_
                  have S := S.tail
                  have S := S.tail
                  have S := S.f1
                  have S := S.f1
                  have S := S.f2
                  exact ⟨_, _, _, _, rfl, ⟨by first | omega | exact Nat.zero_le _, by first | omega | (rw [List.length_append, List.length_singleton]; omega)⟩, S, B⟩
                · refine t_len e_link (S.tail.tail.tail.sl) rfl rfl ?_ rfl
                  refine t_alt ?_ ?_
                  · refine t_bx1 S.tail.tail.box ab_s_link rfl rfl ?_ rfl
                    have S := S.f1
                    refine t_callf Try.call64 rfl (spec_l1Below (L6.length : Int) S (K.below B)) ?_ rfl
                    rintro e w132 ⟨y67, rfl, hf67, S, x133⟩
                    refine ⟨_, rfl, ?_⟩
                    have B := B.trans x133
                    obtain ⟨e68, he68⟩ : ∃ e, (L6)[y67.toNat]? = some e := getx (by omega)
                    refine t_idx e_link (k := y67.toNat) (S.tail.tail.tail.sl) he68 (Below.refl _ _) rfl rfl (by first | rfl | omega) ?_ rfl
                    intro p68 hp68
                    refine t_lda (by assumption) ab_link sb_link (Below.refl _ _) rfl ?_ rfl
                    intro v69 hv69
                    obtain rfl := link_va hv69
                    refine t_lit (T := linkT) (l := [(e68 : Lnk)]) (css := [[I e68.a, I e68.ai, I e68.b, I e68.bi, I e68.kind]]) link_flat S (fun w => bs_link1 _ _ _ _ _ w) rfl rfl rfl rfl (by simp [maxLen]) (litR_one fun _ => rfl) ?_ rfl rfl
                    intro u70 w134 x135 S
                    have B := bx Hb B x135
                    have hR := S.sl
                    have S := S.f4
                    refine t_cat link_flat e_link S hR rfl rfl rfl (by first | omega | (simp [-List.length_flatMap]; omega)) (by (simp [maxLen, -List.length_flatMap]; try omega)) ?_ rfl
                    intro v71 w136 x137 S
                    have B := B.trans x137
                    clear hR
                    have S := S.f1
                    have S := S.tail
                    refine t_fldx fb_topo_1 rfl rfl ?_ rfl
                    obtain ⟨Av71, cv71, rfl, _⟩ := S.sl.form
                    have S := S.f3
                    refine t_st1 S sb_s_link rfl rfl rfl rfl rfl ?_
                    intro w138 b139 S
                    have B := B.trans b139
                    refine t_done' ?_
                    refine x_block_normal ?_
                    refine x_seq ?_
                    refine w_seq ?_
                    refine w_region ?_
                    refine t_bxn S.box ab_topo sb_topo rfl rfl ?_ rfl
                    have S := S.f4
                    refine t_stn S sb_topo rfl rfl rfl rfl (by intro zz hu; have hu : zz ∈ ([(.slice (some ⟨Gva6, 0, none⟩) A6.length Cva6), .slice Av71 (L6 ++ ([(e68 : Lnk)])).length cv71] : List Value) := hu; simp only [List.mem_cons, List.not_mem_nil, or_false] at hu; rcases hu with rfl | rfl <;> first | rfl | exact (SlR.cells (by first | assumption | exact S.tail.sl | exact S.tail.tail.sl | exact S.tail.tail.tail.sl | exact S.tail.tail.tail.tail.sl | exact S.tail.tail.tail.tail.tail.sl | exact S.tail.tail.tail.tail.tail.tail.sl | exact S.tail.tail.tail.tail.tail.tail.tail.sl | exact S.tail.tail.tail.tail.tail.tail.tail.tail.sl)).2) ?_
                    intro w140 b141 S
                    have B := B.trans b141
                    refine t_done ?_
                    refine x_seq ?_
                    refine w_ret ?_
                    refine x_retc rfl rfl S.box ab_topo sb_topo rfl ?_
                    have S := S.tail
                    have S := S.tail
                    have S := S.f1
                    have S := S.f1
                    have S := S.f2
                    exact ⟨_, _, _, _, rfl, ⟨by first | omega | exact Nat.zero_le _, by first | omega | (rw [List.length_append, List.length_singleton]; omega)⟩, S, B⟩
                  · have S := S.f1
                    refine t_callf Try.call64 rfl (spec_l1Below (L6.length : Int) S (K.below B)) ?_ rfl
                    rintro e w142 ⟨y67, rfl, hf67, S, x143⟩
                    refine ⟨_, rfl, ?_⟩
                    have B := B.trans x143
                    refine t_bx1 S.tail.tail.box ab_s_link rfl rfl ?_ rfl
                    obtain ⟨e68, he68⟩ : ∃ e, (L6)[y67.toNat]? = some e := getx (by omega)
                    refine t_idx e_link (k := y67.toNat) (S.tail.tail.tail.sl) he68 (Below.refl _ _) rfl rfl (by first | rfl | omega) ?_ rfl
                    intro p68 hp68
                    refine t_lda (by assumption) ab_link sb_link (Below.refl _ _) rfl ?_ rfl
                    intro v69 hv69
                    obtain rfl := link_va hv69
                    refine t_lit (T := linkT) (l := [(e68 : Lnk)]) (css := [[I e68.a, I e68.ai, I e68.b, I e68.bi, I e68.kind]]) link_flat S (fun w => bs_link1 _ _ _ _ _ w) rfl rfl rfl rfl (by simp [maxLen]) (litR_one fun _ => rfl) ?_ rfl rfl
                    intro u70 w144 x145 S
                    have B := bx Hb B x145
                    have hR := S.sl
                    have S := S.f4
                    refine t_cat link_flat e_link S hR rfl rfl rfl (by first | omega | (simp [-List.length_flatMap]; omega)) (by (simp [maxLen, -List.length_flatMap]; try omega)) ?_ rfl
                    intro v71 w146 x147 S
                    have B := B.trans x147
                    clear hR
                    have S := S.f1
                    have S := S.tail
                    refine t_fldx fb_topo_1 rfl rfl ?_ rfl
                    obtain ⟨Av71, cv71, rfl, _⟩ := S.sl.form
                    have S := S.f3
                    refine t_st1 S sb_s_link rfl rfl rfl rfl rfl ?_
                    intro w148 b149 S
                    have B := B.trans b149
                    refine t_done' ?_
                    refine x_block_normal ?_
                    refine x_seq ?_
                    refine w_seq ?_
                    refine w_region ?_
                    refine t_bxn S.box ab_topo sb_topo rfl rfl ?_ rfl
                    have S := S.f4
                    refine t_stn S sb_topo rfl rfl rfl rfl (by intro zz hu; have hu : zz ∈ ([(.slice (some ⟨Gva6, 0, none⟩) A6.length Cva6), .slice Av71 (L6 ++ ([(e68 : Lnk)])).length cv71] : List Value) := hu; simp only [List.mem_cons, List.not_mem_nil, or_false] at hu; rcases hu with rfl | rfl <;> first | rfl | exact (SlR.cells (by first | assumption | exact S.tail.sl | exact S.tail.tail.sl | exact S.tail.tail.tail.sl | exact S.tail.tail.tail.tail.sl | exact S.tail.tail.tail.tail.tail.sl | exact S.tail.tail.tail.tail.tail.tail.sl | exact S.tail.tail.tail.tail.tail.tail.tail.sl | exact S.tail.tail.tail.tail.tail.tail.tail.tail.sl)).2) ?_
                    intro w150 b151 S
                    have B := B.trans b151
                    refine t_done ?_
                    refine x_seq ?_
                    refine w_ret ?_
                    refine x_retc rfl rfl S.box ab_topo sb_topo rfl ?_
                    have S := S.tail
                    have S := S.tail
                    have S := S.f1
                    have S := S.f1
                    have S := S.f2
                    exact ⟨_, _, _, _, rfl, ⟨by first | omega | exact Nat.zero_le _, by first | omega | (rw [List.length_append, List.length_singleton]; omega)⟩, S, B⟩
            · refine t_bx1 S.tail.tail.box ab_s_link rfl rfl ?_ rfl
              refine t_alt ?_ ?_
              · refine t_bx1 S.tail.tail.box ab_s_link rfl rfl ?_ rfl
                refine t_bx1 S.tail.tail.box ab_s_link rfl rfl ?_ rfl
                refine t_len e_link (S.tail.tail.tail.sl) rfl rfl ?_ rfl
                have S := S.f1
                refine t_callf Try.call64 rfl (spec_l1Below (L6.length : Int) S (K.below B)) ?_ rfl
                rintro e w152 ⟨y67, rfl, hf67, S, x153⟩
                refine ⟨_, rfl, ?_⟩
                have B := B.trans x153
                obtain ⟨e68, he68⟩ : ∃ e, (L6)[y67.toNat]? = some e := getx (by omega)
                refine t_idx e_link (k := y67.toNat) (S.tail.tail.tail.sl) he68 (Below.refl _ _) rfl rfl (by first | rfl | omega) ?_ rfl
                intro p68 hp68
                refine t_lda (by assumption) ab_link sb_link (Below.refl _ _) rfl ?_ rfl
                intro v69 hv69
                obtain rfl := link_va hv69
                refine t_lit (T := linkT) (l := [(e68 : Lnk)]) (css := [[I e68.a, I e68.ai, I e68.b, I e68.bi, I e68.kind]]) link_flat S (fun w => bs_link1 _ _ _ _ _ w) rfl rfl rfl rfl (by simp [maxLen]) (litR_one fun _ => rfl) ?_ rfl rfl
                intro u70 w154 x155 S
                have B := bx Hb B x155
                have hR := S.sl
                have S := S.f4
                refine t_cat link_flat e_link S hR rfl rfl rfl (by first | omega | (simp [-List.length_flatMap]; omega)) (by (simp [maxLen, -List.length_flatMap]; try omega)) ?_ rfl
                intro v71 w156 x157 S
                have B := B.trans x157
                clear hR
                have S := S.f1
                have S := S.tail
                refine t_fldx fb_topo_1 rfl rfl ?_ rfl
                obtain ⟨Av71, cv71, rfl, _⟩ := S.sl.form
                have S := S.f3
                refine t_st1 S sb_s_link rfl rfl rfl rfl rfl ?_
                intro w158 b159 S
                have B := B.trans b159
                refine t_done' ?_
                refine x_block_normal ?_
                refine x_seq ?_
                refine w_seq ?_
                refine w_region ?_
                refine t_bxn S.box ab_topo sb_topo rfl rfl ?_ rfl
                have S := S.f4
                refine t_stn S sb_topo rfl rfl rfl rfl (by intro zz hu; have hu : zz ∈ ([(.slice (some ⟨Gva6, 0, none⟩) A6.length Cva6), .slice Av71 (L6 ++ ([(e68 : Lnk)])).length cv71] : List Value) := hu; simp only [List.mem_cons, List.not_mem_nil, or_false] at hu; rcases hu with rfl | rfl <;> first | rfl | exact (SlR.cells (by first | assumption | exact S.tail.sl | exact S.tail.tail.sl | exact S.tail.tail.tail.sl | exact S.tail.tail.tail.tail.sl | exact S.tail.tail.tail.tail.tail.sl | exact S.tail.tail.tail.tail.tail.tail.sl | exact S.tail.tail.tail.tail.tail.tail.tail.sl | exact S.tail.tail.tail.tail.tail.tail.tail.tail.sl)).2) ?_
                intro w160 b161 S
                have B := B.trans b161
                refine t_done ?_
                refine x_seq ?_
                refine w_ret ?_
                refine x_retc rfl rfl S.box ab_topo sb_topo rfl ?_
                have S := S.tail
                have S := S.tail
                have S := S.f1
                have S := S.f1
                have S := S.f2
                exact ⟨_, _, _, _, rfl, ⟨by first | omega | exact Nat.zero_le _, by first | omega | (rw [List.length_append, List.length_singleton]; omega)⟩, S, B⟩
              · refine t_bx1 S.tail.tail.box ab_s_link rfl rfl ?_ rfl
                refine t_alt ?_ ?_
                · refine t_bx1 S.tail.tail.box ab_s_link rfl rfl ?_ rfl
                  refine t_len e_link (S.tail.tail.tail.sl) rfl rfl ?_ rfl
                  have S := S.f1
                  refine t_callf Try.call64 rfl (spec_l1Below (L6.length : Int) S (K.below B)) ?_ rfl
                  rintro e w162 ⟨y67, rfl, hf67, S, x163⟩
                  refine ⟨_, rfl, ?_⟩
                  have B := B.trans x163
                  obtain ⟨e68, he68⟩ : ∃ e, (L6)[y67.toNat]? = some e := getx (by omega)
                  refine t_idx e_link (k := y67.toNat) (S.tail.tail.tail.sl) he68 (Below.refl _ _) rfl rfl (by first | rfl | omega) ?_ rfl
                  intro p68 hp68
                  refine t_lda (by assumption) ab_link sb_link (Below.refl _ _) rfl ?_ rfl
                  intro v69 hv69
                  obtain rfl := link_va hv69
                  refine t_lit (T := linkT) (l := [(e68 : Lnk)]) (css := [[I e68.a, I e68.ai, I e68.b, I e68.bi, I e68.kind]]) link_flat S (fun w => bs_link1 _ _ _ _ _ w) rfl rfl rfl rfl (by simp [maxLen]) (litR_one fun _ => rfl) ?_ rfl rfl
                  intro u70 w164 x165 S
                  have B := bx Hb B x165
                  have hR := S.sl
                  have S := S.f4
                  refine t_cat link_flat e_link S hR rfl rfl rfl (by first | omega | (simp [-List.length_flatMap]; omega)) (by (simp [maxLen, -List.length_flatMap]; try omega)) ?_ rfl
                  intro v71 w166 x167 S
                  have B := B.trans x167
                  clear hR
                  have S := S.f1
                  have S := S.tail
                  refine t_fldx fb_topo_1 rfl rfl ?_ rfl
                  obtain ⟨Av71, cv71, rfl, _⟩ := S.sl.form
                  have S := S.f3
                  refine t_st1 S sb_s_link rfl rfl rfl rfl rfl ?_
                  intro w168 b169 S
                  have B := B.trans b169
                  refine t_done' ?_
                  refine x_block_normal ?_
                  refine x_seq ?_
                  refine w_seq ?_
                  refine w_region ?_
                  refine t_bxn S.box ab_topo sb_topo rfl rfl ?_ rfl
                  have S := S.f4
                  refine t_stn S sb_topo rfl rfl rfl rfl (by intro zz hu; have hu : zz ∈ ([(.slice (some ⟨Gva6, 0, none⟩) A6.length Cva6), .slice Av71 (L6 ++ ([(e68 : Lnk)])).length cv71] : List Value) := hu; simp only [List.mem_cons, List.not_mem_nil, or_false] at hu; rcases hu with rfl | rfl <;> first | rfl | exact (SlR.cells (by first | assumption | exact S.tail.sl | exact S.tail.tail.sl | exact S.tail.tail.tail.sl | exact S.tail.tail.tail.tail.sl | exact S.tail.tail.tail.tail.tail.sl | exact S.tail.tail.tail.tail.tail.tail.sl | exact S.tail.tail.tail.tail.tail.tail.tail.sl | exact S.tail.tail.tail.tail.tail.tail.tail.tail.sl)).2) ?_
                  intro w170 b171 S
                  have B := B.trans b171
                  refine t_done ?_
                  refine x_seq ?_
                  refine w_ret ?_
                  refine x_retc rfl rfl S.box ab_topo sb_topo rfl ?_
                  have S := S.tail
                  have S := S.tail
                  have S := S.f1
                  have S := S.f1
                  have S := S.f2
                  exact ⟨_, _, _, _, rfl, ⟨by first | omega | exact Nat.zero_le _, by first | omega | (rw [List.length_append, List.length_singleton]; omega)⟩, S, B⟩
                · refine t_len e_link (S.tail.tail.tail.sl) rfl rfl ?_ rfl
                  refine t_alt ?_ ?_
                  · refine t_bx1 S.tail.tail.box ab_s_link rfl rfl ?_ rfl
                    have S := S.f1
                    refine t_callf Try.call64 rfl (spec_l1Below (L6.length : Int) S (K.below B)) ?_ rfl
                    rintro e w172 ⟨y67, rfl, hf67, S, x173⟩
                    refine ⟨_, rfl, ?_⟩
                    have B := B.trans x173
                    obtain ⟨e68, he68⟩ : ∃ e, (L6)[y67.toNat]? = some e := getx (by omega)
                    refine t_idx e_link (k := y67.toNat) (S.tail.tail.tail.sl) he68 (Below.refl _ _) rfl rfl (by first | rfl | omega) ?_ rfl
                    intro p68 hp68
                    refine t_lda (by assumption) ab_link sb_link (Below.refl _ _) rfl ?_ rfl
                    intro v69 hv69
                    obtain rfl := link_va hv69
                    refine t_lit (T := linkT) (l := [(e68 : Lnk)]) (css := [[I e68.a, I e68.ai, I e68.b, I e68.bi, I e68.kind]]) link_flat S (fun w => bs_link1 _ _ _ _ _ w) rfl rfl rfl rfl (by simp [maxLen]) (litR_one fun _ => rfl) ?_ rfl rfl
                    intro u70 w174 x175 S
                    have B := bx Hb B x175
                    have hR := S.sl
                    have S := S.f4
                    refine t_cat link_flat e_link S hR rfl rfl rfl (by first | omega | (simp [-List.length_flatMap]; omega)) (by (simp [maxLen, -List.length_flatMap]; try omega)) ?_ rfl
                    intro v71 w176 x177 S
                    have B := B.trans x177
                    clear hR
                    have S := S.f1
                    have S := S.tail
                    refine t_fldx fb_topo_1 rfl rfl ?_ rfl
                    obtain ⟨Av71, cv71, rfl, _⟩ := S.sl.form
                    have S := S.f3
                    refine t_st1 S sb_s_link rfl rfl rfl rfl rfl ?_
                    intro w178 b179 S
                    have B := B.trans b179
                    refine t_done' ?_
                    refine x_block_normal ?_
                    refine x_seq ?_
                    refine w_seq ?_
                    refine w_region ?_
                    refine t_bxn S.box ab_topo sb_topo rfl rfl ?_ rfl
                    have S := S.f4
                    refine t_stn S sb_topo rfl rfl rfl rfl (by intro zz hu; have hu : zz ∈ ([(.slice (some ⟨Gva6, 0, none⟩) A6.length Cva6), .slice Av71 (L6 ++ ([(e68 : Lnk)])).length cv71] : List Value) := hu; simp only [List.mem_cons, List.not_mem_nil, or_false] at hu; rcases hu with rfl | rfl <;> first | rfl | exact (SlR.cells (by first | assumption | exact S.tail.sl | exact S.tail.tail.sl | exact S.tail.tail.tail.sl | exact S.tail.tail.tail.tail.sl | exact S.tail.tail.tail.tail.tail.sl | exact S.tail.tail.tail.tail.tail.tail.sl | exact S.tail.tail.tail.tail.tail.tail.tail.sl | exact S.tail.tail.tail.tail.tail.tail.tail.tail.sl)).2) ?_
                    intro w180 b181 S
                    have B := B.trans b181
                    refine t_done ?_
                    refine x_seq ?_
                    refine w_ret ?_
                    refine x_retc rfl rfl S.box ab_topo sb_topo rfl ?_
                    have S := S.tail
                    have S := S.tail
                    have S := S.f1
                    have S := S.f1
                    have S := S.f2
                    exact ⟨_, _, _, _, rfl, ⟨by first | omega | exact Nat.zero_le _, by first | omega | (rw [List.length_append, List.length_singleton]; omega)⟩, S, B⟩
                  · have S := S.f1
                    refine t_callf Try.call64 rfl (spec_l1Below (L6.length : Int) S (K.below B)) ?_ rfl
                    rintro e w182 ⟨y67, rfl, hf67, S, x183⟩
                    refine ⟨_, rfl, ?_⟩
                    have B := B.trans x183
                    refine t_alt ?_ ?_
                    · refine t_bx1 S.tail.tail.box ab_s_link rfl rfl ?_ rfl
                      obtain ⟨e68, he68⟩ : ∃ e, (L6)[y67.toNat]? = some e := getx (by omega)
                      refine t_idx e_link (k := y67.toNat) (S.tail.tail.tail.sl) he68 (Below.refl _ _) rfl rfl (by first | rfl | omega) ?_ rfl
                      intro p68 hp68
                      refine t_lda (by assumption) ab_link sb_link (Below.refl _ _) rfl ?_ rfl
                      intro v69 hv69
                      obtain rfl := link_va hv69
                      refine t_lit (T := linkT) (l := [(e68 : Lnk)]) (css := [[I e68.a, I e68.ai, I e68.b, I e68.bi, I e68.kind]]) link_flat S (fun w => bs_link1 _ _ _ _ _ w) rfl rfl rfl rfl (by simp [maxLen]) (litR_one fun _ => rfl) ?_ rfl rfl
                      intro u70 w184 x185 S
                      have B := bx Hb B x185
                      have hR := S.sl
                      have S := S.f4
                      refine t_cat link_flat e_link S hR rfl rfl rfl (by first | omega | (simp [-List.length_flatMap]; omega)) (by (simp [maxLen, -List.length_flatMap]; try omega)) ?_ rfl
                      intro v71 w186 x187 S
                      have B := B.trans x187
                      clear hR
                      have S := S.f1
                      have S := S.tail
                      refine t_fldx fb_topo_1 rfl rfl ?_ rfl
                      obtain ⟨Av71, cv71, rfl, _⟩ := S.sl.form
                      have S := S.f3
                      refine t_st1 S sb_s_link rfl rfl rfl rfl rfl ?_
                      intro w188 b189 S
                      have B := B.trans b189
                      refine t_done' ?_
                      refine x_block_normal ?_
                      refine x_seq ?_
                      refine w_seq ?_
                      refine w_region ?_
                      refine t_bxn S.box ab_topo sb_topo rfl rfl ?_ rfl
                      have S := S.f4
                      refine t_stn S sb_topo rfl rfl rfl rfl (by intro zz hu; have hu : zz ∈ ([(.slice (some ⟨Gva6, 0, none⟩) A6.length Cva6), .slice Av71 (L6 ++ ([(e68 : Lnk)])).length cv71] : List Value) := hu; simp only [List.mem_cons, List.not_mem_nil, or_false] at hu; rcases hu with rfl | rfl <;> first | rfl | exact (SlR.cells (by first | assumption | exact S.tail.sl | exact S.tail.tail.sl | exact S.tail.tail.tail.sl | exact S.tail.tail.tail.tail.sl | exact S.tail.tail.tail.tail.tail.sl | exact S.tail.tail.tail.tail.tail.tail.sl | exact S.tail.tail.tail.tail.tail.tail.tail.sl | exact S.tail.tail.tail.tail.tail.tail.tail.tail.sl)).2) ?_
                      intro w190 b191 S
                      have B := B.trans b191
                      refine t_done ?_
                      refine x_seq ?_
                      refine w_ret ?_
                      refine x_retc rfl rfl S.box ab_topo sb_topo rfl ?_
                      have S := S.tail
                      have S := S.tail
                      have S := S.f1
                      have S := S.f1
                      have S := S.f2
                      exact ⟨_, _, _, _, rfl, ⟨by first | omega | exact Nat.zero_le _, by first | omega | (rw [List.length_append, List.length_singleton]; omega)⟩, S, B⟩
                    · obtain ⟨e68, he68⟩ : ∃ e, (L6)[y67.toNat]? = some e := getx (by omega)
                      refine t_idx e_link (k := y67.toNat) (S.tail.tail.tail.sl) he68 (Below.refl _ _) rfl rfl (by first | rfl | omega) ?_ rfl
                      intro p68 hp68
                      refine t_alt ?_ ?_
                      · refine t_bx1 S.tail.tail.box ab_s_link rfl rfl ?_ rfl
                        refine t_lda (by assumption) ab_link sb_link (Below.refl _ _) rfl ?_ rfl
                        intro v69 hv69
                        obtain rfl := link_va hv69
                        refine t_lit (T := linkT) (l := [(e68 : Lnk)]) (css := [[I e68.a, I e68.ai, I e68.b, I e68.bi, I e68.kind]]) link_flat S (fun w => bs_link1 _ _ _ _ _ w) rfl rfl rfl rfl (by simp [maxLen]) (litR_one fun _ => rfl) ?_ rfl rfl
                        intro u70 w192 x193 S
                        have B := bx Hb B x193
                        have hR := S.sl
                        have S := S.f4
                        refine t_cat link_flat e_link S hR rfl rfl rfl (by first | omega | (simp [-List.length_flatMap]; omega)) (by (simp [maxLen, -List.length_flatMap]; try omega)) ?_ rfl
                        intro v71 w194 x195 S
                        have B := B.trans x195
                        clear hR
                        have S := S.f1
                        have S := S.tail
                        refine t_fldx fb_topo_1 rfl rfl ?_ rfl
                        obtain ⟨Av71, cv71, rfl, _⟩ := S.sl.form
                        have S := S.f3
                        refine t_st1 S sb_s_link rfl rfl rfl rfl rfl ?_
                        intro w196 b197 S
                        have B := B.trans b197
                        refine t_done' ?_
                        refine x_block_normal ?_
                        refine x_seq ?_
                        refine w_seq ?_
                        refine w_region ?_
                        refine t_bxn S.box ab_topo sb_topo rfl rfl ?_ rfl
                        have S := S.f4
                        refine t_stn S sb_topo rfl rfl rfl rfl (by intro zz hu; have hu : zz ∈ ([(.slice (some ⟨Gva6, 0, none⟩) A6.length Cva6), .slice Av71 (L6 ++ ([(e68 : Lnk)])).length cv71] : List Value) := hu; simp only [List.mem_cons, List.not_mem_nil, or_false] at hu; rcases hu with rfl | rfl <;> first | rfl | exact (SlR.cells (by first | assumption | exact S.tail.sl | exact S.tail.tail.sl | exact S.tail.tail.tail.sl | exact S.tail.tail.tail.tail.sl | exact S.tail.tail.tail.tail.tail.sl | exact S.tail.tail.tail.tail.tail.tail.sl | exact S.tail.tail.tail.tail.tail.tail.tail.sl | exact S.tail.tail.tail.tail.tail.tail.tail.tail.sl)).2) ?_
                        intro w198 b199 S
                        have B := B.trans b199
                        refine t_done ?_
                        refine x_seq ?_
                        refine w_ret ?_
                        refine x_retc rfl rfl S.box ab_topo sb_topo rfl ?_
                        have S := S.tail
                        have S := S.tail
                        have S := S.f1
                        have S := S.f1
                        have S := S.f2
                        exact ⟨_, _, _, _, rfl, ⟨by first | omega | exact Nat.zero_le _, by first | omega | (rw [List.length_append, List.length_singleton]; omega)⟩, S, B⟩
                      · refine t_lda (by assumption) ab_link sb_link (Below.refl _ _) rfl ?_ rfl
                        intro v69 hv69
                        obtain rfl := link_va hv69
                        refine t_alt ?_ ?_
                        · refine t_bx1 S.tail.tail.box ab_s_link rfl rfl ?_ rfl
                          refine t_lit (T := linkT) (l := [(e68 : Lnk)]) (css := [[I e68.a, I e68.ai, I e68.b, I e68.bi, I e68.kind]]) link_flat S (fun w => bs_link1 _ _ _ _ _ w) rfl rfl rfl rfl (by simp [maxLen]) (litR_one fun _ => rfl) ?_ rfl rfl
                          intro u70 w200 x201 S
                          have B := bx Hb B x201
                          have hR := S.sl
                          have S := S.f4
                          refine t_cat link_flat e_link S hR rfl rfl rfl (by first | omega | (simp [-List.length_flatMap]; omega)) (by (simp [maxLen, -List.length_flatMap]; try omega)) ?_ rfl
                          intro v71 w202 x203 S
                          have B := B.trans x203
                          clear hR
                          have S := S.f1
                          have S := S.tail
                          refine t_fldx fb_topo_1 rfl rfl ?_ rfl
                          obtain ⟨Av71, cv71, rfl, _⟩ := S.sl.form
                          have S := S.f3
                          refine t_st1 S sb_s_link rfl rfl rfl rfl rfl ?_
                          intro w204 b205 S
                          have B := B.trans b205
                          refine t_done' ?_
                          refine x_block_normal ?_
                          refine x_seq ?_
                          refine w_seq ?_
                          refine w_region ?_
                          refine t_bxn S.box ab_topo sb_topo rfl rfl ?_ rfl
                          have S := S.f4
                          refine t_stn S sb_topo rfl rfl rfl rfl (by intro zz hu; have hu : zz ∈ ([(.slice (some ⟨Gva6, 0, none⟩) A6.length Cva6), .slice Av71 (L6 ++ ([(e68 : Lnk)])).length cv71] : List Value) := hu; simp only [List.mem_cons, List.not_mem_nil, or_false] at hu; rcases hu with rfl | rfl <;> first | rfl | exact (SlR.cells (by first | assumption | exact S.tail.sl | exact S.tail.tail.sl | exact S.tail.tail.tail.sl | exact S.tail.tail.tail.tail.sl | exact S.tail.tail.tail.tail.tail.sl | exact S.tail.tail.tail.tail.tail.tail.sl | exact S.tail.tail.tail.tail.tail.tail.tail.sl | exact S.tail.tail.tail.tail.tail.tail.tail.tail.sl)).2) ?_
                          intro w206 b207 S
                          have B := B.trans b207
                          refine t_done ?_
                          refine x_seq ?_
                          refine w_ret ?_
                          refine x_retc rfl rfl S.box ab_topo sb_topo rfl ?_
                          have S := S.tail
                          have S := S.tail
                          have S := S.f1
                          have S := S.f1
                          have S := S.f2
                          exact ⟨_, _, _, _, rfl, ⟨by first | omega | exact Nat.zero_le _, by first | omega | (rw [List.length_append, List.length_singleton]; omega)⟩, S, B⟩
                        · refine t_lit (T := linkT) (l := [(e68 : Lnk)]) (css := [[I e68.a, I e68.ai, I e68.b, I e68.bi, I e68.kind]]) link_flat S (fun w => bs_link1 _ _ _ _ _ w) rfl rfl rfl rfl (by simp [maxLen]) (litR_one fun _ => rfl) ?_ rfl rfl
                          intro u70 w208 x209 S
                          have B := bx Hb B x209
                          refine t_bx1 S.tail.tail.tail.box ab_s_link rfl rfl ?_ rfl
                          have hR := S.sl
                          have S := S.f4
                          refine t_cat link_flat e_link S hR rfl rfl rfl (by first | omega | (simp [-List.length_flatMap]; omega)) (by (simp [maxLen, -List.length_flatMap]; try omega)) ?_ rfl
                          intro v71 w210 x211 S
                          have B := B.trans x211
                          clear hR
                          have S := S.f1
                          have S := S.tail
                          refine t_fldx fb_topo_1 rfl rfl ?_ rfl
                          obtain ⟨Av71, cv71, rfl, _⟩ := S.sl.form
                          have S := S.f3
                          refine t_st1 S sb_s_link rfl rfl rfl rfl rfl ?_
                          intro w212 b213 S
                          have B := B.trans b213
                          refine t_done' ?_
                          refine x_block_normal ?_
                          refine x_seq ?_
                          refine w_seq ?_
                          refine w_region ?_
                          refine t_bxn S.box ab_topo sb_topo rfl rfl ?_ rfl
                          have S := S.f4
                          refine t_stn S sb_topo rfl rfl rfl rfl (by intro zz hu; have hu : zz ∈ ([(.slice (some ⟨Gva6, 0, none⟩) A6.length Cva6), .slice Av71 (L6 ++ ([(e68 : Lnk)])).length cv71] : List Value) := hu; simp only [List.mem_cons, List.not_mem_nil, or_false] at hu; rcases hu with rfl | rfl <;> first | rfl | exact (SlR.cells (by first | assumption | exact S.tail.sl | exact S.tail.tail.sl | exact S.tail.tail.tail.sl | exact S.tail.tail.tail.tail.sl | exact S.tail.tail.tail.tail.tail.sl | exact S.tail.tail.tail.tail.tail.tail.sl | exact S.tail.tail.tail.tail.tail.tail.tail.sl | exact S.tail.tail.tail.tail.tail.tail.tail.tail.sl)).2) ?_
                          intro w214 b215 S
                          have B := B.trans b215
                          refine t_done ?_
                          refine x_seq ?_
                          refine w_ret ?_
                          refine x_retc rfl rfl S.box ab_topo sb_topo rfl ?_
                          have S := S.tail
                          have S := S.tail
                          have S := S.f1
                          have S := S.f1
                          have S := S.f2
                          exact ⟨_, _, _, _, rfl, ⟨by first | omega | exact Nat.zero_le _, by first | omega | (rw [List.length_append, List.length_singleton]; omega)⟩, S, B⟩
            · refine t_bx1 S.tail.tail.box ab_s_link rfl rfl ?_ rfl
              refine t_alt ?_ (t_alt ?_ ?_)
              · refine t_bx1 S.tail.tail.box ab_s_link rfl rfl ?_ rfl
                refine t_alt ?_ ?_
                · refine t_bx1 S.tail.tail.box ab_s_link rfl rfl ?_ rfl
                  refine t_len e_link (S.tail.tail.tail.sl) rfl rfl ?_ rfl
                  have S := S.f1
                  refine t_callf Try.call64 rfl (spec_l1Below (L6.length : Int) S (K.below B)) ?_ rfl
                  rintro e w216 ⟨y67, rfl, hf67, S, x217⟩
                  refine ⟨_, rfl, ?_⟩
                  have B := B.trans x217
                  obtain ⟨e68, he68⟩ : ∃ e, (L6)[y67.toNat]? = some e := getx (by omega)
                  refine t_idx e_link (k := y67.toNat) (S.tail.tail.tail.sl) he68 (Below.refl _ _) rfl rfl (by first | rfl | omega) ?_ rfl
                  intro p68 hp68
                  refine t_lda (by assumption) ab_link sb_link (Below.refl _ _) rfl ?_ rfl
                  intro v69 hv69
                  obtain rfl := link_va hv69
                  refine t_lit (T := linkT) (l := [(e68 : Lnk)]) (css := [[I e68.a, I e68.ai, I e68.b, I e68.bi, I e68.kind]]) link_flat S (fun w => bs_link1 _ _ _ _ _ w) rfl rfl rfl rfl (by simp [maxLen]) (litR_one fun _ => rfl) ?_ rfl rfl
                  intro u70 w218 x219 S
                  have B := bx Hb B x219
                  have hR := S.sl
                  have S := S.f4
                  refine t_cat link_flat e_link S hR rfl rfl rfl (by first | omega | (simp [-List.length_flatMap]; omega)) (by (simp [maxLen, -List.length_flatMap]; try omega)) ?_ rfl
                  intro v71 w220 x221 S
                  have B := B.trans x221
                  clear hR
                  have S := S.f1
                  have S := S.tail
                  refine t_fldx fb_topo_1 rfl rfl ?_ rfl
                  obtain ⟨Av71, cv71, rfl, _⟩ := S.sl.form
                  have S := S.f3
                  refine t_st1 S sb_s_link rfl rfl rfl rfl rfl ?_
                  intro w222 b223 S
                  have B := B.trans b223
                  refine t_done' ?_
                  refine x_block_normal ?_
                  refine x_seq ?_
                  refine w_seq ?_
                  refine w_region ?_
                  refine t_bxn S.box ab_topo sb_topo rfl rfl ?_ rfl
                  have S := S.f4
                  refine t_stn S sb_topo rfl rfl rfl rfl (by intro zz hu; have hu : zz ∈ ([(.slice (some ⟨Gva6, 0, none⟩) A6.length Cva6), .slice Av71 (L6 ++ ([(e68 : Lnk)])).length cv71] : List Value) := hu; simp only [List.mem_cons, List.not_mem_nil, or_false] at hu; rcases hu with rfl | rfl <;> first | rfl | exact (SlR.cells (by first | assumption | exact S.tail.sl | exact S.tail.tail.sl | exact S.tail.tail.tail.sl | exact S.tail.tail.tail.tail.sl | exact S.tail.tail.tail.tail.tail.sl | exact S.tail.tail.tail.tail.tail.tail.sl | exact S.tail.tail.tail.tail.tail.tail.tail.sl | exact S.tail.tail.tail.tail.tail.tail.tail.tail.sl)).2) ?_
                  intro w224 b225 S
                  have B := B.trans b225
                  refine t_done ?_
                  refine x_seq ?_
                  refine w_ret ?_
                  refine x_retc rfl rfl S.box ab_topo sb_topo rfl ?_
                  have S := S.tail
                  have S := S.tail
                  have S := S.f1
                  have S := S.f1
                  have S := S.f2
                  exact ⟨_, _, _, _, rfl, ⟨by first | omega | exact Nat.zero_le _, by first | omega | (rw [List.length_append, List.length_singleton]; omega)⟩, S, B⟩
                · refine t_len e_link (S.tail.tail.tail.sl) rfl rfl ?_ rfl
                  refine t_alt ?_ ?_
                  · refine t_bx1 S.tail.tail.box ab_s_link rfl rfl ?_ rfl
                    have S := S.f1
                    refine t_callf Try.call64 rfl (spec_l1Below (L6.length : Int) S (K.below B)) ?_ rfl
                    rintro e w226 ⟨y67, rfl, hf67, S, x227⟩
                    refine ⟨_, rfl, ?_⟩
                    have B := B.trans x227
                    obtain ⟨e68, he68⟩ : ∃ e, (L6)[y67.toNat]? = some e := getx (by omega)
                    refine t_idx e_link (k := y67.toNat) (S.tail.tail.tail.sl) he68 (Below.refl _ _) rfl rfl (by first | rfl | omega) ?_ rfl
                    intro p68 hp68
                    refine t_lda (by assumption) ab_link sb_link (Below.refl _ _) rfl ?_ rfl
                    intro v69 hv69
                    obtain rfl := link_va hv69
                    refine t_lit (T := linkT) (l := [(e68 : Lnk)]) (css := [[I e68.a, I e68.ai, I e68.b, I e68.bi, I e68.kind]]) link_flat S (fun w => bs_link1 _ _ _ _ _ w) rfl rfl rfl rfl (by simp [maxLen]) (litR_one fun _ => rfl) ?_ rfl rfl
                    intro u70 w228 x229 S
                    have B := bx Hb B x229
                    have hR := S.sl
                    have S := S.f4
                    refine t_cat link_flat e_link S hR rfl rfl rfl (by first | omega | (simp [-List.length_flatMap]; omega)) (by (simp [maxLen, -List.length_flatMap]; try omega)) ?_ rfl
                    intro v71 w230 x231 S
                    have B := B.trans x231
                    clear hR
                    have S := S.f1
                    have S := S.tail
                    refine t_fldx fb_topo_1 rfl rfl ?_ rfl
                    obtain ⟨Av71, cv71, rfl, _⟩ := S.sl.form
                    have S := S.f3
                    refine t_st1 S sb_s_link rfl rfl rfl rfl rfl ?_
                    intro w232 b233 S
                    have B := B.trans b233
                    refine t_done' ?_
                    refine x_block_normal ?_
                    refine x_seq ?_
                    refine w_seq ?_
                    refine w_region ?_
                    refine t_bxn S.box ab_topo sb_topo rfl rfl ?_ rfl
                    have S := S.f4
                    refine t_stn S sb_topo rfl rfl rfl rfl (by intro zz hu; have hu : zz ∈ ([(.slice (some ⟨Gva6, 0, none⟩) A6.length Cva6), .slice Av71 (L6 ++ ([(e68 : Lnk)])).length cv71] : List Value) := hu; simp only [List.mem_cons, List.not_mem_nil, or_false] at hu; rcases hu with rfl | rfl <;> first | rfl | exact (SlR.cells (by first | assumption | exact S.tail.sl | exact S.tail.tail.sl | exact S.tail.tail.tail.sl | exact S.tail.tail.tail.tail.sl | exact S.tail.tail.tail.tail.tail.sl | exact S.tail.tail.tail.tail.tail.tail.sl | exact S.tail.tail.tail.tail.tail.tail.tail.sl | exact S.tail.tail.tail.tail.tail.tail.tail.tail.sl)).2) ?_
                    intro w234 b235 S
                    have B := B.trans b235
                    refine t_done ?_
                    refine x_seq ?_
                    refine w_ret ?_
                    refine x_retc rfl rfl S.box ab_topo sb_topo rfl ?_
                    have S := S.tail
                    have S := S.tail
                    have S := S.f1
                    have S := S.f1
                    have S := S.f2
                    exact ⟨_, _, _, _, rfl, ⟨by first | omega | exact Nat.zero_le _, by first | omega | (rw [List.length_append, List.length_singleton]; omega)⟩, S, B⟩
                  · have S := S.f1
                    refine t_callf Try.call64 rfl (spec_l1Below (L6.length : Int) S (K.below B)) ?_ rfl
                    rintro e w236 ⟨y67, rfl, hf67, S, x237⟩
                    refine ⟨_, rfl, ?_⟩
                    have B := B.trans x237
                    refine t_bx1 S.tail.tail.box ab_s_link rfl rfl ?_ rfl
                    obtain ⟨e68, he68⟩ : ∃ e, (L6)[y67.toNat]? = some e := getx (by omega)
                    refine t_idx e_link (k := y67.toNat) (S.tail.tail.tail.sl) he68 (Below.refl _ _) rfl rfl (by first | rfl | omega) ?_ rfl
                    intro p68 hp68
                    refine t_lda (by assumption) ab_link sb_link (Below.refl _ _) rfl ?_ rfl
                    intro v69 hv69
                    obtain rfl := link_va hv69
                    refine t_lit (T := linkT) (l := [(e68 : Lnk)]) (css := [[I e68.a, I e68.ai, I e68.b, I e68.bi, I e68.kind]]) link_flat S (fun w => bs_link1 _ _ _ _ _ w) rfl rfl rfl rfl (by simp [maxLen]) (litR_one fun _ => rfl) ?_ rfl rfl
                    intro u70 w238 x239 S
                    have B := bx Hb B x239
                    have hR := S.sl
                    have S := S.f4
                    refine t_cat link_flat e_link S hR rfl rfl rfl (by first | omega | (simp [-List.length_flatMap]; omega)) (by (simp [maxLen, -List.length_flatMap]; try omega)) ?_ rfl
                    intro v71 w240 x241 S
                    have B := B.trans x241
                    clear hR
                    have S := S.f1
                    have S := S.tail
                    refine t_fldx fb_topo_1 rfl rfl ?_ rfl
                    obtain ⟨Av71, cv71, rfl, _⟩ := S.sl.form
                    have S := S.f3
                    refine t_st1 S sb_s_link rfl rfl rfl rfl rfl ?_
                    intro w242 b243 S
                    have B := B.trans b243
                    refine t_done' ?_
                    refine x_block_normal ?_
                    refine x_seq ?_
                    refine w_seq ?_
                    refine w_region ?_
                    refine t_bxn S.box ab_topo sb_topo rfl rfl ?_ rfl
                    have S := S.f4
                    refine t_stn S sb_topo rfl rfl rfl rfl (by intro zz hu; have hu : zz ∈ ([(.slice (some ⟨Gva6, 0, none⟩) A6.length Cva6), .slice Av71 (L6 ++ ([(e68 : Lnk)])).length cv71] : List Value) := hu; simp only [List.mem_cons, List.not_mem_nil, or_false] at hu; rcases hu with rfl | rfl <;> first | rfl | exact (SlR.cells (by first | assumption | exact S.tail.sl | exact S.tail.tail.sl | exact S.tail.tail.tail.sl | exact S.tail.tail.tail.tail.sl | exact S.tail.tail.tail.tail.tail.sl | exact S.tail.tail.tail.tail.tail.tail.sl | exact S.tail.tail.tail.tail.tail.tail.tail.sl | exact S.tail.tail.tail.tail.tail.tail.tail.tail.sl)).2) ?_
                    intro w244 b245 S
                    have B := B.trans b245
                    refine t_done ?_
                    refine x_seq ?_
                    refine w_ret ?_
                    refine x_retc rfl rfl S.box ab_topo sb_topo rfl ?_
                    have S := S.tail
                    have S := S.tail
                    have S := S.f1
                    have S := S.f1
                    have S := S.f2
                    exact ⟨_, _, _, _, rfl, ⟨by first | omega | exact Nat.zero_le _, by first | omega | (rw [List.length_append, List.length_singleton]; omega)⟩, S, B⟩
              · refine t_bx1 S.tail.tail.box ab_s_link rfl rfl ?_ rfl
                refine t_alt ?_ ?_
                · refine t_bx1 S.tail.tail.box ab_s_link rfl rfl ?_ rfl
                  refine t_len e_link (S.tail.tail.tail.sl) rfl rfl ?_ rfl
                  have S := S.f1
                  refine t_callf Try.call64 rfl (spec_l1Below (L6.length : Int) S (K.below B)) ?_ rfl
                  rintro e w246 ⟨y67, rfl, hf67, S, x247⟩
                  refine ⟨_, rfl, ?_⟩
                  have B := B.trans x247
                  obtain ⟨e68, he68⟩ : ∃ e, (L6)[y67.toNat]? = some e := getx (by omega)
                  refine t_idx e_link (k := y67.toNat) (S.tail.tail.tail.sl) he68 (Below.refl _ _) rfl rfl (by first | rfl | omega) ?_ rfl
                  intro p68 hp68
                  refine t_lda (by assumption) ab_link sb_link (Below.refl _ _) rfl ?_ rfl
                  intro v69 hv69
                  obtain rfl := link_va hv69
                  refine t_lit (T := linkT) (l := [(e68 : Lnk)]) (css := [[I e68.a, I e68.ai, I e68.b, I e68.bi, I e68.kind]]) link_flat S (fun w => bs_link1 _ _ _ _ _ w) rfl rfl rfl rfl (by simp [maxLen]) (litR_one fun _ => rfl) ?_ rfl rfl
                  intro u70 w248 x249 S
                  have B := bx Hb B x249
                  have hR := S.sl
                  have S := S.f4
                  refine t_cat link_flat e_link S hR rfl rfl rfl (by first | omega | (simp [-List.length_flatMap]; omega)) (by (simp [maxLen, -List.length_flatMap]; try omega)) ?_ rfl
                  intro v71 w250 x251 S
                  have B := B.trans x251
                  clear hR
                  have S := S.f1
                  have S := S.tail
                  refine t_fldx fb_topo_1 rfl rfl ?_ rfl
                  obtain ⟨Av71, cv71, rfl, _⟩ := S.sl.form
                  have S := S.f3
                  refine t_st1 S sb_s_link rfl rfl rfl rfl rfl ?_
                  intro w252 b253 S
                  have B := B.trans b253
                  refine t_done' ?_
                  refine x_block_normal ?_
                  refine x_seq ?_
                  refine w_seq ?_
                  refine w_region ?_
                  refine t_bxn S.box ab_topo sb_topo rfl rfl ?_ rfl
                  have S := S.f4
                  refine t_stn S sb_topo rfl rfl rfl rfl (by intro zz hu; have hu : zz ∈ ([(.slice (some ⟨Gva6, 0, none⟩) A6.length Cva6), .slice Av71 (L6 ++ ([(e68 : Lnk)])).length cv71] : List Value) := hu; simp only [List.mem_cons, List.not_mem_nil, or_false] at hu; rcases hu with rfl | rfl <;> first | rfl | exact (SlR.cells (by first | assumption | exact S.tail.sl | exact S.tail.tail.sl | exact S.tail.tail.tail.sl | exact S.tail.tail.tail.tail.sl | exact S.tail.tail.tail.tail.tail.sl | exact S.tail.tail.tail.tail.tail.tail.sl | exact S.tail.tail.tail.tail.tail.tail.tail.sl | exact S.tail.tail.tail.tail.tail.tail.tail.tail.sl)).2) ?_
                  intro w254 b255 S
                  have B := B.trans b255
                  refine t_done ?_
                  refine x_seq ?_
                  refine w_ret ?_
                  refine x_retc rfl rfl S.box ab_topo sb_topo rfl ?_
                  have S := S.tail
                  have S := S.tail
                  have S := S.f1
                  have S := S.f1
                  have S := S.f2
                  exact ⟨_, _, _, _, rfl, ⟨by first | omega | exact Nat.zero_le _, by first | omega | (rw [List.length_append, List.length_singleton]; omega)⟩, S, B⟩
                · refine t_len e_link (S.tail.tail.tail.sl) rfl rfl ?_ rfl
                  refine t_alt ?_ ?_
                  · refine t_bx1 S.tail.tail.box ab_s_link rfl rfl ?_ rfl
                    have S := S.f1
                    refine t_callf Try.call64 rfl (spec_l1Below (L6.length : Int) S (K.below B)) ?_ rfl
                    rintro e w256 ⟨y67, rfl, hf67, S, x257⟩
                    refine ⟨_, rfl, ?_⟩
                    have B := B.trans x257
                    obtain ⟨e68, he68⟩ : ∃ e, (L6)[y67.toNat]? = some e := getx (by omega)
                    refine t_idx e_link (k := y67.toNat) (S.tail.tail.tail.sl) he68 (Below.refl _ _) rfl rfl (by first | rfl | omega) ?_ rfl
                    intro p68 hp68
                    refine t_lda (by assumption) ab_link sb_link (Below.refl _ _) rfl ?_ rfl
                    intro v69 hv69
                    obtain rfl := link_va hv69
                    refine t_lit (T := linkT) (l := [(e68 : Lnk)]) (css := [[I e68.a, I e68.ai, I e68.b, I e68.bi, I e68.kind]]) link_flat S (fun w => bs_link1 _ _ _ _ _ w) rfl rfl rfl rfl (by simp [maxLen]) (litR_one fun _ => rfl) ?_ rfl rfl
                    intro u70 w258 x259 S
                    have B := bx Hb B x259
                    have hR := S.sl
                    have S := S.f4
                    refine t_cat link_flat e_link S hR rfl rfl rfl (by first | omega | (simp [-List.length_flatMap]; omega)) (by (simp [maxLen, -List.length_flatMap]; try omega)) ?_ rfl
                    intro v71 w260 x261 S
                    have B := B.trans x261
                    clear hR
                    have S := S.f1
                    have S := S.tail
                    refine t_fldx fb_topo_1 rfl rfl ?_ rfl
                    obtain ⟨Av71, cv71, rfl, _⟩ := S.sl.form
                    have S := S.f3
                    refine t_st1 S sb_s_link rfl rfl rfl rfl rfl ?_
                    intro w262 b263 S
                    have B := B.trans b263
                    refine t_done' ?_
                    refine x_block_normal ?_
                    refine x_seq ?_
                    refine w_seq ?_
                    refine w_region ?_
                    refine t_bxn S.box ab_topo sb_topo rfl rfl ?_ rfl
                    have S := S.f4
                    refine t_stn S sb_topo rfl rfl rfl rfl (by intro zz hu; have hu : zz ∈ ([(.slice (some ⟨Gva6, 0, none⟩) A6.length Cva6), .slice Av71 (L6 ++ ([(e68 : Lnk)])).length cv71] : List Value) := hu; simp only [List.mem_cons, List.not_mem_nil, or_false] at hu; rcases hu with rfl | rfl <;> first | rfl | exact (SlR.cells (by first | assumption | exact S.tail.sl | exact S.tail.tail.sl | exact S.tail.tail.tail.sl | exact S.tail.tail.tail.tail.sl | exact S.tail.tail.tail.tail.tail.sl | exact S.tail.tail.tail.tail.tail.tail.sl | exact S.tail.tail.tail.tail.tail.tail.tail.sl | exact S.tail.tail.tail.tail.tail.tail.tail.tail.sl)).2) ?_
                    intro w264 b265 S
                    have B := B.trans b265
                    refine t_done ?_
                    refine x_seq ?_
                    refine w_ret ?_
                    refine x_retc rfl rfl S.box ab_topo sb_topo rfl ?_
                    have S := S.tail
                    have S := S.tail
                    have S := S.f1
                    have S := S.f1
                    have S := S.f2
                    exact ⟨_, _, _, _, rfl, ⟨by first | omega | exact Nat.zero_le _, by first | omega | (rw [List.length_append, List.length_singleton]; omega)⟩, S, B⟩
                  · have S := S.f1
                    refine t_callf Try.call64 rfl (spec_l1Below (L6.length : Int) S (K.below B)) ?_ rfl
                    rintro e w266 ⟨y67, rfl, hf67, S, x267⟩
                    refine ⟨_, rfl, ?_⟩
                    have B := B.trans x267
                    refine t_alt ?_ ?_
                    · refine t_bx1 S.tail.tail.box ab_s_link rfl rfl ?_ rfl
                      obtain ⟨e68, he68⟩ : ∃ e, (L6)[y67.toNat]? = some e := getx (by omega)
                      refine t_idx e_link (k := y67.toNat) (S.tail.tail.tail.sl) he68 (Below.refl _ _) rfl rfl (by first | rfl | omega) ?_ rfl
                      intro p68 hp68
                      refine t_lda (by assumption) ab_link sb_link (Below.refl _ _) rfl ?_ rfl
                      intro v69 hv69
                      obtain rfl := link_va hv69
                      refine t_lit (T := linkT) (l := [(e68 : Lnk)]) (css := [[I e68.a, I e68.ai, I e68.b, I e68.bi, I e68.kind]]) link_flat S (fun w => bs_link1 _ _ _ _ _ w) rfl rfl rfl rfl (by simp [maxLen]) (litR_one fun _ => rfl) ?_ rfl rfl
                      intro u70 w268 x269 S
                      have B := bx Hb B x269
                      have hR := S.sl
                      have S := S.f4
                      refine t_cat link_flat e_link S hR rfl rfl rfl (by first | omega | (simp [-List.length_flatMap]; omega)) (by (simp [maxLen, -List.length_flatMap]; try omega)) ?_ rfl
                      intro v71 w270 x271 S
                      have B := B.trans x271
                      clear hR
                      have S := S.f1
                      have S := S.tail
                      refine t_fldx fb_topo_1 rfl rfl ?_ rfl
                      obtain ⟨Av71, cv71, rfl, _⟩ := S.sl.form
                      have S := S.f3
                      refine t_st1 S sb_s_link rfl rfl rfl rfl rfl ?_
                      intro w272 b273 S
                      have B := B.trans b273
                      refine t_done' ?_
                      refine x_block_normal ?_
                      refine x_seq ?_
                      refine w_seq ?_
                      refine w_region ?_
                      refine t_bxn S.box ab_topo sb_topo rfl rfl ?_ rfl
                      have S := S.f4
                      refine t_stn S sb_topo rfl rfl rfl rfl (by intro zz hu; have hu : zz ∈ ([(.slice (some ⟨Gva6, 0, none⟩) A6.length Cva6), .slice Av71 (L6 ++ ([(e68 : Lnk)])).length cv71] : List Value) := hu; simp only [List.mem_cons, List.not_mem_nil, or_false] at hu; rcases hu with rfl | rfl <;> first | rfl | exact (SlR.cells (by first | assumption | exact S.tail.sl | exact S.tail.tail.sl | exact S.tail.tail.tail.sl | exact S.tail.tail.tail.tail.sl | exact S.tail.tail.tail.tail.tail.sl | exact S.tail.tail.tail.tail.tail.tail.sl | exact S.tail.tail.tail.tail.tail.tail.tail.sl | exact S.tail.tail.tail.tail.tail.tail.tail.tail.sl)).2) ?_
                      intro w274 b275 S
                      have B := B.trans b275
                      refine t_done ?_
                      refine x_seq ?_
                      refine w_ret ?_
                      refine x_retc rfl rfl S.box ab_topo sb_topo rfl ?_
                      have S := S.tail
                      have S := S.tail
                      have S := S.f1
                      have S := S.f1
                      have S := S.f2
                      exact ⟨_, _, _, _, rfl, ⟨by first | omega | exact Nat.zero_le _, by first | omega | (rw [List.length_append, List.length_singleton]; omega)⟩, S, B⟩
                    · obtain ⟨e68, he68⟩ : ∃ e, (L6)[y67.toNat]? = some e := getx (by omega)
                      refine t_idx e_link (k := y67.toNat) (S.tail.tail.tail.sl) he68 (Below.refl _ _) rfl rfl (by first | rfl | omega) ?_ rfl
                      intro p68 hp68
                      refine t_alt ?_ ?_
                      · refine t_bx1 S.tail.tail.box ab_s_link rfl rfl ?_ rfl
                        refine t_lda (by assumption) ab_link sb_link (Below.refl _ _) rfl ?_ rfl
                        intro v69 hv69
                        obtain rfl := link_va hv69
                        refine t_lit (T := linkT) (l := [(e68 : Lnk)]) (css := [[I e68.a, I e68.ai, I e68.b, I e68.bi, I e68.kind]]) link_flat S (fun w => bs_link1 _ _ _ _ _ w) rfl rfl rfl rfl (by simp [maxLen]) (litR_one fun _ => rfl) ?_ rfl rfl
                        intro u70 w276 x277 S
                        have B := bx Hb B x277
                        have hR := S.sl
                        have S := S.f4
                        refine t_cat link_flat e_link S hR rfl rfl rfl (by first | omega | (simp [-List.length_flatMap]; omega)) (by (simp [maxLen, -List.length_flatMap]; try omega)) ?_ rfl
                        intro v71 w278 x279 S
                        have B := B.trans x279
                        clear hR
                        have S := S.f1
                        have S := S.tail
                        refine t_fldx fb_topo_1 rfl rfl ?_ rfl
                        obtain ⟨Av71, cv71, rfl, _⟩ := S.sl.form
                        have S := S.f3
                        refine t_st1 S sb_s_link rfl rfl rfl rfl rfl ?_
                        intro w280 b281 S
                        have B := B.trans b281
                        refine t_done' ?_
                        refine x_block_normal ?_
                        refine x_seq ?_
                        refine w_seq ?_
                        refine w_region ?_
                        refine t_bxn S.box ab_topo sb_topo rfl rfl ?_ rfl
                        have S := S.f4
                        refine t_stn S sb_topo rfl rfl rfl rfl (by intro zz hu; have hu : zz ∈ ([(.slice (some ⟨Gva6, 0, none⟩) A6.length Cva6), .slice Av71 (L6 ++ ([(e68 : Lnk)])).length cv71] : List Value) := hu; simp only [List.mem_cons, List.not_mem_nil, or_false] at hu; rcases hu with rfl | rfl <;> first | rfl | exact (SlR.cells (by first | assumption | exact S.tail.sl | exact S.tail.tail.sl | exact S.tail.tail.tail.sl | exact S.tail.tail.tail.tail.sl | exact S.tail.tail.tail.tail.tail.sl | exact S.tail.tail.tail.tail.tail.tail.sl | exact S.tail.tail.tail.tail.tail.tail.tail.sl | exact S.tail.tail.tail.tail.tail.tail.tail.tail.sl)).2) ?_
                        intro w282 b283 S
                        have B := B.trans b283
                        refine t_done ?_
                        refine x_seq ?_
                        refine w_ret ?_
                        refine x_retc rfl rfl S.box ab_topo sb_topo rfl ?_
                        have S := S.tail
                        have S := S.tail
                        have S := S.f1
                        have S := S.f1
                        have S := S.f2
                        exact ⟨_, _, _, _, rfl, ⟨by first | omega | exact Nat.zero_le _, by first | omega | (rw [List.length_append, List.length_singleton]; omega)⟩, S, B⟩
                      · refine t_lda (by assumption) ab_link sb_link (Below.refl _ _) rfl ?_ rfl
                        intro v69 hv69
                        obtain rfl := link_va hv69
                        refine t_alt ?_ ?_
                        · refine t_bx1 S.tail.tail.box ab_s_link rfl rfl ?_ rfl
                          refine t_lit (T := linkT) (l := [(e68 : Lnk)]) (css := [[I e68.a, I e68.ai, I e68.b, I e68.bi, I e68.kind]]) link_flat S (fun w => bs_link1 _ _ _ _ _ w) rfl rfl rfl rfl (by simp [maxLen]) (litR_one fun _ => rfl) ?_ rfl rfl
                          intro u70 w284 x285 S
                          have B := bx Hb B x285
                          have hR := S.sl
                          have S := S.f4
                          refine t_cat link_flat e_link S hR rfl rfl rfl (by first | omega | (simp [-List.length_flatMap]; omega)) (by (simp [maxLen, -List.length_flatMap]; try omega)) ?_ rfl
                          intro v71 w286 x287 S
                          have B := B.trans x287
                          clear hR
                          have S := S.f1
                          have S := S.tail
                          refine t_fldx fb_topo_1 rfl rfl ?_ rfl
                          obtain ⟨Av71, cv71, rfl, _⟩ := S.sl.form
                          have S := S.f3
                          refine t_st1 S sb_s_link rfl rfl rfl rfl rfl ?_
                          intro w288 b289 S
                          have B := B.trans b289
                          refine t_done' ?_
                          refine x_block_normal ?_
                          refine x_seq ?_
                          refine w_seq ?_
                          refine w_region ?_
                          refine t_bxn S.box ab_topo sb_topo rfl rfl ?_ rfl
                          have S := S.f4
                          refine t_stn S sb_topo rfl rfl rfl rfl (by intro zz hu; have hu : zz ∈ ([(.slice (some ⟨Gva6, 0, none⟩) A6.length Cva6), .slice Av71 (L6 ++ ([(e68 : Lnk)])).length cv71] : List Value) := hu; simp only [List.mem_cons, List.not_mem_nil, or_false] at hu; rcases hu with rfl | rfl <;> first | rfl | exact (SlR.cells (by first | assumption | exact S.tail.sl | exact S.tail.tail.sl | exact S.tail.tail.tail.sl | exact S.tail.tail.tail.tail.sl | exact S.tail.tail.tail.tail.tail.sl | exact S.tail.tail.tail.tail.tail.tail.sl | exact S.tail.tail.tail.tail.tail.tail.tail.sl | exact S.tail.tail.tail.tail.tail.tail.tail.tail.sl)).2) ?_
                          intro w290 b291 S
                          have B := B.trans b291
                          refine t_done ?_
                          refine x_seq ?_
                          refine w_ret ?_
                          refine x_retc rfl rfl S.box ab_topo sb_topo rfl ?_
                          have S := S.tail
                          have S := S.tail
                          have S := S.f1
                          have S := S.f1
                          have S := S.f2
                          exact ⟨_, _, _, _, rfl, ⟨by first | omega | exact Nat.zero_le _, by first | omega | (rw [List.length_append, List.length_singleton]; omega)⟩, S, B⟩
                        · refine t_lit (T := linkT) (l := [(e68 : Lnk)]) (css := [[I e68.a, I e68.ai, I e68.b, I e68.bi, I e68.kind]]) link_flat S (fun w => bs_link1 _ _ _ _ _ w) rfl rfl rfl rfl (by simp [maxLen]) (litR_one fun _ => rfl) ?_ rfl rfl
                          intro u70 w292 x293 S
                          have B := bx Hb B x293
                          refine t_bx1 S.tail.tail.tail.box ab_s_link rfl rfl ?_ rfl
                          have hR := S.sl
                          have S := S.f4
                          refine t_cat link_flat e_link S hR rfl rfl rfl (by first | omega | (simp [-List.length_flatMap]; omega)) (by (simp [maxLen, -List.length_flatMap]; try omega)) ?_ rfl
                          intro v71 w294 x295 S
                          have B := B.trans x295
                          clear hR
                          have S := S.f1
                          have S := S.tail
                          refine t_fldx fb_topo_1 rfl rfl ?_ rfl
                          obtain ⟨Av71, cv71, rfl, _⟩ := S.sl.form
                          have S := S.f3
                          refine t_st1 S sb_s_link rfl rfl rfl rfl rfl ?_
                          intro w296 b297 S
                          have B := B.trans b297
                          refine t_done' ?_
                          refine x_block_normal ?_
                          refine x_seq ?_
                          refine w_seq ?_
                          refine w_region ?_
                          refine t_bxn S.box ab_topo sb_topo rfl rfl ?_ rfl
                          have S := S.f4
                          refine t_stn S sb_topo rfl rfl rfl rfl (by intro zz hu; have hu : zz ∈ ([(.slice (some ⟨Gva6, 0, none⟩) A6.length Cva6), .slice Av71 (L6 ++ ([(e68 : Lnk)])).length cv71] : List Value) := hu; simp only [List.mem_cons, List.not_mem_nil, or_false] at hu; rcases hu with rfl | rfl <;> first | rfl | exact (SlR.cells (by first | assumption | exact S.tail.sl | exact S.tail.tail.sl | exact S.tail.tail.tail.sl | exact S.tail.tail.tail.tail.sl | exact S.tail.tail.tail.tail.tail.sl | exact S.tail.tail.tail.tail.tail.tail.sl | exact S.tail.tail.tail.tail.tail.tail.tail.sl | exact S.tail.tail.tail.tail.tail.tail.tail.tail.sl)).2) ?_
                          intro w298 b299 S
                          have B := B.trans b299
                          refine t_done ?_
                          refine x_seq ?_
                          refine w_ret ?_
                          refine x_retc rfl rfl S.box ab_topo sb_topo rfl ?_
                          have S := S.tail
                          have S := S.tail
                          have S := S.f1
                          have S := S.f1
                          have S := S.f2
                          exact ⟨_, _, _, _, rfl, ⟨by first | omega | exact Nat.zero_le _, by first | omega | (rw [List.length_append, List.length_singleton]; omega)⟩, S, B⟩
              · refine t_len e_link (S.tail.tail.tail.sl) rfl rfl ?_ rfl
                refine t_alt ?_ (t_alt ?_ ?_)
                · refine t_bx1 S.tail.tail.box ab_s_link rfl rfl ?_ rfl
                  refine t_alt ?_ ?_
                  · refine t_bx1 S.tail.tail.box ab_s_link rfl rfl ?_ rfl
                    have S := S.f1
                    refine t_callf Try.call64 rfl (spec_l1Below (L6.length : Int) S (K.below B)) ?_ rfl
                    rintro e w300 ⟨y67, rfl, hf67, S, x301⟩
                    refine ⟨_, rfl, ?_⟩
                    have B := B.trans x301
                    obtain ⟨e68, he68⟩ : ∃ e, (L6)[y67.toNat]? = some e := getx (by omega)
                    refine t_idx e_link (k := y67.toNat) (S.tail.tail.tail.sl) he68 (Below.refl _ _) rfl rfl (by first | rfl | omega) ?_ rfl
                    intro p68 hp68
                    refine t_lda (by assumption) ab_link sb_link (Below.refl _ _) rfl ?_ rfl
                    intro v69 hv69
                    obtain rfl := link_va hv69
                    refine t_lit (T := linkT) (l := [(e68 : Lnk)]) (css := [[I e68.a, I e68.ai, I e68.b, I e68.bi, I e68.kind]]) link_flat S (fun w => bs_link1 _ _ _ _ _ w) rfl rfl rfl rfl (by simp [maxLen]) (litR_one fun _ => rfl) ?_ rfl rfl
                    intro u70 w302 x303 S
                    have B := bx Hb B x303
                    have hR := S.sl
                    have S := S.f4
                    refine t_cat link_flat e_link S hR rfl rfl rfl (by first | omega | (simp [-List.length_flatMap]; omega)) (by (simp [maxLen, -List.length_flatMap]; try omega)) ?_ rfl
                    intro v71 w304 x305 S
                    have B := B.trans x305
                    clear hR
                    have S := S.f1
                    have S := S.tail
                    refine t_fldx fb_topo_1 rfl rfl ?_ rfl
                    obtain ⟨Av71, cv71, rfl, _⟩ := S.sl.form
                    have S := S.f3
                    refine t_st1 S sb_s_link rfl rfl rfl rfl rfl ?_
                    intro w306 b307 S
                    have B := B.trans b307
                    refine t_done' ?_
                    refine x_block_normal ?_
                    refine x_seq ?_
                    refine w_seq ?_
                    refine w_region ?_
                    refine t_bxn S.box ab_topo sb_topo rfl rfl ?_ rfl
                    have S := S.f4
                    refine t_stn S sb_topo rfl rfl rfl rfl (by intro zz hu; have hu : zz ∈ ([(.slice (some ⟨Gva6, 0, none⟩) A6.length Cva6), .slice Av71 (L6 ++ ([(e68 : Lnk)])).length cv71] : List Value) := hu; simp only [List.mem_cons, List.not_mem_nil, or_false] at hu; rcases hu with rfl | rfl <;> first | rfl | exact (SlR.cells (by first | assumption | exact S.tail.sl | exact S.tail.tail.sl | exact S.tail.tail.tail.sl | exact S.tail.tail.tail.tail.sl | exact S.tail.tail.tail.tail.tail.sl | exact S.tail.tail.tail.tail.tail.tail.sl | exact S.tail.tail.tail.tail.tail.tail.tail.sl | exact S.tail.tail.tail.tail.tail.tail.tail.tail.sl)).2) ?_
                    intro w308 b309 S
                    have B := B.trans b309
                    refine t_done ?_
                    refine x_seq ?_
                    refine w_ret ?_
                    refine x_retc rfl rfl S.box ab_topo sb_topo rfl ?_
                    have S := S.tail
                    have S := S.tail
                    have S := S.f1
                    have S := S.f1
                    have S := S.f2
                    exact ⟨_, _, _, _, rfl, ⟨by first | omega | exact Nat.zero_le _, by first | omega | (rw [List.length_append, List.length_singleton]; omega)⟩, S, B⟩
                  · have S := S.f1
                    refine t_callf Try.call64 rfl (spec_l1Below (L6.length : Int) S (K.below B)) ?_ rfl
                    rintro e w310 ⟨y67, rfl, hf67, S, x311⟩
                    refine ⟨_, rfl, ?_⟩
                    have B := B.trans x311
                    refine t_bx1 S.tail.tail.box ab_s_link rfl rfl ?_ rfl
                    obtain ⟨e68, he68⟩ : ∃ e, (L6)[y67.toNat]? = some e := getx (by omega)
                    refine t_idx e_link (k := y67.toNat) (S.tail.tail.tail.sl) he68 (Below.refl _ _) rfl rfl (by first | rfl | omega) ?_ rfl
                    intro p68 hp68
                    refine t_lda (by assumption) ab_link sb_link (Below.refl _ _) rfl ?_ rfl
                    intro v69 hv69
                    obtain rfl := link_va hv69
                    refine t_lit (T := linkT) (l := [(e68 : Lnk)]) (css := [[I e68.a, I e68.ai, I e68.b, I e68.bi, I e68.kind]]) link_flat S (fun w => bs_link1 _ _ _ _ _ w) rfl rfl rfl rfl (by simp [maxLen]) (litR_one fun _ => rfl) ?_ rfl rfl
                    intro u70 w312 x313 S
                    have B := bx Hb B x313
                    have hR := S.sl
                    have S := S.f4
                    refine t_cat link_flat e_link S hR rfl rfl rfl (by first | omega | (simp [-List.length_flatMap]; omega)) (by (simp [maxLen, -List.length_flatMap]; try omega)) ?_ rfl
                    intro v71 w314 x315 S
                    have B := B.trans x315
                    clear hR
                    have S := S.f1
                    have S := S.tail
                    refine t_fldx fb_topo_1 rfl rfl ?_ rfl
                    obtain ⟨Av71, cv71, rfl, _⟩ := S.sl.form
                    have S := S.f3
                    refine t_st1 S sb_s_link rfl rfl rfl rfl rfl ?_
                    intro w316 b317 S
                    have B := B.trans b317
                    refine t_done' ?_
                    refine x_block_normal ?_
                    refine x_seq ?_
                    refine w_seq ?_
                    refine w_region ?_
                    refine t_bxn S.box ab_topo sb_topo rfl rfl ?_ rfl
                    have S := S.f4
                    refine t_stn S sb_topo rfl rfl rfl rfl (by intro zz hu; have hu : zz ∈ ([(.slice (some ⟨Gva6, 0, none⟩) A6.length Cva6), .slice Av71 (L6 ++ ([(e68 : Lnk)])).length cv71] : List Value) := hu; simp only [List.mem_cons, List.not_mem_nil, or_false] at hu; rcases hu with rfl | rfl <;> first | rfl | exact (SlR.cells (by first | assumption | exact S.tail.sl | exact S.tail.tail.sl | exact S.tail.tail.tail.sl | exact S.tail.tail.tail.tail.sl | exact S.tail.tail.tail.tail.tail.sl | exact S.tail.tail.tail.tail.tail.tail.sl | exact S.tail.tail.tail.tail.tail.tail.tail.sl | exact S.tail.tail.tail.tail.tail.tail.tail.tail.sl)).2) ?_
                    intro w318 b319 S
                    have B := B.trans b319
                    refine t_done ?_
                    refine x_seq ?_
                    refine w_ret ?_
                    refine x_retc rfl rfl S.box ab_topo sb_topo rfl ?_
                    have S := S.tail
                    have S := S.tail
                    have S := S.f1
                    have S := S.f1
                    have S := S.f2
                    exact ⟨_, _, _, _, rfl, ⟨by first | omega | exact Nat.zero_le _, by first | omega | (rw [List.length_append, List.length_singleton]; omega)⟩, S, B⟩
                · refine t_bx1 S.tail.tail.box ab_s_link rfl rfl ?_ rfl
                  refine t_alt ?_ ?_
                  · refine t_bx1 S.tail.tail.box ab_s_link rfl rfl ?_ rfl
                    have S := S.f1
                    refine t_callf Try.call64 rfl (spec_l1Below (L6.length : Int) S (K.below B)) ?_ rfl
                    rintro e w320 ⟨y67, rfl, hf67, S, x321⟩
                    refine ⟨_, rfl, ?_⟩
                    have B := B.trans x321
                    obtain ⟨e68, he68⟩ : ∃ e, (L6)[y67.toNat]? = some e := getx (by omega)
                    refine t_idx e_link (k := y67.toNat) (S.tail.tail.tail.sl) he68 (Below.refl _ _) rfl rfl (by first | rfl | omega) ?_ rfl
                    intro p68 hp68
                    refine t_lda (by assumption) ab_link sb_link (Below.refl _ _) rfl ?_ rfl
                    intro v69 hv69
                    obtain rfl := link_va hv69
                    refine t_lit (T := linkT) (l := [(e68 : Lnk)]) (css := [[I e68.a, I e68.ai, I e68.b, I e68.bi, I e68.kind]]) link_flat S (fun w => bs_link1 _ _ _ _ _ w) rfl rfl rfl rfl (by simp [maxLen]) (litR_one fun _ => rfl) ?_ rfl rfl
                    intro u70 w322 x323 S
                    have B := bx Hb B x323
                    have hR := S.sl
                    have S := S.f4
                    refine t_cat link_flat e_link S hR rfl rfl rfl (by first | omega | (simp [-List.length_flatMap]; omega)) (by (simp [maxLen, -List.length_flatMap]; try omega)) ?_ rfl
                    intro v71 w324 x325 S
                    have B := B.trans x325
                    clear hR
                    have S := S.f1
                    have S := S.tail
                    refine t_fldx fb_topo_1 rfl rfl ?_ rfl
                    obtain ⟨Av71, cv71, rfl, _⟩ := S.sl.form
                    have S := S.f3
                    refine t_st1 S sb_s_link rfl rfl rfl rfl rfl ?_
                    intro w326 b327 S
                    have B := B.trans b327
                    refine t_done' ?_
                    refine x_block_normal ?_
                    refine x_seq ?_
                    refine w_seq ?_
                    refine w_region ?_
                    refine t_bxn S.box ab_topo sb_topo rfl rfl ?_ rfl
                    have S := S.f4
                    refine t_stn S sb_topo rfl rfl rfl rfl (by intro zz hu; have hu : zz ∈ ([(.slice (some ⟨Gva6, 0, none⟩) A6.length Cva6), .slice Av71 (L6 ++ ([(e68 : Lnk)])).length cv71] : List Value) := hu; simp only [List.mem_cons, List.not_mem_nil, or_false] at hu; rcases hu with rfl | rfl <;> first | rfl | exact (SlR.cells (by first | assumption | exact S.tail.sl | exact S.tail.tail.sl | exact S.tail.tail.tail.sl | exact S.tail.tail.tail.tail.sl | exact S.tail.tail.tail.tail.tail.sl | exact S.tail.tail.tail.tail.tail.tail.sl | exact S.tail.tail.tail.tail.tail.tail.tail.sl | exact S.tail.tail.tail.tail.tail.tail.tail.tail.sl)).2) ?_
                    intro w328 b329 S
                    have B := B.trans b329
                    refine t_done ?_
                    refine x_seq ?_
                    refine w_ret ?_
                    refine x_retc rfl rfl S.box ab_topo sb_topo rfl ?_
                    have S := S.tail
                    have S := S.tail
                    have S := S.f1
                    have S := S.f1
                    have S := S.f2
                    exact ⟨_, _, _, _, rfl, ⟨by first | omega | exact Nat.zero_le _, by first | omega | (rw [List.length_append, List.length_singleton]; omega)⟩, S, B⟩
                  · have S := S.f1
                    refine t_callf Try.call64 rfl (spec_l1Below (L6.length : Int) S (K.below B)) ?_ rfl
                    rintro e w330 ⟨y67, rfl, hf67, S, x331⟩
                    refine ⟨_, rfl, ?_⟩
                    have B := B.trans x331
                    refine t_alt ?_ ?_
                    · refine t_bx1 S.tail.tail.box ab_s_link rfl rfl ?_ rfl
                      obtain ⟨e68, he68⟩ : ∃ e, (L6)[y67.toNat]? = some e := getx (by omega)
                      refine t_idx e_link (k := y67.toNat) (S.tail.tail.tail.sl) he68 (Below.refl _ _) rfl rfl (by first | rfl | omega) ?_ rfl
                      intro p68 hp68
                      refine t_lda (by assumption) ab_link sb_link (Below.refl _ _) rfl ?_ rfl
                      intro v69 hv69
                      obtain rfl := link_va hv69
                      refine t_lit (T := linkT) (l := [(e68 : Lnk)]) (css := [[I e68.a, I e68.ai, I e68.b, I e68.bi, I e68.kind]]) link_flat S (fun w => bs_link1 _ _ _ _ _ w) rfl rfl rfl rfl (by simp [maxLen]) (litR_one fun _ => rfl) ?_ rfl rfl
                      intro u70 w332 x333 S
                      have B := bx Hb B x333
                      have hR := S.sl
                      have S := S.f4
                      refine t_cat link_flat e_link S hR rfl rfl rfl (by first | omega | (simp [-List.length_flatMap]; omega)) (by (simp [maxLen, -List.length_flatMap]; try omega)) ?_ rfl
                      intro v71 w334 x335 S
                      have B := B.trans x335
                      clear hR
                      have S := S.f1
                      have S := S.tail
                      refine t_fldx fb_topo_1 rfl rfl ?_ rfl
                      obtain ⟨Av71, cv71, rfl, _⟩ := S.sl.form
                      have S := S.f3
                      refine t_st1 S sb_s_link rfl rfl rfl rfl rfl ?_
                      intro w336 b337 S
                      have B := B.trans b337
                      refine t_done' ?_
                      refine x_block_normal ?_
                      refine x_seq ?_
                      refine w_seq ?_
                      refine w_region ?_
                      refine t_bxn S.box ab_topo sb_topo rfl rfl ?_ rfl
                      have S := S.f4
                      refine t_stn S sb_topo rfl rfl rfl rfl (by intro zz hu; have hu : zz ∈ ([(.slice (some ⟨Gva6, 0, none⟩) A6.length Cva6), .slice Av71 (L6 ++ ([(e68 : Lnk)])).length cv71] : List Value) := hu; simp only [List.mem_cons, List.not_mem_nil, or_false] at hu; rcases hu with rfl | rfl <;> first | rfl | exact (SlR.cells (by first | assumption | exact S.tail.sl | exact S.tail.tail.sl | exact S.tail.tail.tail.sl | exact S.tail.tail.tail.tail.sl | exact S.tail.tail.tail.tail.tail.sl | exact S.tail.tail.tail.tail.tail.tail.sl | exact S.tail.tail.tail.tail.tail.tail.tail.sl | exact S.tail.tail.tail.tail.tail.tail.tail.tail.sl)).2) ?_
                      intro w338 b339 S
                      have B := B.trans b339
                      refine t_done ?_
                      refine x_seq ?_
                      refine w_ret ?_
                      refine x_retc rfl rfl S.box ab_topo sb_topo rfl ?_
                      have S := S.tail
                      have S := S.tail
                      have S := S.f1
                      have S := S.f1
                      have S := S.f2
                      exact ⟨_, _, _, _, rfl, ⟨by first | omega | exact Nat.zero_le _, by first | omega | (rw [List.length_append, List.length_singleton]; omega)⟩, S, B⟩
                    · obtain ⟨e68, he68⟩ : ∃ e, (L6)[y67.toNat]? = some e := getx (by omega)
                      refine t_idx e_link (k := y67.toNat) (S.tail.tail.tail.sl) he68 (Below.refl _ _) rfl rfl (by first | rfl | omega) ?_ rfl
                      intro p68 hp68
                      refine t_alt ?_ ?_
                      · refine t_bx1 S.tail.tail.box ab_s_link rfl rfl ?_ rfl
                        refine t_lda (by assumption) ab_link sb_link (Below.refl _ _) rfl ?_ rfl
                        intro v69 hv69
                        obtain rfl := link_va hv69
                        refine t_lit (T := linkT) (l := [(e68 : Lnk)]) (css := [[I e68.a, I e68.ai, I e68.b, I e68.bi, I e68.kind]]) link_flat S (fun w => bs_link1 _ _ _ _ _ w) rfl rfl rfl rfl (by simp [maxLen]) (litR_one fun _ => rfl) ?_ rfl rfl
                        intro u70 w340 x341 S
                        have B := bx Hb B x341
                        have hR := S.sl
                        have S := S.f4
                        refine t_cat link_flat e_link S hR rfl rfl rfl (by first | omega | (simp [-List.length_flatMap]; omega)) (by (simp [maxLen, -List.length_flatMap]; try omega)) ?_ rfl
                        intro v71 w342 x343 S
                        have B := B.trans x343
                        clear hR
                        have S := S.f1
                        have S := S.tail
                        refine t_fldx fb_topo_1 rfl rfl ?_ rfl
                        obtain ⟨Av71, cv71, rfl, _⟩ := S.sl.form
                        have S := S.f3
                        refine t_st1 S sb_s_link rfl rfl rfl rfl rfl ?_
                        intro w344 b345 S
                        have B := B.trans b345
                        refine t_done' ?_
                        refine x_block_normal ?_
                        refine x_seq ?_
                        refine w_seq ?_
                        refine w_region ?_
                        refine t_bxn S.box ab_topo sb_topo rfl rfl ?_ rfl
                        have S := S.f4
                        refine t_stn S sb_topo rfl rfl rfl rfl (by intro zz hu; have hu : zz ∈ ([(.slice (some ⟨Gva6, 0, none⟩) A6.length Cva6), .slice Av71 (L6 ++ ([(e68 : Lnk)])).length cv71] : List Value) := hu; simp only [List.mem_cons, List.not_mem_nil, or_false] at hu; rcases hu with rfl | rfl <;> first | rfl | exact (SlR.cells (by first | assumption | exact S.tail.sl | exact S.tail.tail.sl | exact S.tail.tail.tail.sl | exact S.tail.tail.tail.tail.sl | exact S.tail.tail.tail.tail.tail.sl | exact S.tail.tail.tail.tail.tail.tail.sl | exact S.tail.tail.tail.tail.tail.tail.tail.sl | exact S.tail.tail.tail.tail.tail.tail.tail.tail.sl)).2) ?_
                        intro w346 b347 S
                        have B := B.trans b347
                        refine t_done ?_
                        refine x_seq ?_
                        refine w_ret ?_
                        refine x_retc rfl rfl S.box ab_topo sb_topo rfl ?_
                        have S := S.tail
                        have S := S.tail
                        have S := S.f1
                        have S := S.f1
                        have S := S.f2
                        exact ⟨_, _, _, _, rfl, ⟨by first | omega | exact Nat.zero_le _, by first | omega | (rw [List.length_append, List.length_singleton]; omega)⟩, S, B⟩
                      · refine t_lda (by assumption) ab_link sb_link (Below.refl _ _) rfl ?_ rfl
                        intro v69 hv69
                        obtain rfl := link_va hv69
                        refine t_alt ?_ ?_
                        · refine t_bx1 S.tail.tail.box ab_s_link rfl rfl ?_ rfl
                          refine t_lit (T := linkT) (l := [(e68 : Lnk)]) (css := [[I e68.a, I e68.ai, I e68.b, I e68.bi, I e68.kind]]) link_flat S (fun w => bs_link1 _ _ _ _ _ w) rfl rfl rfl rfl (by simp [maxLen]) (litR_one fun _ => rfl) ?_ rfl rfl
                          intro u70 w348 x349 S
                          have B := bx Hb B x349
                          have hR := S.sl
                          have S := S.f4
                          refine t_cat link_flat e_link S hR rfl rfl rfl (by first | omega | (simp [-List.length_flatMap]; omega)) (by (simp [maxLen, -List.length_flatMap]; try omega)) ?_ rfl
                          intro v71 w350 x351 S
                          have B := B.trans x351
                          clear hR
                          have S := S.f1
                          have S := S.tail
                          refine t_fldx fb_topo_1 rfl rfl ?_ rfl
                          obtain ⟨Av71, cv71, rfl, _⟩ := S.sl.form
                          have S := S.f3
                          refine t_st1 S sb_s_link rfl rfl rfl rfl rfl ?_
                          intro w352 b353 S
                          have B := B.trans b353
                          refine t_done' ?_
                          refine x_block_normal ?_
                          refine x_seq ?_
                          refine w_seq ?_
                          refine w_region ?_
                          refine t_bxn S.box ab_topo sb_topo rfl rfl ?_ rfl
                          have S := S.f4
                          refine t_stn S sb_topo rfl rfl rfl rfl (by intro zz hu; have hu : zz ∈ ([(.slice (some ⟨Gva6, 0, none⟩) A6.length Cva6), .slice Av71 (L6 ++ ([(e68 : Lnk)])).length cv71] : List Value) := hu; simp only [List.mem_cons, List.not_mem_nil, or_false] at hu; rcases hu with rfl | rfl <;> first | rfl | exact (SlR.cells (by first | assumption | exact S.tail.sl | exact S.tail.tail.sl | exact S.tail.tail.tail.sl | exact S.tail.tail.tail.tail.sl | exact S.tail.tail.tail.tail.tail.sl | exact S.tail.tail.tail.tail.tail.tail.sl | exact S.tail.tail.tail.tail.tail.tail.tail.sl | exact S.tail.tail.tail.tail.tail.tail.tail.tail.sl)).2) ?_
                          intro w354 b355 S
                          have B := B.trans b355
                          refine t_done ?_
                          refine x_seq ?_
                          refine w_ret ?_
                          refine x_retc rfl rfl S.box ab_topo sb_topo rfl ?_
                          have S := S.tail
                          have S := S.tail
                          have S := S.f1
                          have S := S.f1
                          have S := S.f2
                          exact ⟨_, _, _, _, rfl, ⟨by first | omega | exact Nat.zero_le _, by first | omega | (rw [List.length_append, List.length_singleton]; omega)⟩, S, B⟩
                        · refine t_lit (T := linkT) (l := [(e68 : Lnk)]) (css := [[I e68.a, I e68.ai, I e68.b, I e68.bi, I e68.kind]]) link_flat S (fun w => bs_link1 _ _ _ _ _ w) rfl rfl rfl rfl (by simp [maxLen]) (litR_one fun _ => rfl) ?_ rfl rfl
                          intro u70 w356 x357 S
                          have B := bx Hb B x357
                          refine t_bx1 S.tail.tail.tail.box ab_s_link rfl rfl ?_ rfl
                          have hR := S.sl
                          have S := S.f4
                          refine t_cat link_flat e_link S hR rfl rfl rfl (by first | omega | (simp [-List.length_flatMap]; omega)) (by (simp [maxLen, -List.length_flatMap]; try omega)) ?_ rfl
                          intro v71 w358 x359 S
                          have B := B.trans x359
                          clear hR
                          have S := S.f1
                          have S := S.tail
                          refine t_fldx fb_topo_1 rfl rfl ?_ rfl
                          obtain ⟨Av71, cv71, rfl, _⟩ := S.sl.form
                          have S := S.f3
                          refine t_st1 S sb_s_link rfl rfl rfl rfl rfl ?_
                          intro w360 b361 S
                          have B := B.trans b361
                          refine t_done' ?_
                          refine x_block_normal ?_
                          refine x_seq ?_
                          refine w_seq ?_
                          refine w_region ?_
                          refine t_bxn S.box ab_topo sb_topo rfl rfl ?_ rfl
                          have S := S.f4
                          refine t_stn S sb_topo rfl rfl rfl rfl (by intro zz hu; have hu : zz ∈ ([(.slice (some ⟨Gva6, 0, none⟩) A6.length Cva6), .slice Av71 (L6 ++ ([(e68 : Lnk)])).length cv71] : List Value) := hu; simp only [List.mem_cons, List.not_mem_nil, or_false] at hu; rcases hu with rfl | rfl <;> first | rfl | exact (SlR.cells (by first | assumption | exact S.tail.sl | exact S.tail.tail.sl | exact S.tail.tail.tail.sl | exact S.tail.tail.tail.tail.sl | exact S.tail.tail.tail.tail.tail.sl | exact S.tail.tail.tail.tail.tail.tail.sl | exact S.tail.tail.tail.tail.tail.tail.tail.sl | exact S.tail.tail.tail.tail.tail.tail.tail.tail.sl)).2) ?_
                          intro w362 b363 S
                          have B := B.trans b363
                          refine t_done ?_
                          refine x_seq ?_
                          refine w_ret ?_
                          refine x_retc rfl rfl S.box ab_topo sb_topo rfl ?_
                          have S := S.tail
                          have S := S.tail
                          have S := S.f1
                          have S := S.f1
                          have S := S.f2
                          exact ⟨_, _, _, _, rfl, ⟨by first | omega | exact Nat.zero_le _, by first | omega | (rw [List.length_append, List.length_singleton]; omega)⟩, S, B⟩
                · have S := S.f1
                  refine t_callf Try.call64 rfl (spec_l1Below (L6.length : Int) S (K.below B)) ?_ rfl
                  rintro e w364 ⟨y67, rfl, hf67, S, x365⟩
                  refine ⟨_, rfl, ?_⟩
                  have B := B.trans x365
                  refine t_alt ?_ ?_
                  · refine t_bx1 S.tail.tail.box ab_s_link rfl rfl ?_ rfl
                    refine t_bx1 S.tail.tail.box ab_s_link rfl rfl ?_ rfl
                    obtain ⟨e68, he68⟩ : ∃ e, (L6)[y67.toNat]? = some e := getx (by omega)
                    refine t_idx e_link (k := y67.toNat) (S.tail.tail.tail.sl) he68 (Below.refl _ _) rfl rfl (by first | rfl | omega) ?_ rfl
                    intro p68 hp68
                    refine t_lda (by assumption) ab_link sb_link (Below.refl _ _) rfl ?_ rfl
                    intro v69 hv69
                    obtain rfl := link_va hv69
                    refine t_lit (T := linkT) (l := [(e68 : Lnk)]) (css := [[I e68.a, I e68.ai, I e68.b, I e68.bi, I e68.kind]]) link_flat S (fun w => bs_link1 _ _ _ _ _ w) rfl rfl rfl rfl (by simp [maxLen]) (litR_one fun _ => rfl) ?_ rfl rfl
                    intro u70 w366 x367 S
                    have B := bx Hb B x367
                    have hR := S.sl
                    have S := S.f4
                    refine t_cat link_flat e_link S hR rfl rfl rfl (by first | omega | (simp [-List.length_flatMap]; omega)) (by (simp [maxLen, -List.length_flatMap]; try omega)) ?_ rfl
                    intro v71 w368 x369 S
                    have B := B.trans x369
                    clear hR
                    have S := S.f1
                    have S := S.tail
                    refine t_fldx fb_topo_1 rfl rfl ?_ rfl
                    obtain ⟨Av71, cv71, rfl, _⟩ := S.sl.form
                    have S := S.f3
                    refine t_st1 S sb_s_link rfl rfl rfl rfl rfl ?_
                    intro w370 b371 S
                    have B := B.trans b371
                    refine t_done' ?_
                    refine x_block_normal ?_
                    refine x_seq ?_
                    refine w_seq ?_
                    refine w_region ?_
                    refine t_bxn S.box ab_topo sb_topo rfl rfl ?_ rfl
                    have S := S.f4
                    refine t_stn S sb_topo rfl rfl rfl rfl (by intro zz hu; have hu : zz ∈ ([(.slice (some ⟨Gva6, 0, none⟩) A6.length Cva6), .slice Av71 (L6 ++ ([(e68 : Lnk)])).length cv71] : List Value) := hu; simp only [List.mem_cons, List.not_mem_nil, or_false] at hu; rcases hu with rfl | rfl <;> first | rfl | exact (SlR.cells (by first | assumption | exact S.tail.sl | exact S.tail.tail.sl | exact S.tail.tail.tail.sl | exact S.tail.tail.tail.tail.sl | exact S.tail.tail.tail.tail.tail.sl | exact S.tail.tail.tail.tail.tail.tail.sl | exact S.tail.tail.tail.tail.tail.tail.tail.sl | exact S.tail.tail.tail.tail.tail.tail.tail.tail.sl)).2) ?_
                    intro w372 b373 S
                    have B := B.trans b373
                    refine t_done ?_
                    refine x_seq ?_
                    refine w_ret ?_
                    refine x_retc rfl rfl S.box ab_topo sb_topo rfl ?_
                    have S := S.tail
                    have S := S.tail
                    have S := S.f1
                    have S := S.f1
                    have S := S.f2
                    exact ⟨_, _, _, _, rfl, ⟨by first | omega | exact Nat.zero_le _, by first | omega | (rw [List.length_append, List.length_singleton]; omega)⟩, S, B⟩
                  · refine t_bx1 S.tail.tail.box ab_s_link rfl rfl ?_ rfl
                    refine t_alt ?_ ?_
                    · refine t_bx1 S.tail.tail.box ab_s_link rfl rfl ?_ rfl
                      obtain ⟨e68, he68⟩ : ∃ e, (L6)[y67.toNat]? = some e := getx (by omega)
                      refine t_idx e_link (k := y67.toNat) (S.tail.tail.tail.sl) he68 (Below.refl _ _) rfl rfl (by first | rfl | omega) ?_ rfl
                      intro p68 hp68
                      refine t_lda (by assumption) ab_link sb_link (Below.refl _ _) rfl ?_ rfl
                      intro v69 hv69
                      obtain rfl := link_va hv69
                      refine t_lit (T := linkT) (l := [(e68 : Lnk)]) (css := [[I e68.a, I e68.ai, I e68.b, I e68.bi, I e68.kind]]) link_flat S (fun w => bs_link1 _ _ _ _ _ w) rfl rfl rfl rfl (by simp [maxLen]) (litR_one fun _ => rfl) ?_ rfl rfl
                      intro u70 w374 x375 S
                      have B := bx Hb B x375
                      have hR := S.sl
                      have S := S.f4
                      refine t_cat link_flat e_link S hR rfl rfl rfl (by first | omega | (simp [-List.length_flatMap]; omega)) (by (simp [maxLen, -List.length_flatMap]; try omega)) ?_ rfl
                      intro v71 w376 x377 S
                      have B := B.trans x377
                      clear hR
                      have S := S.f1
                      have S := S.tail
                      refine t_fldx fb_topo_1 rfl rfl ?_ rfl
                      obtain ⟨Av71, cv71, rfl, _⟩ := S.sl.form
                      have S := S.f3
                      refine t_st1 S sb_s_link rfl rfl rfl rfl rfl ?_
                      intro w378 b379 S
                      have B := B.trans b379
                      refine t_done' ?_
                      refine x_block_normal ?_
                      refine x_seq ?_
                      refine w_seq ?_
                      refine w_region ?_
                      refine t_bxn S.box ab_topo sb_topo rfl rfl ?_ rfl
                      have S := S.f4
                      refine t_stn S sb_topo rfl rfl rfl rfl (by intro zz hu; have hu : zz ∈ ([(.slice (some ⟨Gva6, 0, none⟩) A6.length Cva6), .slice Av71 (L6 ++ ([(e68 : Lnk)])).length cv71] : List Value) := hu; simp only [List.mem_cons, List.not_mem_nil, or_false] at hu; rcases hu with rfl | rfl <;> first | rfl | exact (SlR.cells (by first | assumption | exact S.tail.sl | exact S.tail.tail.sl | exact S.tail.tail.tail.sl | exact S.tail.tail.tail.tail.sl | exact S.tail.tail.tail.tail.tail.sl | exact S.tail.tail.tail.tail.tail.tail.sl | exact S.tail.tail.tail.tail.tail.tail.tail.sl | exact S.tail.tail.tail.tail.tail.tail.tail.tail.sl)).2) ?_
                      intro w380 b381 S
                      have B := B.trans b381
                      refine t_done ?_
                      refine x_seq ?_
                      refine w_ret ?_
                      refine x_retc rfl rfl S.box ab_topo sb_topo rfl ?_
                      have S := S.tail
                      have S := S.tail
                      have S := S.f1
                      have S := S.f1
                      have S := S.f2
                      exact ⟨_, _, _, _, rfl, ⟨by first | omega | exact Nat.zero_le _, by first | omega | (rw [List.length_append, List.length_singleton]; omega)⟩, S, B⟩
                    · obtain ⟨e68, he68⟩ : ∃ e, (L6)[y67.toNat]? = some e := getx (by omega)
                      refine t_idx e_link (k := y67.toNat) (S.tail.tail.tail.sl) he68 (Below.refl _ _) rfl rfl (by first | rfl | omega) ?_ rfl
                      intro p68 hp68
                      refine t_alt ?_ ?_
                      · refine t_bx1 S.tail.tail.box ab_s_link rfl rfl ?_ rfl
                        refine t_lda (by assumption) ab_link sb_link (Below.refl _ _) rfl ?_ rfl
                        intro v69 hv69
                        obtain rfl := link_va hv69
                        refine t_lit (T := linkT) (l := [(e68 : Lnk)]) (css := [[I e68.a, I e68.ai, I e68.b, I e68.bi, I e68.kind]]) link_flat S (fun w => bs_link1 _ _ _ _ _ w) rfl rfl rfl rfl (by simp [maxLen]) (litR_one fun _ => rfl) ?_ rfl rfl
                        intro u70 w382 x383 S
                        have B := bx Hb B x383
                        have hR := S.sl
                        have S := S.f4
                        refine t_cat link_flat e_link S hR rfl rfl rfl (by first | omega | (simp [-List.length_flatMap]; omega)) (by (simp [maxLen, -List.length_flatMap]; try omega)) ?_ rfl
                        intro v71 w384 x385 S
                        have B := B.trans x385
                        clear hR
                        have S := S.f1
                        have S := S.tail
                        refine t_fldx fb_topo_1 rfl rfl ?_ rfl
                        obtain ⟨Av71, cv71, rfl, _⟩ := S.sl.form
                        have S := S.f3
                        refine t_st1 S sb_s_link rfl rfl rfl rfl rfl ?_
                        intro w386 b387 S
                        have B := B.trans b387
                        refine t_done' ?_
                        refine x_block_normal ?_
                        refine x_seq ?_
                        refine w_seq ?_
                        refine w_region ?_
                        refine t_bxn S.box ab_topo sb_topo rfl rfl ?_ rfl
                        have S := S.f4
                        refine t_stn S sb_topo rfl rfl rfl rfl (by intro zz hu; have hu : zz ∈ ([(.slice (some ⟨Gva6, 0, none⟩) A6.length Cva6), .slice Av71 (L6 ++ ([(e68 : Lnk)])).length cv71] : List Value) := hu; simp only [List.mem_cons, List.not_mem_nil, or_false] at hu; rcases hu with rfl | rfl <;> first | rfl | exact (SlR.cells (by first | assumption | exact S.tail.sl | exact S.tail.tail.sl | exact S.tail.tail.tail.sl | exact S.tail.tail.tail.tail.sl | exact S.tail.tail.tail.tail.tail.sl | exact S.tail.tail.tail.tail.tail.tail.sl | exact S.tail.tail.tail.tail.tail.tail.tail.sl | exact S.tail.tail.tail.tail.tail.tail.tail.tail.sl)).2) ?_
                        intro w388 b389 S
                        have B := B.trans b389
                        refine t_done ?_
                        refine x_seq ?_
                        refine w_ret ?_
                        refine x_retc rfl rfl S.box ab_topo sb_topo rfl ?_
                        have S := S.tail
                        have S := S.tail
                        have S := S.f1
                        have S := S.f1
                        have S := S.f2
                        exact ⟨_, _, _, _, rfl, ⟨by first | omega | exact Nat.zero_le _, by first | omega | (rw [List.length_append, List.length_singleton]; omega)⟩, S, B⟩
                      · refine t_lda (by assumption) ab_link sb_link (Below.refl _ _) rfl ?_ rfl
                        intro v69 hv69
                        obtain rfl := link_va hv69
                        refine t_alt ?_ ?_
                        · refine t_bx1 S.tail.tail.box ab_s_link rfl rfl ?_ rfl
                          refine t_lit (T := linkT) (l := [(e68 : Lnk)]) (css := [[I e68.a, I e68.ai, I e68.b, I e68.bi, I e68.kind]]) link_flat S (fun w => bs_link1 _ _ _ _ _ w) rfl rfl rfl rfl (by simp [maxLen]) (litR_one fun _ => rfl) ?_ rfl rfl
                          intro u70 w390 x391 S
                          have B := bx Hb B x391
                          have hR := S.sl
                          have S := S.f4
                          refine t_cat link_flat e_link S hR rfl rfl rfl (by first | omega | (simp [-List.length_flatMap]; omega)) (by (simp [maxLen, -List.length_flatMap]; try omega)) ?_ rfl
                          intro v71 w392 x393 S
                          have B := B.trans x393
                          clear hR
                          have S := S.f1
                          have S := S.tail
                          refine t_fldx fb_topo_1 rfl rfl ?_ rfl
                          obtain ⟨Av71, cv71, rfl, _⟩ := S.sl.form
                          have S := S.f3
                          refine t_st1 S sb_s_link rfl rfl rfl rfl rfl ?_
                          intro w394 b395 S
                          have B := B.trans b395
                          refine t_done' ?_
                          refine x_block_normal ?_
                          refine x_seq ?_
                          refine w_seq ?_
                          refine w_region ?_
                          refine t_bxn S.box ab_topo sb_topo rfl rfl ?_ rfl
                          have S := S.f4
                          refine t_stn S sb_topo rfl rfl rfl rfl (by intro zz hu; have hu : zz ∈ ([(.slice (some ⟨Gva6, 0, none⟩) A6.length Cva6), .slice Av71 (L6 ++ ([(e68 : Lnk)])).length cv71] : List Value) := hu; simp only [List.mem_cons, List.not_mem_nil, or_false] at hu; rcases hu with rfl | rfl <;> first | rfl | exact (SlR.cells (by first | assumption | exact S.tail.sl | exact S.tail.tail.sl | exact S.tail.tail.tail.sl | exact S.tail.tail.tail.tail.sl | exact S.tail.tail.tail.tail.tail.sl | exact S.tail.tail.tail.tail.tail.tail.sl | exact S.tail.tail.tail.tail.tail.tail.tail.sl | exact S.tail.tail.tail.tail.tail.tail.tail.tail.sl)).2) ?_
                          intro w396 b397 S
                          have B := B.trans b397
                          refine t_done ?_
                          refine x_seq ?_
                          refine w_ret ?_
                          refine x_retc rfl rfl S.box ab_topo sb_topo rfl ?_
                          have S := S.tail
                          have S := S.tail
                          have S := S.f1
                          have S := S.f1
                          have S := S.f2
                          exact ⟨_, _, _, _, rfl, ⟨by first | omega | exact Nat.zero_le _, by first | omega | (rw [List.length_append, List.length_singleton]; omega)⟩, S, B⟩
                        · refine t_lit (T := linkT) (l := [(e68 : Lnk)]) (css := [[I e68.a, I e68.ai, I e68.b, I e68.bi, I e68.kind]]) link_flat S (fun w => bs_link1 _ _ _ _ _ w) rfl rfl rfl rfl (by simp [maxLen]) (litR_one fun _ => rfl) ?_ rfl rfl
                          intro u70 w398 x399 S
                          have B := bx Hb B x399
                          refine t_bx1 S.tail.tail.tail.box ab_s_link rfl rfl ?_ rfl
                          have hR := S.sl
                          have S := S.f4
                          refine t_cat link_flat e_link S hR rfl rfl rfl (by first | omega | (simp [-List.length_flatMap]; omega)) (by (simp [maxLen, -List.length_flatMap]; try omega)) ?_ rfl
                          intro v71 w400 x401 S
                          have B := B.trans x401
                          clear hR
                          have S := S.f1
                          have S := S.tail
                          refine t_fldx fb_topo_1 rfl rfl ?_ rfl
                          obtain ⟨Av71, cv71, rfl, _⟩ := S.sl.form
                          have S := S.f3
                          refine t_st1 S sb_s_link rfl rfl rfl rfl rfl ?_
                          intro w402 b403 S
                          have B := B.trans b403
                          refine t_done' ?_
                          refine x_block_normal ?_
                          refine x_seq ?_
                          refine w_seq ?_
                          refine w_region ?_
                          refine t_bxn S.box ab_topo sb_topo rfl rfl ?_ rfl
                          have S := S.f4
                          refine t_stn S sb_topo rfl rfl rfl rfl (by intro zz hu; have hu : zz ∈ ([(.slice (some ⟨Gva6, 0, none⟩) A6.length Cva6), .slice Av71 (L6 ++ ([(e68 : Lnk)])).length cv71] : List Value) := hu; simp only [List.mem_cons, List.not_mem_nil, or_false] at hu; rcases hu with rfl | rfl <;> first | rfl | exact (SlR.cells (by first | assumption | exact S.tail.sl | exact S.tail.tail.sl | exact S.tail.tail.tail.sl | exact S.tail.tail.tail.tail.sl | exact S.tail.tail.tail.tail.tail.sl | exact S.tail.tail.tail.tail.tail.tail.sl | exact S.tail.tail.tail.tail.tail.tail.tail.sl | exact S.tail.tail.tail.tail.tail.tail.tail.tail.sl)).2) ?_
                          intro w404 b405 S
                          have B := B.trans b405
                          refine t_done ?_
                          refine x_seq ?_
                          refine w_ret ?_
                          refine x_retc rfl rfl S.box ab_topo sb_topo rfl ?_
                          have S := S.tail
                          have S := S.tail
                          have S := S.f1
                          have S := S.f1
                          have S := S.f2
                          exact ⟨_, _, _, _, rfl, ⟨by first | omega | exact Nat.zero_le _, by first | omega | (rw [List.length_append, List.length_singleton]; omega)⟩, S, B⟩
          · intro h4
            refine w_skip ?_
            refine x_block_normal ?_
            refine x_seq ?_
            refine w_seq ?_
            refine w_region ?_
            refine t_bxn S.tail.tail.box ab_topo sb_topo rfl rfl ?_ rfl
            have S := S.f4
            refine t_stn S sb_topo rfl rfl rfl rfl (by intro zz hu; have hu : zz ∈ ([(.slice (some ⟨Gva6, 0, none⟩) A6.length Cva6), vl6] : List Value) := hu; simp only [List.mem_cons, List.not_mem_nil, or_false] at hu; rcases hu with rfl | rfl <;> first | rfl | exact (SlR.cells (by first | assumption | exact S.tail.sl | exact S.tail.tail.sl | exact S.tail.tail.tail.sl | exact S.tail.tail.tail.tail.sl | exact S.tail.tail.tail.tail.tail.sl | exact S.tail.tail.tail.tail.tail.tail.sl | exact S.tail.tail.tail.tail.tail.tail.tail.sl | exact S.tail.tail.tail.tail.tail.tail.tail.tail.sl)).2) ?_
            intro w406 b407 S
            have B := B.trans b407
            refine t_done ?_
            refine x_seq ?_
            refine w_ret ?_
            refine x_retc rfl rfl S.box ab_topo sb_topo rfl ?_
            have S := S.tail
            have S := S.f2
            have S := S.tail
            have S := S.f1
            have S := S.f2
            have S := S.f2
            exact ⟨_, _, _, _, rfl, ⟨by first | omega | exact Nat.zero_le _, by first | omega | (rw [List.length_append, List.length_singleton]; omega)⟩, S, B⟩
        · intro h3
          refine w_seq ?_
          refine w_region ?_
          refine t_eql rfl rfl ?_ rfl
          refine t_assign rfl ?_ rfl
          refine t_done ?_
          refine x_seq ?_
          refine w_if rfl ?_ ?_
          · intro h4
            refine w_drawP [0, 2, 5, 7] (.alt (.st .fin 1 (.st .fin 3 (.alt (.st .fin 4 (.st .fin 6 (.st .fin 8 (.st .fin 9 (.st .fin 10 (.st .fin 11 (.st .fin 12 (.st .fin 13 .done)))))))) (.st .fin 6 (.alt (.st .fin 4 (.st .fin 8 (.st .fin 9 (.st .fin 10 (.st .fin 11 (.st .fin 12 (.st .fin 13 .done))))))) (.st .fin 8 (.st .fin 4 (.st .fin 9 (.st .fin 10 (.st .fin 11 (.st .fin 12 (.st .fin 13 .done)))))))))))) (.st .fin 3 (.alt (.st .fin 1 (.alt (.st .fin 4 (.st .fin 6 (.st .fin 8 (.st .fin 9 (.st .fin 10 (.st .fin 11 (.st .fin 12 (.st .fin 13 .done)))))))) (.st .fin 6 (.alt (.st .fin 4 (.st .fin 8 (.st .fin 9 (.st .fin 10 (.st .fin 11 (.st .fin 12 (.st .fin 13 .done))))))) (.st .fin 8 (.st .fin 4 (.st .fin 9 (.st .fin 10 (.st .fin 11 (.st .fin 12 (.st .fin 13 .done))))))))))) (.alt (.st .fin 4 (.alt (.st .fin 1 (.st .fin 6 (.st .fin 8 (.st .fin 9 (.st .fin 10 (.st .fin 11 (.st .fin 12 (.st .fin 13 .done)))))))) (.st .fin 6 (.alt (.st .fin 1 (.st .fin 8 (.st .fin 9 (.st .fin 10 (.st .fin 11 (.st .fin 12 (.st .fin 13 .done))))))) (.st .fin 8 (.alt (.st .fin 1 (.st .fin 9 (.st .fin 10 (.st .fin 11 (.st .fin 12 (.st .fin 13 .done)))))) (.st .fin 9 (.alt (.st .fin 1 (.st .fin 10 (.st .fin 11 (.st .fin 12 (.st .fin 13 .done))))) (.st .fin 10 (.st .fin 1 (.st .fin 11 (.st .fin 12 (.st .fin 13 .done))))))))))))) (.st .fin 6 (.alt (.st .fin 1 (.alt (.st .fin 4 (.st .fin 8 (.st .fin 9 (.st .fin 10 (.st .fin 11 (.st .fin 12 (.st .fin 13 .done))))))) (.st .fin 8 (.st .fin 4 (.st .fin 9 (.st .fin 10 (.st .fin 11 (.st .fin 12 (.st .fin 13 .done))))))))) (.alt (.st .fin 4 (.alt (.st .fin 1 (.st .fin 8 (.st .fin 9 (.st .fin 10 (.st .fin 11 (.st .fin 12 (.st .fin 13 .done))))))) (.st .fin 8 (.alt (.st .fin 1 (.st .fin 9 (.st .fin 10 (.st .fin 11 (.st .fin 12 (.st .fin 13 .done)))))) (.st .fin 9 (.alt (.st .fin 1 (.st .fin 10 (.st .fin 11 (.st .fin 12 (.st .fin 13 .done))))) (.st .fin 10 (.st .fin 1 (.st .fin 11 (.st .fin 12 (.st .fin 13 .done))))))))))) (.st .fin 8 (.alt (.st .fin 1 (.st .fin 4 (.st .fin 9 (.st .fin 10 (.st .fin 11 (.st .fin 12 (.st .fin 13 .done))))))) (.st .fin 4 (.alt (.st .fin 1 (.st .fin 9 (.st .fin 10 (.st .fin 11 (.st .fin 12 (.st .fin 13 .done)))))) (.st .fin 9 (.alt (.st .fin 1 (.st .fin 10 (.st .fin 11 (.st .fin 12 (.st .fin 13 .done))))) (.st .fin 10 (.st .fin 1 (.st .fin 11 (.st .fin 12 (.st .fin 13 .done)))))))))))))))))) mixed (by kernel_rfl) ?_
            intro w408 x409
            have B := bx Hb B x409
            have S := S.below x409
            refine p_fldx fb_topo_1 rfl rfl ?_ rfl
            refine p_move rfl ?_ rfl
            refine p_move rfl ?_ rfl
            refine p_move rfl ?_ rfl
            refine p_done ?_
            refine t_alt ?_ ?_
            · refine t_bx1 S.tail.tail.box ab_s_link rfl rfl ?_ rfl
              have S := S.f1
              refine t_callf Try.call64 rfl (spec_l1Below 9 S (K.below B)) ?_ rfl
              rintro e w410 ⟨y78, rfl, hf78, S, x411⟩
              refine ⟨_, rfl, ?_⟩
              have B := B.trans x411
              refine t_alt ?_ ?_
              · refine t_sub rfl rfl (by omega) ?_ rfl
                refine t_callf Try.call64 rfl (spec_l1Below 9 S (K.below B)) ?_ rfl
                rintro e w412 ⟨y81, rfl, hf81, S, x413⟩
                refine ⟨_, rfl, ?_⟩
                have B := B.trans x413
                refine t_callf Try.call64 rfl (spec_l1Below 5 S (K.below B)) ?_ rfl
                rintro e w414 ⟨y83, rfl, hf83, S, x415⟩
                refine ⟨_, rfl, ?_⟩
                have B := B.trans x415
                refine t_build (fun w => b_link _ _ _ _ _ w) rfl ?_ rfl
                refine t_lit (T := linkT) (l := [(⟨y78 - 1, 6, y81, 6, y83⟩ : Lnk)]) (css := [[I (y78 - 1), I 6, I y81, I 6, I y83]]) link_flat S (fun w => bs_link1 _ _ _ _ _ w) rfl rfl rfl rfl (by simp [maxLen]) (litR_one fun _ => rfl) ?_ rfl rfl
                intro u85 w416 x417 S
                have B := bx Hb B x417
                have hR := S.sl
                have S := S.f4
                refine t_cat link_flat e_link S hR rfl rfl rfl (by first | omega | (simp [-List.length_flatMap]; omega)) (by (simp [maxLen, -List.length_flatMap]; try omega)) ?_ rfl
                intro v86 w418 x419 S
                have B := B.trans x419
                clear hR
                have S := S.f1
                have S := S.tail
                refine t_fldx fb_topo_1 rfl rfl ?_ rfl
                obtain ⟨Av86, cv86, rfl, _⟩ := S.sl.form
                have S := S.f3
                refine t_st1 S sb_s_link rfl rfl rfl rfl rfl ?_
                intro w420 b421 S
                have B := B.trans b421
                refine t_done' ?_
                refine x_block_normal ?_
                refine x_seq ?_
                refine w_seq ?_
                refine w_region ?_
                refine t_bxn S.box ab_topo sb_topo rfl rfl ?_ rfl
                have S := S.f4
                refine t_stn S sb_topo rfl rfl rfl rfl (by intro zz hu; have hu : zz ∈ ([(.slice (some ⟨Gva6, 0, none⟩) A6.length Cva6), .slice Av86 (L6 ++ ([(⟨y78 - 1, 6, y81, 6, y83⟩ : Lnk)])).length cv86] : List Value) := hu; simp only [List.mem_cons, List.not_mem_nil, or_false] at hu; rcases hu with rfl | rfl <;> first | rfl | exact (SlR.cells (by first | assumption | exact S.tail.sl | exact S.tail.tail.sl | exact S.tail.tail.tail.sl | exact S.tail.tail.tail.tail.sl | exact S.tail.tail.tail.tail.tail.sl | exact S.tail.tail.tail.tail.tail.tail.sl | exact S.tail.tail.tail.tail.tail.tail.tail.sl | exact S.tail.tail.tail.tail.tail.tail.tail.tail.sl)).2) ?_
                intro w422 b423 S
                have B := B.trans b423
                refine t_done ?_
                refine x_seq ?_
                refine w_ret ?_
                refine x_retc rfl rfl S.box ab_topo sb_topo rfl ?_
                have S := S.tail
                have S := S.tail
                have S := S.f1
                have S := S.f1
                have S := S.f2
                exact ⟨_, _, _, _, rfl, ⟨by first | omega | exact Nat.zero_le _, by first | omega | (rw [List.length_append, List.length_singleton]; omega)⟩, S, B⟩
              · refine t_callf Try.call64 rfl (spec_l1Below 9 S (K.below B)) ?_ rfl
                rintro e w424 ⟨y81, rfl, hf81, S, x425⟩
                refine ⟨_, rfl, ?_⟩
                have B := B.trans x425
                refine t_alt ?_ ?_
                · refine t_sub rfl rfl (by omega) ?_ rfl
                  refine t_callf Try.call64 rfl (spec_l1Below 5 S (K.below B)) ?_ rfl
                  rintro e w426 ⟨y83, rfl, hf83, S, x427⟩
                  refine ⟨_, rfl, ?_⟩
                  have B := B.trans x427
                  refine t_build (fun w => b_link _ _ _ _ _ w) rfl ?_ rfl
                  refine t_lit (T := linkT) (l := [(⟨y78 - 1, 6, y81, 6, y83⟩ : Lnk)]) (css := [[I (y78 - 1), I 6, I y81, I 6, I y83]]) link_flat S (fun w => bs_link1 _ _ _ _ _ w) rfl rfl rfl rfl (by simp [maxLen]) (litR_one fun _ => rfl) ?_ rfl rfl
                  intro u85 w428 x429 S
                  have B := bx Hb B x429
                  have hR := S.sl
                  have S := S.f4
                  refine t_cat link_flat e_link S hR rfl rfl rfl (by first | omega | (simp [-List.length_flatMap]; omega)) (by (simp [maxLen, -List.length_flatMap]; try omega)) ?_ rfl
                  intro v86 w430 x431 S
                  have B := B.trans x431
                  clear hR
                  have S := S.f1
                  have S := S.tail
                  refine t_fldx fb_topo_1 rfl rfl ?_ rfl
                  obtain ⟨Av86, cv86, rfl, _⟩ := S.sl.form
                  have S := S.f3
                  refine t_st1 S sb_s_link rfl rfl rfl rfl rfl ?_
                  intro w432 b433 S
                  have B := B.trans b433
                  refine t_done' ?_
                  refine x_block_normal ?_
                  refine x_seq ?_
                  refine w_seq ?_
                  refine w_region ?_
                  refine t_bxn S.box ab_topo sb_topo rfl rfl ?_ rfl
                  have S := S.f4
                  refine t_stn S sb_topo rfl rfl rfl rfl (by intro zz hu; have hu : zz ∈ ([(.slice (some ⟨Gva6, 0, none⟩) A6.length Cva6), .slice Av86 (L6 ++ ([(⟨y78 - 1, 6, y81, 6, y83⟩ : Lnk)])).length cv86] : List Value) := hu; simp only [List.mem_cons, List.not_mem_nil, or_false] at hu; rcases hu with rfl | rfl <;> first | rfl | exact (SlR.cells (by first | assumption | exact S.tail.sl | exact S.tail.tail.sl | exact S.tail.tail.tail.sl | exact S.tail.tail.tail.tail.sl | exact S.tail.tail.tail.tail.tail.sl | exact S.tail.tail.tail.tail.tail.tail.sl | exact S.tail.tail.tail.tail.tail.tail.tail.sl | exact S.tail.tail.tail.tail.tail.tail.tail.tail.sl)).2) ?_
                  intro w434 b435 S
                  have B := B.trans b435
                  refine t_done ?_
                  refine x_seq ?_
                  refine w_ret ?_
                  refine x_retc rfl rfl S.box ab_topo sb_topo rfl ?_
                  have S := S.tail
                  have S := S.tail
                  have S := S.f1
                  have S := S.f1
                  have S := S.f2
                  exact ⟨_, _, _, _, rfl, ⟨by first | omega | exact Nat.zero_le _, by first | omega | (rw [List.length_append, List.length_singleton]; omega)⟩, S, B⟩
                · refine t_callf Try.call64 rfl (spec_l1Below 5 S (K.below B)) ?_ rfl
                  rintro e w436 ⟨y83, rfl, hf83, S, x437⟩
                  refine ⟨_, rfl, ?_⟩
                  have B := B.trans x437
                  refine t_sub rfl rfl (by omega) ?_ rfl
                  refine t_build (fun w => b_link _ _ _ _ _ w) rfl ?_ rfl
                  refine t_lit (T := linkT) (l := [(⟨y78 - 1, 6, y81, 6, y83⟩ : Lnk)]) (css := [[I (y78 - 1), I 6, I y81, I 6, I y83]]) link_flat S (fun w => bs_link1 _ _ _ _ _ w) rfl rfl rfl rfl (by simp [maxLen]) (litR_one fun _ => rfl) ?_ rfl rfl
                  intro u85 w438 x439 S
                  have B := bx Hb B x439
                  have hR := S.sl
                  have S := S.f4
                  refine t_cat link_flat e_link S hR rfl rfl rfl (by first | omega | (simp [-List.length_flatMap]; omega)) (by (simp [maxLen, -List.length_flatMap]; try omega)) ?_ rfl
                  intro v86 w440 x441 S
                  have B := B.trans x441
                  clear hR
                  have S := S.f1
                  have S := S.tail
                  refine t_fldx fb_topo_1 rfl rfl ?_ rfl
                  obtain ⟨Av86, cv86, rfl, _⟩ := S.sl.form
                  have S := S.f3
                  refine t_st1 S sb_s_link rfl rfl rfl rfl rfl ?_
                  intro w442 b443 S
                  have B := B.trans b443
                  refine t_done' ?_
                  refine x_block_normal ?_
                  refine x_seq ?_
                  refine w_seq ?_
                  refine w_region ?_
                  refine t_bxn S.box ab_topo sb_topo rfl rfl ?_ rfl
                  have S := S.f4
                  refine t_stn S sb_topo rfl rfl rfl rfl (by intro zz hu; have hu : zz ∈ ([(.slice (some ⟨Gva6, 0, none⟩) A6.length Cva6), .slice Av86 (L6 ++ ([(⟨y78 - 1, 6, y81, 6, y83⟩ : Lnk)])).length cv86] : List Value) := hu; simp only [List.mem_cons, List.not_mem_nil, or_false] at hu; rcases hu with rfl | rfl <;> first | rfl | exact (SlR.cells (by first | assumption | exact S.tail.sl | exact S.tail.tail.sl | exact S.tail.tail.tail.sl | exact S.tail.tail.tail.tail.sl | exact S.tail.tail.tail.tail.tail.sl | exact S.tail.tail.tail.tail.tail.tail.sl | exact S.tail.tail.tail.tail.tail.tail.tail.sl | exact S.tail.tail.tail.tail.tail.tail.tail.tail.sl)).2) ?_
                  intro w444 b445 S
                  have B := B.trans b445
                  refine t_done ?_
                  refine x_seq ?_
                  refine w_ret ?_
                  refine x_retc rfl rfl S.box ab_topo sb_topo rfl ?_
                  have S := S.tail
                  have S := S.tail
                  have S := S.f1
                  have S := S.f1
                  have S := S.f2
                  exact ⟨_, _, _, _, rfl, ⟨by first | omega | exact Nat.zero_le _, by first | omega | (rw [List.length_append, List.length_singleton]; omega)⟩, S, B⟩
            · have S := S.f1
              refine t_callf Try.call64 rfl (spec_l1Below 9 S (K.below B)) ?_ rfl
              rintro e w446 ⟨y78, rfl, hf78, S, x447⟩
              refine ⟨_, rfl, ?_⟩
              have B := B.trans x447
              refine t_alt ?_ (t_alt ?_ ?_)
              · refine t_bx1 S.tail.tail.box ab_s_link rfl rfl ?_ rfl
                refine t_alt ?_ ?_
                · refine t_sub rfl rfl (by omega) ?_ rfl
                  refine t_callf Try.call64 rfl (spec_l1Below 9 S (K.below B)) ?_ rfl
                  rintro e w448 ⟨y81, rfl, hf81, S, x449⟩
                  refine ⟨_, rfl, ?_⟩
                  have B := B.trans x449
                  refine t_callf Try.call64 rfl (spec_l1Below 5 S (K.below B)) ?_ rfl
                  rintro e w450 ⟨y83, rfl, hf83, S, x451⟩
                  refine ⟨_, rfl, ?_⟩
                  have B := B.trans x451
                  refine t_build (fun w => b_link _ _ _ _ _ w) rfl ?_ rfl
                  refine t_lit (T := linkT) (l := [(⟨y78 - 1, 6, y81, 6, y83⟩ : Lnk)]) (css := [[I (y78 - 1), I 6, I y81, I 6, I y83]]) link_flat S (fun w => bs_link1 _ _ _ _ _ w) rfl rfl rfl rfl (by simp [maxLen]) (litR_one fun _ => rfl) ?_ rfl rfl
                  intro u85 w452 x453 S
                  have B := bx Hb B x453
                  have hR := S.sl
                  have S := S.f4
                  refine t_cat link_flat e_link S hR rfl rfl rfl (by first | omega | (simp [-List.length_flatMap]; omega)) (by (simp [maxLen, -List.length_flatMap]; try omega)) ?_ rfl
                  intro v86 w454 x455 S
                  have B := B.trans x455
                  clear hR
                  have S := S.f1
                  have S := S.tail
                  refine t_fldx fb_topo_1 rfl rfl ?_ rfl
                  obtain ⟨Av86, cv86, rfl, _⟩ := S.sl.form
                  have S := S.f3
                  refine t_st1 S sb_s_link rfl rfl rfl rfl rfl ?_
                  intro w456 b457 S
                  have B := B.trans b457
                  refine t_done' ?_
                  refine x_block_normal ?_
                  refine x_seq ?_
                  refine w_seq ?_
                  refine w_region ?_
                  refine t_bxn S.box ab_topo sb_topo rfl rfl ?_ rfl
                  have S := S.f4
                  refine t_stn S sb_topo rfl rfl rfl rfl (by intro zz hu; have hu : zz ∈ ([(.slice (some ⟨Gva6, 0, none⟩) A6.length Cva6), .slice Av86 (L6 ++ ([(⟨y78 - 1, 6, y81, 6, y83⟩ : Lnk)])).length cv86] : List Value) := hu; simp only [List.mem_cons, List.not_mem_nil, or_false] at hu; rcases hu with rfl | rfl <;> first | rfl | exact (SlR.cells (by first | assumption | exact S.tail.sl | exact S.tail.tail.sl | exact S.tail.tail.tail.sl | exact S.tail.tail.tail.tail.sl | exact S.tail.tail.tail.tail.tail.sl | exact S.tail.tail.tail.tail.tail.tail.sl | exact S.tail.tail.tail.tail.tail.tail.tail.sl | exact S.tail.tail.tail.tail.tail.tail.tail.tail.sl)).2) ?_
                  intro w458 b459 S
                  have B := B.trans b459
                  refine t_done ?_
                  refine x_seq ?_
                  refine w_ret ?_
                  refine x_retc rfl rfl S.box ab_topo sb_topo rfl ?_
                  have S := S.tail
                  have S := S.tail
                  have S := S.f1
                  have S := S.f1
                  have S := S.f2
                  exact ⟨_, _, _, _, rfl, ⟨by first | omega | exact Nat.zero_le _, by first | omega | (rw [List.length_append, List.length_singleton]; omega)⟩, S, B⟩
                · refine t_callf Try.call64 rfl (spec_l1Below 9 S (K.below B)) ?_ rfl
                  rintro e w460 ⟨y81, rfl, hf81, S, x461⟩
                  refine ⟨_, rfl, ?_⟩
                  have B := B.trans x461
                  refine t_alt ?_ ?_
                  · refine t_sub rfl rfl (by omega) ?_ rfl
                    refine t_callf Try.call64 rfl (spec_l1Below 5 S (K.below B)) ?_ rfl
                    rintro e w462 ⟨y83, rfl, hf83, S, x463⟩
                    refine ⟨_, rfl, ?_⟩
                    have B := B.trans x463
                    refine t_build (fun w => b_link _ _ _ _ _ w) rfl ?_ rfl
                    refine t_lit (T := linkT) (l := [(⟨y78 - 1, 6, y81, 6, y83⟩ : Lnk)]) (css := [[I (y78 - 1), I 6, I y81, I 6, I y83]]) link_flat S (fun w => bs_link1 _ _ _ _ _ w) rfl rfl rfl rfl (by simp [maxLen]) (litR_one fun _ => rfl) ?_ rfl rfl
                    intro u85 w464 x465 S
                    have B := bx Hb B x465
                    have hR := S.sl
                    have S := S.f4
                    refine t_cat link_flat e_link S hR rfl rfl rfl (by first | omega | (simp [-List.length_flatMap]; omega)) (by (simp [maxLen, -List.length_flatMap]; try omega)) ?_ rfl
                    intro v86 w466 x467 S
                    have B := B.trans x467
                    clear hR
                    have S := S.f1
                    have S := S.tail
                    refine t_fldx fb_topo_1 rfl rfl ?_ rfl
                    obtain ⟨Av86, cv86, rfl, _⟩ := S.sl.form
                    have S := S.f3
                    refine t_st1 S sb_s_link rfl rfl rfl rfl rfl ?_
                    intro w468 b469 S
                    have B := B.trans b469
                    refine t_done' ?_
                    refine x_block_normal ?_
                    refine x_seq ?_
                    refine w_seq ?_
                    refine w_region ?_
                    refine t_bxn S.box ab_topo sb_topo rfl rfl ?_ rfl
                    have S := S.f4
                    refine t_stn S sb_topo rfl rfl rfl rfl (by intro zz hu; have hu : zz ∈ ([(.slice (some ⟨Gva6, 0, none⟩) A6.length Cva6), .slice Av86 (L6 ++ ([(⟨y78 - 1, 6, y81, 6, y83⟩ : Lnk)])).length cv86] : List Value) := hu; simp only [List.mem_cons, List.not_mem_nil, or_false] at hu; rcases hu with rfl | rfl <;> first | rfl | exact (SlR.cells (by first | assumption | exact S.tail.sl | exact S.tail.tail.sl | exact S.tail.tail.tail.sl | exact S.tail.tail.tail.tail.sl | exact S.tail.tail.tail.tail.tail.sl | exact S.tail.tail.tail.tail.tail.tail.sl | exact S.tail.tail.tail.tail.tail.tail.tail.sl | exact S.tail.tail.tail.tail.tail.tail.tail.tail.sl)).2) ?_
                    intro w470 b471 S
                    have B := B.trans b471
                    refine t_done ?_
                    refine x_seq ?_
                    refine w_ret ?_
                    refine x_retc rfl rfl S.box ab_topo sb_topo rfl ?_
                    have S := S.tail
                    have S := S.tail
                    have S := S.f1
                    have S := S.f1
                    have S := S.f2
                    exact ⟨_, _, _, _, rfl, ⟨by first | omega | exact Nat.zero_le _, by first | omega | (rw [List.length_append, List.length_singleton]; omega)⟩, S, B⟩
                  · refine t_callf Try.call64 rfl (spec_l1Below 5 S (K.below B)) ?_ rfl
                    rintro e w472 ⟨y83, rfl, hf83, S, x473⟩
                    refine ⟨_, rfl, ?_⟩
                    have B := B.trans x473
                    refine t_sub rfl rfl (by omega) ?_ rfl
                    refine t_build (fun w => b_link _ _ _ _ _ w) rfl ?_ rfl
                    refine t_lit (T := linkT) (l := [(⟨y78 - 1, 6, y81, 6, y83⟩ : Lnk)]) (css := [[I (y78 - 1), I 6, I y81, I 6, I y83]]) link_flat S (fun w => bs_link1 _ _ _ _ _ w) rfl rfl rfl rfl (by simp [maxLen]) (litR_one fun _ => rfl) ?_ rfl rfl
                    intro u85 w474 x475 S
                    have B := bx Hb B x475
                    have hR := S.sl
                    have S := S.f4
                    refine t_cat link_flat e_link S hR rfl rfl rfl (by first | omega | (simp [-List.length_flatMap]; omega)) (by (simp [maxLen, -List.length_flatMap]; try omega)) ?_ rfl
                    intro v86 w476 x477 S
                    have B := B.trans x477
                    clear hR
                    have S := S.f1
                    have S := S.tail
                    refine t_fldx fb_topo_1 rfl rfl ?_ rfl
                    obtain ⟨Av86, cv86, rfl, _⟩ := S.sl.form
                    have S := S.f3
                    refine t_st1 S sb_s_link rfl rfl rfl rfl rfl ?_
                    intro w478 b479 S
                    have B := B.trans b479
                    refine t_done' ?_
                    refine x_block_normal ?_
                    refine x_seq ?_
                    refine w_seq ?_
                    refine w_region ?_
                    refine t_bxn S.box ab_topo sb_topo rfl rfl ?_ rfl
                    have S := S.f4
                    refine t_stn S sb_topo rfl rfl rfl rfl (by intro zz hu; have hu : zz ∈ ([(.slice (some ⟨Gva6, 0, none⟩) A6.length Cva6), .slice Av86 (L6 ++ ([(⟨y78 - 1, 6, y81, 6, y83⟩ : Lnk)])).length cv86] : List Value) := hu; simp only [List.mem_cons, List.not_mem_nil, or_false] at hu; rcases hu with rfl | rfl <;> first | rfl | exact (SlR.cells (by first | assumption | exact S.tail.sl | exact S.tail.tail.sl | exact S.tail.tail.tail.sl | exact S.tail.tail.tail.tail.sl | exact S.tail.tail.tail.tail.tail.sl | exact S.tail.tail.tail.tail.tail.tail.sl | exact S.tail.tail.tail.tail.tail.tail.tail.sl | exact S.tail.tail.tail.tail.tail.tail.tail.tail.sl)).2) ?_
                    intro w480 b481 S
                    have B := B.trans b481
                    refine t_done ?_
                    refine x_seq ?_
                    refine w_ret ?_
                    refine x_retc rfl rfl S.box ab_topo sb_topo rfl ?_
                    have S := S.tail
                    have S := S.tail
                    have S := S.f1
                    have S := S.f1
                    have S := S.f2
                    exact ⟨_, _, _, _, rfl, ⟨by first | omega | exact Nat.zero_le _, by first | omega | (rw [List.length_append, List.length_singleton]; omega)⟩, S, B⟩
              · refine t_sub rfl rfl (by omega) ?_ rfl
                refine t_alt ?_ ?_
                · refine t_bx1 S.tail.tail.box ab_s_link rfl rfl ?_ rfl
                  refine t_callf Try.call64 rfl (spec_l1Below 9 S (K.below B)) ?_ rfl
                  rintro e w482 ⟨y81, rfl, hf81, S, x483⟩
                  refine ⟨_, rfl, ?_⟩
                  have B := B.trans x483
                  refine t_callf Try.call64 rfl (spec_l1Below 5 S (K.below B)) ?_ rfl
                  rintro e w484 ⟨y83, rfl, hf83, S, x485⟩
                  refine ⟨_, rfl, ?_⟩
                  have B := B.trans x485
                  refine t_build (fun w => b_link _ _ _ _ _ w) rfl ?_ rfl
                  refine t_lit (T := linkT) (l := [(⟨y78 - 1, 6, y81, 6, y83⟩ : Lnk)]) (css := [[I (y78 - 1), I 6, I y81, I 6, I y83]]) link_flat S (fun w => bs_link1 _ _ _ _ _ w) rfl rfl rfl rfl (by simp [maxLen]) (litR_one fun _ => rfl) ?_ rfl rfl
                  intro u85 w486 x487 S
                  have B := bx Hb B x487
                  have hR := S.sl
                  have S := S.f4
                  refine t_cat link_flat e_link S hR rfl rfl rfl (by first | omega | (simp [-List.length_flatMap]; omega)) (by (simp [maxLen, -List.length_flatMap]; try omega)) ?_ rfl
                  intro v86 w488 x489 S
                  have B := B.trans x489
                  clear hR
                  have S := S.f1
                  have S := S.tail
                  refine t_fldx fb_topo_1 rfl rfl ?_ rfl
                  obtain ⟨Av86, cv86, rfl, _⟩ := S.sl.form
                  have S := S.f3
                  refine t_st1 S sb_s_link rfl rfl rfl rfl rfl ?_
                  intro w490 b491 S
                  have B := B.trans b491
                  refine t_done' ?_
                  refine x_block_normal ?_
                  refine x_seq ?_
                  refine w_seq ?_
                  refine w_region ?_
                  refine t_bxn S.box ab_topo sb_topo rfl rfl ?_ rfl
                  have S := S.f4
                  refine t_stn S sb_topo rfl rfl rfl rfl (by intro zz hu; have hu : zz ∈ ([(.slice (some ⟨Gva6, 0, none⟩) A6.length Cva6), .slice Av86 (L6 ++ ([(⟨y78 - 1, 6, y81, 6, y83⟩ : Lnk)])).length cv86] : List Value) := hu; simp only [List.mem_cons, List.not_mem_nil, or_false] at hu; rcases hu with rfl | rfl <;> first | rfl | exact (SlR.cells (by first | assumption | exact S.tail.sl | exact S.tail.tail.sl | exact S.tail.tail.tail.sl | exact S.tail.tail.tail.tail.sl | exact S.tail.tail.tail.tail.tail.sl | exact S.tail.tail.tail.tail.tail.tail.sl | exact S.tail.tail.tail.tail.tail.tail.tail.sl | exact S.tail.tail.tail.tail.tail.tail.tail.tail.sl)).2) ?_
                  intro w492 b493 S
                  have B := B.trans b493
                  refine t_done ?_
                  refine x_seq ?_
                  refine w_ret ?_
                  refine x_retc rfl rfl S.box ab_topo sb_topo rfl ?_
                  have S := S.tail
                  have S := S.tail
                  have S := S.f1
                  have S := S.f1
                  have S := S.f2
                  exact ⟨_, _, _, _, rfl, ⟨by first | omega | exact Nat.zero_le _, by first | omega | (rw [List.length_append, List.length_singleton]; omega)⟩, S, B⟩
                · refine t_callf Try.call64 rfl (spec_l1Below 9 S (K.below B)) ?_ rfl
                  rintro e w494 ⟨y81, rfl, hf81, S, x495⟩
                  refine ⟨_, rfl, ?_⟩
                  have B := B.trans x495
                  refine t_alt ?_ ?_
                  · refine t_bx1 S.tail.tail.box ab_s_link rfl rfl ?_ rfl
                    refine t_callf Try.call64 rfl (spec_l1Below 5 S (K.below B)) ?_ rfl
                    rintro e w496 ⟨y83, rfl, hf83, S, x497⟩
                    refine ⟨_, rfl, ?_⟩
                    have B := B.trans x497
                    refine t_build (fun w => b_link _ _ _ _ _ w) rfl ?_ rfl
                    refine t_lit (T := linkT) (l := [(⟨y78 - 1, 6, y81, 6, y83⟩ : Lnk)]) (css := [[I (y78 - 1), I 6, I y81, I 6, I y83]]) link_flat S (fun w => bs_link1 _ _ _ _ _ w) rfl rfl rfl rfl (by simp [maxLen]) (litR_one fun _ => rfl) ?_ rfl rfl
                    intro u85 w498 x499 S
                    have B := bx Hb B x499
                    have hR := S.sl
                    have S := S.f4
                    refine t_cat link_flat e_link S hR rfl rfl rfl (by first | omega | (simp [-List.length_flatMap]; omega)) (by (simp [maxLen, -List.length_flatMap]; try omega)) ?_ rfl
                    intro v86 w500 x501 S
                    have B := B.trans x501
                    clear hR
                    have S := S.f1
                    have S := S.tail
                    refine t_fldx fb_topo_1 rfl rfl ?_ rfl
                    obtain ⟨Av86, cv86, rfl, _⟩ := S.sl.form
                    have S := S.f3
                    refine t_st1 S sb_s_link rfl rfl rfl rfl rfl ?_
                    intro w502 b503 S
                    have B := B.trans b503
                    refine t_done' ?_
                    refine x_block_normal ?_
                    refine x_seq ?_
                    refine w_seq ?_
                    refine w_region ?_
                    refine t_bxn S.box ab_topo sb_topo rfl rfl ?_ rfl
                    have S := S.f4
                    refine t_stn S sb_topo rfl rfl rfl rfl (by intro zz hu; have hu : zz ∈ ([(.slice (some ⟨Gva6, 0, none⟩) A6.length Cva6), .slice Av86 (L6 ++ ([(⟨y78 - 1, 6, y81, 6, y83⟩ : Lnk)])).length cv86] : List Value) := hu; simp only [List.mem_cons, List.not_mem_nil, or_false] at hu; rcases hu with rfl | rfl <;> first | rfl | exact (SlR.cells (by first | assumption | exact S.tail.sl | exact S.tail.tail.sl | exact S.tail.tail.tail.sl | exact S.tail.tail.tail.tail.sl | exact S.tail.tail.tail.tail.tail.sl | exact S.tail.tail.tail.tail.tail.tail.sl | exact S.tail.tail.tail.tail.tail.tail.tail.sl | exact S.tail.tail.tail.tail.tail.tail.tail.tail.sl)).2) ?_
                    intro w504 b505 S
                    have B := B.trans b505
                    refine t_done ?_
                    refine x_seq ?_
                    refine w_ret ?_
                    refine x_retc rfl rfl S.box ab_topo sb_topo rfl ?_
                    have S := S.tail
                    have S := S.tail
                    have S := S.f1
                    have S := S.f1
                    have S := S.f2
                    exact ⟨_, _, _, _, rfl, ⟨by first | omega | exact Nat.zero_le _, by first | omega | (rw [List.length_append, List.length_singleton]; omega)⟩, S, B⟩
                  · refine t_callf Try.call64 rfl (spec_l1Below 5 S (K.below B)) ?_ rfl
                    rintro e w506 ⟨y83, rfl, hf83, S, x507⟩
                    refine ⟨_, rfl, ?_⟩
                    have B := B.trans x507
                    refine t_alt ?_ ?_
                    · refine t_bx1 S.tail.tail.box ab_s_link rfl rfl ?_ rfl
                      refine t_build (fun w => b_link _ _ _ _ _ w) rfl ?_ rfl
                      refine t_lit (T := linkT) (l := [(⟨y78 - 1, 6, y81, 6, y83⟩ : Lnk)]) (css := [[I (y78 - 1), I 6, I y81, I 6, I y83]]) link_flat S (fun w => bs_link1 _ _ _ _ _ w) rfl rfl rfl rfl (by simp [maxLen]) (litR_one fun _ => rfl) ?_ rfl rfl
                      intro u85 w508 x509 S
                      have B := bx Hb B x509
                      have hR := S.sl
                      have S := S.f4
                      refine t_cat link_flat e_link S hR rfl rfl rfl (by first | omega | (simp [-List.length_flatMap]; omega)) (by (simp [maxLen, -List.length_flatMap]; try omega)) ?_ rfl
                      intro v86 w510 x511 S
                      have B := B.trans x511
                      clear hR
                      have S := S.f1
                      have S := S.tail
                      refine t_fldx fb_topo_1 rfl rfl ?_ rfl
                      obtain ⟨Av86, cv86, rfl, _⟩ := S.sl.form
                      have S := S.f3
                      refine t_st1 S sb_s_link rfl rfl rfl rfl rfl ?_
                      intro w512 b513 S
                      have B := B.trans b513
                      refine t_done' ?_
                      refine x_block_normal ?_
                      refine x_seq ?_
                      refine w_seq ?_
                      refine w_region ?_
                      refine t_bxn S.box ab_topo sb_topo rfl rfl ?_ rfl
                      have S := S.f4
                      refine t_stn S sb_topo rfl rfl rfl rfl (by intro zz hu; have hu : zz ∈ ([(.slice (some ⟨Gva6, 0, none⟩) A6.length Cva6), .slice Av86 (L6 ++ ([(⟨y78 - 1, 6, y81, 6, y83⟩ : Lnk)])).length cv86] : List Value) := hu; simp only [List.mem_cons, List.not_mem_nil, or_false] at hu; rcases hu with rfl | rfl <;> first | rfl | exact (SlR.cells (by first | assumption | exact S.tail.sl | exact S.tail.tail.sl | exact S.tail.tail.tail.sl | exact S.tail.tail.tail.tail.sl | exact S.tail.tail.tail.tail.tail.sl | exact S.tail.tail.tail.tail.tail.tail.sl | exact S.tail.tail.tail.tail.tail.tail.tail.sl | exact S.tail.tail.tail.tail.tail.tail.tail.tail.sl)).2) ?_
                      intro w514 b515 S
                      have B := B.trans b515
                      refine t_done ?_
                      refine x_seq ?_
                      refine w_ret ?_
                      refine x_retc rfl rfl S.box ab_topo sb_topo rfl ?_
                      have S := S.tail
                      have S := S.tail
                      have S := S.f1
                      have S := S.f1
                      have S := S.f2
                      exact ⟨_, _, _, _, rfl, ⟨by first | omega | exact Nat.zero_le _, by first | omega | (rw [List.length_append, List.length_singleton]; omega)⟩, S, B⟩
                    · refine t_build (fun w => b_link _ _ _ _ _ w) rfl ?_ rfl
                      refine t_alt ?_ ?_
                      · refine t_bx1 S.tail.tail.box ab_s_link rfl rfl ?_ rfl
                        refine t_lit (T := linkT) (l := [(⟨y78 - 1, 6, y81, 6, y83⟩ : Lnk)]) (css := [[I (y78 - 1), I 6, I y81, I 6, I y83]]) link_flat S (fun w => bs_link1 _ _ _ _ _ w) rfl rfl rfl rfl (by simp [maxLen]) (litR_one fun _ => rfl) ?_ rfl rfl
                        intro u85 w516 x517 S
                        have B := bx Hb B x517
                        have hR := S.sl
                        have S := S.f4
                        refine t_cat link_flat e_link S hR rfl rfl rfl (by first | omega | (simp [-List.length_flatMap]; omega)) (by (simp [maxLen, -List.length_flatMap]; try omega)) ?_ rfl
                        intro v86 w518 x519 S
                        have B := B.trans x519
                        clear hR
                        have S := S.f1
                        have S := S.tail
                        refine t_fldx fb_topo_1 rfl rfl ?_ rfl
                        obtain ⟨Av86, cv86, rfl, _⟩ := S.sl.form
                        have S := S.f3
                        refine t_st1 S sb_s_link rfl rfl rfl rfl rfl ?_
                        intro w520 b521 S
                        have B := B.trans b521
                        refine t_done' ?_
                        refine x_block_normal ?_
                        refine x_seq ?_
                        refine w_seq ?_
                        refine w_region ?_
                        refine t_bxn S.box ab_topo sb_topo rfl rfl ?_ rfl
                        have S := S.f4
                        refine t_stn S sb_topo rfl rfl rfl rfl (by intro zz hu; have hu : zz ∈ ([(.slice (some ⟨Gva6, 0, none⟩) A6.length Cva6), .slice Av86 (L6 ++ ([(⟨y78 - 1, 6, y81, 6, y83⟩ : Lnk)])).length cv86] : List Value) := hu; simp only [List.mem_cons, List.not_mem_nil, or_false] at hu; rcases hu with rfl | rfl <;> first | rfl | exact (SlR.cells (by first | assumption | exact S.tail.sl | exact S.tail.tail.sl | exact S.tail.tail.tail.sl | exact S.tail.tail.tail.tail.sl | exact S.tail.tail.tail.tail.tail.sl | exact S.tail.tail.tail.tail.tail.tail.sl | exact S.tail.tail.tail.tail.tail.tail.tail.sl | exact S.tail.tail.tail.tail.tail.tail.tail.tail.sl)).2) ?_
                        intro w522 b523 S
                        have B := B.trans b523
                        refine t_done ?_
                        refine x_seq ?_
                        refine w_ret ?_
                        refine x_retc rfl rfl S.box ab_topo sb_topo rfl ?_
                        have S := S.tail
                        have S := S.tail
                        have S := S.f1
                        have S := S.f1
                        have S := S.f2
                        exact ⟨_, _, _, _, rfl, ⟨by first | omega | exact Nat.zero_le _, by first | omega | (rw [List.length_append, List.length_singleton]; omega)⟩, S, B⟩
                      · refine t_lit (T := linkT) (l := [(⟨y78 - 1, 6, y81, 6, y83⟩ : Lnk)]) (css := [[I (y78 - 1), I 6, I y81, I 6, I y83]]) link_flat S (fun w => bs_link1 _ _ _ _ _ w) rfl rfl rfl rfl (by simp [maxLen]) (litR_one fun _ => rfl) ?_ rfl rfl
                        intro u85 w524 x525 S
                        have B := bx Hb B x525
                        refine t_bx1 S.tail.tail.tail.box ab_s_link rfl rfl ?_ rfl
                        have hR := S.sl
                        have S := S.f4
                        refine t_cat link_flat e_link S hR rfl rfl rfl (by first | omega | (simp [-List.length_flatMap]; omega)) (by (simp [maxLen, -List.length_flatMap]; try omega)) ?_ rfl
                        intro v86 w526 x527 S
                        have B := B.trans x527
                        clear hR
                        have S := S.f1
                        have S := S.tail
                        refine t_fldx fb_topo_1 rfl rfl ?_ rfl
                        obtain ⟨Av86, cv86, rfl, _⟩ := S.sl.form
                        have S := S.f3
                        refine t_st1 S sb_s_link rfl rfl rfl rfl rfl ?_
                        intro w528 b529 S
                        have B := B.trans b529
                        refine t_done' ?_
                        refine x_block_normal ?_
                        refine x_seq ?_
                        refine w_seq ?_
                        refine w_region ?_
                        refine t_bxn S.box ab_topo sb_topo rfl rfl ?_ rfl
                        have S := S.f4
                        refine t_stn S sb_topo rfl rfl rfl rfl (by intro zz hu; have hu : zz ∈ ([(.slice (some ⟨Gva6, 0, none⟩) A6.length Cva6), .slice Av86 (L6 ++ ([(⟨y78 - 1, 6, y81, 6, y83⟩ : Lnk)])).length cv86] : List Value) := hu; simp only [List.mem_cons, List.not_mem_nil, or_false] at hu; rcases hu with rfl | rfl <;> first | rfl | exact (SlR.cells (by first | assumption | exact S.tail.sl | exact S.tail.tail.sl | exact S.tail.tail.tail.sl | exact S.tail.tail.tail.tail.sl | exact S.tail.tail.tail.tail.tail.sl | exact S.tail.tail.tail.tail.tail.tail.sl | exact S.tail.tail.tail.tail.tail.tail.tail.sl | exact S.tail.tail.tail.tail.tail.tail.tail.tail.sl)).2) ?_
                        intro w530 b531 S
                        have B := B.trans b531
                        refine t_done ?_
                        refine x_seq ?_
                        refine w_ret ?_
                        refine x_retc rfl rfl S.box ab_topo sb_topo rfl ?_
                        have S := S.tail
                        have S := S.tail
                        have S := S.f1
                        have S := S.f1
                        have S := S.f2
                        exact ⟨_, _, _, _, rfl, ⟨by first | omega | exact Nat.zero_le _, by first | omega | (rw [List.length_append, List.length_singleton]; omega)⟩, S, B⟩
              · refine t_callf Try.call64 rfl (spec_l1Below 9 S (K.below B)) ?_ rfl
                rintro e w532 ⟨y81, rfl, hf81, S, x533⟩
                refine ⟨_, rfl, ?_⟩
                have B := B.trans x533
                refine t_alt ?_ (t_alt ?_ ?_)
                · refine t_bx1 S.tail.tail.box ab_s_link rfl rfl ?_ rfl
                  refine t_alt ?_ ?_
                  · refine t_sub rfl rfl (by omega) ?_ rfl
                    refine t_callf Try.call64 rfl (spec_l1Below 5 S (K.below B)) ?_ rfl
                    rintro e w534 ⟨y83, rfl, hf83, S, x535⟩
                    refine ⟨_, rfl, ?_⟩
                    have B := B.trans x535
                    refine t_build (fun w => b_link _ _ _ _ _ w) rfl ?_ rfl
                    refine t_lit (T := linkT) (l := [(⟨y78 - 1, 6, y81, 6, y83⟩ : Lnk)]) (css := [[I (y78 - 1), I 6, I y81, I 6, I y83]]) link_flat S (fun w => bs_link1 _ _ _ _ _ w) rfl rfl rfl rfl (by simp [maxLen]) (litR_one fun _ => rfl) ?_ rfl rfl
                    intro u85 w536 x537 S
                    have B := bx Hb B x537
                    have hR := S.sl
                    have S := S.f4
                    refine t_cat link_flat e_link S hR rfl rfl rfl (by first | omega | (simp [-List.length_flatMap]; omega)) (by (simp [maxLen, -List.length_flatMap]; try omega)) ?_ rfl
                    intro v86 w538 x539 S
                    have B := B.trans x539
                    clear hR
                    have S := S.f1
                    have S := S.tail
                    refine t_fldx fb_topo_1 rfl rfl ?_ rfl
                    obtain ⟨Av86, cv86, rfl, _⟩ := S.sl.form
                    have S := S.f3
                    refine t_st1 S sb_s_link rfl rfl rfl rfl rfl ?_
                    intro w540 b541 S
                    have B := B.trans b541
                    refine t_done' ?_
                    refine x_block_normal ?_
                    refine x_seq ?_
                    refine w_seq ?_
                    refine w_region ?_
                    refine t_bxn S.box ab_topo sb_topo rfl rfl ?_ rfl
                    have S := S.f4
                    refine t_stn S sb_topo rfl rfl rfl rfl (by intro zz hu; have hu : zz ∈ ([(.slice (some ⟨Gva6, 0, none⟩) A6.length Cva6), .slice Av86 (L6 ++ ([(⟨y78 - 1, 6, y81, 6, y83⟩ : Lnk)])).length cv86] : List Value) := hu; simp only [List.mem_cons, List.not_mem_nil, or_false] at hu; rcases hu with rfl | rfl <;> first | rfl | exact (SlR.cells (by first | assumption | exact S.tail.sl | exact S.tail.tail.sl | exact S.tail.tail.tail.sl | exact S.tail.tail.tail.tail.sl | exact S.tail.tail.tail.tail.tail.sl | exact S.tail.tail.tail.tail.tail.tail.sl | exact S.tail.tail.tail.tail.tail.tail.tail.sl | exact S.tail.tail.tail.tail.tail.tail.tail.tail.sl)).2) ?_
                    intro w542 b543 S
                    have B := B.trans b543
                    refine t_done ?_
                    refine x_seq ?_
                    refine w_ret ?_
                    refine x_retc rfl rfl S.box ab_topo sb_topo rfl ?_
                    have S := S.tail
                    have S := S.tail
                    have S := S.f1
                    have S := S.f1
                    have S := S.f2
                    exact ⟨_, _, _, _, rfl, ⟨by first | omega | exact Nat.zero_le _, by first | omega | (rw [List.length_append, List.length_singleton]; omega)⟩, S, B⟩
                  · refine t_callf Try.call64 rfl (spec_l1Below 5 S (K.below B)) ?_ rfl
                    rintro e w544 ⟨y83, rfl, hf83, S, x545⟩
                    refine ⟨_, rfl, ?_⟩
                    have B := B.trans x545
                    refine t_sub rfl rfl (by omega) ?_ rfl
                    refine t_build (fun w => b_link _ _ _ _ _ w) rfl ?_ rfl
                    refine t_lit (T := linkT) (l := [(⟨y78 - 1, 6, y81, 6, y83⟩ : Lnk)]) (css := [[I (y78 - 1), I 6, I y81, I 6, I y83]]) link_flat S (fun w => bs_link1 _ _ _ _ _ w) rfl rfl rfl rfl (by simp [maxLen]) (litR_one fun _ => rfl) ?_ rfl rfl
                    intro u85 w546 x547 S
                    have B := bx Hb B x547
                    have hR := S.sl
                    have S := S.f4
                    refine t_cat link_flat e_link S hR rfl rfl rfl (by first | omega | (simp [-List.length_flatMap]; omega)) (by (simp [maxLen, -List.length_flatMap]; try omega)) ?_ rfl
                    intro v86 w548 x549 S
                    have B := B.trans x549
                    clear hR
                    have S := S.f1
                    have S := S.tail
                    refine t_fldx fb_topo_1 rfl rfl ?_ rfl
                    obtain ⟨Av86, cv86, rfl, _⟩ := S.sl.form
                    have S := S.f3
                    refine t_st1 S sb_s_link rfl rfl rfl rfl rfl ?_
                    intro w550 b551 S
                    have B := B.trans b551
                    refine t_done' ?_
                    refine x_block_normal ?_
                    refine x_seq ?_
                    refine w_seq ?_
                    refine w_region ?_
                    refine t_bxn S.box ab_topo sb_topo rfl rfl ?_ rfl
                    have S := S.f4
                    refine t_stn S sb_topo rfl rfl rfl rfl (by intro zz hu; have hu : zz ∈ ([(.slice (some ⟨Gva6, 0, none⟩) A6.length Cva6), .slice Av86 (L6 ++ ([(⟨y78 - 1, 6, y81, 6, y83⟩ : Lnk)])).length cv86] : List Value) := hu; simp only [List.mem_cons, List.not_mem_nil, or_false] at hu; rcases hu with rfl | rfl <;> first | rfl | exact (SlR.cells (by first | assumption | exact S.tail.sl | exact S.tail.tail.sl | exact S.tail.tail.tail.sl | exact S.tail.tail.tail.tail.sl | exact S.tail.tail.tail.tail.tail.sl | exact S.tail.tail.tail.tail.tail.tail.sl | exact S.tail.tail.tail.tail.tail.tail.tail.sl | exact S.tail.tail.tail.tail.tail.tail.tail.tail.sl)).2) ?_
                    intro w552 b553 S
                    have B := B.trans b553
                    refine t_done ?_
                    refine x_seq ?_
                    refine w_ret ?_
                    refine x_retc rfl rfl S.box ab_topo sb_topo rfl ?_
                    have S := S.tail
                    have S := S.tail
                    have S := S.f1
                    have S := S.f1
                    have S := S.f2
                    exact ⟨_, _, _, _, rfl, ⟨by first | omega | exact Nat.zero_le _, by first | omega | (rw [List.length_append, List.length_singleton]; omega)⟩, S, B⟩
                · refine t_sub rfl rfl (by omega) ?_ rfl
                  refine t_alt ?_ ?_
                  · refine t_bx1 S.tail.tail.box ab_s_link rfl rfl ?_ rfl
                    refine t_callf Try.call64 rfl (spec_l1Below 5 S (K.below B)) ?_ rfl
                    rintro e w554 ⟨y83, rfl, hf83, S, x555⟩
                    refine ⟨_, rfl, ?_⟩
                    have B := B.trans x555
                    refine t_build (fun w => b_link _ _ _ _ _ w) rfl ?_ rfl
                    refine t_lit (T := linkT) (l := [(⟨y78 - 1, 6, y81, 6, y83⟩ : Lnk)]) (css := [[I (y78 - 1), I 6, I y81, I 6, I y83]]) link_flat S (fun w => bs_link1 _ _ _ _ _ w) rfl rfl rfl rfl (by simp [maxLen]) (litR_one fun _ => rfl) ?_ rfl rfl
                    intro u85 w556 x557 S
                    have B := bx Hb B x557
                    have hR := S.sl
                    have S := S.f4
                    refine t_cat link_flat e_link S hR rfl rfl rfl (by first | omega | (simp [-List.length_flatMap]; omega)) (by (simp [maxLen, -List.length_flatMap]; try omega)) ?_ rfl
                    intro v86 w558 x559 S
                    have B := B.trans x559
                    clear hR
                    have S := S.f1
                    have S := S.tail
                    refine t_fldx fb_topo_1 rfl rfl ?_ rfl
                    obtain ⟨Av86, cv86, rfl, _⟩ := S.sl.form
                    have S := S.f3
                    refine t_st1 S sb_s_link rfl rfl rfl rfl rfl ?_
                    intro w560 b561 S
                    have B := B.trans b561
                    refine t_done' ?_
                    refine x_block_normal ?_
                    refine x_seq ?_
                    refine w_seq ?_
                    refine w_region ?_
                    refine t_bxn S.box ab_topo sb_topo rfl rfl ?_ rfl
                    have S := S.f4
                    refine t_stn S sb_topo rfl rfl rfl rfl (by intro zz hu; have hu : zz ∈ ([(.slice (some ⟨Gva6, 0, none⟩) A6.length Cva6), .slice Av86 (L6 ++ ([(⟨y78 - 1, 6, y81, 6, y83⟩ : Lnk)])).length cv86] : List Value) := hu; simp only [List.mem_cons, List.not_mem_nil, or_false] at hu; rcases hu with rfl | rfl <;> first | rfl | exact (SlR.cells (by first | assumption | exact S.tail.sl | exact S.tail.tail.sl | exact S.tail.tail.tail.sl | exact S.tail.tail.tail.tail.sl | exact S.tail.tail.tail.tail.tail.sl | exact S.tail.tail.tail.tail.tail.tail.sl | exact S.tail.tail.tail.tail.tail.tail.tail.sl | exact S.tail.tail.tail.tail.tail.tail.tail.tail.sl)).2) ?_
                    intro w562 b563 S
                    have B := B.trans b563
                    refine t_done ?_
                    refine x_seq ?_
                    refine w_ret ?_
                    refine x_retc rfl rfl S.box ab_topo sb_topo rfl ?_
                    have S := S.tail
                    have S := S.tail
                    have S := S.f1
                    have S := S.f1
                    have S := S.f2
                    exact ⟨_, _, _, _, rfl, ⟨by first | omega | exact Nat.zero_le _, by first | omega | (rw [List.length_append, List.length_singleton]; omega)⟩, S, B⟩
                  · refine t_callf Try.call64 rfl (spec_l1Below 5 S (K.below B)) ?_ rfl
                    rintro e w564 ⟨y83, rfl, hf83, S, x565⟩
                    refine ⟨_, rfl, ?_⟩
                    have B := B.trans x565
                    refine t_alt ?_ ?_
                    · refine t_bx1 S.tail.tail.box ab_s_link rfl rfl ?_ rfl
                      refine t_build (fun w => b_link _ _ _ _ _ w) rfl ?_ rfl
                      refine t_lit (T := linkT) (l := [(⟨y78 - 1, 6, y81, 6, y83⟩ : Lnk)]) (css := [[I (y78 - 1), I 6, I y81, I 6, I y83]]) link_flat S (fun w => bs_link1 _ _ _ _ _ w) rfl rfl rfl rfl (by simp [maxLen]) (litR_one fun _ => rfl) ?_ rfl rfl
                      intro u85 w566 x567 S
                      have B := bx Hb B x567
                      have hR := S.sl
                      have S := S.f4
                      refine t_cat link_flat e_link S hR rfl rfl rfl (by first | omega | (simp [-List.length_flatMap]; omega)) (by (simp [maxLen, -List.length_flatMap]; try omega)) ?_ rfl
                      intro v86 w568 x569 S
                      have B := B.trans x569
                      clear hR
                      have S := S.f1
                      have S := S.tail
                      refine t_fldx fb_topo_1 rfl rfl ?_ rfl
                      obtain ⟨Av86, cv86, rfl, _⟩ := S.sl.form
                      have S := S.f3
                      refine t_st1 S sb_s_link rfl rfl rfl rfl rfl ?_
                      intro w570 b571 S
                      have B := B.trans b571
                      refine t_done' ?_
                      refine x_block_normal ?_
                      refine x_seq ?_
                      refine w_seq ?_
                      refine w_region ?_
                      refine t_bxn S.box ab_topo sb_topo rfl rfl ?_ rfl
                      have S := S.f4
                      refine t_stn S sb_topo rfl rfl rfl rfl (by intro zz hu; have hu : zz ∈ ([(.slice (some ⟨Gva6, 0, none⟩) A6.length Cva6), .slice Av86 (L6 ++ ([(⟨y78 - 1, 6, y81, 6, y83⟩ : Lnk)])).length cv86] : List Value) := hu; simp only [List.mem_cons, List.not_mem_nil, or_false] at hu; rcases hu with rfl | rfl <;> first | rfl | exact (SlR.cells (by first | assumption | exact S.tail.sl | exact S.tail.tail.sl | exact S.tail.tail.tail.sl | exact S.tail.tail.tail.tail.sl | exact S.tail.tail.tail.tail.tail.sl | exact S.tail.tail.tail.tail.tail.tail.sl | exact S.tail.tail.tail.tail.tail.tail.tail.sl | exact S.tail.tail.tail.tail.tail.tail.tail.tail.sl)).2) ?_
                      intro w572 b573 S
                      have B := B.trans b573
                      refine t_done ?_
                      refine x_seq ?_
                      refine w_ret ?_
                      refine x_retc rfl rfl S.box ab_topo sb_topo rfl ?_
                      have S := S.tail
                      have S := S.tail
                      have S := S.f1
                      have S := S.f1
                      have S := S.f2
                      exact ⟨_, _, _, _, rfl, ⟨by first | omega | exact Nat.zero_le _, by first | omega | (rw [List.length_append, List.length_singleton]; omega)⟩, S, B⟩
                    · refine t_build (fun w => b_link _ _ _ _ _ w) rfl ?_ rfl
                      refine t_alt ?_ ?_
                      · refine t_bx1 S.tail.tail.box ab_s_link rfl rfl ?_ rfl
                        refine t_lit (T := linkT) (l := [(⟨y78 - 1, 6, y81, 6, y83⟩ : Lnk)]) (css := [[I (y78 - 1), I 6, I y81, I 6, I y83]]) link_flat S (fun w => bs_link1 _ _ _ _ _ w) rfl rfl rfl rfl (by simp [maxLen]) (litR_one fun _ => rfl) ?_ rfl rfl
                        intro u85 w574 x575 S
                        have B := bx Hb B x575
                        have hR := S.sl
                        have S := S.f4
                        refine t_cat link_flat e_link S hR rfl rfl rfl (by first | omega | (simp [-List.length_flatMap]; omega)) (by (simp [maxLen, -List.length_flatMap]; try omega)) ?_ rfl
                        intro v86 w576 x577 S
                        have B := B.trans x577
                        clear hR
                        have S := S.f1
                        have S := S.tail
                        refine t_fldx fb_topo_1 rfl rfl ?_ rfl
                        obtain ⟨Av86, cv86, rfl, _⟩ := S.sl.form
                        have S := S.f3
                        refine t_st1 S sb_s_link rfl rfl rfl rfl rfl ?_
                        intro w578 b579 S
                        have B := B.trans b579
                        refine t_done' ?_
                        refine x_block_normal ?_
                        refine x_seq ?_
                        refine w_seq ?_
                        refine w_region ?_
                        refine t_bxn S.box ab_topo sb_topo rfl rfl ?_ rfl
                        have S := S.f4
                        refine t_stn S sb_topo rfl rfl rfl rfl (by intro zz hu; have hu : zz ∈ ([(.slice (some ⟨Gva6, 0, none⟩) A6.length Cva6), .slice Av86 (L6 ++ ([(⟨y78 - 1, 6, y81, 6, y83⟩ : Lnk)])).length cv86] : List Value) := hu; simp only [List.mem_cons, List.not_mem_nil, or_false] at hu; rcases hu with rfl | rfl <;> first | rfl | exact (SlR.cells (by first | assumption | exact S.tail.sl | exact S.tail.tail.sl | exact S.tail.tail.tail.sl | exact S.tail.tail.tail.tail.sl | exact S.tail.tail.tail.tail.tail.sl | exact S.tail.tail.tail.tail.tail.tail.sl | exact S.tail.tail.tail.tail.tail.tail.tail.sl | exact S.tail.tail.tail.tail.tail.tail.tail.tail.sl)).2) ?_
                        intro w580 b581 S
                        have B := B.trans b581
                        refine t_done ?_
                        refine x_seq ?_
                        refine w_ret ?_
                        refine x_retc rfl rfl S.box ab_topo sb_topo rfl ?_
                        have S := S.tail
                        have S := S.tail
                        have S := S.f1
                        have S := S.f1
                        have S := S.f2
                        exact ⟨_, _, _, _, rfl, ⟨by first | omega | exact Nat.zero_le _, by first | omega | (rw [List.length_append, List.length_singleton]; omega)⟩, S, B⟩
                      · refine t_lit (T := linkT) (l := [(⟨y78 - 1, 6, y81, 6, y83⟩ : Lnk)]) (css := [[I (y78 - 1), I 6, I y81, I 6, I y83]]) link_flat S (fun w => bs_link1 _ _ _ _ _ w) rfl rfl rfl rfl (by simp [maxLen]) (litR_one fun _ => rfl) ?_ rfl rfl
                        intro u85 w582 x583 S
                        have B := bx Hb B x583
                        refine t_bx1 S.tail.tail.tail.box ab_s_link rfl rfl ?_ rfl
                        have hR := S.sl
                        have S := S.f4
                        refine t_cat link_flat e_link S hR rfl rfl rfl (by first | omega | (simp [-List.length_flatMap]; omega)) (by (simp [maxLen, -List.length_flatMap]; try omega)) ?_ rfl
                        intro v86 w584 x585 S
                        have B := B.trans x585
                        clear hR
                        have S := S.f1
                        have S := S.tail
                        refine t_fldx fb_topo_1 rfl rfl ?_ rfl
                        obtain ⟨Av86, cv86, rfl, _⟩ := S.sl.form
                        have S := S.f3
                        refine t_st1 S sb_s_link rfl rfl rfl rfl rfl ?_
                        intro w586 b587 S
                        have B := B.trans b587
                        refine t_done' ?_
                        refine x_block_normal ?_
                        refine x_seq ?_
                        refine w_seq ?_
                        refine w_region ?_
                        refine t_bxn S.box ab_topo sb_topo rfl rfl ?_ rfl
                        have S := S.f4
                        refine t_stn S sb_topo rfl rfl rfl rfl (by intro zz hu; have hu : zz ∈ ([(.slice (some ⟨Gva6, 0, none⟩) A6.length Cva6), .slice Av86 (L6 ++ ([(⟨y78 - 1, 6, y81, 6, y83⟩ : Lnk)])).length cv86] : List Value) := hu; simp only [List.mem_cons, List.not_mem_nil, or_false] at hu; rcases hu with rfl | rfl <;> first | rfl | exact (SlR.cells (by first | assumption | exact S.tail.sl | exact S.tail.tail.sl | exact S.tail.tail.tail.sl | exact S.tail.tail.tail.tail.sl | exact S.tail.tail.tail.tail.tail.sl | exact S.tail.tail.tail.tail.tail.tail.sl | exact S.tail.tail.tail.tail.tail.tail.tail.sl | exact S.tail.tail.tail.tail.tail.tail.tail.tail.sl)).2) ?_
                        intro w588 b589 S
                        have B := B.trans b589
                        refine t_done ?_
                        refine x_seq ?_
                        refine w_ret ?_
                        refine x_retc rfl rfl S.box ab_topo sb_topo rfl ?_
                        have S := S.tail
                        have S := S.tail
                        have S := S.f1
                        have S := S.f1
                        have S := S.f2
                        exact ⟨_, _, _, _, rfl, ⟨by first | omega | exact Nat.zero_le _, by first | omega | (rw [List.length_append, List.length_singleton]; omega)⟩, S, B⟩
                · refine t_callf Try.call64 rfl (spec_l1Below 5 S (K.below B)) ?_ rfl
                  rintro e w590 ⟨y83, rfl, hf83, S, x591⟩
                  refine ⟨_, rfl, ?_⟩
                  have B := B.trans x591
                  refine t_alt ?_ ?_
                  · refine t_bx1 S.tail.tail.box ab_s_link rfl rfl ?_ rfl
                    refine t_sub rfl rfl (by omega) ?_ rfl
                    refine t_build (fun w => b_link _ _ _ _ _ w) rfl ?_ rfl
                    refine t_lit (T := linkT) (l := [(⟨y78 - 1, 6, y81, 6, y83⟩ : Lnk)]) (css := [[I (y78 - 1), I 6, I y81, I 6, I y83]]) link_flat S (fun w => bs_link1 _ _ _ _ _ w) rfl rfl rfl rfl (by simp [maxLen]) (litR_one fun _ => rfl) ?_ rfl rfl
                    intro u85 w592 x593 S
                    have B := bx Hb B x593
                    have hR := S.sl
                    have S := S.f4
                    refine t_cat link_flat e_link S hR rfl rfl rfl (by first | omega | (simp [-List.length_flatMap]; omega)) (by (simp [maxLen, -List.length_flatMap]; try omega)) ?_ rfl
                    intro v86 w594 x595 S
                    have B := B.trans x595
                    clear hR
                    have S := S.f1
                    have S := S.tail
                    refine t_fldx fb_topo_1 rfl rfl ?_ rfl
                    obtain ⟨Av86, cv86, rfl, _⟩ := S.sl.form
                    have S := S.f3
                    refine t_st1 S sb_s_link rfl rfl rfl rfl rfl ?_
                    intro w596 b597 S
                    have B := B.trans b597
                    refine t_done' ?_
                    refine x_block_normal ?_
                    refine x_seq ?_
                    refine w_seq ?_
                    refine w_region ?_
                    refine t_bxn S.box ab_topo sb_topo rfl rfl ?_ rfl
                    have S := S.f4
                    refine t_stn S sb_topo rfl rfl rfl rfl (by intro zz hu; have hu : zz ∈ ([(.slice (some ⟨Gva6, 0, none⟩) A6.length Cva6), .slice Av86 (L6 ++ ([(⟨y78 - 1, 6, y81, 6, y83⟩ : Lnk)])).length cv86] : List Value) := hu; simp only [List.mem_cons, List.not_mem_nil, or_false] at hu; rcases hu with rfl | rfl <;> first | rfl | exact (SlR.cells (by first | assumption | exact S.tail.sl | exact S.tail.tail.sl | exact S.tail.tail.tail.sl | exact S.tail.tail.tail.tail.sl | exact S.tail.tail.tail.tail.tail.sl | exact S.tail.tail.tail.tail.tail.tail.sl | exact S.tail.tail.tail.tail.tail.tail.tail.sl | exact S.tail.tail.tail.tail.tail.tail.tail.tail.sl)).2) ?_
                    intro w598 b599 S
                    have B := B.trans b599
                    refine t_done ?_
                    refine x_seq ?_
                    refine w_ret ?_
                    refine x_retc rfl rfl S.box ab_topo sb_topo rfl ?_
                    have S := S.tail
                    have S := S.tail
                    have S := S.f1
                    have S := S.f1
                    have S := S.f2
                    exact ⟨_, _, _, _, rfl, ⟨by first | omega | exact Nat.zero_le _, by first | omega | (rw [List.length_append, List.length_singleton]; omega)⟩, S, B⟩
                  · refine t_sub rfl rfl (by omega) ?_ rfl
                    refine t_alt ?_ ?_
                    · refine t_bx1 S.tail.tail.box ab_s_link rfl rfl ?_ rfl
                      refine t_build (fun w => b_link _ _ _ _ _ w) rfl ?_ rfl
                      refine t_lit (T := linkT) (l := [(⟨y78 - 1, 6, y81, 6, y83⟩ : Lnk)]) (css := [[I (y78 - 1), I 6, I y81, I 6, I y83]]) link_flat S (fun w => bs_link1 _ _ _ _ _ w) rfl rfl rfl rfl (by simp [maxLen]) (litR_one fun _ => rfl) ?_ rfl rfl
                      intro u85 w600 x601 S
                      have B := bx Hb B x601
                      have hR := S.sl
                      have S := S.f4
                      refine t_cat link_flat e_link S hR rfl rfl rfl (by first | omega | (simp [-List.length_flatMap]; omega)) (by (simp [maxLen, -List.length_flatMap]; try omega)) ?_ rfl
                      intro v86 w602 x603 S
                      have B := B.trans x603
                      clear hR
                      have S := S.f1
                      have S := S.tail
                      refine t_fldx fb_topo_1 rfl rfl ?_ rfl
                      obtain ⟨Av86, cv86, rfl, _⟩ := S.sl.form
                      have S := S.f3
                      refine t_st1 S sb_s_link rfl rfl rfl rfl rfl ?_
                      intro w604 b605 S
                      have B := B.trans b605
                      refine t_done' ?_
                      refine x_block_normal ?_
                      refine x_seq ?_
                      refine w_seq ?_
                      refine w_region ?_
                      refine t_bxn S.box ab_topo sb_topo rfl rfl ?_ rfl
                      have S := S.f4
                      refine t_stn S sb_topo rfl rfl rfl rfl (by intro zz hu; have hu : zz ∈ ([(.slice (some ⟨Gva6, 0, none⟩) A6.length Cva6), .slice Av86 (L6 ++ ([(⟨y78 - 1, 6, y81, 6, y83⟩ : Lnk)])).length cv86] : List Value) := hu; simp only [List.mem_cons, List.not_mem_nil, or_false] at hu; rcases hu with rfl | rfl <;> first | rfl | exact (SlR.cells (by first | assumption | exact S.tail.sl | exact S.tail.tail.sl | exact S.tail.tail.tail.sl | exact S.tail.tail.tail.tail.sl | exact S.tail.tail.tail.tail.tail.sl | exact S.tail.tail.tail.tail.tail.tail.sl | exact S.tail.tail.tail.tail.tail.tail.tail.sl | exact S.tail.tail.tail.tail.tail.tail.tail.tail.sl)).2) ?_
                      intro w606 b607 S
                      have B := B.trans b607
                      refine t_done ?_
                      refine x_seq ?_
                      refine w_ret ?_
                      refine x_retc rfl rfl S.box ab_topo sb_topo rfl ?_
                      have S := S.tail
                      have S := S.tail
                      have S := S.f1
                      have S := S.f1
                      have S := S.f2
                      exact ⟨_, _, _, _, rfl, ⟨by first | omega | exact Nat.zero_le _, by first | omega | (rw [List.length_append, List.length_singleton]; omega)⟩, S, B⟩
                    · refine t_build (fun w => b_link _ _ _ _ _ w) rfl ?_ rfl
                      refine t_alt ?_ ?_
                      · refine t_bx1 S.tail.tail.box ab_s_link rfl rfl ?_ rfl
                        refine t_lit (T := linkT) (l := [(⟨y78 - 1, 6, y81, 6, y83⟩ : Lnk)]) (css := [[I (y78 - 1), I 6, I y81, I 6, I y83]]) link_flat S (fun w => bs_link1 _ _ _ _ _ w) rfl rfl rfl rfl (by simp [maxLen]) (litR_one fun _ => rfl) ?_ rfl rfl
                        intro u85 w608 x609 S
                        have B := bx Hb B x609
                        have hR := S.sl
                        have S := S.f4
                        refine t_cat link_flat e_link S hR rfl rfl rfl (by first | omega | (simp [-List.length_flatMap]; omega)) (by (simp [maxLen, -List.length_flatMap]; try omega)) ?_ rfl
                        intro v86 w610 x611 S
                        have B := B.trans x611
                        clear hR
                        have S := S.f1
                        have S := S.tail
                        refine t_fldx fb_topo_1 rfl rfl ?_ rfl
                        obtain ⟨Av86, cv86, rfl, _⟩ := S.sl.form
                        have S := S.f3
                        refine t_st1 S sb_s_link rfl rfl rfl rfl rfl ?_
                        intro w612 b613 S
                        have B := B.trans b613
                        refine t_done' ?_
                        refine x_block_normal ?_
                        refine x_seq ?_
                        refine w_seq ?_
                        refine w_region ?_
                        refine t_bxn S.box ab_topo sb_topo rfl rfl ?_ rfl
                        have S := S.f4
                        refine t_stn S sb_topo rfl rfl rfl rfl (by intro zz hu; have hu : zz ∈ ([(.slice (some ⟨Gva6, 0, none⟩) A6.length Cva6), .slice Av86 (L6 ++ ([(⟨y78 - 1, 6, y81, 6, y83⟩ : Lnk)])).length cv86] : List Value) := hu; simp only [List.mem_cons, List.not_mem_nil, or_false] at hu; rcases hu with rfl | rfl <;> first | rfl | exact (SlR.cells (by first | assumption | exact S.tail.sl | exact S.tail.tail.sl | exact S.tail.tail.tail.sl | exact S.tail.tail.tail.tail.sl | exact S.tail.tail.tail.tail.tail.sl | exact S.tail.tail.tail.tail.tail.tail.sl | exact S.tail.tail.tail.tail.tail.tail.tail.sl | exact S.tail.tail.tail.tail.tail.tail.tail.tail.sl)).2) ?_
                        intro w614 b615 S
                        have B := B.trans b615
                        refine t_done ?_
                        refine x_seq ?_
                        refine w_ret ?_
                        refine x_retc rfl rfl S.box ab_topo sb_topo rfl ?_
                        have S := S.tail
                        have S := S.tail
                        have S := S.f1
                        have S := S.f1
                        have S := S.f2
                        exact ⟨_, _, _, _, rfl, ⟨by first | omega | exact Nat.zero_le _, by first | omega | (rw [List.length_append, List.length_singleton]; omega)⟩, S, B⟩
                      · refine t_lit (T := linkT) (l := [(⟨y78 - 1, 6, y81, 6, y83⟩ : Lnk)]) (css := [[I (y78 - 1), I 6, I y81, I 6, I y83]]) link_flat S (fun w => bs_link1 _ _ _ _ _ w) rfl rfl rfl rfl (by simp [maxLen]) (litR_one fun _ => rfl) ?_ rfl rfl
                        intro u85 w616 x617 S
                        have B := bx Hb B x617
                        refine t_bx1 S.tail.tail.tail.box ab_s_link rfl rfl ?_ rfl
                        have hR := S.sl
                        have S := S.f4
                        refine t_cat link_flat e_link S hR rfl rfl rfl (by first | omega | (simp [-List.length_flatMap]; omega)) (by (simp [maxLen, -List.length_flatMap]; try omega)) ?_ rfl
                        intro v86 w618 x619 S
                        have B := B.trans x619
                        clear hR
                        have S := S.f1
                        have S := S.tail
                        refine t_fldx fb_topo_1 rfl rfl ?_ rfl
                        obtain ⟨Av86, cv86, rfl, _⟩ := S.sl.form
                        have S := S.f3
                        refine t_st1 S sb_s_link rfl rfl rfl rfl rfl ?_
                        intro w620 b621 S
                        have B := B.trans b621
                        refine t_done' ?_
                        refine x_block_normal ?_
                        refine x_seq ?_
                        refine w_seq ?_
                        refine w_region ?_
                        refine t_bxn S.box ab_topo sb_topo rfl rfl ?_ rfl
                        have S := S.f4
                        refine t_stn S sb_topo rfl rfl rfl rfl (by intro zz hu; have hu : zz ∈ ([(.slice (some ⟨Gva6, 0, none⟩) A6.length Cva6), .slice Av86 (L6 ++ ([(⟨y78 - 1, 6, y81, 6, y83⟩ : Lnk)])).length cv86] : List Value) := hu; simp only [List.mem_cons, List.not_mem_nil, or_false] at hu; rcases hu with rfl | rfl <;> first | rfl | exact (SlR.cells (by first | assumption | exact S.tail.sl | exact S.tail.tail.sl | exact S.tail.tail.tail.sl | exact S.tail.tail.tail.tail.sl | exact S.tail.tail.tail.tail.tail.sl | exact S.tail.tail.tail.tail.tail.tail.sl | exact S.tail.tail.tail.tail.tail.tail.tail.sl | exact S.tail.tail.tail.tail.tail.tail.tail.tail.sl)).2) ?_
                        intro w622 b623 S
                        have B := B.trans b623
                        refine t_done ?_
                        refine x_seq ?_
                        refine w_ret ?_
                        refine x_retc rfl rfl S.box ab_topo sb_topo rfl ?_
                        have S := S.tail
                        have S := S.tail
                        have S := S.f1
                        have S := S.f1
                        have S := S.f2
                        exact ⟨_, _, _, _, rfl, ⟨by first | omega | exact Nat.zero_le _, by first | omega | (rw [List.length_append, List.length_singleton]; omega)⟩, S, B⟩
          · intro h4
            refine w_seq ?_
            refine w_region ?_
            refine t_eql rfl rfl ?_ rfl
            refine t_assign rfl ?_ rfl
            refine t_done ?_
            refine x_seq ?_
            refine w_if rfl ?_ ?_
            · intro h5
              refine w_region ?_
              refine t_lit (T := asnT) (css := []) (l := []) asn_flat S bs_asn0 rfl rfl rfl rfl (Nat.zero_le _) litR_nil ?_ rfl rfl
              intro u90 w624 x625 S
              have B := bx Hb B x625
              refine t_fldx fb_topo_0 rfl rfl ?_ rfl
              obtain ⟨Au90, cu90, rfl, _⟩ := S.sl.form
              have S := S.f3
              refine t_st1 S sb_s_asn rfl rfl rfl rfl rfl ?_
              intro w626 b627 S
              have B := B.trans b627
              refine t_done ?_
              refine x_block_normal ?_
              refine x_seq ?_
              refine w_seq ?_
              refine w_region ?_
              refine t_bxn S.box ab_topo sb_topo rfl rfl ?_ rfl
              have S := S.f5
              refine t_stn S sb_topo rfl rfl rfl rfl (by intro zz hu; have hu : zz ∈ ([.slice Au90 ([]).length cu90, vl6] : List Value) := hu; simp only [List.mem_cons, List.not_mem_nil, or_false] at hu; rcases hu with rfl | rfl <;> first | rfl | exact (SlR.cells (by first | assumption | exact S.tail.sl | exact S.tail.tail.sl | exact S.tail.tail.tail.sl | exact S.tail.tail.tail.tail.sl | exact S.tail.tail.tail.tail.tail.sl | exact S.tail.tail.tail.tail.tail.tail.sl | exact S.tail.tail.tail.tail.tail.tail.tail.sl | exact S.tail.tail.tail.tail.tail.tail.tail.tail.sl)).2) ?_
              intro w628 b629 S
              have B := B.trans b629
              refine t_done ?_
              refine x_seq ?_
              refine w_ret ?_
              refine x_retc rfl rfl S.box ab_topo sb_topo rfl ?_
              have S := S.tail
              have S := S.tail
              have S := S.f1
              have S := S.tail
              have S := S.f1
              have S := S.f2
              have S := S.f2
              exact ⟨_, _, _, _, rfl, ⟨by first | omega | exact Nat.zero_le _, by first | omega | (rw [List.length_append, List.length_singleton]; omega)⟩, S, B⟩
            · intro h5
              refine w_skip ?_
              refine x_block_normal ?_
              refine x_seq ?_
              refine w_seq ?_
              refine w_region ?_
              refine t_bxn S.tail.tail.box ab_topo sb_topo rfl rfl ?_ rfl
              have S := S.f4
              refine t_stn S sb_topo rfl rfl rfl rfl (by intro zz hu; have hu : zz ∈ ([(.slice (some ⟨Gva6, 0, none⟩) A6.length Cva6), vl6] : List Value) := hu; simp only [List.mem_cons, List.not_mem_nil, or_false] at hu; rcases hu with rfl | rfl <;> first | rfl | exact (SlR.cells (by first | assumption | exact S.tail.sl | exact S.tail.tail.sl | exact S.tail.tail.tail.sl | exact S.tail.tail.tail.tail.sl | exact S.tail.tail.tail.tail.tail.sl | exact S.tail.tail.tail.tail.tail.tail.sl | exact S.tail.tail.tail.tail.tail.tail.tail.sl | exact S.tail.tail.tail.tail.tail.tail.tail.tail.sl)).2) ?_
              intro w630 b631 S
              have B := B.trans b631
              refine t_done ?_
              refine x_seq ?_
              refine w_ret ?_
              refine x_retc rfl rfl S.box ab_topo sb_topo rfl ?_
              have S := S.tail
              have S := S.f2
              have S := S.tail
              have S := S.f1
              have S := S.f2
              have S := S.f2
              exact ⟨_, _, _, _, rfl, ⟨by first | omega | exact Nat.zero_le _, by first | omega | (rw [List.length_append, List.length_singleton]; omega)⟩, S, B⟩
end Go.Proofs.Ytdaecknfahgddaa
namespace Go.Proofs.Ytdaecknfahgddaa
open Go.RowKit
set_option linter.unusedVariables false
set_option maxRecDepth 20000
theorem allF_succ {α : Type} {f : α → Bool} {l : List α} {k : Nat} {x : α} (h : l[k]? = some x) (ha : (l.take k).all f = true) (hx : f x = true) : (l.take (k + 1)).all f = true := by
  rw [take_succ h, List.all_append, ha, List.all_cons, hx]; rfl
theorem allF_end {α : Type} {f : α → Bool} {l : List α} {k : Nat} (hk : l.length ≤ k) (ha : (l.take k).all f = true) : l.all f = true := by
  rwa [List.take_of_length_le hk] at ha
end Go.Proofs.Ytdaecknfahgddaa
namespace Go.Proofs.Ytdaecknfahgddaa
open Go.RowKit
set_option linter.unusedVariables false
/-- From an interface of kind a to one of kind b a packet may pass. -/
def transit (a b : Int) : Bool :=
  if a = 5 ∨ a = 2 then b == 1 || b == 2 || b == 3 || b == 5
  else if a = 3 then b == 2 || b == 5
  else if a = 1 then b == 1 || b == 2 || b == 5
  else false
theorem kinds (a : Int) : a = 5 ∨ a = 2 ∨ a = 3 ∨ a = 1 ∨ ((a == 5) = false ∧ (a == 2) = false ∧ (a == 3) = false ∧ (a == 1) = false) := by
  simp only [beq_eq_false_iff_ne, ne_eq]; omega
theorem impl_transit (a b : Int) (w : World) : Calls Try.prog 17 #[I a, I b] w fun e w' => e = .returned (.bool (transit a b)) ∧ w = w' := by
  obtain ⟨r, Hr⟩ : ∃ r, Hid (r = transit a b) := ⟨_, rfl⟩
  rw [← Hr.out]
  rcases kinds a with rfl | rfl | rfl | rfl | ⟨h1, h2, h3, h4⟩
  all_goals
    rcases kinds b with rfl | rfl | rfl | rfl | ⟨g1, g2, g3, g4⟩
    all_goals
      go_enter Try.func17, Try.ntmps17
      go_wp2
      go_ret
      exact ⟨by rw [Hr.out]; simp_all [transit], rfl⟩
theorem spec_transit (a b : Int) (w : World) : Calls Try.prog 18 #[I a, I b] w fun e w' => e = .returned (.bool (transit a b)) ∧ w = w' := by
  obtain ⟨r, Hr⟩ : ∃ r, Hid (r = transit a b) := ⟨_, rfl⟩
  rw [← Hr.out]
  rcases kinds a with rfl | rfl | rfl | rfl | ⟨h1, h2, h3, h4⟩
  all_goals
    rcases kinds b with rfl | rfl | rfl | rfl | ⟨g1, g2, g3, g4⟩
    all_goals
      go_enter Try.func18, Try.ntmps18
      go_wp2
      go_ret
      exact ⟨by rw [Hr.out]; simp_all [transit], rfl⟩
end Go.Proofs.Ytdaecknfahgddaa
namespace Go.Proofs.Ytdaecknfahgddaa
open Go.RowKit
set_option linter.unusedVariables false
set_option maxRecDepth 20000
def stepOkE (t : Topo) (s : Stp) : Bool := transit (ifKind t s.ia s.ing) (ifKind t s.ia s.eg) && (decide (s.ing ≠ s.eg) || decide (s.ing = 0))
def cntK (t : Topo) (kind : Int) (l : List Stp) : Nat := (l.filter fun s => decide (ifKind t s.ia s.eg = kind)).length
theorem cnt_succ {t : Topo} {kind : Int} {l : List Stp} {k : Nat} {x : Stp} (h : l[k]? = some x) : cntK t kind (l.take (k + 1)) = cntK t kind (l.take k) + (if ifKind t x.ia x.eg = kind then 1 else 0) := by
  unfold cntK
  rw [take_succ h, List.filter_append, List.length_append]
  by_cases hc : ifKind t x.ia x.eg = kind <;> simp [hc]
theorem cnt_le (t : Topo) (kind : Int) (l : List Stp) : cntK t kind l ≤ l.length := List.length_filter_le ..
def forbid (t : Topo) (l : List Stp) : Int := match l.findIdx? (fun s => !stepOkE t s) with
  | none => -1
  | some i => i
theorem forbid_at {t : Topo} {l : List Stp} {k : Nat} {x : Stp} (h : l[k]? = some x) (ha : (l.take k).all (stepOkE t) = true) (hx : stepOkE t x = false) : forbid t l = k := by
  have h2 := List.getElem?_eq_some_iff.1 h
  have hkl := h2.1
  have : l.findIdx? (fun s => !stepOkE t s) = some k := by
    rw [List.findIdx?_eq_some_iff_getElem]
    refine ⟨h2.1, by rw [h2.2, hx]; rfl, fun j hj => ?_⟩
    rw [List.all_eq_true] at ha
    have := ha (l[j]'(by omega)) (by rw [List.mem_take_iff_getElem]; exact ⟨j, by omega, rfl⟩)
    simp [this]
  unfold forbid; rw [this]
theorem forbid_none {t : Topo} {l : List Stp} (ha : l.all (stepOkE t) = true) : forbid t l = -1 := by
  have : l.findIdx? (fun s => !stepOkE t s) = none := by
    rw [List.findIdx?_eq_none_iff]
    rw [List.all_eq_true] at ha
    intro x hx
    simp [ha x hx]
  unfold forbid; rw [this]
def place (k : Int) : Int := if k = 1 then 1 else if k = 2 then 2 else if k = 3 then 2 else 3
end Go.Proofs.Ytdaecknfahgddaa
namespace Go.Proofs.Ytdaecknfahgddaa
open Go.RowKit
set_option linter.unusedVariables false
set_option maxRecDepth 20000
theorem ends_iff {x : Lnk} {r d : Int} : ends x r d = true ↔ (x.a = r ∧ x.ai = d) ∨ (x.b = r ∧ x.bi = d) := by
  unfold ends; simp
theorem mem_ifsStep {r : Int} {acc : List Int} {x : Lnk} {d : Int} : d ∈ ifsStep r acc x ↔ d ∈ acc ∨ ends x r d = true := by
  rw [ends_iff]
  unfold ifsStep
  dsimp only
  by_cases ha : x.a = r <;> by_cases hb : x.b = r <;> simp only [ha, hb, if_true, if_false, mem_putL, true_and, false_and, or_false, false_or]
  · exact ⟨fun h => h.elim (fun h => .inr (.inr h.symm)) fun h => h.elim (fun h => .inr (.inl h.symm)) .inl, fun h => h.elim (fun h => .inr (.inr h)) fun h => h.elim (fun h => .inr (.inl h.symm)) fun h => .inl h.symm⟩
  · exact ⟨fun h => h.elim (fun h => .inr h.symm) .inl, fun h => h.elim .inr fun h => .inl h.symm⟩
  · exact ⟨fun h => h.elim (fun h => .inr h.symm) .inl, fun h => h.elim .inr fun h => .inl h.symm⟩
theorem mem_ifs {L : List Lnk} {r d : Int} : d ∈ ifs L r ↔ ∃ x ∈ L, ends x r d = true := by
  suffices h : ∀ (L : List Lnk) acc, d ∈ L.foldl (ifsStep r) acc ↔ d ∈ acc ∨ ∃ x ∈ L, ends x r d = true by
    have := h L []
    simpa [ifs] using this
  intro L
  induction L with
  | nil => simp
  | cons a t ih =>
    intro acc
    rw [List.foldl_cons, ih, mem_ifsStep]
    simp [or_assoc]
theorem findL_of {L : List Lnk} {r d : Int} {x : Lnk} (hx : x ∈ L) (he : ends x r d = true) : ∃ i y, findL L r d = some i ∧ L[i]? = some y ∧ y ∈ L ∧ ends y r d = true := by
  unfold findL
  cases h : L.findIdx? (fun x => ends x r d) with
  | none =>
    rw [List.findIdx?_eq_none_iff] at h
    rw [h x hx] at he; cases he
  | some i =>
    rw [List.findIdx?_eq_some_iff_getElem] at h
    obtain ⟨hlt, hp, _⟩ := h
    exact ⟨i, L[i], rfl, List.getElem?_eq_getElem hlt, List.getElem_mem hlt, hp⟩
theorem remote_of {t : Topo} {r d : Int} {i : Nat} {y : Lnk} (h1 : findL t.links r d = some i) (h2 : t.links[i]? = some y) : remote t r d = if y.a = r ∧ y.ai = d then (y.b, y.bi) else (y.a, y.ai) := by
  unfold remote
  rw [h1, Option.bind_some, h2]
theorem remote_in {A : List ASd} {L : List Lnk} (hK : ∀ x ∈ L, LnkK A.length x) {r d : Int} (hd : d ∈ ifs L r) : (0 ≤ (remote ⟨A, L⟩ r d).1 ∧ (remote ⟨A, L⟩ r d).1 < A.length) ∧ 1 ≤ (remote ⟨A, L⟩ r d).2 ∧ (remote ⟨A, L⟩ r d).2 ≤ 6 := by
  obtain ⟨x, hx, he⟩ := mem_ifs.1 hd
  obtain ⟨i, y, h1, h2, h3, h4⟩ := findL_of hx he
  rw [remote_of (t := ⟨A, L⟩) h1 h2]
  obtain ⟨k1, k2, k3, k4, k5, k6, k7, k8, k9⟩ := hK y h3
  split
  · exact ⟨⟨by dsimp only; omega, k3⟩, k6, k7⟩
  · exact ⟨⟨k1, by dsimp only; omega⟩, k4, k5⟩
theorem ifs_in {n : Nat} {L : List Lnk} (hK : ∀ x ∈ L, LnkK n x) {r d : Int} (hd : d ∈ ifs L r) : 1 ≤ d ∧ d ≤ 6 := by
  obtain ⟨x, hx, he⟩ := mem_ifs.1 hd
  obtain ⟨k1, k2, k3, k4, k5, k6, k7, k8, k9⟩ := hK x hx
  rcases ends_iff.1 he with ⟨_, rfl⟩ | ⟨_, rfl⟩ <;> omega
theorem ifsK_in {n : Nat} {A : List ASd} {L : List Lnk} (hK : ∀ x ∈ L, LnkK n x) {r k d : Int} (hd : d ∈ ifsK ⟨A, L⟩ r k) : d ∈ ifs L r ∧ (1 ≤ d ∧ d ≤ 6) := by
  unfold ifsK at hd
  have := (List.mem_filter.1 hd).1
  exact ⟨this, ifs_in hK this⟩
/-- A topology as_ it is drawn. -/
def TopK (A : List ASd) (L : List Lnk) : Prop := (1 ≤ A.length ∧ A.length ≤ 8 ∧ ∀ x ∈ A, AsK x) ∧ ∃ m L0, m ≤ 60 ∧ Grown A.length m L0 ∧ L.Sublist L0
theorem TopK.lnk {A : List ASd} {L : List Lnk} (h : TopK A L) : ∀ x ∈ L, LnkK A.length x := by
  obtain ⟨_, m, L0, _, hG, hs⟩ := h
  exact fun x hx => hG.mem x (hs.subset hx)
theorem TopK.len {A : List ASd} {L : List Lnk} (h : TopK A L) : L.length ≤ 60 := by
  obtain ⟨_, m, L0, hm, hG, hs⟩ := h
  exact Nat.le_trans (Nat.le_trans hs.length_le hG.len) hm
theorem AsK.rng {x : ASd} (h : AsK x) : rng_asn x := by
  obtain ⟨h1, h2, h3, h4⟩ := h
  refine ⟨⟨?_, ?_⟩, ?_, ?_⟩ <;> omega
theorem LnkK.rng {n : Nat} {x : Lnk} (h : LnkK n x) (hn : n ≤ 1000) : rng_link x := by
  obtain ⟨h1, h2, h3, h4, h5, h6, h7, h8, h9⟩ := h
  refine ⟨⟨?_, ?_⟩, ⟨?_, ?_⟩, ⟨?_, ?_⟩, ⟨?_, ?_⟩, ?_, ?_⟩ <;> omega
theorem TopK.rng {A : List ASd} {L : List Lnk} (h : TopK A L) : rng_topo ⟨A, L⟩ :=
  ⟨fun x hx => (h.1.2.2 x hx).rng, fun x hx => (h.lnk x hx).rng (by have := h.1.2.1; omega)⟩
theorem mac_in (key ts beta : Int) (h : Hop) : 0 ≤ hopMac key ts beta h ∧ hopMac key ts beta h ≤ 2147483646 := by
  have := digest_bd ([key] ++ [ts, beta, h.ia, h.ing, h.eg, h.exp] ++ [key])
  unfold hopMac computeMac
  omega
theorem isAS_iff {A : List ASd} {L : List Lnk} {r : Int} : isAS ⟨A, L⟩ r = true ↔ 0 ≤ r ∧ r < A.length := by
  unfold isAS
  rw [inR_iff]
  show 0 ≤ r ∧ r ≤ (A.length : Int) - 1 ↔ _
  omega
theorem asKey_of {A : List ASd} {L : List Lnk} {r : Int} {x : ASd} (h : A[r.toNat]? = some x) : asKey ⟨A, L⟩ r = x.key := by
  unfold asKey
  rw [h]
/-- Hops that are sealed right, one after the other. -/
inductive SealK (t : Topo) (ts beta : Int) : List Hop → Prop
  | nil : SealK t ts beta []
  | snoc {l : List Hop} {h : Hop} : SealK t ts beta l → verifyHop t ts (chainAdd beta (l.map Hop.mac)) h = true → SealK t ts beta (l ++ [h])
/-- A segment as_ it is drawn. -/
def SegK (t : Topo) (s : Seg) : Prop := (0 ≤ s.ts ∧ s.ts ≤ 49 ∧ 0 ≤ s.beta ∧ s.beta ≤ 999999 ∧ s.hops.length ≤ 5) ∧ SealK t s.ts s.beta s.hops
theorem SealK.seg {t : Topo} {ts beta : Int} {l : List Hop} (h : SealK t ts beta l) (h0 : 0 ≤ ts) (h1 : ts ≤ 49) (h2 : 0 ≤ beta) (h3 : beta ≤ 999999) (hl : l.length ≤ 5) : SegK t ⟨ts, beta, l⟩ := ⟨⟨h0, h1, h2, h3, hl⟩, h⟩
theorem SealK.hop {t : Topo} {ts beta : Int} {l : List Hop} (h : SealK t ts beta l) : ∀ x ∈ l, validHop x = true := by
  induction h with
  | nil => simp
  | snoc _ h2 ih =>
    intro x hx
    rw [List.mem_append, List.mem_singleton] at hx
    rcases hx with hx | rfl
    · exact ih x hx
    · unfold verifyHop at h2
      rw [Bool.and_eq_true] at h2
      exact h2.1
theorem segBeta_all (ts beta : Int) (l : List Hop) : segBeta ⟨ts, beta, l⟩ l.length = chainAdd beta (l.map Hop.mac) := by
  unfold segBeta
  rw [if_pos (inR_iff.2 ⟨by omega, by show (l.length : Int) ≤ l.length; omega⟩)]
  show chainAdd beta ((l.take (l.length : Int).toNat).map Hop.mac) = _
  rw [show (l.length : Int).toNat = l.length by omega, List.take_length]
theorem seal_next {A : List ASd} {L : List Lnk} {ts beta : Int} {l : List Hop} (hS : SealK ⟨A, L⟩ ts beta l) {r i e x m : Int} {as' : ASd} (hA : A.length ≤ 8) (hr : 0 ≤ r ∧ r < A.length) (ha : A[r.toNat]? = some as') (hi : 0 ≤ i ∧ i ≤ 6) (he : 0 ≤ e ∧ e ≤ 6) (hne : i ≠ e) (hx : 0 ≤ x ∧ x ≤ 1000000) (hm : m = hopMac as'.key ts (segBeta ⟨ts, beta, l⟩ l.length) ⟨r, i, e, x, 0⟩) : SealK ⟨A, L⟩ ts beta (l ++ [⟨r, i, e, x, m⟩]) := by
  refine .snoc hS ?_
  rw [segBeta_all] at hm
  have hmi := mac_in as'.key ts (chainAdd beta (l.map Hop.mac)) ⟨r, i, e, x, 0⟩
  rw [← hm] at hmi
  unfold verifyHop
  rw [Bool.and_eq_true, Bool.and_eq_true, decide_eq_true_eq]
  refine ⟨?_, isAS_iff.2 hr, ?_⟩
  · unfold validHop
    simp only [Bool.and_eq_true, inR_iff, bne_iff_ne, ne_eq]
    exact ⟨⟨⟨⟨⟨by omega, hi⟩, he⟩, hne⟩, hx⟩, hmi⟩
  · show m = hopMac (asKey ⟨A, L⟩ r) ts _ _
    rw [asKey_of ha]
    exact hm
end Go.Proofs.Ytdaecknfahgddaa
namespace Go.Proofs.Ytdaecknfahgddaa
open Go.RowKit
set_option linter.unusedVariables false
section
variable {P : Program} {n : Nat} {Q : Exit → Act → World → Prop} {L : Frm} {w : World}
theorem w_cut {X : Type} (I : X → World → Prop) (F : X → Frm) {x y : Code} (hx : W P n (Exit.then (fun a w' => ∃ z, I z w' ∧ Env n (F z) a) Q) x L w) (hy : ∀ z w', I z w' → W P n Q y (F z) w') : W P n (Exit.then (y.wp P Q) Q) x L w := by
  intro a ha
  refine wp_mono (hx a ha) fun e a' w' hq => ?_
  cases e with
  | normal => obtain ⟨z, h1, h2⟩ := hq; exact hy z w' h1 a' h2
  | _ => exact hq
theorem x_cut {X : Type} {I : X → World → Prop} {F : X → Frm} (z : X) (hI : I z w) (hs : Sub (F z) L) : WX n (Exit.then (fun a w' => ∃ z, I z w' ∧ Env n (F z) a) Q) .normal L w := fun a ha => ⟨z, hI, ha.sub hs⟩
end
end Go.Proofs.Ytdaecknfahgddaa
