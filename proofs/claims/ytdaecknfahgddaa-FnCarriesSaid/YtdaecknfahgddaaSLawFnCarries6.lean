/- What LawFnCarries needs of the texts below it, part 6: contracts of functions, plain lemmas. (Put together by slim.py.) -/
import Derived.Test.YtdaecknfahgddaaSLawFnCarries5
namespace Go.Proofs.Ytdaecknfahgddaa
open Go.RowKit
set_option linter.unusedVariables false
set_option maxRecDepth 20000
/-- A path of a few short parts. -/
def PathS (p : Path) : Prop := List.length p ≤ 4 ∧ ∀ x ∈ p, x.hops.length ≤ 5 ∧ rng_part x
theorem validHop_rng {h : Hop} (e : validHop h = true) : rng_hop h := by
  unfold validHop at e
  simp only [Bool.and_eq_true, inR_iff] at e
  obtain ⟨⟨⟨⟨⟨h1, h2⟩, h3⟩, _⟩, h5⟩, h6⟩ := e
  refine ⟨⟨?_, ?_⟩, ⟨?_, ?_⟩, ⟨?_, ?_⟩, ⟨?_, ?_⟩, ?_, ?_⟩ <;> omega
theorem in64 {n : Int} (h0 : -9223372036854775808 ≤ n) (h1 : n ≤ 9223372036854775807) : In64 n := ⟨h0, h1⟩
theorem PartK.small {t : Topo} {x : Part} (h : PartK t x) : x.hops.length ≤ 5 ∧ rng_part x := by
  obtain ⟨s, kind, i, hs, h1, h2, rfl⟩ := h
  obtain ⟨⟨k0, k1, k2, k3, k4⟩, hS⟩ := hs
  have hb : ∀ j, Res (segBeta s j) := fun j => by
    unfold segBeta
    split
    · exact chain_in ⟨k2, by omega⟩ _
    · exact ⟨by omega, by omega⟩
  have hv := hS.hop
  refine ⟨Nat.le_trans (make_len s kind i) k4, ?_⟩
  unfold makePart
  split
  · split
    · refine ⟨in64 (by dsimp only; omega) (by dsimp only; omega), in64 (by dsimp only; omega) (by dsimp only; omega), ?_, fun y hy => validHop_rng (hv y (List.mem_of_mem_drop (List.mem_reverse.1 hy)))⟩
      have := hb s.hops.length
      unfold Res at this
      exact in64 (by dsimp only; omega) (by dsimp only; omega)
    · refine ⟨in64 (by dsimp only; omega) (by dsimp only; omega), in64 (by dsimp only; omega) (by dsimp only; omega), ?_, fun y hy => validHop_rng (hv y (List.mem_of_mem_drop hy))⟩
      have := hb i
      unfold Res at this
      exact in64 (by dsimp only; omega) (by dsimp only; omega)
  · exact ⟨in64 (by dsimp only; omega) (by dsimp only; omega), in64 (by dsimp only; omega) (by dsimp only; omega), in64 (by dsimp only; omega) (by dsimp only; omega), fun y hy => by simp at hy⟩
theorem PathK.small {t : Topo} {p : Path} (h : PathK t p) : List.length p ≤ 3 ∧ ∀ x ∈ p, x.hops.length ≤ 5 ∧ rng_part x := ⟨h.1, fun x hx => (h.2 x hx).small⟩
theorem set_all {α : Type} {Q : α → Prop} {l : List α} (h : ∀ x ∈ l, Q x) {i : Nat} {y : α} (hy : Q y) : ∀ x ∈ l.set i y, Q x := fun x hx => by
  rcases List.mem_or_eq_of_mem_set hx with hx | rfl
  · exact h x hx
  · exact hy
theorem PathS.sz {p : Path} (h : PathS p) : sz_path p ≤ 24 := by
  obtain ⟨h1, h2⟩ := h
  have : ∀ l : List Part, (∀ x ∈ l, x.hops.length ≤ 5) → (l.map sz_part).sum ≤ 5 * l.length := fun l => by
    induction l with
    | nil => simp
    | cons a t ih =>
      intro ha
      have h3 := ha a (by simp)
      have h4 := ih fun x hx => ha x (List.mem_cons_of_mem _ hx)
      simp only [List.map_cons, List.sum_cons, List.length_cons]
      have : sz_part a = a.hops.length := rfl
      omega
  have h3 := this p fun x hx => (h2 x hx).1
  show List.length p + (p.map sz_part).sum ≤ 24
  omega
theorem PathS.rng {p : Path} (h : PathS p) : rng_path p := fun x hx => (h.2 x hx).2
theorem PathS.lenOk {p : Path} (h : PathS p) : lenOk_path p := ⟨by have := h.1; omega, fun x hx => by have := (h.2 x hx).1; show x.hops.length ≤ _; omega⟩
theorem PathK.toS {t : Topo} {p : Path} (h : PathK t p) : PathS p := ⟨by have := h.1; omega, h.small.2⟩
set_option maxHeartbeats 8000000 in
theorem spec_l22Any {b n c : Nat} {w : World} {v : Value} {os : List Ow} (S : Sep b w (curO v n c 109 :: os)) (K : CodeK b w v n) : Calls Try.prog 113 #[.pointer (some ⟨c, 0, none⟩)] w fun e w' =>
    ∃ (va vl vp : Value) (A : List ASd) (L : List Lnk) (p : Path), e = .returned (.tuple #[.agg #[va, vl], .agg #[vp]]) ∧ (TopK A L ∧ PathS p) ∧ Sep b w' (rdO partT vp p :: slO asnT 121 va A :: slO linkT 78 vl L :: curO v n c 109 :: os) ∧ Below b w w' := by
  have X0 := Below.refl w.heap.size w
  refine enter Try.func113 rfl Try.ntmps113 rfl ?_
  have B := Below.refl b w
  have Hb := S.base
  refine w_seq ?_
  refine w_region ?_
  refine t_alloc S z_topo rfl ?_ rfl rfl
  intro g2 w1 x2 S
  have B := bx Hb B x2
  refine t_alloc S z_path rfl ?_ rfl rfl
  intro g3 w3 x4 S
  have B := bx Hb B x4
  refine t_done ?_
  refine x_seq ?_
  refine w_seq ?_
  refine w_region ?_
  refine t_move rfl ?_ rfl
  have S := S.f2
  refine t_callf Try.call53 rfl (spec_l22Draw S (K.below B)) ?_ rfl
  rintro e w5 ⟨va10, vl10, vp10, A10, L10, p10, rfl, hf10, S, x6⟩
  refine ⟨_, rfl, ?_⟩
  have B := B.trans x6
  refine t_move rfl ?_ rfl
  refine t_extract rfl rfl ?_ rfl
  refine t_extract rfl rfl ?_ rfl
  refine t_alloc S z_topo rfl ?_ rfl rfl
  intro g4 w7 x8 S
  have B := bx Hb B x8
  refine t_alloc S z_path rfl ?_ rfl rfl
  intro g5 w9 x10 S
  have B := bx Hb B x10
  have S := S.f1
  refine t_stn S sb_topo rfl rfl rfl rfl (by intro zz hu; have hu : zz ∈ ([va10, vl10] : List Value) := hu; simp only [List.mem_cons, List.not_mem_nil, or_false] at hu; rcases hu with rfl | rfl <;> first | rfl | exact (SlR.cells (by first | assumption | exact S.tail.sl | exact S.tail.tail.sl | exact S.tail.tail.tail.sl | exact S.tail.tail.tail.tail.sl | exact S.tail.tail.tail.tail.tail.sl | exact S.tail.tail.tail.tail.tail.tail.sl | exact S.tail.tail.tail.tail.tail.tail.tail.sl | exact S.tail.tail.tail.tail.tail.tail.tail.tail.sl | exact S.tail.tail.tail.tail.tail.tail.tail.tail.tail.sl | exact S.tail.tail.tail.tail.tail.tail.tail.tail.tail.tail.sl | exact S.tail.tail.tail.tail.tail.tail.tail.tail.tail.tail.tail.sl | exact S.tail.tail.tail.tail.tail.tail.tail.tail.tail.tail.tail.tail.sl | exact S.tail.tail.tail.tail.tail.tail.tail.tail.tail.tail.tail.tail.tail.sl)).2) ?_
  intro w11 b12 S
  have B := B.trans b12
  have S := S.f1
  refine t_stn S sb_path rfl rfl rfl rfl (by intro zz hu; have hu : zz ∈ ([vp10] : List Value) := hu; simp only [List.mem_cons, List.not_mem_nil, or_false] at hu; rcases hu with rfl <;> first | rfl | exact (SlR.cells (by first | assumption | exact S.tail.sl | exact S.tail.tail.sl | exact S.tail.tail.tail.sl | exact S.tail.tail.tail.tail.sl | exact S.tail.tail.tail.tail.tail.sl | exact S.tail.tail.tail.tail.tail.tail.sl | exact S.tail.tail.tail.tail.tail.tail.tail.sl | exact S.tail.tail.tail.tail.tail.tail.tail.tail.sl | exact S.tail.tail.tail.tail.tail.tail.tail.tail.tail.sl | exact S.tail.tail.tail.tail.tail.tail.tail.tail.tail.tail.sl | exact S.tail.tail.tail.tail.tail.tail.tail.tail.tail.tail.tail.sl | exact S.tail.tail.tail.tail.tail.tail.tail.tail.tail.tail.tail.tail.sl | exact S.tail.tail.tail.tail.tail.tail.tail.tail.tail.tail.tail.tail.tail.sl)).2) ?_
  intro w13 b14 S
  have B := B.trans b14
  refine t_done ?_
  refine x_seq ?_
  refine w_seq ?_
  obtain ⟨T, hP⟩ := hf10
  have hQ := hP.small
  refine w_seq ?_
  refine w_region ?_
  refine t_fldx fb_path_0 rfl rfl ?_ rfl
  refine t_bx1 S.box ab_s_part rfl rfl ?_ rfl
  refine t_len e_part (S.tail.tail.sl) rfl rfl ?_ rfl
  refine t_eql rfl rfl ?_ rfl
  refine t_done ?_
  refine x_seq ?_
  refine w_if rfl ?_ ?_
  · intro h0
    refine w_seq ?_
    refine w_drawP [] (.alt (.st .fin 0 (.alt (.st .fin 1 (.st .fin 2 (.st .fin 3 .done))) (.st .fin 2 (.st .fin 1 (.st .fin 3 .done))))) (.st .fin 1 (.st .fin 0 (.st .fin 2 (.st .fin 3 .done))))) mixed (by kernel_rfl) ?_
    intro w15 x16
    have B := bx Hb B x16
    have S := S.below x16
    refine t_alt ?_ ?_
    · refine t_bxn S.tail.box ab_topo sb_topo rfl rfl ?_ rfl
      refine t_alt ?_ ?_
      · refine t_bxn S.box ab_path sb_path rfl rfl ?_ rfl
        have S := S.f7
        refine t_stn S sb_topo rfl rfl rfl rfl (by intro zz hu; have hu : zz ∈ ([va10, vl10] : List Value) := hu; simp only [List.mem_cons, List.not_mem_nil, or_false] at hu; rcases hu with rfl | rfl <;> first | rfl | exact (SlR.cells (by first | assumption | exact S.tail.sl | exact S.tail.tail.sl | exact S.tail.tail.tail.sl | exact S.tail.tail.tail.tail.sl | exact S.tail.tail.tail.tail.tail.sl | exact S.tail.tail.tail.tail.tail.tail.sl | exact S.tail.tail.tail.tail.tail.tail.tail.sl | exact S.tail.tail.tail.tail.tail.tail.tail.tail.sl | exact S.tail.tail.tail.tail.tail.tail.tail.tail.tail.sl | exact S.tail.tail.tail.tail.tail.tail.tail.tail.tail.tail.sl | exact S.tail.tail.tail.tail.tail.tail.tail.tail.tail.tail.tail.sl | exact S.tail.tail.tail.tail.tail.tail.tail.tail.tail.tail.tail.tail.sl | exact S.tail.tail.tail.tail.tail.tail.tail.tail.tail.tail.tail.tail.tail.sl)).2) ?_
        intro w17 b18 S
        have B := B.trans b18
        have S := S.f7
        refine t_stn S sb_path rfl rfl rfl rfl (by intro zz hu; have hu : zz ∈ ([vp10] : List Value) := hu; simp only [List.mem_cons, List.not_mem_nil, or_false] at hu; rcases hu with rfl <;> first | rfl | exact (SlR.cells (by first | assumption | exact S.tail.sl | exact S.tail.tail.sl | exact S.tail.tail.tail.sl | exact S.tail.tail.tail.tail.sl | exact S.tail.tail.tail.tail.tail.sl | exact S.tail.tail.tail.tail.tail.tail.sl | exact S.tail.tail.tail.tail.tail.tail.tail.sl | exact S.tail.tail.tail.tail.tail.tail.tail.tail.sl | exact S.tail.tail.tail.tail.tail.tail.tail.tail.tail.sl | exact S.tail.tail.tail.tail.tail.tail.tail.tail.tail.tail.sl | exact S.tail.tail.tail.tail.tail.tail.tail.tail.tail.tail.tail.sl | exact S.tail.tail.tail.tail.tail.tail.tail.tail.tail.tail.tail.tail.sl | exact S.tail.tail.tail.tail.tail.tail.tail.tail.tail.tail.tail.tail.tail.sl)).2) ?_
        intro w19 b20 S
        have B := B.trans b20
        refine t_done' ?_
        refine x_seq ?_
        refine w_ret ?_
        refine x_then_ret ?_
        refine x_retcc rfl rfl S.tail.box ab_topo sb_topo rfl rfl S.box ab_path sb_path rfl ?_
        have S := S.f4
        have S := S.toRd (fun _ h => h)
        have S := S.f1
        have S := S.tail
        have S := S.f1
        have S := S.tail
        have S := S.f1
        have S := S.tail
        have S := S.f1
        have S := S.tail
        have S := S.f3
        have S := S.f3
        have S := S.f3
        have S := S.f3
        exact ⟨_, _, _, _, _, p10, rfl, ⟨T, hP.toS⟩, S, B⟩
      · have S := S.f7
        refine t_stn S sb_topo rfl rfl rfl rfl (by intro zz hu; have hu : zz ∈ ([va10, vl10] : List Value) := hu; simp only [List.mem_cons, List.not_mem_nil, or_false] at hu; rcases hu with rfl | rfl <;> first | rfl | exact (SlR.cells (by first | assumption | exact S.tail.sl | exact S.tail.tail.sl | exact S.tail.tail.tail.sl | exact S.tail.tail.tail.tail.sl | exact S.tail.tail.tail.tail.tail.sl | exact S.tail.tail.tail.tail.tail.tail.sl | exact S.tail.tail.tail.tail.tail.tail.tail.sl | exact S.tail.tail.tail.tail.tail.tail.tail.tail.sl | exact S.tail.tail.tail.tail.tail.tail.tail.tail.tail.sl | exact S.tail.tail.tail.tail.tail.tail.tail.tail.tail.tail.sl | exact S.tail.tail.tail.tail.tail.tail.tail.tail.tail.tail.tail.sl | exact S.tail.tail.tail.tail.tail.tail.tail.tail.tail.tail.tail.tail.sl | exact S.tail.tail.tail.tail.tail.tail.tail.tail.tail.tail.tail.tail.tail.sl)).2) ?_
        intro w21 b22 S
        have B := B.trans b22
        refine t_bxn S.tail.box ab_path sb_path rfl rfl ?_ rfl
        have S := S.f7
        refine t_stn S sb_path rfl rfl rfl rfl (by intro zz hu; have hu : zz ∈ ([vp10] : List Value) := hu; simp only [List.mem_cons, List.not_mem_nil, or_false] at hu; rcases hu with rfl <;> first | rfl | exact (SlR.cells (by first | assumption | exact S.tail.sl | exact S.tail.tail.sl | exact S.tail.tail.tail.sl | exact S.tail.tail.tail.tail.sl | exact S.tail.tail.tail.tail.tail.sl | exact S.tail.tail.tail.tail.tail.tail.sl | exact S.tail.tail.tail.tail.tail.tail.tail.sl | exact S.tail.tail.tail.tail.tail.tail.tail.tail.sl | exact S.tail.tail.tail.tail.tail.tail.tail.tail.tail.sl | exact S.tail.tail.tail.tail.tail.tail.tail.tail.tail.tail.sl | exact S.tail.tail.tail.tail.tail.tail.tail.tail.tail.tail.tail.sl | exact S.tail.tail.tail.tail.tail.tail.tail.tail.tail.tail.tail.tail.sl | exact S.tail.tail.tail.tail.tail.tail.tail.tail.tail.tail.tail.tail.tail.sl)).2) ?_
        intro w23 b24 S
        have B := B.trans b24
        refine t_done' ?_
        refine x_seq ?_
        refine w_ret ?_
        refine x_then_ret ?_
        refine x_retcc rfl rfl S.tail.box ab_topo sb_topo rfl rfl S.box ab_path sb_path rfl ?_
        have S := S.f4
        have S := S.toRd (fun _ h => h)
        have S := S.f1
        have S := S.tail
        have S := S.f1
        have S := S.tail
        have S := S.f1
        have S := S.tail
        have S := S.f1
        have S := S.tail
        have S := S.f3
        have S := S.f3
        have S := S.f3
        have S := S.f3
        exact ⟨_, _, _, _, _, p10, rfl, ⟨T, hP.toS⟩, S, B⟩
    · refine t_bxn S.box ab_path sb_path rfl rfl ?_ rfl
      refine t_bxn S.tail.box ab_topo sb_topo rfl rfl ?_ rfl
      have S := S.f7
      refine t_stn S sb_topo rfl rfl rfl rfl (by intro zz hu; have hu : zz ∈ ([va10, vl10] : List Value) := hu; simp only [List.mem_cons, List.not_mem_nil, or_false] at hu; rcases hu with rfl | rfl <;> first | rfl | exact (SlR.cells (by first | assumption | exact S.tail.sl | exact S.tail.tail.sl | exact S.tail.tail.tail.sl | exact S.tail.tail.tail.tail.sl | exact S.tail.tail.tail.tail.tail.sl | exact S.tail.tail.tail.tail.tail.tail.sl | exact S.tail.tail.tail.tail.tail.tail.tail.sl | exact S.tail.tail.tail.tail.tail.tail.tail.tail.sl | exact S.tail.tail.tail.tail.tail.tail.tail.tail.tail.sl | exact S.tail.tail.tail.tail.tail.tail.tail.tail.tail.tail.sl | exact S.tail.tail.tail.tail.tail.tail.tail.tail.tail.tail.tail.sl | exact S.tail.tail.tail.tail.tail.tail.tail.tail.tail.tail.tail.tail.sl | exact S.tail.tail.tail.tail.tail.tail.tail.tail.tail.tail.tail.tail.tail.sl)).2) ?_
      intro w25 b26 S
      have B := B.trans b26
      have S := S.f7
      refine t_stn S sb_path rfl rfl rfl rfl (by intro zz hu; have hu : zz ∈ ([vp10] : List Value) := hu; simp only [List.mem_cons, List.not_mem_nil, or_false] at hu; rcases hu with rfl <;> first | rfl | exact (SlR.cells (by first | assumption | exact S.tail.sl | exact S.tail.tail.sl | exact S.tail.tail.tail.sl | exact S.tail.tail.tail.tail.sl | exact S.tail.tail.tail.tail.tail.sl | exact S.tail.tail.tail.tail.tail.tail.sl | exact S.tail.tail.tail.tail.tail.tail.tail.sl | exact S.tail.tail.tail.tail.tail.tail.tail.tail.sl | exact S.tail.tail.tail.tail.tail.tail.tail.tail.tail.sl | exact S.tail.tail.tail.tail.tail.tail.tail.tail.tail.tail.sl | exact S.tail.tail.tail.tail.tail.tail.tail.tail.tail.tail.tail.sl | exact S.tail.tail.tail.tail.tail.tail.tail.tail.tail.tail.tail.tail.sl | exact S.tail.tail.tail.tail.tail.tail.tail.tail.tail.tail.tail.tail.tail.sl)).2) ?_
      intro w27 b28 S
      have B := B.trans b28
      refine t_done' ?_
      refine x_seq ?_
      refine w_ret ?_
      refine x_then_ret ?_
      refine x_retcc rfl rfl S.tail.box ab_topo sb_topo rfl rfl S.box ab_path sb_path rfl ?_
      have S := S.f4
      have S := S.toRd (fun _ h => h)
      have S := S.f1
      have S := S.tail
      have S := S.f1
      have S := S.tail
      have S := S.f1
      have S := S.tail
      have S := S.f1
      have S := S.tail
      have S := S.f3
      have S := S.f3
      have S := S.f3
      have S := S.f3
      exact ⟨_, _, _, _, _, p10, rfl, ⟨T, hP.toS⟩, S, B⟩
  · intro h0
    refine w_skip ?_
    refine x_seq ?_
    refine w_seq ?_
    refine w_region ?_
    refine t_move rfl ?_ rfl
    refine t_fldx fb_path_0 rfl rfl ?_ rfl
    refine t_bx1 S.box ab_s_part rfl rfl ?_ rfl
    refine t_len e_part (S.tail.tail.sl) rfl rfl ?_ rfl
    have S := S.f5
    refine t_callf Try.call64 rfl (spec_l1Below (p10.length : Int) S (K.below B)) ?_ rfl
    rintro e w29 ⟨y23, rfl, hf23, S, x30⟩
    refine ⟨_, rfl, ?_⟩
    have B := B.trans x30
    refine t_assign rfl ?_ rfl
    refine t_done ?_
    refine x_seq ?_
    refine w_seq ?_
    obtain ⟨ek, hek⟩ := getx (l := p10) (k := y23.toNat) (by omega)
    have hkm := List.mem_of_getElem? hek
    have hkS := hQ.2 ek hkm
    refine w_cut (X := Path × Value) (fun x wq => (fun q vq => PathS q ∧ Below b w wq ∧ Sep b wq (rdO partT vq q :: bxO g5 30 #[vq] :: slO asnT 121 va10 A10 :: slO linkT 78 vl10 L10 :: curO v n c 109 :: bxO g4 27 #[va10, vl10] :: bxO g3 30 #[.slice none 0 0] :: bxO g2 27 #[.slice none 0 0, .slice none 0 0] :: os)) x.1 x.2) (fun x => (fun q vq => [(2, .pointer (some ⟨g2, 0, none⟩)), (3, .pointer (some ⟨g3, 0, none⟩)), (4, .pointer (some ⟨g4, 0, none⟩)), (5, .pointer (some ⟨g5, 0, none⟩))]) x.1 x.2) ?_ ?_
    · refine w_seq ?_
      refine w_region ?_
      refine t_move rfl ?_ rfl
      refine t_callf Try.call64 rfl (spec_l1Below 12 S (K.below B)) ?_ rfl
      rintro e w31 ⟨y25, rfl, hf25, S, x32⟩
      refine ⟨_, rfl, ?_⟩
      have B := B.trans x32
      refine t_done ?_
      refine x_seq ?_
      refine w_block ?_
      refine w_seq ?_
      refine w_region ?_
      refine t_eql rfl rfl ?_ rfl
      refine t_assign rfl ?_ rfl
      refine t_done ?_
      refine x_seq ?_
      refine w_if rfl ?_ ?_
      · intro h1
        have S := S.f3
        obtain ⟨Gvp10, Cvp10, rfl⟩ := S.addr (by omega)
        refine w_drawP [0, 2, 3] (.alt (.st .fin 1 (.st .fin 4 (.st .fin 5 (.st .fin 6 (.st .fin 7 .done))))) (.st .fin 4 (.st .fin 1 (.st .fin 5 (.st .fin 6 (.st .fin 7 .done)))))) mixed (by kernel_rfl) ?_
        intro w33 x34
        have B := bx Hb B x34
        have S := S.below x34
        refine p_fldx fb_path_0 rfl rfl ?_ rfl
        refine p_move rfl ?_ rfl
        refine p_move rfl ?_ rfl
        refine p_done ?_
        refine t_alt ?_ ?_
        · refine t_bx1 S.tail.tail.box ab_s_part rfl rfl ?_ rfl
          have S := S.f1
          refine t_callf Try.call64 rfl (spec_l1Below 6 S (K.below B)) ?_ rfl
          rintro e w35 ⟨y32, rfl, hf32, S, x36⟩
          refine ⟨_, rfl, ?_⟩
          have B := B.trans x36
          refine t_idxx e_part (k := y23.toNat) rfl rfl (by first | rfl | omega) (by omega) rfl ?_ rfl
          refine t_fldx fb_part_0 rfl rfl ?_ rfl
          have S := S.f1
          refine t_stS (T := partT) (j := 0) (x' := { ek with kind := y32 }) S (by first | rfl | ((try simp only [List.length_set]); first | omega | simp)) sb_int rfl rfl hek rfl (by decide) rfl rfl so_part_0 ?_
          intro w37 b38 S
          have B := B.trans b38
          have hq39 := set_at (y := { ek with kind := y32 }) hek
          refine t_done' ?_
          refine x_block_normal ?_
          have S := S.toRd (fun _ h => h)
          have S := S.f7
          have S := S.f7
          have S := S.f5
          have S := S.f4
          have S := S.f7
          have S := S.f7
          have S := S.f7
          have S := S.f7
          refine x_cut (X := Path × Value) (I := (fun x wq => (fun q vq => PathS q ∧ Below b w wq ∧ Sep b wq (rdO partT vq q :: bxO g5 30 #[vq] :: slO asnT 121 va10 A10 :: slO linkT 78 vl10 L10 :: curO v n c 109 :: bxO g4 27 #[va10, vl10] :: bxO g3 30 #[.slice none 0 0] :: bxO g2 27 #[.slice none 0 0, .slice none 0 0] :: os)) x.1 x.2)) (F := (fun x => (fun q vq => [(2, .pointer (some ⟨g2, 0, none⟩)), (3, .pointer (some ⟨g3, 0, none⟩)), (4, .pointer (some ⟨g4, 0, none⟩)), (5, .pointer (some ⟨g5, 0, none⟩))]) x.1 x.2)) (p10.set y23.toNat { ek with kind := y32 }, (.slice (some ⟨Gvp10, 0, none⟩) p10.length Cvp10)) ?_ ?_
          rotate_left
          · exact ⟨rfl, rfl, rfl, rfl, trivial⟩
          try dsimp only
          exact ⟨⟨by rw [List.length_set]; omega, set_all hQ.2 ⟨hkS.1, in64 (by dsimp only; omega) (by dsimp only; omega), hkS.2.2⟩⟩, B, S⟩
        · have S := S.f1
          refine t_callf Try.call64 rfl (spec_l1Below 6 S (K.below B)) ?_ rfl
          rintro e w40 ⟨y32, rfl, hf32, S, x41⟩
          refine ⟨_, rfl, ?_⟩
          have B := B.trans x41
          refine t_bx1 S.tail.tail.box ab_s_part rfl rfl ?_ rfl
          refine t_idxx e_part (k := y23.toNat) rfl rfl (by first | rfl | omega) (by omega) rfl ?_ rfl
          refine t_fldx fb_part_0 rfl rfl ?_ rfl
          have S := S.f1
          refine t_stS (T := partT) (j := 0) (x' := { ek with kind := y32 }) S (by first | rfl | ((try simp only [List.length_set]); first | omega | simp)) sb_int rfl rfl hek rfl (by decide) rfl rfl so_part_0 ?_
          intro w42 b43 S
          have B := B.trans b43
          have hq44 := set_at (y := { ek with kind := y32 }) hek
          refine t_done' ?_
          refine x_block_normal ?_
          have S := S.toRd (fun _ h => h)
          have S := S.f7
          have S := S.f7
          have S := S.f5
          have S := S.f4
          have S := S.f7
          have S := S.f7
          have S := S.f7
          have S := S.f7
          refine x_cut (X := Path × Value) (I := (fun x wq => (fun q vq => PathS q ∧ Below b w wq ∧ Sep b wq (rdO partT vq q :: bxO g5 30 #[vq] :: slO asnT 121 va10 A10 :: slO linkT 78 vl10 L10 :: curO v n c 109 :: bxO g4 27 #[va10, vl10] :: bxO g3 30 #[.slice none 0 0] :: bxO g2 27 #[.slice none 0 0, .slice none 0 0] :: os)) x.1 x.2)) (F := (fun x => (fun q vq => [(2, .pointer (some ⟨g2, 0, none⟩)), (3, .pointer (some ⟨g3, 0, none⟩)), (4, .pointer (some ⟨g4, 0, none⟩)), (5, .pointer (some ⟨g5, 0, none⟩))]) x.1 x.2)) (p10.set y23.toNat { ek with kind := y32 }, (.slice (some ⟨Gvp10, 0, none⟩) p10.length Cvp10)) ?_ ?_
          rotate_left
          · exact ⟨rfl, rfl, rfl, rfl, trivial⟩
          try dsimp only
          exact ⟨⟨by rw [List.length_set]; omega, set_all hQ.2 ⟨hkS.1, in64 (by dsimp only; omega) (by dsimp only; omega), hkS.2.2⟩⟩, B, S⟩
      · intro h1
        refine w_seq ?_
        refine w_region ?_
        refine t_eql rfl rfl ?_ rfl
        refine t_assign rfl ?_ rfl
        refine t_done ?_
        refine x_seq ?_
        refine w_if rfl ?_ ?_
        · intro h2
          have S := S.f3
          obtain ⟨Gvp10, Cvp10, rfl⟩ := S.addr (by omega)
          refine w_drawP [0, 2, 3] (.alt (.st .fin 1 (.st .fin 4 (.st .fin 5 (.st .fin 6 (.st .fin 7 .done))))) (.st .fin 4 (.st .fin 1 (.st .fin 5 (.st .fin 6 (.st .fin 7 .done)))))) mixed (by kernel_rfl) ?_
          intro w45 x46
          have B := bx Hb B x46
          have S := S.below x46
          refine p_fldx fb_path_0 rfl rfl ?_ rfl
          refine p_move rfl ?_ rfl
          refine p_move rfl ?_ rfl
          refine p_done ?_
          refine t_alt ?_ ?_
          · refine t_bx1 S.tail.tail.box ab_s_part rfl rfl ?_ rfl
            have S := S.f1
            refine t_callf Try.call129 rfl (spec_l3Word S (K.below B)) ?_ rfl
            rintro e w47 ⟨y41, rfl, hf41, S, x48⟩
            refine ⟨_, rfl, ?_⟩
            have B := B.trans x48
            refine t_idxx e_part (k := y23.toNat) rfl rfl (by first | rfl | omega) (by omega) rfl ?_ rfl
            refine t_fldx fb_part_2 rfl rfl ?_ rfl
            have S := S.f1
            refine t_stS (T := partT) (j := 2) (x' := { ek with beta := y41 }) S (by first | rfl | ((try simp only [List.length_set]); first | omega | simp)) sb_int rfl rfl hek rfl (by decide) rfl rfl so_part_2 ?_
            intro w49 b50 S
            have B := B.trans b50
            have hq51 := set_at (y := { ek with beta := y41 }) hek
            refine t_done' ?_
            refine x_block_normal ?_
            have S := S.toRd (fun _ h => h)
            have S := S.f7
            have S := S.f7
            have S := S.f5
            have S := S.f4
            have S := S.f7
            have S := S.f7
            have S := S.f7
            have S := S.f7
            refine x_cut (X := Path × Value) (I := (fun x wq => (fun q vq => PathS q ∧ Below b w wq ∧ Sep b wq (rdO partT vq q :: bxO g5 30 #[vq] :: slO asnT 121 va10 A10 :: slO linkT 78 vl10 L10 :: curO v n c 109 :: bxO g4 27 #[va10, vl10] :: bxO g3 30 #[.slice none 0 0] :: bxO g2 27 #[.slice none 0 0, .slice none 0 0] :: os)) x.1 x.2)) (F := (fun x => (fun q vq => [(2, .pointer (some ⟨g2, 0, none⟩)), (3, .pointer (some ⟨g3, 0, none⟩)), (4, .pointer (some ⟨g4, 0, none⟩)), (5, .pointer (some ⟨g5, 0, none⟩))]) x.1 x.2)) (p10.set y23.toNat { ek with beta := y41 }, (.slice (some ⟨Gvp10, 0, none⟩) p10.length Cvp10)) ?_ ?_
            rotate_left
            · exact ⟨rfl, rfl, rfl, rfl, trivial⟩
            try dsimp only
            exact ⟨⟨by rw [List.length_set]; omega, set_all hQ.2 ⟨hkS.1, hkS.2.1, hkS.2.2.1, in64 (by dsimp only; omega) (by dsimp only; omega), hkS.2.2.2.2⟩⟩, B, S⟩
          · have S := S.f1
            refine t_callf Try.call129 rfl (spec_l3Word S (K.below B)) ?_ rfl
            rintro e w52 ⟨y41, rfl, hf41, S, x53⟩
            refine ⟨_, rfl, ?_⟩
            have B := B.trans x53
            refine t_bx1 S.tail.tail.box ab_s_part rfl rfl ?_ rfl
            refine t_idxx e_part (k := y23.toNat) rfl rfl (by first | rfl | omega) (by omega) rfl ?_ rfl
            refine t_fldx fb_part_2 rfl rfl ?_ rfl
            have S := S.f1
            refine t_stS (T := partT) (j := 2) (x' := { ek with beta := y41 }) S (by first | rfl | ((try simp only [List.length_set]); first | omega | simp)) sb_int rfl rfl hek rfl (by decide) rfl rfl so_part_2 ?_
            intro w54 b55 S
            have B := B.trans b55
            have hq56 := set_at (y := { ek with beta := y41 }) hek
            refine t_done' ?_
            refine x_block_normal ?_
            have S := S.toRd (fun _ h => h)
            have S := S.f7
            have S := S.f7
            have S := S.f5
            have S := S.f4
            have S := S.f7
            have S := S.f7
            have S := S.f7
            have S := S.f7
            refine x_cut (X := Path × Value) (I := (fun x wq => (fun q vq => PathS q ∧ Below b w wq ∧ Sep b wq (rdO partT vq q :: bxO g5 30 #[vq] :: slO asnT 121 va10 A10 :: slO linkT 78 vl10 L10 :: curO v n c 109 :: bxO g4 27 #[va10, vl10] :: bxO g3 30 #[.slice none 0 0] :: bxO g2 27 #[.slice none 0 0, .slice none 0 0] :: os)) x.1 x.2)) (F := (fun x => (fun q vq => [(2, .pointer (some ⟨g2, 0, none⟩)), (3, .pointer (some ⟨g3, 0, none⟩)), (4, .pointer (some ⟨g4, 0, none⟩)), (5, .pointer (some ⟨g5, 0, none⟩))]) x.1 x.2)) (p10.set y23.toNat { ek with beta := y41 }, (.slice (some ⟨Gvp10, 0, none⟩) p10.length Cvp10)) ?_ ?_
            rotate_left
            · exact ⟨rfl, rfl, rfl, rfl, trivial⟩
            try dsimp only
            exact ⟨⟨by rw [List.length_set]; omega, set_all hQ.2 ⟨hkS.1, hkS.2.1, hkS.2.2.1, in64 (by dsimp only; omega) (by dsimp only; omega), hkS.2.2.2.2⟩⟩, B, S⟩
        · intro h2
          refine w_seq ?_
          refine w_region ?_
          refine t_eql rfl rfl ?_ rfl
          refine t_assign rfl ?_ rfl
          refine t_done ?_
          refine x_seq ?_
          refine w_if rfl ?_ ?_
          · intro h3
            refine w_draw (.st .take 0 (.st .take 1 (.st .take 2 (.st .take 3 (.st .take 4 (.st .take 5 (.st .take 6 (.st .run 7 (.st .run 8 (.st .fin 9 (.st .fin 10 (.st .fin 11 .done)))))))))))) mixed (by kernel_rfl) ?_
            intro w57 x58
            have B := bx Hb B x58
            have S := S.below x58
            refine t_fldx fb_path_0 rfl rfl ?_ rfl
            refine t_bx1 S.tail.box ab_s_part rfl rfl ?_ rfl
            refine t_fldx fb_path_0 rfl rfl ?_ rfl
            refine t_bx1 S.tail.box ab_s_part rfl rfl ?_ rfl
            refine t_move rfl ?_ rfl
            refine t_idx e_part (k := y23.toNat) (S.tail.tail.tail.sl) hek (Below.refl _ _) rfl rfl (by first | rfl | omega) ?_ rfl
            intro p51 hp51
            refine t_lda (by assumption) ab_part sb_part (Below.refl _ _) rfl ?_ rfl
            intro v52 hv52
            obtain ⟨v52_3, rfl, hv52_3⟩ := part_va hv52
            refine t_call Try.call130 rfl (spec_l21Copy ek _ _ (by first | assumption | exact VA.below (by assumption) B | exact part_mkv (by first | assumption | exact SlR.below (by assumption) B)) (by omega)) ?_ rfl rfl
            rintro e w59 ⟨cs53, fp53, rfl, hO53, x60⟩
            refine ⟨_, rfl, x60, ?_⟩
            have S := S.add (o := tyO partT _ _) x60 hO53
            have B := bx Hb B x60
            obtain ⟨u53_3, heq, S2⟩ := S.partOpen
            subst heq
            have S := S2
            clear S2
            refine t_lit1 (fun w => bs_part1 _ _ _ _ w) rfl ?_ rfl rfl
            intro A54 w61 x62 hA54
            have B := bx Hb B x62
            have S := S.below x62
            have S := S.partShut (x := ek)
            have S := S.f4
            refine t_snoc e_part S hA54 rfl rfl rfl (by first | omega | (simp; done) | (simp; omega)) (by (simp only [maxLen]); first | omega | (simp; done) | (simp; omega)) ?_ rfl
            intro v55 w63 x64 S
            have B := B.trans x64
            refine t_fldx fb_path_0 rfl rfl ?_ rfl
            obtain ⟨Av55, cv55, rfl, _⟩ := S.sl.form
            have S := S.f2
            refine t_st1 S sb_s_part rfl rfl rfl rfl rfl ?_
            intro w65 b66 S
            have B := B.trans b66
            refine t_done' ?_
            refine x_block_normal ?_
            have S := S.f1
            have S := S.toRd (fun _ h => h)
            have S := S.f7
            have S := S.f7
            have S := S.f5
            have S := S.f5
            have S := S.f7
            have S := S.f7
            have S := S.f7
            have S := S.f7
            refine x_cut (X := Path × Value) (I := (fun x wq => (fun q vq => PathS q ∧ Below b w wq ∧ Sep b wq (rdO partT vq q :: bxO g5 30 #[vq] :: slO asnT 121 va10 A10 :: slO linkT 78 vl10 L10 :: curO v n c 109 :: bxO g4 27 #[va10, vl10] :: bxO g3 30 #[.slice none 0 0] :: bxO g2 27 #[.slice none 0 0, .slice none 0 0] :: os)) x.1 x.2)) (F := (fun x => (fun q vq => [(2, .pointer (some ⟨g2, 0, none⟩)), (3, .pointer (some ⟨g3, 0, none⟩)), (4, .pointer (some ⟨g4, 0, none⟩)), (5, .pointer (some ⟨g5, 0, none⟩))]) x.1 x.2)) (p10 ++ [ek], .slice Av55 (p10 ++ [ek]).length cv55) ?_ ?_
            rotate_left
            · exact ⟨rfl, rfl, rfl, rfl, trivial⟩
            try dsimp only
            exact ⟨⟨by rw [List.length_append, List.length_singleton]; omega, fun x hx => by rcases List.mem_append.1 hx with hx | hx; exact hQ.2 x hx; rw [List.mem_singleton] at hx; rw [hx]; exact hkS⟩, B, S⟩
          · intro h3
            refine w_seq ?_
            refine w_region ?_
            refine t_eql rfl rfl ?_ rfl
            refine t_assign rfl ?_ rfl
            refine t_done ?_
            refine x_seq ?_
            refine w_if rfl ?_ ?_
            · intro h4
              refine w_region ?_
              refine t_fldx fb_path_0 rfl rfl ?_ rfl
              refine t_bx1 S.tail.box ab_s_part rfl rfl ?_ rfl
              obtain ⟨Avp10, cvp10, rfl, _⟩ := S.tail.tail.tail.sl.form
              refine t_sldv e_part (k := 1) rfl rfl (by first | rfl | omega) (by omega) (by omega) ?_ rfl
              refine t_fldx fb_path_0 rfl rfl ?_ rfl
              have S := S.f1
              refine t_st1 S sb_s_part rfl rfl rfl rfl rfl ?_
              intro w67 b68 S
              have B := B.trans b68
              refine t_done ?_
              refine x_block_normal ?_
              have S := S.f3
              have S := S.toRd (fun _ h => SlR.drop (k := 1) h (by omega))
              have S := S.f7
              have S := S.f7
              have S := S.f5
              have S := S.f5
              have S := S.f7
              have S := S.f7
              have S := S.f7
              have S := S.f7
              refine x_cut (X := Path × Value) (I := (fun x wq => (fun q vq => PathS q ∧ Below b w wq ∧ Sep b wq (rdO partT vq q :: bxO g5 30 #[vq] :: slO asnT 121 va10 A10 :: slO linkT 78 vl10 L10 :: curO v n c 109 :: bxO g4 27 #[va10, vl10] :: bxO g3 30 #[.slice none 0 0] :: bxO g2 27 #[.slice none 0 0, .slice none 0 0] :: os)) x.1 x.2)) (F := (fun x => (fun q vq => [(2, .pointer (some ⟨g2, 0, none⟩)), (3, .pointer (some ⟨g3, 0, none⟩)), (4, .pointer (some ⟨g4, 0, none⟩)), (5, .pointer (some ⟨g5, 0, none⟩))]) x.1 x.2)) (p10.drop 1, (.slice (if cvp10 = 1 then Avp10 else Avp10.map (·.add (1 * 4))) (p10.length - 1) (cvp10 - 1))) ?_ ?_
              rotate_left
              · exact ⟨rfl, rfl, rfl, rfl, trivial⟩
              try dsimp only
              exact ⟨⟨by rw [List.length_drop]; omega, fun x hx => hQ.2 x (List.mem_of_mem_drop hx)⟩, B, S⟩
            · intro h4
              refine w_seq ?_
              refine w_region ?_
              refine t_eql rfl rfl ?_ rfl
              refine t_assign rfl ?_ rfl
              refine t_done ?_
              refine x_seq ?_
              refine w_if rfl ?_ ?_
              · intro h5
                refine w_seq ?_
                refine w_region ?_
                refine t_fldx fb_path_0 rfl rfl ?_ rfl
                refine t_bx1 S.tail.box ab_s_part rfl rfl ?_ rfl
                refine t_move rfl ?_ rfl
                refine t_idx e_part (k := y23.toNat) (S.tail.tail.tail.sl) hek (Below.refl _ _) rfl rfl (by first | rfl | omega) ?_ rfl
                intro p68 hp68
                refine t_fld ln_part_3 (by assumption) fb_part_3 rfl ?_ rfl
                intro p69 hp69
                refine t_lds (by assumption) ab_s_hop (Below.refl _ _) rfl ?_ rfl
                intro v70 hv70
                refine t_len e_hop (by assumption) rfl rfl ?_ rfl
                refine t_gtr rfl rfl ?_ rfl
                refine t_done ?_
                refine x_seq ?_
                refine w_if rfl ?_ ?_
                · intro h6
                  refine w_seq ?_
                  refine w_region ?_
                  refine t_move rfl ?_ rfl
                  refine t_fldx fb_path_0 rfl rfl ?_ rfl
                  refine t_bx1 S.tail.box ab_s_part rfl rfl ?_ rfl
                  refine t_move rfl ?_ rfl
                  refine t_idx e_part (k := y23.toNat) (S.tail.tail.tail.sl) hek (Below.refl _ _) rfl rfl (by first | rfl | omega) ?_ rfl
                  intro p77 hp77
                  refine t_fld ln_part_3 (by assumption) fb_part_3 rfl ?_ rfl
                  intro p78 hp78
                  refine t_lds (by assumption) ab_s_hop (Below.refl _ _) rfl ?_ rfl
                  intro v79 hv79
                  refine t_len e_hop (by assumption) rfl rfl ?_ rfl
                  refine t_callf Try.call64 rfl (spec_l1Below (ek.hops.length : Int) S (K.below B)) ?_ rfl
                  rintro e w69 ⟨y81, rfl, hf81, S, x70⟩
                  refine ⟨_, rfl, ?_⟩
                  have B := B.trans x70
                  refine t_assign rfl ?_ rfl
                  refine t_done ?_
                  refine x_seq ?_
                  have S := S.f3
                  obtain ⟨Gvp10, Cvp10, rfl⟩ := S.addr (by omega)
                  obtain ⟨eh, heh⟩ := getx (l := ek.hops) (k := y81.toNat) (by omega)
                  have heR := hkS.2.2.2.2 eh (List.mem_of_getElem? heh)
                  refine w_drawP [0, 2, 6, 7] (.alt (.st .fin 1 (.alt (.st .fin 3 (.alt (.st .fin 4 (.alt (.st .fin 5 (.st .fin 8 (.st .fin 9 (.st .fin 10 (.st .fin 11 .done))))) (.st .fin 8 (.st .fin 5 (.st .fin 9 (.st .fin 10 (.st .fin 11 .done))))))) (.st .fin 8 (.st .fin 4 (.st .fin 5 (.st .fin 9 (.st .fin 10 (.st .fin 11 .done)))))))) (.st .fin 8 (.st .fin 3 (.st .fin 4 (.st .fin 5 (.st .fin 9 (.st .fin 10 (.st .fin 11 .done))))))))) (.st .fin 8 (.st .fin 1 (.st .fin 3 (.st .fin 4 (.st .fin 5 (.st .fin 9 (.st .fin 10 (.st .fin 11 .done))))))))) mixed (by kernel_rfl) ?_
                  intro w71 x72
                  have B := bx Hb B x72
                  have S := S.below x72
                  refine p_fldx fb_path_0 rfl rfl ?_ rfl
                  refine p_move rfl ?_ rfl
                  refine p_move rfl ?_ rfl
                  refine p_move rfl ?_ rfl
                  refine p_done ?_
                  refine t_alt ?_ ?_
                  · refine t_bx1 S.tail.tail.box ab_s_part rfl rfl ?_ rfl
                    refine t_alt ?_ ?_
                    · refine t_idxx e_part (k := y23.toNat) rfl rfl (by first | rfl | omega) (by omega) rfl ?_ rfl
                      refine t_alt ?_ ?_
                      · refine t_fldx fb_part_3 rfl rfl ?_ rfl
                        refine t_alt ?_ ?_
                        · obtain ⟨cs87, S, hc87⟩ := S.split hek
                          obtain ⟨u87, rfl, S⟩ := S.partOpen
                          obtain ⟨Gu87, Cu87, rfl⟩ := S.addr (by omega)
                          refine t_ld1 ab_s_hop (hc87 _ _ _ rfl 3 _ rfl) (Below.refl _ _) rfl ?_ rfl
                          have S := S.f2
                          refine t_callf Try.call129 rfl (spec_l3Word S (K.below B)) ?_ rfl
                          rintro e w73 ⟨y90, rfl, hf90, S, x74⟩
                          refine ⟨_, rfl, ?_⟩
                          have B := B.trans x74
                          refine t_idxx e_hop (k := y81.toNat) rfl rfl (by first | rfl | omega) (by omega) rfl ?_ rfl
                          refine t_fldx fb_hop_4 rfl rfl ?_ rfl
                          have S := S.f1
                          refine t_stS (T := hopT) (j := 4) (x' := { eh with mac := y90 }) S (by first | rfl | ((try simp only [List.length_set]); first | omega | simp)) sb_int rfl rfl heh rfl (by decide) rfl rfl so_hop_4 ?_
                          intro w75 b76 S
                          have B := B.trans b76
                          have hq77 := set_at (y := { eh with mac := y90 }) heh
                          refine t_done' ?_
                          refine x_block_normal ?_
                          have S := S.f2
                          have S := S.f1
                          have S := S.partShut (x := { ek with hops := ek.hops.set y81.toNat { eh with mac := y90 } })
                          have S := S.join
                          have S := S.toRd (fun _ h => h)
                          have S := S.f7
                          have S := S.f7
                          have S := S.f5
                          have S := S.f4
                          have S := S.f7
                          have S := S.f7
                          have S := S.f7
                          have S := S.f7
                          refine x_cut (X := Path × Value) (I := (fun x wq => (fun q vq => PathS q ∧ Below b w wq ∧ Sep b wq (rdO partT vq q :: bxO g5 30 #[vq] :: slO asnT 121 va10 A10 :: slO linkT 78 vl10 L10 :: curO v n c 109 :: bxO g4 27 #[va10, vl10] :: bxO g3 30 #[.slice none 0 0] :: bxO g2 27 #[.slice none 0 0, .slice none 0 0] :: os)) x.1 x.2)) (F := (fun x => (fun q vq => [(2, .pointer (some ⟨g2, 0, none⟩)), (3, .pointer (some ⟨g3, 0, none⟩)), (4, .pointer (some ⟨g4, 0, none⟩)), (5, .pointer (some ⟨g5, 0, none⟩))]) x.1 x.2)) (p10.set y23.toNat { ek with hops := ek.hops.set y81.toNat { eh with mac := y90 } }, (.slice (some ⟨Gvp10, 0, none⟩) p10.length Cvp10)) ?_ ?_
                          rotate_left
                          · exact ⟨rfl, rfl, rfl, rfl, trivial⟩
                          try dsimp only
                          exact ⟨⟨by rw [List.length_set]; omega, set_all hQ.2 ⟨by dsimp only; rw [List.length_set]; exact hkS.1, hkS.2.1, hkS.2.2.1, hkS.2.2.2.1, set_all hkS.2.2.2.2 ⟨heR.1, heR.2.1, heR.2.2.1, heR.2.2.2.1, in64 (by dsimp only; omega) (by dsimp only; omega)⟩⟩⟩, B, S⟩
                        · have S := S.f1
                          refine t_callf Try.call129 rfl (spec_l3Word S (K.below B)) ?_ rfl
                          rintro e w78 ⟨y90, rfl, hf90, S, x79⟩
                          refine ⟨_, rfl, ?_⟩
                          have B := B.trans x79
                          have S := S.f1
                          obtain ⟨cs87, S, hc87⟩ := S.split hek
                          obtain ⟨u87, rfl, S⟩ := S.partOpen
                          obtain ⟨Gu87, Cu87, rfl⟩ := S.addr (by omega)
                          refine t_ld1 ab_s_hop (hc87 _ _ _ rfl 3 _ rfl) (Below.refl _ _) rfl ?_ rfl
                          refine t_idxx e_hop (k := y81.toNat) rfl rfl (by first | rfl | omega) (by omega) rfl ?_ rfl
                          refine t_fldx fb_hop_4 rfl rfl ?_ rfl
                          refine t_stS (T := hopT) (j := 4) (x' := { eh with mac := y90 }) S (by first | rfl | ((try simp only [List.length_set]); first | omega | simp)) sb_int rfl rfl heh rfl (by decide) rfl rfl so_hop_4 ?_
                          intro w80 b81 S
                          have B := B.trans b81
                          have hq82 := set_at (y := { eh with mac := y90 }) heh
                          refine t_done' ?_
                          refine x_block_normal ?_
                          have S := S.f1
                          have S := S.f1
                          have S := S.partShut (x := { ek with hops := ek.hops.set y81.toNat { eh with mac := y90 } })
                          have S := S.join
                          have S := S.toRd (fun _ h => h)
                          have S := S.f7
                          have S := S.f7
                          have S := S.f5
                          have S := S.f4
                          have S := S.f7
                          have S := S.f7
                          have S := S.f7
                          have S := S.f7
                          refine x_cut (X := Path × Value) (I := (fun x wq => (fun q vq => PathS q ∧ Below b w wq ∧ Sep b wq (rdO partT vq q :: bxO g5 30 #[vq] :: slO asnT 121 va10 A10 :: slO linkT 78 vl10 L10 :: curO v n c 109 :: bxO g4 27 #[va10, vl10] :: bxO g3 30 #[.slice none 0 0] :: bxO g2 27 #[.slice none 0 0, .slice none 0 0] :: os)) x.1 x.2)) (F := (fun x => (fun q vq => [(2, .pointer (some ⟨g2, 0, none⟩)), (3, .pointer (some ⟨g3, 0, none⟩)), (4, .pointer (some ⟨g4, 0, none⟩)), (5, .pointer (some ⟨g5, 0, none⟩))]) x.1 x.2)) (p10.set y23.toNat { ek with hops := ek.hops.set y81.toNat { eh with mac := y90 } }, (.slice (some ⟨Gvp10, 0, none⟩) p10.length Cvp10)) ?_ ?_
                          rotate_left
                          · exact ⟨rfl, rfl, rfl, rfl, trivial⟩
                          try dsimp only
                          exact ⟨⟨by rw [List.length_set]; omega, set_all hQ.2 ⟨by dsimp only; rw [List.length_set]; exact hkS.1, hkS.2.1, hkS.2.2.1, hkS.2.2.2.1, set_all hkS.2.2.2.2 ⟨heR.1, heR.2.1, heR.2.2.1, heR.2.2.2.1, in64 (by dsimp only; omega) (by dsimp only; omega)⟩⟩⟩, B, S⟩
                      · have S := S.f1
                        refine t_callf Try.call129 rfl (spec_l3Word S (K.below B)) ?_ rfl
                        rintro e w83 ⟨y90, rfl, hf90, S, x84⟩
                        refine ⟨_, rfl, ?_⟩
                        have B := B.trans x84
                        refine t_fldx fb_part_3 rfl rfl ?_ rfl
                        have S := S.f1
                        obtain ⟨cs87, S, hc87⟩ := S.split hek
                        obtain ⟨u87, rfl, S⟩ := S.partOpen
                        obtain ⟨Gu87, Cu87, rfl⟩ := S.addr (by omega)
                        refine t_ld1 ab_s_hop (hc87 _ _ _ rfl 3 _ rfl) (Below.refl _ _) rfl ?_ rfl
                        refine t_idxx e_hop (k := y81.toNat) rfl rfl (by first | rfl | omega) (by omega) rfl ?_ rfl
                        refine t_fldx fb_hop_4 rfl rfl ?_ rfl
                        refine t_stS (T := hopT) (j := 4) (x' := { eh with mac := y90 }) S (by first | rfl | ((try simp only [List.length_set]); first | omega | simp)) sb_int rfl rfl heh rfl (by decide) rfl rfl so_hop_4 ?_
                        intro w85 b86 S
                        have B := B.trans b86
                        have hq87 := set_at (y := { eh with mac := y90 }) heh
                        refine t_done' ?_
                        refine x_block_normal ?_
                        have S := S.f1
                        have S := S.f1
                        have S := S.partShut (x := { ek with hops := ek.hops.set y81.toNat { eh with mac := y90 } })
                        have S := S.join
                        have S := S.toRd (fun _ h => h)
                        have S := S.f7
                        have S := S.f7
                        have S := S.f5
                        have S := S.f4
                        have S := S.f7
                        have S := S.f7
                        have S := S.f7
                        have S := S.f7
                        refine x_cut (X := Path × Value) (I := (fun x wq => (fun q vq => PathS q ∧ Below b w wq ∧ Sep b wq (rdO partT vq q :: bxO g5 30 #[vq] :: slO asnT 121 va10 A10 :: slO linkT 78 vl10 L10 :: curO v n c 109 :: bxO g4 27 #[va10, vl10] :: bxO g3 30 #[.slice none 0 0] :: bxO g2 27 #[.slice none 0 0, .slice none 0 0] :: os)) x.1 x.2)) (F := (fun x => (fun q vq => [(2, .pointer (some ⟨g2, 0, none⟩)), (3, .pointer (some ⟨g3, 0, none⟩)), (4, .pointer (some ⟨g4, 0, none⟩)), (5, .pointer (some ⟨g5, 0, none⟩))]) x.1 x.2)) (p10.set y23.toNat { ek with hops := ek.hops.set y81.toNat { eh with mac := y90 } }, (.slice (some ⟨Gvp10, 0, none⟩) p10.length Cvp10)) ?_ ?_
                        rotate_left
                        · exact ⟨rfl, rfl, rfl, rfl, trivial⟩
                        try dsimp only
                        exact ⟨⟨by rw [List.length_set]; omega, set_all hQ.2 ⟨by dsimp only; rw [List.length_set]; exact hkS.1, hkS.2.1, hkS.2.2.1, hkS.2.2.2.1, set_all hkS.2.2.2.2 ⟨heR.1, heR.2.1, heR.2.2.1, heR.2.2.2.1, in64 (by dsimp only; omega) (by dsimp only; omega)⟩⟩⟩, B, S⟩
                    · have S := S.f1
                      refine t_callf Try.call129 rfl (spec_l3Word S (K.below B)) ?_ rfl
                      rintro e w88 ⟨y90, rfl, hf90, S, x89⟩
                      refine ⟨_, rfl, ?_⟩
                      have B := B.trans x89
                      refine t_idxx e_part (k := y23.toNat) rfl rfl (by first | rfl | omega) (by omega) rfl ?_ rfl
                      refine t_fldx fb_part_3 rfl rfl ?_ rfl
                      have S := S.f1
                      obtain ⟨cs87, S, hc87⟩ := S.split hek
                      obtain ⟨u87, rfl, S⟩ := S.partOpen
                      obtain ⟨Gu87, Cu87, rfl⟩ := S.addr (by omega)
                      refine t_ld1 ab_s_hop (hc87 _ _ _ rfl 3 _ rfl) (Below.refl _ _) rfl ?_ rfl
                      refine t_idxx e_hop (k := y81.toNat) rfl rfl (by first | rfl | omega) (by omega) rfl ?_ rfl
                      refine t_fldx fb_hop_4 rfl rfl ?_ rfl
                      refine t_stS (T := hopT) (j := 4) (x' := { eh with mac := y90 }) S (by first | rfl | ((try simp only [List.length_set]); first | omega | simp)) sb_int rfl rfl heh rfl (by decide) rfl rfl so_hop_4 ?_
                      intro w90 b91 S
                      have B := B.trans b91
                      have hq92 := set_at (y := { eh with mac := y90 }) heh
                      refine t_done' ?_
                      refine x_block_normal ?_
                      have S := S.f1
                      have S := S.f1
                      have S := S.partShut (x := { ek with hops := ek.hops.set y81.toNat { eh with mac := y90 } })
                      have S := S.join
                      have S := S.toRd (fun _ h => h)
                      have S := S.f7
                      have S := S.f7
                      have S := S.f5
                      have S := S.f4
                      have S := S.f7
                      have S := S.f7
                      have S := S.f7
                      have S := S.f7
                      refine x_cut (X := Path × Value) (I := (fun x wq => (fun q vq => PathS q ∧ Below b w wq ∧ Sep b wq (rdO partT vq q :: bxO g5 30 #[vq] :: slO asnT 121 va10 A10 :: slO linkT 78 vl10 L10 :: curO v n c 109 :: bxO g4 27 #[va10, vl10] :: bxO g3 30 #[.slice none 0 0] :: bxO g2 27 #[.slice none 0 0, .slice none 0 0] :: os)) x.1 x.2)) (F := (fun x => (fun q vq => [(2, .pointer (some ⟨g2, 0, none⟩)), (3, .pointer (some ⟨g3, 0, none⟩)), (4, .pointer (some ⟨g4, 0, none⟩)), (5, .pointer (some ⟨g5, 0, none⟩))]) x.1 x.2)) (p10.set y23.toNat { ek with hops := ek.hops.set y81.toNat { eh with mac := y90 } }, (.slice (some ⟨Gvp10, 0, none⟩) p10.length Cvp10)) ?_ ?_
                      rotate_left
                      · exact ⟨rfl, rfl, rfl, rfl, trivial⟩
                      try dsimp only
                      exact ⟨⟨by rw [List.length_set]; omega, set_all hQ.2 ⟨by dsimp only; rw [List.length_set]; exact hkS.1, hkS.2.1, hkS.2.2.1, hkS.2.2.2.1, set_all hkS.2.2.2.2 ⟨heR.1, heR.2.1, heR.2.2.1, heR.2.2.2.1, in64 (by dsimp only; omega) (by dsimp only; omega)⟩⟩⟩, B, S⟩
                  · have S := S.f1
                    refine t_callf Try.call129 rfl (spec_l3Word S (K.below B)) ?_ rfl
                    rintro e w93 ⟨y90, rfl, hf90, S, x94⟩
                    refine ⟨_, rfl, ?_⟩
                    have B := B.trans x94
                    refine t_bx1 S.tail.tail.box ab_s_part rfl rfl ?_ rfl
                    refine t_idxx e_part (k := y23.toNat) rfl rfl (by first | rfl | omega) (by omega) rfl ?_ rfl
                    refine t_fldx fb_part_3 rfl rfl ?_ rfl
                    have S := S.f1
                    obtain ⟨cs87, S, hc87⟩ := S.split hek
                    obtain ⟨u87, rfl, S⟩ := S.partOpen
                    obtain ⟨Gu87, Cu87, rfl⟩ := S.addr (by omega)
                    refine t_ld1 ab_s_hop (hc87 _ _ _ rfl 3 _ rfl) (Below.refl _ _) rfl ?_ rfl
                    refine t_idxx e_hop (k := y81.toNat) rfl rfl (by first | rfl | omega) (by omega) rfl ?_ rfl
                    refine t_fldx fb_hop_4 rfl rfl ?_ rfl
                    refine t_stS (T := hopT) (j := 4) (x' := { eh with mac := y90 }) S (by first | rfl | ((try simp only [List.length_set]); first | omega | simp)) sb_int rfl rfl heh rfl (by decide) rfl rfl so_hop_4 ?_
                    intro w95 b96 S
                    have B := B.trans b96
                    have hq97 := set_at (y := { eh with mac := y90 }) heh
                    refine t_done' ?_
                    refine x_block_normal ?_
                    have S := S.f1
                    have S := S.f1
                    have S := S.partShut (x := { ek with hops := ek.hops.set y81.toNat { eh with mac := y90 } })
                    have S := S.join
                    have S := S.toRd (fun _ h => h)
                    have S := S.f7
                    have S := S.f7
                    have S := S.f5
                    have S := S.f4
                    have S := S.f7
                    have S := S.f7
                    have S := S.f7
                    have S := S.f7
                    refine x_cut (X := Path × Value) (I := (fun x wq => (fun q vq => PathS q ∧ Below b w wq ∧ Sep b wq (rdO partT vq q :: bxO g5 30 #[vq] :: slO asnT 121 va10 A10 :: slO linkT 78 vl10 L10 :: curO v n c 109 :: bxO g4 27 #[va10, vl10] :: bxO g3 30 #[.slice none 0 0] :: bxO g2 27 #[.slice none 0 0, .slice none 0 0] :: os)) x.1 x.2)) (F := (fun x => (fun q vq => [(2, .pointer (some ⟨g2, 0, none⟩)), (3, .pointer (some ⟨g3, 0, none⟩)), (4, .pointer (some ⟨g4, 0, none⟩)), (5, .pointer (some ⟨g5, 0, none⟩))]) x.1 x.2)) (p10.set y23.toNat { ek with hops := ek.hops.set y81.toNat { eh with mac := y90 } }, (.slice (some ⟨Gvp10, 0, none⟩) p10.length Cvp10)) ?_ ?_
                    rotate_left
                    · exact ⟨rfl, rfl, rfl, rfl, trivial⟩
                    try dsimp only
                    exact ⟨⟨by rw [List.length_set]; omega, set_all hQ.2 ⟨by dsimp only; rw [List.length_set]; exact hkS.1, hkS.2.1, hkS.2.2.1, hkS.2.2.2.1, set_all hkS.2.2.2.2 ⟨heR.1, heR.2.1, heR.2.2.1, heR.2.2.2.1, in64 (by dsimp only; omega) (by dsimp only; omega)⟩⟩⟩, B, S⟩
                · intro h6
                  refine w_skip ?_
                  refine x_block_normal ?_
                  have S := S.f3
                  have S := S.toRd (fun _ h => h)
                  have S := S.f7
                  have S := S.f7
                  have S := S.f5
                  have S := S.f4
                  have S := S.f7
                  have S := S.f7
                  have S := S.f7
                  have S := S.f7
                  refine x_cut (X := Path × Value) (I := (fun x wq => (fun q vq => PathS q ∧ Below b w wq ∧ Sep b wq (rdO partT vq q :: bxO g5 30 #[vq] :: slO asnT 121 va10 A10 :: slO linkT 78 vl10 L10 :: curO v n c 109 :: bxO g4 27 #[va10, vl10] :: bxO g3 30 #[.slice none 0 0] :: bxO g2 27 #[.slice none 0 0, .slice none 0 0] :: os)) x.1 x.2)) (F := (fun x => (fun q vq => [(2, .pointer (some ⟨g2, 0, none⟩)), (3, .pointer (some ⟨g3, 0, none⟩)), (4, .pointer (some ⟨g4, 0, none⟩)), (5, .pointer (some ⟨g5, 0, none⟩))]) x.1 x.2)) (p10, vp10) ?_ ?_
                  rotate_left
                  · exact ⟨rfl, rfl, rfl, rfl, trivial⟩
                  try dsimp only
                  exact ⟨hP.toS, B, S⟩
              · intro h5
                refine w_skip ?_
                refine x_block_normal ?_
                have S := S.f3
                have S := S.toRd (fun _ h => h)
                have S := S.f7
                have S := S.f7
                have S := S.f5
                have S := S.f4
                have S := S.f7
                have S := S.f7
                have S := S.f7
                have S := S.f7
                refine x_cut (X := Path × Value) (I := (fun x wq => (fun q vq => PathS q ∧ Below b w wq ∧ Sep b wq (rdO partT vq q :: bxO g5 30 #[vq] :: slO asnT 121 va10 A10 :: slO linkT 78 vl10 L10 :: curO v n c 109 :: bxO g4 27 #[va10, vl10] :: bxO g3 30 #[.slice none 0 0] :: bxO g2 27 #[.slice none 0 0, .slice none 0 0] :: os)) x.1 x.2)) (F := (fun x => (fun q vq => [(2, .pointer (some ⟨g2, 0, none⟩)), (3, .pointer (some ⟨g3, 0, none⟩)), (4, .pointer (some ⟨g4, 0, none⟩)), (5, .pointer (some ⟨g5, 0, none⟩))]) x.1 x.2)) (p10, vp10) ?_ ?_
                rotate_left
                · exact ⟨rfl, rfl, rfl, rfl, trivial⟩
                try dsimp only
                exact ⟨hP.toS, B, S⟩
    rintro ⟨q, vq⟩ w98 hI
    try dsimp only at hI ⊢
    obtain ⟨hS, B, S⟩ := hI
    refine w_seq ?_
    refine w_drawP [] (.alt (.st .fin 0 (.alt (.st .fin 1 (.st .fin 2 (.st .fin 3 .done))) (.st .fin 2 (.st .fin 1 (.st .fin 3 .done))))) (.st .fin 1 (.st .fin 0 (.st .fin 2 (.st .fin 3 .done))))) mixed (by kernel_rfl) ?_
    intro w99 x100
    have B := bx Hb B x100
    have S := S.below x100
    refine t_alt ?_ ?_
    · refine t_bxn S.tail.tail.tail.tail.tail.box ab_topo sb_topo rfl rfl ?_ rfl
      refine t_alt ?_ ?_
      · refine t_bxn S.tail.box ab_path sb_path rfl rfl ?_ rfl
        have S := S.f7
        refine t_stn S sb_topo rfl rfl rfl rfl (by intro zz hu; have hu : zz ∈ ([va10, vl10] : List Value) := hu; simp only [List.mem_cons, List.not_mem_nil, or_false] at hu; rcases hu with rfl | rfl <;> first | rfl | exact (SlR.cells (by first | assumption | exact S.tail.sl | exact S.tail.tail.sl | exact S.tail.tail.tail.sl | exact S.tail.tail.tail.tail.sl | exact S.tail.tail.tail.tail.tail.sl | exact S.tail.tail.tail.tail.tail.tail.sl | exact S.tail.tail.tail.tail.tail.tail.tail.sl | exact S.tail.tail.tail.tail.tail.tail.tail.tail.sl | exact S.tail.tail.tail.tail.tail.tail.tail.tail.tail.sl | exact S.tail.tail.tail.tail.tail.tail.tail.tail.tail.tail.sl | exact S.tail.tail.tail.tail.tail.tail.tail.tail.tail.tail.tail.sl | exact S.tail.tail.tail.tail.tail.tail.tail.tail.tail.tail.tail.tail.sl | exact S.tail.tail.tail.tail.tail.tail.tail.tail.tail.tail.tail.tail.tail.sl)).2) ?_
        intro w101 b102 S
        have B := B.trans b102
        have S := S.f7
        refine t_stn S sb_path rfl rfl rfl rfl (by intro zz hu; have hu : zz ∈ ([vq] : List Value) := hu; simp only [List.mem_cons, List.not_mem_nil, or_false] at hu; rcases hu with rfl <;> first | rfl | exact (SlR.cells (by first | assumption | exact S.tail.sl | exact S.tail.tail.sl | exact S.tail.tail.tail.sl | exact S.tail.tail.tail.tail.sl | exact S.tail.tail.tail.tail.tail.sl | exact S.tail.tail.tail.tail.tail.tail.sl | exact S.tail.tail.tail.tail.tail.tail.tail.sl | exact S.tail.tail.tail.tail.tail.tail.tail.tail.sl | exact S.tail.tail.tail.tail.tail.tail.tail.tail.tail.sl | exact S.tail.tail.tail.tail.tail.tail.tail.tail.tail.tail.sl | exact S.tail.tail.tail.tail.tail.tail.tail.tail.tail.tail.tail.sl | exact S.tail.tail.tail.tail.tail.tail.tail.tail.tail.tail.tail.tail.sl | exact S.tail.tail.tail.tail.tail.tail.tail.tail.tail.tail.tail.tail.tail.sl | exact S.tail.rd | exact S.tail.tail.rd | exact S.tail.tail.tail.rd | exact S.tail.tail.tail.tail.rd | exact S.tail.tail.tail.tail.tail.rd | exact S.tail.tail.tail.tail.tail.tail.rd | exact S.tail.tail.tail.tail.tail.tail.tail.rd | exact S.tail.tail.tail.tail.tail.tail.tail.tail.rd | exact S.tail.tail.tail.tail.tail.tail.tail.tail.tail.rd | exact S.tail.tail.tail.tail.tail.tail.tail.tail.tail.tail.rd | exact S.tail.tail.tail.tail.tail.tail.tail.tail.tail.tail.tail.rd | exact S.tail.tail.tail.tail.tail.tail.tail.tail.tail.tail.tail.tail.rd | exact S.tail.tail.tail.tail.tail.tail.tail.tail.tail.tail.tail.tail.tail.rd)).2) ?_
        intro w103 b104 S
        have B := B.trans b104
        refine t_done' ?_
        refine x_seq ?_
        refine w_ret ?_
        refine x_retcc rfl rfl S.tail.box ab_topo sb_topo rfl rfl S.box ab_path sb_path rfl ?_
        have S := S.tail
        have S := S.tail
        have S := S.f1
        have S := S.tail
        have S := S.f4
        have S := S.tail
        have S := S.f3
        have S := S.f3
        have S := S.f3
        have S := S.f3
        exact ⟨_, _, _, _, _, q, rfl, ⟨T, hS⟩, S, B⟩
      · have S := S.f7
        refine t_stn S sb_topo rfl rfl rfl rfl (by intro zz hu; have hu : zz ∈ ([va10, vl10] : List Value) := hu; simp only [List.mem_cons, List.not_mem_nil, or_false] at hu; rcases hu with rfl | rfl <;> first | rfl | exact (SlR.cells (by first | assumption | exact S.tail.sl | exact S.tail.tail.sl | exact S.tail.tail.tail.sl | exact S.tail.tail.tail.tail.sl | exact S.tail.tail.tail.tail.tail.sl | exact S.tail.tail.tail.tail.tail.tail.sl | exact S.tail.tail.tail.tail.tail.tail.tail.sl | exact S.tail.tail.tail.tail.tail.tail.tail.tail.sl | exact S.tail.tail.tail.tail.tail.tail.tail.tail.tail.sl | exact S.tail.tail.tail.tail.tail.tail.tail.tail.tail.tail.sl | exact S.tail.tail.tail.tail.tail.tail.tail.tail.tail.tail.tail.sl | exact S.tail.tail.tail.tail.tail.tail.tail.tail.tail.tail.tail.tail.sl | exact S.tail.tail.tail.tail.tail.tail.tail.tail.tail.tail.tail.tail.tail.sl)).2) ?_
        intro w105 b106 S
        have B := B.trans b106
        refine t_bxn S.tail.tail.box ab_path sb_path rfl rfl ?_ rfl
        have S := S.f7
        refine t_stn S sb_path rfl rfl rfl rfl (by intro zz hu; have hu : zz ∈ ([vq] : List Value) := hu; simp only [List.mem_cons, List.not_mem_nil, or_false] at hu; rcases hu with rfl <;> first | rfl | exact (SlR.cells (by first | assumption | exact S.tail.sl | exact S.tail.tail.sl | exact S.tail.tail.tail.sl | exact S.tail.tail.tail.tail.sl | exact S.tail.tail.tail.tail.tail.sl | exact S.tail.tail.tail.tail.tail.tail.sl | exact S.tail.tail.tail.tail.tail.tail.tail.sl | exact S.tail.tail.tail.tail.tail.tail.tail.tail.sl | exact S.tail.tail.tail.tail.tail.tail.tail.tail.tail.sl | exact S.tail.tail.tail.tail.tail.tail.tail.tail.tail.tail.sl | exact S.tail.tail.tail.tail.tail.tail.tail.tail.tail.tail.tail.sl | exact S.tail.tail.tail.tail.tail.tail.tail.tail.tail.tail.tail.tail.sl | exact S.tail.tail.tail.tail.tail.tail.tail.tail.tail.tail.tail.tail.tail.sl | exact S.tail.rd | exact S.tail.tail.rd | exact S.tail.tail.tail.rd | exact S.tail.tail.tail.tail.rd | exact S.tail.tail.tail.tail.tail.rd | exact S.tail.tail.tail.tail.tail.tail.rd | exact S.tail.tail.tail.tail.tail.tail.tail.rd | exact S.tail.tail.tail.tail.tail.tail.tail.tail.rd | exact S.tail.tail.tail.tail.tail.tail.tail.tail.tail.rd | exact S.tail.tail.tail.tail.tail.tail.tail.tail.tail.tail.rd | exact S.tail.tail.tail.tail.tail.tail.tail.tail.tail.tail.tail.rd | exact S.tail.tail.tail.tail.tail.tail.tail.tail.tail.tail.tail.tail.rd | exact S.tail.tail.tail.tail.tail.tail.tail.tail.tail.tail.tail.tail.tail.rd)).2) ?_
        intro w107 b108 S
        have B := B.trans b108
        refine t_done' ?_
        refine x_seq ?_
        refine w_ret ?_
        refine x_retcc rfl rfl S.tail.box ab_topo sb_topo rfl rfl S.box ab_path sb_path rfl ?_
        have S := S.tail
        have S := S.tail
        have S := S.f1
        have S := S.tail
        have S := S.f4
        have S := S.tail
        have S := S.f3
        have S := S.f3
        have S := S.f3
        have S := S.f3
        exact ⟨_, _, _, _, _, q, rfl, ⟨T, hS⟩, S, B⟩
    · refine t_bxn S.tail.box ab_path sb_path rfl rfl ?_ rfl
      refine t_bxn S.tail.tail.tail.tail.tail.box ab_topo sb_topo rfl rfl ?_ rfl
      have S := S.f7
      refine t_stn S sb_topo rfl rfl rfl rfl (by intro zz hu; have hu : zz ∈ ([va10, vl10] : List Value) := hu; simp only [List.mem_cons, List.not_mem_nil, or_false] at hu; rcases hu with rfl | rfl <;> first | rfl | exact (SlR.cells (by first | assumption | exact S.tail.sl | exact S.tail.tail.sl | exact S.tail.tail.tail.sl | exact S.tail.tail.tail.tail.sl | exact S.tail.tail.tail.tail.tail.sl | exact S.tail.tail.tail.tail.tail.tail.sl | exact S.tail.tail.tail.tail.tail.tail.tail.sl | exact S.tail.tail.tail.tail.tail.tail.tail.tail.sl | exact S.tail.tail.tail.tail.tail.tail.tail.tail.tail.sl | exact S.tail.tail.tail.tail.tail.tail.tail.tail.tail.tail.sl | exact S.tail.tail.tail.tail.tail.tail.tail.tail.tail.tail.tail.sl | exact S.tail.tail.tail.tail.tail.tail.tail.tail.tail.tail.tail.tail.sl | exact S.tail.tail.tail.tail.tail.tail.tail.tail.tail.tail.tail.tail.tail.sl)).2) ?_
      intro w109 b110 S
      have B := B.trans b110
      have S := S.f7
      refine t_stn S sb_path rfl rfl rfl rfl (by intro zz hu; have hu : zz ∈ ([vq] : List Value) := hu; simp only [List.mem_cons, List.not_mem_nil, or_false] at hu; rcases hu with rfl <;> first | rfl | exact (SlR.cells (by first | assumption | exact S.tail.sl | exact S.tail.tail.sl | exact S.tail.tail.tail.sl | exact S.tail.tail.tail.tail.sl | exact S.tail.tail.tail.tail.tail.sl | exact S.tail.tail.tail.tail.tail.tail.sl | exact S.tail.tail.tail.tail.tail.tail.tail.sl | exact S.tail.tail.tail.tail.tail.tail.tail.tail.sl | exact S.tail.tail.tail.tail.tail.tail.tail.tail.tail.sl | exact S.tail.tail.tail.tail.tail.tail.tail.tail.tail.tail.sl | exact S.tail.tail.tail.tail.tail.tail.tail.tail.tail.tail.tail.sl | exact S.tail.tail.tail.tail.tail.tail.tail.tail.tail.tail.tail.tail.sl | exact S.tail.tail.tail.tail.tail.tail.tail.tail.tail.tail.tail.tail.tail.sl | exact S.tail.rd | exact S.tail.tail.rd | exact S.tail.tail.tail.rd | exact S.tail.tail.tail.tail.rd | exact S.tail.tail.tail.tail.tail.rd | exact S.tail.tail.tail.tail.tail.tail.rd | exact S.tail.tail.tail.tail.tail.tail.tail.rd | exact S.tail.tail.tail.tail.tail.tail.tail.tail.rd | exact S.tail.tail.tail.tail.tail.tail.tail.tail.tail.rd | exact S.tail.tail.tail.tail.tail.tail.tail.tail.tail.tail.rd | exact S.tail.tail.tail.tail.tail.tail.tail.tail.tail.tail.tail.rd | exact S.tail.tail.tail.tail.tail.tail.tail.tail.tail.tail.tail.tail.rd | exact S.tail.tail.tail.tail.tail.tail.tail.tail.tail.tail.tail.tail.tail.rd)).2) ?_
      intro w111 b112 S
      have B := B.trans b112
      refine t_done' ?_
      refine x_seq ?_
      refine w_ret ?_
      refine x_retcc rfl rfl S.tail.box ab_topo sb_topo rfl rfl S.box ab_path sb_path rfl ?_
      have S := S.tail
      have S := S.tail
      have S := S.f1
      have S := S.tail
      have S := S.f4
      have S := S.tail
      have S := S.f3
      have S := S.f3
      have S := S.f3
      have S := S.f3
      exact ⟨_, _, _, _, _, q, rfl, ⟨T, hS⟩, S, B⟩
theorem spec_l22One (code : List UInt8) (v : Value) (w : World) (h : SlR byteT w v code) (hz : code.length ≤ 1048576) : Calls Try.prog 72 #[v] w fun e w' => ∃ (g : Nat) (va vl vp : Value) (A : List ASd) (L : List Lnk) (p : Path), e = .returned (.tuple #[.pointer (some ⟨g, 0, none⟩), .agg #[va, vl], .agg #[vp]]) ∧ (TopK A L ∧ PathS p) ∧ Sep w.heap.size w' [rdO partT vp p, slO asnT 121 va A, slO linkT 78 vl L, curO v code.length g 109] ∧ Ext w w' := by
  have K := CodeK.of h hz
  have X0 := Below.refl w.heap.size w
  refine enter Try.func72 rfl Try.ntmps72 rfl ?_
  have S := Sep.nil w
  have B := Below.refl w.heap.size w
  have Hb := Nat.le_refl w.heap.size
  refine w_seq ?_
  refine w_region ?_
  refine t_assign rfl ?_ rfl
  refine t_alloc S z_topo rfl ?_ rfl rfl
  intro g3 w113 x114 S
  have B := bx Hb B x114
  refine t_alloc S z_path rfl ?_ rfl rfl
  intro g4 w115 x116 S
  have B := bx Hb B x116
  refine t_done ?_
  refine x_seq ?_
  refine w_seq ?_
  refine w_region ?_
  refine t_move rfl ?_ rfl
  refine t_call Try.call52 rfl (spec_l1New _ _ _ (by first | assumption | exact SlR.below (by assumption) B) (by omega)) ?_ rfl rfl
  rintro e w117 ⟨g9, fpg9, rfl, hOg9, x118⟩
  refine ⟨_, rfl, x118, ?_⟩
  have S := S.add (o := curO _ _ _ _) x118 hOg9
  have B := bx Hb B x118
  refine t_assign rfl ?_ rfl
  refine t_done ?_
  refine x_seq ?_
  refine w_seq ?_
  refine w_region ?_
  refine t_move rfl ?_ rfl
  refine t_callf Try.call113 rfl (spec_l22Any S (K.below B)) ?_ rfl
  rintro e w119 ⟨va12, vl12, vp12, A12, L12, p12, rfl, hf12, S, x120⟩
  refine ⟨_, rfl, ?_⟩
  have B := B.trans x120
  refine t_move rfl ?_ rfl
  refine t_extract rfl rfl ?_ rfl
  refine t_extract rfl rfl ?_ rfl
  refine t_alloc S z_topo rfl ?_ rfl rfl
  intro g6 w121 x122 S
  have B := bx Hb B x122
  refine t_alloc S z_path rfl ?_ rfl rfl
  intro g7 w123 x124 S
  have B := bx Hb B x124
  have S := S.f1
  refine t_stn S sb_topo rfl rfl rfl rfl (by intro zz hu; have hu : zz ∈ ([va12, vl12] : List Value) := hu; simp only [List.mem_cons, List.not_mem_nil, or_false] at hu; rcases hu with rfl | rfl <;> first | rfl | exact (SlR.cells (by first | assumption | exact S.tail.sl | exact S.tail.tail.sl | exact S.tail.tail.tail.sl | exact S.tail.tail.tail.tail.sl | exact S.tail.tail.tail.tail.tail.sl | exact S.tail.tail.tail.tail.tail.tail.sl | exact S.tail.tail.tail.tail.tail.tail.tail.sl | exact S.tail.tail.tail.tail.tail.tail.tail.tail.sl | exact S.tail.tail.tail.tail.tail.tail.tail.tail.tail.sl | exact S.tail.tail.tail.tail.tail.tail.tail.tail.tail.tail.sl | exact S.tail.tail.tail.tail.tail.tail.tail.tail.tail.tail.tail.sl | exact S.tail.tail.tail.tail.tail.tail.tail.tail.tail.tail.tail.tail.sl | exact S.tail.tail.tail.tail.tail.tail.tail.tail.tail.tail.tail.tail.tail.sl)).2) ?_
  intro w125 b126 S
  have B := B.trans b126
  have S := S.f1
  refine t_stn S sb_path rfl rfl rfl rfl (by intro zz hu; have hu : zz ∈ ([vp12] : List Value) := hu; simp only [List.mem_cons, List.not_mem_nil, or_false] at hu; rcases hu with rfl <;> first | rfl | exact (SlR.cells (by first | assumption | exact S.tail.sl | exact S.tail.tail.sl | exact S.tail.tail.tail.sl | exact S.tail.tail.tail.tail.sl | exact S.tail.tail.tail.tail.tail.sl | exact S.tail.tail.tail.tail.tail.tail.sl | exact S.tail.tail.tail.tail.tail.tail.tail.sl | exact S.tail.tail.tail.tail.tail.tail.tail.tail.sl | exact S.tail.tail.tail.tail.tail.tail.tail.tail.tail.sl | exact S.tail.tail.tail.tail.tail.tail.tail.tail.tail.tail.sl | exact S.tail.tail.tail.tail.tail.tail.tail.tail.tail.tail.tail.sl | exact S.tail.tail.tail.tail.tail.tail.tail.tail.tail.tail.tail.tail.sl | exact S.tail.tail.tail.tail.tail.tail.tail.tail.tail.tail.tail.tail.tail.sl | exact S.tail.rd | exact S.tail.tail.rd | exact S.tail.tail.tail.rd | exact S.tail.tail.tail.tail.rd | exact S.tail.tail.tail.tail.tail.rd | exact S.tail.tail.tail.tail.tail.tail.rd | exact S.tail.tail.tail.tail.tail.tail.tail.rd | exact S.tail.tail.tail.tail.tail.tail.tail.tail.rd | exact S.tail.tail.tail.tail.tail.tail.tail.tail.tail.rd | exact S.tail.tail.tail.tail.tail.tail.tail.tail.tail.tail.rd | exact S.tail.tail.tail.tail.tail.tail.tail.tail.tail.tail.tail.rd | exact S.tail.tail.tail.tail.tail.tail.tail.tail.tail.tail.tail.tail.rd | exact S.tail.tail.tail.tail.tail.tail.tail.tail.tail.tail.tail.tail.tail.rd)).2) ?_
  intro w127 b128 S
  have B := B.trans b128
  refine t_done ?_
  refine x_seq ?_
  refine w_seq ?_
  refine w_drawP [0] (.alt (.st .fin 1 (.alt (.st .fin 2 (.st .fin 3 (.st .fin 4 (.st .fin 5 .done)))) (.st .fin 3 (.alt (.st .fin 2 (.st .fin 4 (.st .fin 5 .done))) (.st .fin 4 (.st .fin 2 (.st .fin 5 .done))))))) (.alt (.st .fin 2 (.alt (.st .fin 1 (.st .fin 3 (.st .fin 4 (.st .fin 5 .done)))) (.st .fin 3 (.st .fin 1 (.st .fin 4 (.st .fin 5 .done)))))) (.st .fin 3 (.alt (.st .fin 1 (.alt (.st .fin 2 (.st .fin 4 (.st .fin 5 .done))) (.st .fin 4 (.st .fin 2 (.st .fin 5 .done))))) (.st .fin 2 (.st .fin 1 (.st .fin 4 (.st .fin 5 .done)))))))) mixed (by kernel_rfl) ?_
  intro w129 x130
  have B := bx Hb B x130
  have S := S.below x130
  refine p_move rfl ?_ rfl
  refine p_done ?_
  refine t_alt ?_ (t_alt ?_ ?_)
  · refine t_bxn S.tail.box ab_topo sb_topo rfl rfl ?_ rfl
    refine t_alt ?_ ?_
    · refine t_bxn S.box ab_path sb_path rfl rfl ?_ rfl
      refine t_assign rfl ?_ rfl
      have S := S.f7
      refine t_stn S sb_topo rfl rfl rfl rfl (by intro zz hu; have hu : zz ∈ ([va12, vl12] : List Value) := hu; simp only [List.mem_cons, List.not_mem_nil, or_false] at hu; rcases hu with rfl | rfl <;> first | rfl | exact (SlR.cells (by first | assumption | exact S.tail.sl | exact S.tail.tail.sl | exact S.tail.tail.tail.sl | exact S.tail.tail.tail.tail.sl | exact S.tail.tail.tail.tail.tail.sl | exact S.tail.tail.tail.tail.tail.tail.sl | exact S.tail.tail.tail.tail.tail.tail.tail.sl | exact S.tail.tail.tail.tail.tail.tail.tail.tail.sl | exact S.tail.tail.tail.tail.tail.tail.tail.tail.tail.sl | exact S.tail.tail.tail.tail.tail.tail.tail.tail.tail.tail.sl | exact S.tail.tail.tail.tail.tail.tail.tail.tail.tail.tail.tail.sl | exact S.tail.tail.tail.tail.tail.tail.tail.tail.tail.tail.tail.tail.sl | exact S.tail.tail.tail.tail.tail.tail.tail.tail.tail.tail.tail.tail.tail.sl)).2) ?_
      intro w131 b132 S
      have B := B.trans b132
      have S := S.f7
      refine t_stn S sb_path rfl rfl rfl rfl (by intro zz hu; have hu : zz ∈ ([vp12] : List Value) := hu; simp only [List.mem_cons, List.not_mem_nil, or_false] at hu; rcases hu with rfl <;> first | rfl | exact (SlR.cells (by first | assumption | exact S.tail.sl | exact S.tail.tail.sl | exact S.tail.tail.tail.sl | exact S.tail.tail.tail.tail.sl | exact S.tail.tail.tail.tail.tail.sl | exact S.tail.tail.tail.tail.tail.tail.sl | exact S.tail.tail.tail.tail.tail.tail.tail.sl | exact S.tail.tail.tail.tail.tail.tail.tail.tail.sl | exact S.tail.tail.tail.tail.tail.tail.tail.tail.tail.sl | exact S.tail.tail.tail.tail.tail.tail.tail.tail.tail.tail.sl | exact S.tail.tail.tail.tail.tail.tail.tail.tail.tail.tail.tail.sl | exact S.tail.tail.tail.tail.tail.tail.tail.tail.tail.tail.tail.tail.sl | exact S.tail.tail.tail.tail.tail.tail.tail.tail.tail.tail.tail.tail.tail.sl | exact S.tail.rd | exact S.tail.tail.rd | exact S.tail.tail.tail.rd | exact S.tail.tail.tail.tail.rd | exact S.tail.tail.tail.tail.tail.rd | exact S.tail.tail.tail.tail.tail.tail.rd | exact S.tail.tail.tail.tail.tail.tail.tail.rd | exact S.tail.tail.tail.tail.tail.tail.tail.tail.rd | exact S.tail.tail.tail.tail.tail.tail.tail.tail.tail.rd | exact S.tail.tail.tail.tail.tail.tail.tail.tail.tail.tail.rd | exact S.tail.tail.tail.tail.tail.tail.tail.tail.tail.tail.tail.rd | exact S.tail.tail.tail.tail.tail.tail.tail.tail.tail.tail.tail.tail.rd | exact S.tail.tail.tail.tail.tail.tail.tail.tail.tail.tail.tail.tail.tail.rd)).2) ?_
      intro w133 b134 S
      have B := B.trans b134
      refine t_done' ?_
      refine x_seq ?_
      refine w_ret ?_
      refine x_rettcc rfl rfl rfl S.tail.box ab_topo sb_topo rfl rfl S.box ab_path sb_path rfl ?_
      have S := S.tail
      have S := S.tail
      have S := S.tail
      have S := S.tail
      have S := S.f3
      have S := S.f3
      have S := S.f3
      have S := S.f3
      exact ⟨_, _, _, _, _, _, _, rfl, hf12, S, ext_trans X0 B⟩
    · refine t_assign rfl ?_ rfl
      refine t_alt ?_ ?_
      · refine t_bxn S.box ab_path sb_path rfl rfl ?_ rfl
        have S := S.f7
        refine t_stn S sb_topo rfl rfl rfl rfl (by intro zz hu; have hu : zz ∈ ([va12, vl12] : List Value) := hu; simp only [List.mem_cons, List.not_mem_nil, or_false] at hu; rcases hu with rfl | rfl <;> first | rfl | exact (SlR.cells (by first | assumption | exact S.tail.sl | exact S.tail.tail.sl | exact S.tail.tail.tail.sl | exact S.tail.tail.tail.tail.sl | exact S.tail.tail.tail.tail.tail.sl | exact S.tail.tail.tail.tail.tail.tail.sl | exact S.tail.tail.tail.tail.tail.tail.tail.sl | exact S.tail.tail.tail.tail.tail.tail.tail.tail.sl | exact S.tail.tail.tail.tail.tail.tail.tail.tail.tail.sl | exact S.tail.tail.tail.tail.tail.tail.tail.tail.tail.tail.sl | exact S.tail.tail.tail.tail.tail.tail.tail.tail.tail.tail.tail.sl | exact S.tail.tail.tail.tail.tail.tail.tail.tail.tail.tail.tail.tail.sl | exact S.tail.tail.tail.tail.tail.tail.tail.tail.tail.tail.tail.tail.tail.sl)).2) ?_
        intro w135 b136 S
        have B := B.trans b136
        have S := S.f7
        refine t_stn S sb_path rfl rfl rfl rfl (by intro zz hu; have hu : zz ∈ ([vp12] : List Value) := hu; simp only [List.mem_cons, List.not_mem_nil, or_false] at hu; rcases hu with rfl <;> first | rfl | exact (SlR.cells (by first | assumption | exact S.tail.sl | exact S.tail.tail.sl | exact S.tail.tail.tail.sl | exact S.tail.tail.tail.tail.sl | exact S.tail.tail.tail.tail.tail.sl | exact S.tail.tail.tail.tail.tail.tail.sl | exact S.tail.tail.tail.tail.tail.tail.tail.sl | exact S.tail.tail.tail.tail.tail.tail.tail.tail.sl | exact S.tail.tail.tail.tail.tail.tail.tail.tail.tail.sl | exact S.tail.tail.tail.tail.tail.tail.tail.tail.tail.tail.sl | exact S.tail.tail.tail.tail.tail.tail.tail.tail.tail.tail.tail.sl | exact S.tail.tail.tail.tail.tail.tail.tail.tail.tail.tail.tail.tail.sl | exact S.tail.tail.tail.tail.tail.tail.tail.tail.tail.tail.tail.tail.tail.sl | exact S.tail.rd | exact S.tail.tail.rd | exact S.tail.tail.tail.rd | exact S.tail.tail.tail.tail.rd | exact S.tail.tail.tail.tail.tail.rd | exact S.tail.tail.tail.tail.tail.tail.rd | exact S.tail.tail.tail.tail.tail.tail.tail.rd | exact S.tail.tail.tail.tail.tail.tail.tail.tail.rd | exact S.tail.tail.tail.tail.tail.tail.tail.tail.tail.rd | exact S.tail.tail.tail.tail.tail.tail.tail.tail.tail.tail.rd | exact S.tail.tail.tail.tail.tail.tail.tail.tail.tail.tail.tail.rd | exact S.tail.tail.tail.tail.tail.tail.tail.tail.tail.tail.tail.tail.rd | exact S.tail.tail.tail.tail.tail.tail.tail.tail.tail.tail.tail.tail.tail.rd)).2) ?_
        intro w137 b138 S
        have B := B.trans b138
        refine t_done' ?_
        refine x_seq ?_
        refine w_ret ?_
        refine x_rettcc rfl rfl rfl S.tail.box ab_topo sb_topo rfl rfl S.box ab_path sb_path rfl ?_
        have S := S.tail
        have S := S.tail
        have S := S.tail
        have S := S.tail
        have S := S.f3
        have S := S.f3
        have S := S.f3
        have S := S.f3
        exact ⟨_, _, _, _, _, _, _, rfl, hf12, S, ext_trans X0 B⟩
      · have S := S.f7
        refine t_stn S sb_topo rfl rfl rfl rfl (by intro zz hu; have hu : zz ∈ ([va12, vl12] : List Value) := hu; simp only [List.mem_cons, List.not_mem_nil, or_false] at hu; rcases hu with rfl | rfl <;> first | rfl | exact (SlR.cells (by first | assumption | exact S.tail.sl | exact S.tail.tail.sl | exact S.tail.tail.tail.sl | exact S.tail.tail.tail.tail.sl | exact S.tail.tail.tail.tail.tail.sl | exact S.tail.tail.tail.tail.tail.tail.sl | exact S.tail.tail.tail.tail.tail.tail.tail.sl | exact S.tail.tail.tail.tail.tail.tail.tail.tail.sl | exact S.tail.tail.tail.tail.tail.tail.tail.tail.tail.sl | exact S.tail.tail.tail.tail.tail.tail.tail.tail.tail.tail.sl | exact S.tail.tail.tail.tail.tail.tail.tail.tail.tail.tail.tail.sl | exact S.tail.tail.tail.tail.tail.tail.tail.tail.tail.tail.tail.tail.sl | exact S.tail.tail.tail.tail.tail.tail.tail.tail.tail.tail.tail.tail.tail.sl)).2) ?_
        intro w139 b140 S
        have B := B.trans b140
        refine t_bxn S.tail.box ab_path sb_path rfl rfl ?_ rfl
        have S := S.f7
        refine t_stn S sb_path rfl rfl rfl rfl (by intro zz hu; have hu : zz ∈ ([vp12] : List Value) := hu; simp only [List.mem_cons, List.not_mem_nil, or_false] at hu; rcases hu with rfl <;> first | rfl | exact (SlR.cells (by first | assumption | exact S.tail.sl | exact S.tail.tail.sl | exact S.tail.tail.tail.sl | exact S.tail.tail.tail.tail.sl | exact S.tail.tail.tail.tail.tail.sl | exact S.tail.tail.tail.tail.tail.tail.sl | exact S.tail.tail.tail.tail.tail.tail.tail.sl | exact S.tail.tail.tail.tail.tail.tail.tail.tail.sl | exact S.tail.tail.tail.tail.tail.tail.tail.tail.tail.sl | exact S.tail.tail.tail.tail.tail.tail.tail.tail.tail.tail.sl | exact S.tail.tail.tail.tail.tail.tail.tail.tail.tail.tail.tail.sl | exact S.tail.tail.tail.tail.tail.tail.tail.tail.tail.tail.tail.tail.sl | exact S.tail.tail.tail.tail.tail.tail.tail.tail.tail.tail.tail.tail.tail.sl | exact S.tail.rd | exact S.tail.tail.rd | exact S.tail.tail.tail.rd | exact S.tail.tail.tail.tail.rd | exact S.tail.tail.tail.tail.tail.rd | exact S.tail.tail.tail.tail.tail.tail.rd | exact S.tail.tail.tail.tail.tail.tail.tail.rd | exact S.tail.tail.tail.tail.tail.tail.tail.tail.rd | exact S.tail.tail.tail.tail.tail.tail.tail.tail.tail.rd | exact S.tail.tail.tail.tail.tail.tail.tail.tail.tail.tail.rd | exact S.tail.tail.tail.tail.tail.tail.tail.tail.tail.tail.tail.rd | exact S.tail.tail.tail.tail.tail.tail.tail.tail.tail.tail.tail.tail.rd | exact S.tail.tail.tail.tail.tail.tail.tail.tail.tail.tail.tail.tail.tail.rd)).2) ?_
        intro w141 b142 S
        have B := B.trans b142
        refine t_done' ?_
        refine x_seq ?_
        refine w_ret ?_
        refine x_rettcc rfl rfl rfl S.tail.box ab_topo sb_topo rfl rfl S.box ab_path sb_path rfl ?_
        have S := S.tail
        have S := S.tail
        have S := S.tail
        have S := S.tail
        have S := S.f3
        have S := S.f3
        have S := S.f3
        have S := S.f3
        exact ⟨_, _, _, _, _, _, _, rfl, hf12, S, ext_trans X0 B⟩
  · refine t_bxn S.box ab_path sb_path rfl rfl ?_ rfl
    refine t_alt ?_ ?_
    · refine t_bxn S.tail.box ab_topo sb_topo rfl rfl ?_ rfl
      refine t_assign rfl ?_ rfl
      have S := S.f7
      refine t_stn S sb_topo rfl rfl rfl rfl (by intro zz hu; have hu : zz ∈ ([va12, vl12] : List Value) := hu; simp only [List.mem_cons, List.not_mem_nil, or_false] at hu; rcases hu with rfl | rfl <;> first | rfl | exact (SlR.cells (by first | assumption | exact S.tail.sl | exact S.tail.tail.sl | exact S.tail.tail.tail.sl | exact S.tail.tail.tail.tail.sl | exact S.tail.tail.tail.tail.tail.sl | exact S.tail.tail.tail.tail.tail.tail.sl | exact S.tail.tail.tail.tail.tail.tail.tail.sl | exact S.tail.tail.tail.tail.tail.tail.tail.tail.sl | exact S.tail.tail.tail.tail.tail.tail.tail.tail.tail.sl | exact S.tail.tail.tail.tail.tail.tail.tail.tail.tail.tail.sl | exact S.tail.tail.tail.tail.tail.tail.tail.tail.tail.tail.tail.sl | exact S.tail.tail.tail.tail.tail.tail.tail.tail.tail.tail.tail.tail.sl | exact S.tail.tail.tail.tail.tail.tail.tail.tail.tail.tail.tail.tail.tail.sl)).2) ?_
      intro w143 b144 S
      have B := B.trans b144
      have S := S.f7
      refine t_stn S sb_path rfl rfl rfl rfl (by intro zz hu; have hu : zz ∈ ([vp12] : List Value) := hu; simp only [List.mem_cons, List.not_mem_nil, or_false] at hu; rcases hu with rfl <;> first | rfl | exact (SlR.cells (by first | assumption | exact S.tail.sl | exact S.tail.tail.sl | exact S.tail.tail.tail.sl | exact S.tail.tail.tail.tail.sl | exact S.tail.tail.tail.tail.tail.sl | exact S.tail.tail.tail.tail.tail.tail.sl | exact S.tail.tail.tail.tail.tail.tail.tail.sl | exact S.tail.tail.tail.tail.tail.tail.tail.tail.sl | exact S.tail.tail.tail.tail.tail.tail.tail.tail.tail.sl | exact S.tail.tail.tail.tail.tail.tail.tail.tail.tail.tail.sl | exact S.tail.tail.tail.tail.tail.tail.tail.tail.tail.tail.tail.sl | exact S.tail.tail.tail.tail.tail.tail.tail.tail.tail.tail.tail.tail.sl | exact S.tail.tail.tail.tail.tail.tail.tail.tail.tail.tail.tail.tail.tail.sl | exact S.tail.rd | exact S.tail.tail.rd | exact S.tail.tail.tail.rd | exact S.tail.tail.tail.tail.rd | exact S.tail.tail.tail.tail.tail.rd | exact S.tail.tail.tail.tail.tail.tail.rd | exact S.tail.tail.tail.tail.tail.tail.tail.rd | exact S.tail.tail.tail.tail.tail.tail.tail.tail.rd | exact S.tail.tail.tail.tail.tail.tail.tail.tail.tail.rd | exact S.tail.tail.tail.tail.tail.tail.tail.tail.tail.tail.rd | exact S.tail.tail.tail.tail.tail.tail.tail.tail.tail.tail.tail.rd | exact S.tail.tail.tail.tail.tail.tail.tail.tail.tail.tail.tail.tail.rd | exact S.tail.tail.tail.tail.tail.tail.tail.tail.tail.tail.tail.tail.tail.rd)).2) ?_
      intro w145 b146 S
      have B := B.trans b146
      refine t_done' ?_
      refine x_seq ?_
      refine w_ret ?_
      refine x_rettcc rfl rfl rfl S.tail.box ab_topo sb_topo rfl rfl S.box ab_path sb_path rfl ?_
      have S := S.tail
      have S := S.tail
      have S := S.tail
      have S := S.tail
      have S := S.f3
      have S := S.f3
      have S := S.f3
      have S := S.f3
      exact ⟨_, _, _, _, _, _, _, rfl, hf12, S, ext_trans X0 B⟩
    · refine t_assign rfl ?_ rfl
      refine t_bxn S.tail.box ab_topo sb_topo rfl rfl ?_ rfl
      have S := S.f7
      refine t_stn S sb_topo rfl rfl rfl rfl (by intro zz hu; have hu : zz ∈ ([va12, vl12] : List Value) := hu; simp only [List.mem_cons, List.not_mem_nil, or_false] at hu; rcases hu with rfl | rfl <;> first | rfl | exact (SlR.cells (by first | assumption | exact S.tail.sl | exact S.tail.tail.sl | exact S.tail.tail.tail.sl | exact S.tail.tail.tail.tail.sl | exact S.tail.tail.tail.tail.tail.sl | exact S.tail.tail.tail.tail.tail.tail.sl | exact S.tail.tail.tail.tail.tail.tail.tail.sl | exact S.tail.tail.tail.tail.tail.tail.tail.tail.sl | exact S.tail.tail.tail.tail.tail.tail.tail.tail.tail.sl | exact S.tail.tail.tail.tail.tail.tail.tail.tail.tail.tail.sl | exact S.tail.tail.tail.tail.tail.tail.tail.tail.tail.tail.tail.sl | exact S.tail.tail.tail.tail.tail.tail.tail.tail.tail.tail.tail.tail.sl | exact S.tail.tail.tail.tail.tail.tail.tail.tail.tail.tail.tail.tail.tail.sl)).2) ?_
      intro w147 b148 S
      have B := B.trans b148
      have S := S.f7
      refine t_stn S sb_path rfl rfl rfl rfl (by intro zz hu; have hu : zz ∈ ([vp12] : List Value) := hu; simp only [List.mem_cons, List.not_mem_nil, or_false] at hu; rcases hu with rfl <;> first | rfl | exact (SlR.cells (by first | assumption | exact S.tail.sl | exact S.tail.tail.sl | exact S.tail.tail.tail.sl | exact S.tail.tail.tail.tail.sl | exact S.tail.tail.tail.tail.tail.sl | exact S.tail.tail.tail.tail.tail.tail.sl | exact S.tail.tail.tail.tail.tail.tail.tail.sl | exact S.tail.tail.tail.tail.tail.tail.tail.tail.sl | exact S.tail.tail.tail.tail.tail.tail.tail.tail.tail.sl | exact S.tail.tail.tail.tail.tail.tail.tail.tail.tail.tail.sl | exact S.tail.tail.tail.tail.tail.tail.tail.tail.tail.tail.tail.sl | exact S.tail.tail.tail.tail.tail.tail.tail.tail.tail.tail.tail.tail.sl | exact S.tail.tail.tail.tail.tail.tail.tail.tail.tail.tail.tail.tail.tail.sl | exact S.tail.rd | exact S.tail.tail.rd | exact S.tail.tail.tail.rd | exact S.tail.tail.tail.tail.rd | exact S.tail.tail.tail.tail.tail.rd | exact S.tail.tail.tail.tail.tail.tail.rd | exact S.tail.tail.tail.tail.tail.tail.tail.rd | exact S.tail.tail.tail.tail.tail.tail.tail.tail.rd | exact S.tail.tail.tail.tail.tail.tail.tail.tail.tail.rd | exact S.tail.tail.tail.tail.tail.tail.tail.tail.tail.tail.rd | exact S.tail.tail.tail.tail.tail.tail.tail.tail.tail.tail.tail.rd | exact S.tail.tail.tail.tail.tail.tail.tail.tail.tail.tail.tail.tail.rd | exact S.tail.tail.tail.tail.tail.tail.tail.tail.tail.tail.tail.tail.tail.rd)).2) ?_
      intro w149 b150 S
      have B := B.trans b150
      refine t_done' ?_
      refine x_seq ?_
      refine w_ret ?_
      refine x_rettcc rfl rfl rfl S.tail.box ab_topo sb_topo rfl rfl S.box ab_path sb_path rfl ?_
      have S := S.tail
      have S := S.tail
      have S := S.tail
      have S := S.tail
      have S := S.f3
      have S := S.f3
      have S := S.f3
      have S := S.f3
      exact ⟨_, _, _, _, _, _, _, rfl, hf12, S, ext_trans X0 B⟩
  · refine t_assign rfl ?_ rfl
    refine t_alt ?_ ?_
    · refine t_bxn S.tail.box ab_topo sb_topo rfl rfl ?_ rfl
      refine t_alt ?_ ?_
      · refine t_bxn S.box ab_path sb_path rfl rfl ?_ rfl
        have S := S.f7
        refine t_stn S sb_topo rfl rfl rfl rfl (by intro zz hu; have hu : zz ∈ ([va12, vl12] : List Value) := hu; simp only [List.mem_cons, List.not_mem_nil, or_false] at hu; rcases hu with rfl | rfl <;> first | rfl | exact (SlR.cells (by first | assumption | exact S.tail.sl | exact S.tail.tail.sl | exact S.tail.tail.tail.sl | exact S.tail.tail.tail.tail.sl | exact S.tail.tail.tail.tail.tail.sl | exact S.tail.tail.tail.tail.tail.tail.sl | exact S.tail.tail.tail.tail.tail.tail.tail.sl | exact S.tail.tail.tail.tail.tail.tail.tail.tail.sl | exact S.tail.tail.tail.tail.tail.tail.tail.tail.tail.sl | exact S.tail.tail.tail.tail.tail.tail.tail.tail.tail.tail.sl | exact S.tail.tail.tail.tail.tail.tail.tail.tail.tail.tail.tail.sl | exact S.tail.tail.tail.tail.tail.tail.tail.tail.tail.tail.tail.tail.sl | exact S.tail.tail.tail.tail.tail.tail.tail.tail.tail.tail.tail.tail.tail.sl)).2) ?_
        intro w151 b152 S
        have B := B.trans b152
        have S := S.f7
        refine t_stn S sb_path rfl rfl rfl rfl (by intro zz hu; have hu : zz ∈ ([vp12] : List Value) := hu; simp only [List.mem_cons, List.not_mem_nil, or_false] at hu; rcases hu with rfl <;> first | rfl | exact (SlR.cells (by first | assumption | exact S.tail.sl | exact S.tail.tail.sl | exact S.tail.tail.tail.sl | exact S.tail.tail.tail.tail.sl | exact S.tail.tail.tail.tail.tail.sl | exact S.tail.tail.tail.tail.tail.tail.sl | exact S.tail.tail.tail.tail.tail.tail.tail.sl | exact S.tail.tail.tail.tail.tail.tail.tail.tail.sl | exact S.tail.tail.tail.tail.tail.tail.tail.tail.tail.sl | exact S.tail.tail.tail.tail.tail.tail.tail.tail.tail.tail.sl | exact S.tail.tail.tail.tail.tail.tail.tail.tail.tail.tail.tail.sl | exact S.tail.tail.tail.tail.tail.tail.tail.tail.tail.tail.tail.tail.sl | exact S.tail.tail.tail.tail.tail.tail.tail.tail.tail.tail.tail.tail.tail.sl | exact S.tail.rd | exact S.tail.tail.rd | exact S.tail.tail.tail.rd | exact S.tail.tail.tail.tail.rd | exact S.tail.tail.tail.tail.tail.rd | exact S.tail.tail.tail.tail.tail.tail.rd | exact S.tail.tail.tail.tail.tail.tail.tail.rd | exact S.tail.tail.tail.tail.tail.tail.tail.tail.rd | exact S.tail.tail.tail.tail.tail.tail.tail.tail.tail.rd | exact S.tail.tail.tail.tail.tail.tail.tail.tail.tail.tail.rd | exact S.tail.tail.tail.tail.tail.tail.tail.tail.tail.tail.tail.rd | exact S.tail.tail.tail.tail.tail.tail.tail.tail.tail.tail.tail.tail.rd | exact S.tail.tail.tail.tail.tail.tail.tail.tail.tail.tail.tail.tail.tail.rd)).2) ?_
        intro w153 b154 S
        have B := B.trans b154
        refine t_done' ?_
        refine x_seq ?_
        refine w_ret ?_
        refine x_rettcc rfl rfl rfl S.tail.box ab_topo sb_topo rfl rfl S.box ab_path sb_path rfl ?_
        have S := S.tail
        have S := S.tail
        have S := S.tail
        have S := S.tail
        have S := S.f3
        have S := S.f3
        have S := S.f3
        have S := S.f3
        exact ⟨_, _, _, _, _, _, _, rfl, hf12, S, ext_trans X0 B⟩
      · have S := S.f7
        refine t_stn S sb_topo rfl rfl rfl rfl (by intro zz hu; have hu : zz ∈ ([va12, vl12] : List Value) := hu; simp only [List.mem_cons, List.not_mem_nil, or_false] at hu; rcases hu with rfl | rfl <;> first | rfl | exact (SlR.cells (by first | assumption | exact S.tail.sl | exact S.tail.tail.sl | exact S.tail.tail.tail.sl | exact S.tail.tail.tail.tail.sl | exact S.tail.tail.tail.tail.tail.sl | exact S.tail.tail.tail.tail.tail.tail.sl | exact S.tail.tail.tail.tail.tail.tail.tail.sl | exact S.tail.tail.tail.tail.tail.tail.tail.tail.sl | exact S.tail.tail.tail.tail.tail.tail.tail.tail.tail.sl | exact S.tail.tail.tail.tail.tail.tail.tail.tail.tail.tail.sl | exact S.tail.tail.tail.tail.tail.tail.tail.tail.tail.tail.tail.sl | exact S.tail.tail.tail.tail.tail.tail.tail.tail.tail.tail.tail.tail.sl | exact S.tail.tail.tail.tail.tail.tail.tail.tail.tail.tail.tail.tail.tail.sl)).2) ?_
        intro w155 b156 S
        have B := B.trans b156
        refine t_bxn S.tail.box ab_path sb_path rfl rfl ?_ rfl
        have S := S.f7
        refine t_stn S sb_path rfl rfl rfl rfl (by intro zz hu; have hu : zz ∈ ([vp12] : List Value) := hu; simp only [List.mem_cons, List.not_mem_nil, or_false] at hu; rcases hu with rfl <;> first | rfl | exact (SlR.cells (by first | assumption | exact S.tail.sl | exact S.tail.tail.sl | exact S.tail.tail.tail.sl | exact S.tail.tail.tail.tail.sl | exact S.tail.tail.tail.tail.tail.sl | exact S.tail.tail.tail.tail.tail.tail.sl | exact S.tail.tail.tail.tail.tail.tail.tail.sl | exact S.tail.tail.tail.tail.tail.tail.tail.tail.sl | exact S.tail.tail.tail.tail.tail.tail.tail.tail.tail.sl | exact S.tail.tail.tail.tail.tail.tail.tail.tail.tail.tail.sl | exact S.tail.tail.tail.tail.tail.tail.tail.tail.tail.tail.tail.sl | exact S.tail.tail.tail.tail.tail.tail.tail.tail.tail.tail.tail.tail.sl | exact S.tail.tail.tail.tail.tail.tail.tail.tail.tail.tail.tail.tail.tail.sl | exact S.tail.rd | exact S.tail.tail.rd | exact S.tail.tail.tail.rd | exact S.tail.tail.tail.tail.rd | exact S.tail.tail.tail.tail.tail.rd | exact S.tail.tail.tail.tail.tail.tail.rd | exact S.tail.tail.tail.tail.tail.tail.tail.rd | exact S.tail.tail.tail.tail.tail.tail.tail.tail.rd | exact S.tail.tail.tail.tail.tail.tail.tail.tail.tail.rd | exact S.tail.tail.tail.tail.tail.tail.tail.tail.tail.tail.rd | exact S.tail.tail.tail.tail.tail.tail.tail.tail.tail.tail.tail.rd | exact S.tail.tail.tail.tail.tail.tail.tail.tail.tail.tail.tail.tail.rd | exact S.tail.tail.tail.tail.tail.tail.tail.tail.tail.tail.tail.tail.tail.rd)).2) ?_
        intro w157 b158 S
        have B := B.trans b158
        refine t_done' ?_
        refine x_seq ?_
        refine w_ret ?_
        refine x_rettcc rfl rfl rfl S.tail.box ab_topo sb_topo rfl rfl S.box ab_path sb_path rfl ?_
        have S := S.tail
        have S := S.tail
        have S := S.tail
        have S := S.tail
        have S := S.f3
        have S := S.f3
        have S := S.f3
        have S := S.f3
        exact ⟨_, _, _, _, _, _, _, rfl, hf12, S, ext_trans X0 B⟩
    · refine t_bxn S.box ab_path sb_path rfl rfl ?_ rfl
      refine t_bxn S.tail.box ab_topo sb_topo rfl rfl ?_ rfl
      have S := S.f7
      refine t_stn S sb_topo rfl rfl rfl rfl (by intro zz hu; have hu : zz ∈ ([va12, vl12] : List Value) := hu; simp only [List.mem_cons, List.not_mem_nil, or_false] at hu; rcases hu with rfl | rfl <;> first | rfl | exact (SlR.cells (by first | assumption | exact S.tail.sl | exact S.tail.tail.sl | exact S.tail.tail.tail.sl | exact S.tail.tail.tail.tail.sl | exact S.tail.tail.tail.tail.tail.sl | exact S.tail.tail.tail.tail.tail.tail.sl | exact S.tail.tail.tail.tail.tail.tail.tail.sl | exact S.tail.tail.tail.tail.tail.tail.tail.tail.sl | exact S.tail.tail.tail.tail.tail.tail.tail.tail.tail.sl | exact S.tail.tail.tail.tail.tail.tail.tail.tail.tail.tail.sl | exact S.tail.tail.tail.tail.tail.tail.tail.tail.tail.tail.tail.sl | exact S.tail.tail.tail.tail.tail.tail.tail.tail.tail.tail.tail.tail.sl | exact S.tail.tail.tail.tail.tail.tail.tail.tail.tail.tail.tail.tail.tail.sl)).2) ?_
      intro w159 b160 S
      have B := B.trans b160
      have S := S.f7
      refine t_stn S sb_path rfl rfl rfl rfl (by intro zz hu; have hu : zz ∈ ([vp12] : List Value) := hu; simp only [List.mem_cons, List.not_mem_nil, or_false] at hu; rcases hu with rfl <;> first | rfl | exact (SlR.cells (by first | assumption | exact S.tail.sl | exact S.tail.tail.sl | exact S.tail.tail.tail.sl | exact S.tail.tail.tail.tail.sl | exact S.tail.tail.tail.tail.tail.sl | exact S.tail.tail.tail.tail.tail.tail.sl | exact S.tail.tail.tail.tail.tail.tail.tail.sl | exact S.tail.tail.tail.tail.tail.tail.tail.tail.sl | exact S.tail.tail.tail.tail.tail.tail.tail.tail.tail.sl | exact S.tail.tail.tail.tail.tail.tail.tail.tail.tail.tail.sl | exact S.tail.tail.tail.tail.tail.tail.tail.tail.tail.tail.tail.sl | exact S.tail.tail.tail.tail.tail.tail.tail.tail.tail.tail.tail.tail.sl | exact S.tail.tail.tail.tail.tail.tail.tail.tail.tail.tail.tail.tail.tail.sl | exact S.tail.rd | exact S.tail.tail.rd | exact S.tail.tail.tail.rd | exact S.tail.tail.tail.tail.rd | exact S.tail.tail.tail.tail.tail.rd | exact S.tail.tail.tail.tail.tail.tail.rd | exact S.tail.tail.tail.tail.tail.tail.tail.rd | exact S.tail.tail.tail.tail.tail.tail.tail.tail.rd | exact S.tail.tail.tail.tail.tail.tail.tail.tail.tail.rd | exact S.tail.tail.tail.tail.tail.tail.tail.tail.tail.tail.rd | exact S.tail.tail.tail.tail.tail.tail.tail.tail.tail.tail.tail.rd | exact S.tail.tail.tail.tail.tail.tail.tail.tail.tail.tail.tail.tail.rd | exact S.tail.tail.tail.tail.tail.tail.tail.tail.tail.tail.tail.tail.tail.rd)).2) ?_
      intro w161 b162 S
      have B := B.trans b162
      refine t_done' ?_
      refine x_seq ?_
      refine w_ret ?_
      refine x_rettcc rfl rfl rfl S.tail.box ab_topo sb_topo rfl rfl S.box ab_path sb_path rfl ?_
      have S := S.tail
      have S := S.tail
      have S := S.tail
      have S := S.tail
      have S := S.f3
      have S := S.f3
      have S := S.f3
      have S := S.f3
      exact ⟨_, _, _, _, _, _, _, rfl, hf12, S, ext_trans X0 B⟩
end Go.Proofs.Ytdaecknfahgddaa
namespace Go.Proofs.Ytdaecknfahgddaa
open Go.RowKit
set_option linter.unusedVariables false
set_option maxRecDepth 20000
theorem bs_int14 (a0 a1 a2 a3 a4 a5 a6 a7 a8 a9 a10 a11 a12 a13 : Int) (w : World) : (Instr.buildSlice 41 14 #[(0, I a0), (1, I a1), (2, I a2), (3, I a3), (4, I a4), (5, I a5), (6, I a6), (7, I a7), (8, I a8), (9, I a9), (10, I a10), (11, I a11), (12, I a12), (13, I a13)]).run Try.prog w = .ok (.slice (some ⟨w.heap.size, 0, none⟩) 14 14) (w.alloc (.cells #[I a0, I a1, I a2, I a3, I a4, I a5, I a6, I a7, I a8, I a9, I a10, I a11, I a12, I a13] 3)) := by kernel_rfl
theorem spec_l1Odd {b n c : Nat} {w : World} {v : Value} {os : List Ow} (S : Sep b w (curO v n c 109 :: os)) (K : CodeK b w v n) : Calls Try.prog 131 #[.pointer (some ⟨c, 0, none⟩)] w fun e w' => ∃ x : Int, e = .returned (I x) ∧ In64 x ∧ Sep b w' (curO v n c 109 :: os) ∧ Below b w w' := by
  have X0 := Below.refl w.heap.size w
  refine enter Try.func131 rfl Try.ntmps131 rfl ?_
  have B := Below.refl b w
  have Hb := S.base
  refine w_seq ?_
  refine w_region ?_
  refine t_assign rfl ?_ rfl
  refine t_done ?_
  refine x_seq ?_
  refine w_seq ?_
  refine w_region ?_
  refine t_move rfl ?_ rfl
  refine t_lit (T := intT) (l := [(-1), 0, 1, 2, 255, 256, 65535, 2147483647, 2147483648, 4294967295, 4294967296, (-2147483648), 9223372036854775807, (-9223372036854775808)]) (css := ([(-1), 0, 1, 2, 255, 256, 65535, 2147483647, 2147483648, 4294967295, 4294967296, (-2147483648), 9223372036854775807, (-9223372036854775808)]).map fun a => [I a]) int_flat S (fun w => bs_int14 _ _ _ _ _ _ _ _ _ _ _ _ _ _ w) rfl rfl rfl rfl (by simp [maxLen]) (litR_int _) ?_ rfl rfl
  intro u4 w1 x2 S
  have B := bx Hb B x2
  have S := S.f1
  refine t_callf Try.call79 rfl (spec_l1Int S (K.below B) (by simp)) ?_ rfl
  rintro e w3 ⟨y5, rfl, hf5, S, x4⟩
  refine ⟨_, rfl, ?_⟩
  have B := B.trans x4
  refine t_assign rfl ?_ rfl
  refine t_done ?_
  refine x_seq ?_
  refine w_ret ?_
  refine x_ret1 rfl rfl ?_
  have hz : In64 y5 := by simp at hf5; unfold In64; omega
  exact ⟨_, rfl, hz, S.f1.tail, B⟩
theorem spec_l1Num {b n c : Nat} {w : World} {v : Value} {os : List Ow} (S : Sep b w (curO v n c 109 :: os)) (K : CodeK b w v n) : Calls Try.prog 118 #[.pointer (some ⟨c, 0, none⟩)] w fun e w' => ∃ x : Int, e = .returned (I x) ∧ In64 x ∧ Sep b w' (curO v n c 109 :: os) ∧ Below b w w' := by
  have X0 := Below.refl w.heap.size w
  refine enter Try.func118 rfl Try.ntmps118 rfl ?_
  have B := Below.refl b w
  have Hb := S.base
  refine w_seq ?_
  refine w_region ?_
  refine t_assign rfl ?_ rfl
  refine t_done ?_
  refine x_seq ?_
  refine w_seq ?_
  refine w_seq ?_
  refine w_region ?_
  refine t_move rfl ?_ rfl
  refine t_callf Try.call64 rfl (spec_l1Below 4 S (K.below B)) ?_ rfl
  rintro e w5 ⟨y4, rfl, hf4, S, x6⟩
  refine ⟨_, rfl, ?_⟩
  have B := B.trans x6
  refine t_done ?_
  refine x_seq ?_
  refine w_block ?_
  refine w_seq ?_
  refine w_region ?_
  refine t_eql rfl rfl ?_ rfl
  refine t_assign rfl ?_ rfl
  refine t_done ?_
  refine x_seq ?_
  refine w_if rfl ?_ ?_
  · intro h0
    refine w_seq ?_
    refine w_region ?_
    refine t_move rfl ?_ rfl
    refine t_callf Try.call64 rfl (spec_l1Below 2000 S (K.below B)) ?_ rfl
    rintro e w7 ⟨y8, rfl, hf8, S, x8⟩
    refine ⟨_, rfl, ?_⟩
    have B := B.trans x8
    refine t_assign rfl ?_ rfl
    refine t_done ?_
    refine x_seq ?_
    refine w_ret ?_
    refine x_block_ret ?_
    refine x_then_ret ?_
    refine x_ret1 rfl rfl ?_
    exact ⟨_, rfl, in64 (by omega) (by omega), S, B⟩
  · intro h0
    refine w_seq ?_
    refine w_region ?_
    refine t_eql rfl rfl ?_ rfl
    refine t_assign rfl ?_ rfl
    refine t_done ?_
    refine x_seq ?_
    refine w_if rfl ?_ ?_
    · intro h1
      refine w_seq ?_
      refine w_region ?_
      refine t_move rfl ?_ rfl
      refine t_lit (T := intT) (l := [0, 1, 127, 128, 2147483646, 2147483647, 1000000000000]) (css := ([0, 1, 127, 128, 2147483646, 2147483647, 1000000000000]).map fun a => [I a]) int_flat S (fun w => bs_int7 _ _ _ _ _ _ _ w) rfl rfl rfl rfl (by simp [maxLen]) (litR_int _) ?_ rfl rfl
      intro u12 w9 x10 S
      have B := bx Hb B x10
      have S := S.f1
      refine t_callf Try.call79 rfl (spec_l1Int S (K.below B) (by simp)) ?_ rfl
      rintro e w11 ⟨y13, rfl, hf13, S, x12⟩
      refine ⟨_, rfl, ?_⟩
      have B := B.trans x12
      refine t_assign rfl ?_ rfl
      refine t_done ?_
      refine x_seq ?_
      refine w_ret ?_
      refine x_block_ret ?_
      refine x_then_ret ?_
      refine x_ret1 rfl rfl ?_
      have hz : In64 y13 := by simp at hf13; unfold In64; omega
      exact ⟨_, rfl, hz, S.f1.tail, B⟩
    · intro h1
      refine w_seq ?_
      refine w_region ?_
      refine t_eql rfl rfl ?_ rfl
      refine t_assign rfl ?_ rfl
      refine t_done ?_
      refine x_seq ?_
      refine w_if rfl ?_ ?_
      · intro h2
        refine w_seq ?_
        refine w_region ?_
        refine t_move rfl ?_ rfl
        refine t_callf Try.call64 rfl (spec_l1Below 1000000 S (K.below B)) ?_ rfl
        rintro e w13 ⟨y17, rfl, hf17, S, x14⟩
        refine ⟨_, rfl, ?_⟩
        have B := B.trans x14
        refine t_move rfl ?_ rfl
        refine t_callf Try.call64 rfl (spec_l1Below 1000000 S (K.below B)) ?_ rfl
        rintro e w15 ⟨y19, rfl, hf19, S, x16⟩
        refine ⟨_, rfl, ?_⟩
        have B := B.trans x16
        refine t_mulw rfl rfl ?_ rfl
        refine t_assign rfl ?_ rfl
        refine t_done ?_
        refine x_seq ?_
        refine w_ret ?_
        refine x_block_ret ?_
        refine x_then_ret ?_
        refine x_ret1 rfl rfl ?_
        have hm := mulb (a := y17) (b := y19) (A := 1000000) (B := 1000000) (by omega) (by omega) (by omega) (by omega)
        rw [wr64 (by omega)]
        exact ⟨_, rfl, in64 (by omega) (by omega), S, B⟩
      · intro h2
        refine w_skip ?_
        refine x_block_normal ?_
        refine x_seq ?_
        refine w_seq ?_
        refine w_region ?_
        refine t_move rfl ?_ rfl
        refine t_callf Try.call64 rfl (spec_l1Below 20 S (K.below B)) ?_ rfl
        rintro e w17 ⟨y22, rfl, hf22, S, x18⟩
        refine ⟨_, rfl, ?_⟩
        have B := B.trans x18
        refine t_assign rfl ?_ rfl
        refine t_done ?_
        refine x_seq ?_
        refine w_ret ?_
        refine x_ret1 rfl rfl ?_
        exact ⟨_, rfl, in64 (by omega) (by omega), S, B⟩
theorem spec_l1Raw {b n c : Nat} {w : World} {v : Value} {os : List Ow} (S : Sep b w (curO v n c 109 :: os)) (K : CodeK b w v n) : Calls Try.prog 117 #[.pointer (some ⟨c, 0, none⟩)] w fun e w' => ∃ x : Int, e = .returned (I x) ∧ In64 x ∧ Sep b w' (curO v n c 109 :: os) ∧ Below b w w' := by
  have X0 := Below.refl w.heap.size w
  refine enter Try.func117 rfl Try.ntmps117 rfl ?_
  have B := Below.refl b w
  have Hb := S.base
  refine w_seq ?_
  refine w_region ?_
  refine t_assign rfl ?_ rfl
  refine t_done ?_
  refine x_seq ?_
  refine w_seq ?_
  refine w_seq ?_
  refine w_region ?_
  refine t_move rfl ?_ rfl
  refine t_callf Try.call116 rfl (spec_l1Once 2 S (K.below B)) ?_ rfl
  rintro e w19 ⟨y4, rfl, hf4, S, x20⟩
  refine ⟨_, rfl, ?_⟩
  have B := B.trans x20
  refine t_done ?_
  refine x_seq ?_
  refine w_if rfl ?_ ?_
  · intro h0
    refine w_seq ?_
    refine w_region ?_
    refine t_move rfl ?_ rfl
    refine t_callf Try.call131 rfl (spec_l1Odd S (K.below B)) ?_ rfl
    rintro e w21 ⟨y6, rfl, hf6, S, x22⟩
    refine ⟨_, rfl, ?_⟩
    have B := B.trans x22
    refine t_assign rfl ?_ rfl
    refine t_done ?_
    refine x_seq ?_
    refine w_ret ?_
    refine x_then_ret ?_
    refine x_ret1 rfl rfl ?_
    exact ⟨_, rfl, hf6, S, B⟩
  · intro h0
    refine w_skip ?_
    refine x_seq ?_
    refine w_seq ?_
    refine w_region ?_
    refine t_move rfl ?_ rfl
    refine t_lit (T := intT) (l := [(-1), 1000000000000, 1000000000001]) (css := ([(-1), 1000000000000, 1000000000001]).map fun a => [I a]) int_flat S (fun w => bs_int3 _ _ _ w) rfl rfl rfl rfl (by simp [maxLen]) (litR_int _) ?_ rfl rfl
    intro u8 w23 x24 S
    have B := bx Hb B x24
    have S := S.f1
    refine t_callf Try.call79 rfl (spec_l1Int S (K.below B) (by simp)) ?_ rfl
    rintro e w25 ⟨y9, rfl, hf9, S, x26⟩
    refine ⟨_, rfl, ?_⟩
    have B := B.trans x26
    refine t_assign rfl ?_ rfl
    refine t_done ?_
    refine x_seq ?_
    refine w_ret ?_
    refine x_ret1 rfl rfl ?_
    have hz : In64 y9 := by simp at hf9; unfold In64; omega
    exact ⟨_, rfl, hz, S.f1.tail, B⟩
theorem spec_l1One {b n c : Nat} {w : World} {v : Value} {os : List Ow} (S : Sep b w (curO v n c 109 :: os)) (K : CodeK b w v n) : Calls Try.prog 85 #[.pointer (some ⟨c, 0, none⟩)] w fun e w' => ∃ x : Int, e = .returned (I x) ∧ In64 x ∧ Sep b w' (curO v n c 109 :: os) ∧ Below b w w' := by
  have X0 := Below.refl w.heap.size w
  refine enter Try.func85 rfl Try.ntmps85 rfl ?_
  have B := Below.refl b w
  have Hb := S.base
  refine w_seq ?_
  refine w_region ?_
  refine t_assign rfl ?_ rfl
  refine t_done ?_
  refine x_seq ?_
  refine w_seq ?_
  refine w_seq ?_
  refine w_region ?_
  refine t_move rfl ?_ rfl
  refine t_callf Try.call116 rfl (spec_l1Once 6 S (K.below B)) ?_ rfl
  rintro e w27 ⟨y4, rfl, hf4, S, x28⟩
  refine ⟨_, rfl, ?_⟩
  have B := B.trans x28
  refine t_done ?_
  refine x_seq ?_
  refine w_if rfl ?_ ?_
  · intro h0
    refine w_seq ?_
    refine w_region ?_
    refine t_move rfl ?_ rfl
    refine t_callf Try.call117 rfl (spec_l1Raw S (K.below B)) ?_ rfl
    rintro e w29 ⟨y6, rfl, hf6, S, x30⟩
    refine ⟨_, rfl, ?_⟩
    have B := B.trans x30
    refine t_assign rfl ?_ rfl
    refine t_done ?_
    refine x_seq ?_
    refine w_ret ?_
    refine x_then_ret ?_
    refine x_ret1 rfl rfl ?_
    exact ⟨_, rfl, hf6, S, B⟩
  · intro h0
    refine w_skip ?_
    refine x_seq ?_
    refine w_seq ?_
    refine w_region ?_
    refine t_move rfl ?_ rfl
    refine t_callf Try.call118 rfl (spec_l1Num S (K.below B)) ?_ rfl
    rintro e w31 ⟨y8, rfl, hf8, S, x32⟩
    refine ⟨_, rfl, ?_⟩
    have B := B.trans x32
    refine t_assign rfl ?_ rfl
    refine t_done ?_
    refine x_seq ?_
    refine w_ret ?_
    refine x_ret1 rfl rfl ?_
    exact ⟨_, rfl, hf8, S, B⟩
theorem spec_l1Bytes {b n c : Nat} {w : World} {v : Value} {os : List Ow} (m : Int) (S : Sep b w (curO v n c 109 :: os)) (K : CodeK b w v n) (hm : m ≤ 1000) : Calls Try.prog 73 #[.pointer (some ⟨c, 0, none⟩), I m] w fun e w' => ∃ (u : Value) (l : List UInt8), e = .returned u ∧ l.length ≤ m.toNat ∧ Sep b w' (slO byteT 5 u l :: curO v n c 109 :: os) ∧ Below b w w' := by
  have X0 := Below.refl w.heap.size w
  refine enter Try.func73 rfl Try.ntmps73 rfl ?_
  have B := Below.refl b w
  have Hb := S.base
  refine w_seq ?_
  refine w_region ?_
  refine t_assign rfl ?_ rfl
  refine t_done ?_
  refine x_seq ?_
  refine w_seq ?_
  refine w_region ?_
  refine t_lit (T := byteT) (css := []) (l := []) byte_flat S bs_byte0 rfl rfl rfl rfl (Nat.zero_le _) litR_nil ?_ rfl rfl
  intro u7 w33 x34 S
  have B := bx Hb B x34
  refine t_assign rfl ?_ rfl
  refine t_done ?_
  refine x_seq ?_
  refine w_seq ?_
  refine w_seq ?_
  refine w_region ?_
  refine t_assign rfl ?_ rfl
  refine t_done ?_
  refine x_seq ?_
  refine w_block ?_
  refine w_loop (X := Nat × List UInt8 × Value) (fun x wq => (fun k l u => k ≤ m.toNat ∧ List.length l = k ∧ Below b w wq ∧ Sep b wq (slO byteT 5 u l :: curO v n c 109 :: os)) x.1 x.2.1 x.2.2) (fun x => (fun k l u => [(6, I ((k : Int))), (5, u), (0, .pointer (some ⟨c, 0, none⟩)), (1, I m), (4, .slice none 0 0)]) x.1 x.2.1 x.2.2) (fun x => (fun k l u => m.toNat - k) x.1 x.2.1 x.2.2) (0, [], _) ?_ ⟨rfl, rfl, rfl, rfl, rfl, trivial⟩ ?_
  · exact ⟨by omega, rfl, B, S⟩
  rintro ⟨k, l, u⟩ w35 hI
  try dsimp only at hI ⊢
  obtain ⟨hk, hl, B, S⟩ := hI
  refine w_seq ?_
  refine w_seq ?_
  refine w_region ?_
  refine t_move rfl ?_ rfl
  refine t_move rfl ?_ rfl
  refine t_lss rfl rfl ?_ rfl
  refine t_done ?_
  refine x_seq ?_
  refine w_if rfl ?_ ?_
  · intro hlt
    refine w_skip ?_
    refine x_seq ?_
    refine w_seq ?_
    refine w_block ?_
    refine w_region ?_
    refine t_move rfl ?_ rfl
    refine t_move rfl ?_ rfl
    have S := S.f1
    refine t_callf Try.call111 rfl (spec_l1Byte S (K.below B)) ?_ rfl
    rintro e w36 ⟨y15, rfl, hf15, S, x37⟩
    refine ⟨_, rfl, ?_⟩
    have B := B.trans x37
    refine t_conv Try.underlying3 Try.underlying5 rfl ?_ rfl
    refine t_lit (T := byteT) (l := [bt y15]) (css := [[.int .u8 (IntKind.u8.wrap y15)]]) byte_flat S (fun w => bs_byte1 _ w) rfl rfl rfl rfl (by simp [maxLen]) (litR_one fun _ => byte_lit _) ?_ rfl rfl
    intro u17 w38 x39 S
    have B := bx Hb B x39
    have hR := S.sl
    have S := S.f2
    refine t_cat byte_flat e_byte S hR rfl rfl rfl (by first | omega | (simp [-List.length_flatMap]; omega)) (by (simp [maxLen, -List.length_flatMap]; try omega)) ?_ rfl
    intro v18 w40 x41 S
    have B := B.trans x41
    clear hR
    have S := S.f1
    have S := S.tail
    refine t_assign rfl ?_ rfl
    refine t_done ?_
    refine x_block_normal ?_
    refine x_seq ?_
    refine w_region ?_
    refine t_move rfl ?_ rfl
    refine t_add rfl rfl (by omega) ?_ rfl
    refine t_assign rfl ?_ rfl
    refine t_done ?_
    refine x_round (X := Nat × List UInt8 × Value) (I := (fun x wq => (fun k l u => k ≤ m.toNat ∧ List.length l = k ∧ Below b w wq ∧ Sep b wq (slO byteT 5 u l :: curO v n c 109 :: os)) x.1 x.2.1 x.2.2)) (F := (fun x => (fun k l u => [(6, I ((k : Int))), (5, u), (0, .pointer (some ⟨c, 0, none⟩)), (1, I m), (4, .slice none 0 0)]) x.1 x.2.1 x.2.2)) (μ := (fun x => (fun k l u => m.toNat - k) x.1 x.2.1 x.2.2)) (k + 1, l ++ [bt y15], v18) ?_ (by exact ⟨rfl, rfl, rfl, rfl, rfl, trivial⟩) (by (try dsimp only); omega)
    try dsimp only
    exact ⟨by omega, by rw [List.length_append, List.length_singleton]; omega, B, S⟩
  · intro hge
    refine w_exit ?_
    refine x_then_exit ?_
    refine x_then_exit ?_
    refine x_block_exit ?_
    refine x_seq ?_
    refine w_seq ?_
    refine w_region ?_
    refine t_move rfl ?_ rfl
    refine t_assign rfl ?_ rfl
    refine t_done ?_
    refine x_seq ?_
    refine w_ret ?_
    refine x_ret1 rfl rfl ?_
    exact ⟨_, _, rfl, by omega, S, B⟩
/-- Bytes, bent: they are only read from then on. -/
theorem spec_l1Bent {b n c : Nat} {w : World} {v u : Value} {l : List UInt8} {os : List Ow} (S : Sep b w (curO v n c 109 :: slO byteT 5 u l :: os)) (K : CodeK b w v n) (hz : l.length ≤ 1000000000) : Calls Try.prog 78 #[.pointer (some ⟨c, 0, none⟩), u] w fun e w' => ∃ (u' : Value) (l' : List UInt8), e = .returned u' ∧ l'.length ≤ l.length + 1 ∧ Sep b w' (rdO byteT u' l' :: curO v n c 109 :: slO byteT 5 u l :: os) ∧ Below b w w' := by
  have X0 := Below.refl w.heap.size w
  refine enter Try.func78 rfl Try.ntmps78 rfl ?_
  have B := Below.refl b w
  have Hb := S.base
  refine w_seq ?_
  refine w_region ?_
  refine t_assign rfl ?_ rfl
  refine t_done ?_
  refine x_seq ?_
  refine w_seq ?_
  refine w_region ?_
  refine t_lit0 (T := byteT) S bs_byte0 rfl ?_ rfl rfl
  intro A6 w42 x43 S
  have B := bx Hb B x43
  refine t_move rfl ?_ rfl
  have hR := S.tail.tail.sl
  refine t_cat byte_flat e_byte S hR rfl rfl rfl (by first | omega | (simp [-List.length_flatMap]; omega)) (by (simp [maxLen, -List.length_flatMap]; try omega)) ?_ rfl
  intro v8 w44 x45 S
  have B := B.trans x45
  clear hR
  refine t_assign rfl ?_ rfl
  refine t_done ?_
  refine x_seq ?_
  refine w_seq ?_
  refine w_seq ?_
  refine w_region ?_
  refine t_move rfl ?_ rfl
  have S := S.f1
  refine t_callf Try.call64 rfl (spec_l1Below 6 S (K.below B)) ?_ rfl
  rintro e w46 ⟨y10, rfl, hf10, S, x47⟩
  refine ⟨_, rfl, ?_⟩
  have B := B.trans x47
  refine t_done ?_
  refine x_seq ?_
  refine w_block ?_
  refine w_seq ?_
  refine w_region ?_
  refine t_eql rfl rfl ?_ rfl
  refine t_assign rfl ?_ rfl
  refine t_done ?_
  refine x_seq ?_
  simp only [List.nil_append] at S
  refine w_if rfl ?_ ?_
  · intro h0
    refine w_seq ?_
    refine w_region ?_
    refine t_move rfl ?_ rfl
    refine t_len e_byte (S.tail.sl) rfl rfl ?_ rfl
    refine t_gtr rfl rfl ?_ rfl
    refine t_done ?_
    refine x_seq ?_
    refine w_if rfl ?_ ?_
    · intro h1
      have S := S.f1
      obtain ⟨Gv8, Cv8, rfl⟩ := S.addr (by omega)
      refine w_region ?_
      refine t_move rfl ?_ rfl
      refine t_move rfl ?_ rfl
      refine t_move rfl ?_ rfl
      refine t_lenx e_byte rfl rfl ?_ rfl
      have S := S.f1
      refine t_callf Try.call64 rfl (spec_l1Below (l.length : Int) S (K.below B)) ?_ rfl
      rintro e w48 ⟨y20, rfl, hf20, S, x49⟩
      refine ⟨_, rfl, ?_⟩
      have B := B.trans x49
      refine t_move rfl ?_ rfl
      refine t_callf Try.call64 rfl (spec_l1Below 256 S (K.below B)) ?_ rfl
      rintro e w50 ⟨y22, rfl, hf22, S, x51⟩
      refine ⟨_, rfl, ?_⟩
      have B := B.trans x51
      refine t_conv Try.underlying3 Try.underlying5 rfl ?_ rfl
      refine t_idxx e_byte (k := y20.toNat) rfl rfl (by first | rfl | omega) (by omega) rfl ?_ rfl
      obtain ⟨e0, he0⟩ := getx (l := l) (k := y20.toNat) (by omega)
      have S := S.f1
      refine t_stS (T := byteT) (j := 0) (x' := bt y22) S (by first | rfl | ((try simp only [List.length_set]); first | omega | simp)) sb_byte rfl rfl he0 rfl (by decide) rfl rfl so_byte ?_
      intro w52 b53 S
      have B := B.trans b53
      have hq54 := set_at (y := bt y22) he0
      refine t_done ?_
      refine x_block_normal ?_
      refine x_seq ?_
      refine w_seq ?_
      refine w_region ?_
      refine t_move rfl ?_ rfl
      refine t_assign rfl ?_ rfl
      refine t_done ?_
      refine x_seq ?_
      refine w_ret ?_
      refine x_ret1 rfl rfl ?_
      have S := S.toRd (fun _ h => h)
      have S := S.f2
      have S := S.f2
      have S := S.f2
      exact ⟨_, _, rfl, by rw [List.length_set]; omega, S, B⟩
    · intro h1
      refine w_skip ?_
      refine x_block_normal ?_
      refine x_seq ?_
      refine w_seq ?_
      refine w_region ?_
      refine t_move rfl ?_ rfl
      refine t_assign rfl ?_ rfl
      refine t_done ?_
      refine x_seq ?_
      refine w_ret ?_
      refine x_ret1 rfl rfl ?_
      have S := S.f1
      have S := S.toRd (fun _ h => h)
      have S := S.f2
      have S := S.f2
      have S := S.f2
      exact ⟨_, l, rfl, by omega, S, B⟩
  · intro h0
    refine w_seq ?_
    refine w_region ?_
    refine t_eql rfl rfl ?_ rfl
    refine t_assign rfl ?_ rfl
    refine t_done ?_
    refine x_seq ?_
    refine w_if rfl ?_ ?_
    · intro h1
      refine w_region ?_
      refine t_move rfl ?_ rfl
      refine t_move rfl ?_ rfl
      refine t_move rfl ?_ rfl
      refine t_len e_byte (S.tail.sl) rfl rfl ?_ rfl
      refine t_add rfl rfl (by omega) ?_ rfl
      refine t_callf Try.call64 rfl (spec_l1Below ((l.length : Int) + 1) S (K.below B)) ?_ rfl
      rintro e w55 ⟨y32, rfl, hf32, S, x56⟩
      refine ⟨_, rfl, ?_⟩
      have B := B.trans x56
      obtain ⟨Av8, cv8, rfl, _⟩ := S.tail.sl.form
      refine t_sltv e_byte (k := y32.toNat) rfl rfl (by first | rfl | omega) (by omega) ?_ rfl
      refine t_assign rfl ?_ rfl
      refine t_done ?_
      refine x_block_normal ?_
      refine x_seq ?_
      refine w_seq ?_
      refine w_region ?_
      refine t_move rfl ?_ rfl
      refine t_assign rfl ?_ rfl
      refine t_done ?_
      refine x_seq ?_
      refine w_ret ?_
      refine x_ret1 rfl rfl ?_
      have S := S.f1
      have S := S.toRd (fun _ h => SlR.takeV (k := y32.toNat) h (by omega))
      have S := S.f2
      have S := S.f2
      have S := S.f2
      exact ⟨_, l.take y32.toNat, rfl, by rw [List.length_take]; omega, S, B⟩
    · intro h1
      refine w_seq ?_
      refine w_region ?_
      refine t_eql rfl rfl ?_ rfl
      refine t_assign rfl ?_ rfl
      refine t_done ?_
      refine x_seq ?_
      refine w_if rfl ?_ ?_
      · intro h2
        refine w_region ?_
        refine t_move rfl ?_ rfl
        refine t_move rfl ?_ rfl
        refine t_lit (T := intT) (l := [0, 1, 128, 255]) (css := ([0, 1, 128, 255]).map fun a => [I a]) int_flat S (fun w => bs_int4 _ _ _ _ w) rfl rfl rfl rfl (by simp [maxLen]) (litR_int _) ?_ rfl rfl
        intro u38 w57 x58 S
        have B := bx Hb B x58
        have S := S.f1
        refine t_callf Try.call79 rfl (spec_l1Int S (K.below B) (by simp)) ?_ rfl
        rintro e w59 ⟨y39, rfl, hf39, S, x60⟩
        refine ⟨_, rfl, ?_⟩
        have B := B.trans x60
        refine t_conv Try.underlying3 Try.underlying5 rfl ?_ rfl
        refine t_lit (T := byteT) (l := [bt y39]) (css := [[.int .u8 (IntKind.u8.wrap y39)]]) byte_flat S (fun w => bs_byte1 _ w) rfl rfl rfl rfl (by simp [maxLen]) (litR_one fun _ => byte_lit _) ?_ rfl rfl
        intro u41 w61 x62 S
        have B := bx Hb B x62
        have hR := S.sl
        have S := S.f3
        refine t_cat byte_flat e_byte S hR rfl rfl rfl (by first | omega | (simp [-List.length_flatMap]; omega)) (by (simp [maxLen, -List.length_flatMap]; try omega)) ?_ rfl
        intro v42 w63 x64 S
        have B := B.trans x64
        clear hR
        have S := S.f1
        have S := S.tail
        refine t_assign rfl ?_ rfl
        refine t_done ?_
        refine x_block_normal ?_
        refine x_seq ?_
        refine w_seq ?_
        refine w_region ?_
        refine t_move rfl ?_ rfl
        refine t_assign rfl ?_ rfl
        refine t_done ?_
        refine x_seq ?_
        refine w_ret ?_
        refine x_ret1 rfl rfl ?_
        have S := S.toRd (fun _ h => h)
        have S := S.f2
        have S := S.tail
        have S := S.f2
        have S := S.f2
        have S := S.f2
        exact ⟨_, _, rfl, by rw [List.length_append, List.length_singleton]; omega, S, B⟩
      · intro h2
        refine w_skip ?_
        refine x_block_normal ?_
        refine x_seq ?_
        refine w_seq ?_
        refine w_region ?_
        refine t_move rfl ?_ rfl
        refine t_assign rfl ?_ rfl
        refine t_done ?_
        refine x_seq ?_
        refine w_ret ?_
        refine x_ret1 rfl rfl ?_
        have S := S.f1
        have S := S.toRd (fun _ h => h)
        have S := S.f2
        have S := S.f2
        have S := S.f2
        exact ⟨_, l, rfl, by omega, S, B⟩
end Go.Proofs.Ytdaecknfahgddaa
namespace Go.Proofs.Ytdaecknfahgddaa
open Go.RowKit
set_option linter.unusedVariables false
set_option maxRecDepth 20000
def hop0 : Hop := ⟨0, 0, 0, 0, 0⟩
def readHop (b : List UInt8) (i : Int) : Option (Hop × Nat) := match decI b i 5 with
  | none => none
  | some (l, j) => if validHop (hopAt l 0) then some (hopAt l 0, j) else none
def rh3 : Option (Hop × Nat) → Hop × Int × Bool
  | none => (hop0, 0, false)
  | some (h, j) => (h, j, true)
def rhK (b : List UInt8) : Nat → Int → List Hop → Option (List Hop × Int)
  | 0, i, acc => some (acc, i)
  | n + 1, i, acc => match readHop b i with
    | none => none
    | some (h, j) => rhK b n j (acc ++ [h])
def rhs3 : Option (List Hop × Int) → List Hop × Int × Bool
  | none => ([], 0, false)
  | some (l, j) => (l, j, true)
def readHs (b : List UInt8) (i n : Int) : Option (List Hop × Int) := if 8 < n then none else rhK b n.toNat i []
theorem decI_at {b : List UInt8} {i n : Int} (h0 : 0 ≤ i) (h1 : i ≤ b.length) (h2 : 0 ≤ n) (h3 : n ≤ 100) : decI b i n = decA b n.toNat i.toNat [] := by
  rw [decI, inR_iff.2 ⟨h2, h3⟩, inR_iff.2 ⟨h0, h1⟩]; rfl
theorem readHop_no {b : List UInt8} {i : Int} (h : decI b i 5 = none) : readHop b i = none := by rw [readHop, h]
theorem readHop_bad {b : List UInt8} {i : Int} {l : List Int} {j : Nat} (h : decI b i 5 = some (l, j)) (hv : validHop (hopAt l 0) = false) : readHop b i = none := by rw [readHop, h]; simp only [hv]; rfl
theorem readHop_yes {b : List UInt8} {i : Int} {l : List Int} {j : Nat} (h : decI b i 5 = some (l, j)) (hv : validHop (hopAt l 0) = true) : readHop b i = some (hopAt l 0, j) := by rw [readHop, h]; simp only [hv]; rfl
theorem rhK_eq {b : List UInt8} : ∀ (n : Nat) (i : Nat) (acc : List Hop), i ≤ b.length → rhK b n i acc = match decA b (5 * n) i [] with
    | none => none
    | some (l, j) => if (hopsAt l 0 n).all validHop then some (acc ++ hopsAt l 0 n, (j : Int)) else none
  | 0, i, acc, hi => by simp [rhK, decA, hopsAt_zero]
  | n + 1, i, acc, hi => by
    have h5 : decI b (i : Int) 5 = decA b 5 i [] := decI_at (by omega) (by omega) (by omega) (by omega)
    rw [show 5 * (n + 1) = 5 + 5 * n by omega, decA_add, rhK]
    cases hd : decA b 5 i [] with
    | none => rw [readHop_no (h5.trans hd)]
    | some r =>
      obtain ⟨l5, j⟩ := r
      have ho := decA_out hd (fun x hx => by cases hx) hi
      have hl5 : l5.length = 5 := by simpa using ho.1
      have hj : j ≤ b.length := ho.2.2.2
      have hpre := decA_pre (b := b) (5 * n) j l5
      simp only
      rw [hpre]
      cases hv : validHop (hopAt l5 0) with
      | false =>
        rw [readHop_bad (h5.trans hd) hv]
        cases hd2 : decA b (5 * n) j [] with
        | none => rfl
        | some r =>
          obtain ⟨l, j2⟩ := r
          have e1 : hopAt (l5 ++ l) 0 = hopAt l5 0 := by
            unfold hopAt
            simp only [gI_left (a := l5) (b := l) (i := 0) (by omega), gI_left (a := l5) (b := l) (i := 0 + 1) (by omega), gI_left (a := l5) (b := l) (i := 0 + 2) (by omega), gI_left (a := l5) (b := l) (i := 0 + 3) (by omega), gI_left (a := l5) (b := l) (i := 0 + 4) (by omega)]
          simp [hopsAt_cons, e1, hv]
      | true =>
        rw [readHop_yes (h5.trans hd) hv]
        simp only
        rw [rhK_eq n j _ hj]
        cases hd2 : decA b (5 * n) j [] with
        | none => rfl
        | some r =>
          obtain ⟨l, j2⟩ := r
          have e1 : hopAt (l5 ++ l) 0 = hopAt l5 0 := by
            unfold hopAt
            simp only [gI_left (a := l5) (b := l) (i := 0) (by omega), gI_left (a := l5) (b := l) (i := 0 + 1) (by omega), gI_left (a := l5) (b := l) (i := 0 + 2) (by omega), gI_left (a := l5) (b := l) (i := 0 + 3) (by omega), gI_left (a := l5) (b := l) (i := 0 + 4) (by omega)]
          have e2 : hopsAt (l5 ++ l) (0 + 5) n = hopsAt l 0 n := by
            have := hopsAt_app (a := l5) (b := l) (i := 0) (n := n)
            rw [hl5] at this
            rw [show 0 + 5 = 5 + 0 by omega]
            exact this
          simp [hopsAt_cons, e1, e2, hv]
theorem rh_out {b : List UInt8} {i : Int} {h : Hop} {j : Int} {ok : Bool} (hr : rh3 (readHop b i) = (h, j, ok)) (hok : (!ok) = false) : readHop b i = some (h, j.toNat) ∧ i ≤ j ∧ j ≤ b.length ∧ 0 ≤ j ∧ rng_hop h := by
  cases ok
  · cases hok
  · unfold readHop at hr ⊢
    cases hd : decI b i 5 with
    | none => rw [hd] at hr; cases hr
    | some r =>
      obtain ⟨l, m⟩ := r
      have ho := decI_out hd
      rw [hd] at hr
      simp only at hr ⊢
      cases hv : validHop (hopAt l 0) with
      | false => rw [hv] at hr; cases hr
      | true =>
        rw [hv] at hr
        cases hr
        have hi : ∀ x ∈ l, In64 x := fun x hx => by
          have := ho.2.1 x hx
          unfold In64; omega
        exact ⟨rfl, ho.2.2.1, by have := ho.2.2.2; show (m : Int) ≤ _; omega, Int.natCast_nonneg m, gI_in hi _, gI_in hi _, gI_in hi _, gI_in hi _, gI_in hi _⟩
theorem rh_no {b : List UInt8} {i : Int} {h : Hop} {j : Int} {ok : Bool} (hr : rh3 (readHop b i) = (h, j, ok)) (hok : (!ok) = true) : readHop b i = none := by
  cases ok
  · cases ho : readHop b i with
    | none => rfl
    | some r => rw [ho] at hr; cases hr
  · cases hok
theorem impl_ReadHop (b : List UInt8) (v : Value) (i : Int) {h0 : Hop} {j0 : Int} {ok0 : Bool} (w : World) (h : SlR byteT w v b) (hz : b.length ≤ 1048576) (hr : rh3 (readHop b i) = (h0, j0, ok0)) : Calls Try.prog 115 #[v, I i] w fun e w' => e = .returned (.tuple #[.agg #[I h0.ia, I h0.ing, I h0.eg, I h0.exp, I h0.mac], I j0, .bool ok0]) ∧ Below w.heap.size w w' := by
  obtain ⟨l1, j1, ok1, hr1⟩ : ∃ l j ok, dec3 (decI b i 5) = (l, j, ok) := ⟨_, _, _, rfl⟩
  have X0 := Below.refl w.heap.size w
  refine enter Try.func115 rfl Try.ntmps115 rfl ?_
  refine w_seq ?_
  refine w_region ?_
  have S := Sep.nil w
  have B := Below.refl w.heap.size w
  have Hb := Nat.le_refl w.heap.size
  refine t_alloc S z_hop rfl ?_ rfl rfl
  intro g4 w1 x2 S
  have B := bx Hb B x2
  refine t_assign rfl ?_ rfl
  refine t_assign rfl ?_ rfl
  refine t_done ?_
  refine x_seq ?_
  refine w_seq ?_
  refine w_region ?_
  refine t_move rfl ?_ rfl
  refine t_move rfl ?_ rfl
  refine t_call Try.call81 rfl (impl_DecodeInts _ _ _ _ _ (by first | assumption | exact SlR.below (by assumption) B) (by omega) hr1) ?_ rfl rfl
  rintro e w3 ⟨v14, fpv14, rfl, hOv14, x4⟩
  refine ⟨_, rfl, x4, ?_⟩
  have S := S.add (o := slO _ _ _ _) x4 hOv14
  have B := bx Hb B x4
  refine t_move rfl ?_ rfl
  refine t_extract rfl rfl ?_ rfl
  refine t_extract rfl rfl ?_ rfl
  refine t_extract rfl rfl ?_ rfl
  refine t_assign rfl ?_ rfl
  refine t_assign rfl ?_ rfl
  refine t_assign rfl ?_ rfl
  refine t_done ?_
  refine x_seq ?_
  refine w_seq ?_
  refine w_seq ?_
  refine w_region ?_
  refine t_move rfl ?_ rfl
  refine t_notb rfl ?_ rfl
  refine t_done ?_
  refine x_seq ?_
  refine w_ifb rfl ?_ ?_
  · intro hno
    refine w_seq ?_
    refine w_region ?_
    refine t_build (fun w => b_hop0 w) rfl ?_ rfl
    have S := S.f1
    refine t_stn S sb_hop rfl rfl rfl rfl (by simp [Value.oneCell']) ?_
    intro w5 b6 S
    have B := B.trans b6
    refine t_assign rfl ?_ rfl
    refine t_assign rfl ?_ rfl
    refine t_done ?_
    refine x_seq ?_
    refine w_ret ?_
    refine x_then_ret ?_
    refine x_retctt rfl rfl S.box ab_hop sb_hop rfl rfl rfl ?_
    rw [readHop_no (dec_no hr1 hno)] at hr
    cases hr
    exact ⟨rfl, ext_trans X0 B⟩
  intro hyes
  obtain ⟨hy1, hy2, hy3, hy4, hy5, hy6⟩ := dec_yes hr1 hyes
  have hl5 : l1.length = 5 := by simpa using hy2
  refine w_skip ?_
  refine x_seq ?_
  refine w_seq ?_
  refine w_draw (.st .take 0 (.st .take 1 (.st .take 2 (.st .take 3 (.st .take 4 (.st .take 5 (.st .take 6 (.st .take 7 (.st .take 8 (.st .take 9 (.st .take 10 (.st .take 11 (.st .take 12 (.st .take 13 (.st .take 14 (.st .take 15 (.st .run 16 (.st .fin 17 .done)))))))))))))))))) mixed (by kernel_rfl) ?_
  intro w7 x8
  have B := bx Hb B x8
  have S := S.below x8
  refine t_move rfl ?_ rfl
  obtain ⟨e22, he22⟩ : ∃ e, (l1)[0]? = some e := getx (by omega)
  refine t_idx e_int (k := 0) (S.sl) he22 (Below.refl _ _) rfl rfl (by first | rfl | omega) ?_ rfl
  intro p22 hp22
  refine t_ldi (by assumption) ab_int (Below.refl _ _) rfl ?_ rfl
  refine t_move rfl ?_ rfl
  obtain ⟨e25, he25⟩ : ∃ e, (l1)[1]? = some e := getx (by omega)
  refine t_idx e_int (k := 1) (S.sl) he25 (Below.refl _ _) rfl rfl (by first | rfl | omega) ?_ rfl
  intro p25 hp25
  refine t_ldi (by assumption) ab_int (Below.refl _ _) rfl ?_ rfl
  refine t_move rfl ?_ rfl
  obtain ⟨e28, he28⟩ : ∃ e, (l1)[2]? = some e := getx (by omega)
  refine t_idx e_int (k := 2) (S.sl) he28 (Below.refl _ _) rfl rfl (by first | rfl | omega) ?_ rfl
  intro p28 hp28
  refine t_ldi (by assumption) ab_int (Below.refl _ _) rfl ?_ rfl
  refine t_move rfl ?_ rfl
  obtain ⟨e31, he31⟩ : ∃ e, (l1)[3]? = some e := getx (by omega)
  refine t_idx e_int (k := 3) (S.sl) he31 (Below.refl _ _) rfl rfl (by first | rfl | omega) ?_ rfl
  intro p31 hp31
  refine t_ldi (by assumption) ab_int (Below.refl _ _) rfl ?_ rfl
  refine t_move rfl ?_ rfl
  obtain ⟨e34, he34⟩ : ∃ e, (l1)[4]? = some e := getx (by omega)
  refine t_idx e_int (k := 4) (S.sl) he34 (Below.refl _ _) rfl rfl (by first | rfl | omega) ?_ rfl
  intro p34 hp34
  refine t_ldi (by assumption) ab_int (Below.refl _ _) rfl ?_ rfl
  refine t_build (fun w => b_hop _ _ _ _ _ w) rfl ?_ rfl
  refine t_alloc S z_hop rfl ?_ rfl rfl
  intro g10 w9 x10 S
  have B := bx Hb B x10
  refine t_stn S sb_hop rfl rfl rfl rfl (by simp [Value.oneCell']) ?_
  intro w11 b12 S
  have B := B.trans b12
  refine t_done' ?_
  refine x_seq ?_
  refine w_seq ?_
  refine w_seq ?_
  refine w_region ?_
  refine t_bxn S.box ab_hop sb_hop rfl rfl ?_ rfl
  refine t_callx Try.call114 rfl (impl_ValidHop (⟨e22, e25, e28, e31, e34⟩) _) ?_ rfl rfl
  intro w13 x14
  have B := bx Hb B x14
  have S := S.below x14
  refine t_notb rfl ?_ rfl
  refine t_done ?_
  refine x_seq ?_
  have hh : hopAt l1 0 = ⟨e22, e25, e28, e31, e34⟩ := by
    unfold hopAt
    rw [gI_eq he22, gI_eq he25, gI_eq he28, gI_eq he31, gI_eq he34]
  refine w_ifb rfl ?_ ?_
  · intro hbad
    refine w_seq ?_
    refine w_region ?_
    refine t_build (fun w => b_hop0 w) rfl ?_ rfl
    have S := S.f2
    refine t_stn S sb_hop rfl rfl rfl rfl (by simp [Value.oneCell']) ?_
    intro w15 b16 S
    have B := B.trans b16
    refine t_assign rfl ?_ rfl
    refine t_assign rfl ?_ rfl
    refine t_done ?_
    refine x_seq ?_
    refine w_ret ?_
    refine x_then_ret ?_
    refine x_retctt rfl rfl S.box ab_hop sb_hop rfl rfl rfl ?_
    rw [readHop_bad hy1 (by rw [hh]; simpa using hbad)] at hr
    cases hr
    exact ⟨rfl, ext_trans X0 B⟩
  · intro hgood
    refine w_skip ?_
    refine x_seq ?_
    refine w_seq ?_
    refine w_region ?_
    refine t_bxn S.box ab_hop sb_hop rfl rfl ?_ rfl
    refine t_move rfl ?_ rfl
    have S := S.f2
    refine t_stn S sb_hop rfl rfl rfl rfl (by simp [Value.oneCell']) ?_
    intro w17 b18 S
    have B := B.trans b18
    refine t_assign rfl ?_ rfl
    refine t_assign rfl ?_ rfl
    refine t_done ?_
    refine x_seq ?_
    refine w_ret ?_
    refine x_retctt rfl rfl S.box ab_hop sb_hop rfl rfl rfl ?_
    rw [readHop_yes hy1 (by rw [hh]; simpa using hgood), hh] at hr
    have e0 : (h0, j0, ok0) = (⟨e22, e25, e28, e31, e34⟩, j1, true) := by rw [← hr]; simp only [rh3]; congr 2; omega
    cases e0
    exact ⟨rfl, ext_trans X0 B⟩
theorem impl_readHops (b : List UInt8) (v : Value) (i n : Int) {l0 : List Hop} {j0 : Int} {ok0 : Bool} (w : World) (h : SlR byteT w v b) (hz : b.length ≤ 1048576) (hi : 0 ≤ i ∧ i ≤ b.length) (hn : 0 ≤ n) (hr : rhs3 (readHs b i n) = (l0, j0, ok0)) : Calls Try.prog 82 #[v, I i, I n] w fun e w' => ∃ v fp, e = .returned (.tuple #[v, I j0, .bool ok0]) ∧ SlO hopT 74 w.heap.size w' v l0 fp ∧ Below w.heap.size w w' := by
  have X0 := Below.refl w.heap.size w
  refine enter Try.func82 rfl Try.ntmps82 rfl ?_
  refine w_seq ?_
  refine w_region ?_
  have S := Sep.nil w
  have B := Below.refl w.heap.size w
  have Hb := Nat.le_refl w.heap.size
  refine t_assign rfl ?_ rfl
  refine t_assign rfl ?_ rfl
  refine t_assign rfl ?_ rfl
  refine t_done ?_
  refine x_seq ?_
  refine w_seq ?_
  refine w_region ?_
  refine t_assign rfl ?_ rfl
  refine t_done ?_
  refine x_seq ?_
  refine w_seq ?_
  refine w_seq ?_
  refine w_region ?_
  refine t_move rfl ?_ rfl
  refine t_gtr rfl rfl ?_ rfl
  refine t_done ?_
  refine x_seq ?_
  refine w_if rfl ?_ ?_
  · intro h8
    refine w_seq ?_
    refine w_region ?_
    refine t_assign rfl ?_ rfl
    refine t_assign rfl ?_ rfl
    refine t_assign rfl ?_ rfl
    refine t_done ?_
    refine x_seq ?_
    refine w_ret ?_
    refine x_then_ret ?_
    refine x_ret3 rfl rfl rfl rfl ?_
    rw [readHs, if_pos h8] at hr
    cases hr
    obtain ⟨fp, hO⟩ := (S.addNil.mono X0.size).head
    exact ⟨_, fp, rfl, hO, ext_trans X0 B⟩
  intro h8
  rw [readHs, if_neg h8] at hr
  refine w_skip ?_
  refine x_seq ?_
  refine w_seq ?_
  refine w_seq ?_
  refine w_region ?_
  refine t_assign rfl ?_ rfl
  refine t_done ?_
  refine x_seq ?_
  refine w_block ?_
  refine w_loop (X := Nat × Int × List Hop × Value) (fun x wq => (fun k q acc u => k ≤ n.toNat ∧ (0 : Int) ≤ q ∧ q ≤ b.length ∧ acc.length = k ∧ rhK b (n.toNat - k) q acc = rhK b n.toNat i [] ∧ Below w.heap.size w wq ∧ Sep w.heap.size wq [slO hopT 74 u acc]) x.1 x.2.1 x.2.2.1 x.2.2.2) (fun x => (fun k q acc u => [(10, I ((k : Int))), (1, I q), (9, u), (0, v), (2, I n)]) x.1 x.2.1 x.2.2.1 x.2.2.2) (fun x => (fun k q acc u => n.toNat - k) x.1 x.2.1 x.2.2.1 x.2.2.2) (0, i, [], .slice none 0 0) ?_ ⟨rfl, rfl, rfl, rfl, rfl, trivial⟩ ?_
  · exact ⟨by omega, hi.1, hi.2, rfl, rfl, B, S.addNil⟩
  · rintro ⟨k, q, acc, u⟩ w19 hI
    try dsimp only at hI ⊢
    obtain ⟨hk, hq0, hq1, hal, hq, B, S⟩ := hI
    refine w_seq ?_
    refine w_seq ?_
    refine w_region ?_
    refine t_move rfl ?_ rfl
    refine t_move rfl ?_ rfl
    refine t_lss rfl rfl ?_ rfl
    refine t_done ?_
    refine x_seq ?_
    refine w_if rfl ?_ ?_
    · intro hlt
      have hf : n.toNat - k = (n.toNat - (k + 1)) + 1 := by omega
      rw [hf, rhK] at hq
      obtain ⟨x1, j1, ok1, hr1⟩ : ∃ x j ok, rh3 (readHop b q) = (x, j, ok) := ⟨_, _, _, rfl⟩
      refine w_skip ?_
      refine x_seq ?_
      refine w_seq ?_
      refine w_block ?_
      refine w_seq ?_
      refine w_region ?_
      refine t_move rfl ?_ rfl
      refine t_move rfl ?_ rfl
      refine t_callx Try.call115 rfl (impl_ReadHop _ _ _ _ (by first | assumption | exact SlR.below (by assumption) B) (by omega) hr1) ?_ rfl rfl
      intro w20 x21
      have B := bx Hb B x21
      have S := S.below x21
      refine t_move rfl ?_ rfl
      refine t_extract rfl rfl ?_ rfl
      refine t_extract rfl rfl ?_ rfl
      refine t_extract rfl rfl ?_ rfl
      refine t_alloc S z_hop rfl ?_ rfl rfl
      intro g11 w22 x23 S
      have B := bx Hb B x23
      refine t_stn S sb_hop rfl rfl rfl rfl (by simp [Value.oneCell']) ?_
      intro w24 b25 S
      have B := B.trans b25
      refine t_assign rfl ?_ rfl
      refine t_assign rfl ?_ rfl
      refine t_done ?_
      refine x_seq ?_
      refine w_seq ?_
      refine w_seq ?_
      refine w_region ?_
      refine t_move rfl ?_ rfl
      refine t_notb rfl ?_ rfl
      refine t_done ?_
      refine x_seq ?_
      refine w_ifb rfl ?_ ?_
      · intro hno
        refine w_seq ?_
        refine w_region ?_
        refine t_assign rfl ?_ rfl
        refine t_assign rfl ?_ rfl
        refine t_assign rfl ?_ rfl
        refine t_done ?_
        refine x_seq ?_
        refine w_ret ?_
        refine x_then_ret ?_
        refine x_block_ret ?_
        refine x_then_ret ?_
        refine x_then_ret ?_
        refine x_block_ret ?_
        refine x_then_ret ?_
        refine x_ret3 rfl rfl rfl rfl ?_
        rw [rh_no hr1 hno] at hq
        rw [← hq] at hr
        cases hr
        obtain ⟨fp, hO⟩ := (S.tail.addNil.mono X0.size).head
        exact ⟨_, fp, rfl, hO, ext_trans X0 B⟩
      · intro hyes
        obtain ⟨hy1, hy2, hy3, hy4, hy5⟩ := rh_out hr1 hyes
        rw [hy1] at hq
        simp only [Int.toNat_of_nonneg hy4] at hq
        refine w_skip ?_
        refine x_seq ?_
        refine w_seq ?_
        refine w_region ?_
        refine t_move rfl ?_ rfl
        refine t_bxn S.box ab_hop sb_hop rfl rfl ?_ rfl
        refine t_lit (T := hopT) (l := [(x1 : Hop)]) (css := [[I x1.ia, I x1.ing, I x1.eg, I x1.exp, I x1.mac]]) hop_flat S (fun w => bs_hop1 _ _ _ _ _ w) rfl rfl rfl rfl (by simp [maxLen]) (litR_one fun _ => rfl) ?_ rfl rfl
        intro u32 w26 x27 S
        have B := bx Hb B x27
        have hR := S.sl
        have S := S.f2
        refine t_cat hop_flat e_hop S hR rfl rfl rfl (by first | omega | (simp [-List.length_flatMap]; omega)) (by (simp [maxLen, -List.length_flatMap]; try omega)) ?_ rfl
        intro v33 w28 x29 S
        have B := B.trans x29
        clear hR
        have S := S.f1
        have S := S.tail
        refine t_assign rfl ?_ rfl
        refine t_done ?_
        refine x_seq ?_
        refine w_region ?_
        refine t_move rfl ?_ rfl
        refine t_assign rfl ?_ rfl
        refine t_done ?_
        refine x_block_normal ?_
        refine x_seq ?_
        refine w_region ?_
        refine t_move rfl ?_ rfl
        refine t_add rfl rfl (by omega) ?_ rfl
        refine t_assign rfl ?_ rfl
        refine t_done ?_
        have S := S.f1
        have S := S.tail
        refine x_round (X := Nat × Int × List Hop × Value) (I := (fun x wq => (fun k q acc u => k ≤ n.toNat ∧ (0 : Int) ≤ q ∧ q ≤ b.length ∧ acc.length = k ∧ rhK b (n.toNat - k) q acc = rhK b n.toNat i [] ∧ Below w.heap.size w wq ∧ Sep w.heap.size wq [slO hopT 74 u acc]) x.1 x.2.1 x.2.2.1 x.2.2.2)) (F := (fun x => (fun k q acc u => [(10, I ((k : Int))), (1, I q), (9, u), (0, v), (2, I n)]) x.1 x.2.1 x.2.2.1 x.2.2.2)) (μ := (fun x => (fun k q acc u => n.toNat - k) x.1 x.2.1 x.2.2.1 x.2.2.2)) (k + 1, j1, acc ++ [x1], v33) ?_ (by exact ⟨rfl, rfl, rfl, rfl, rfl, trivial⟩) (by (try dsimp only); omega)
        try dsimp only
        exact ⟨by omega, by omega, by omega, by rw [List.length_append, hal]; rfl, hq, B, S⟩
    · intro hge
      refine w_exit ?_
      refine x_then_exit ?_
      refine x_then_exit ?_
      refine x_block_exit ?_
      refine x_seq ?_
      refine w_seq ?_
      refine w_region ?_
      refine t_move rfl ?_ rfl
      refine t_move rfl ?_ rfl
      refine t_assign rfl ?_ rfl
      refine t_assign rfl ?_ rfl
      refine t_assign rfl ?_ rfl
      refine t_done ?_
      refine x_seq ?_
      refine w_ret ?_
      refine x_ret3 rfl rfl rfl rfl ?_
      have : n.toNat - k = 0 := by omega
      rw [this] at hq
      rw [← hq] at hr
      cases hr
      obtain ⟨fp, hO⟩ := (S.mono X0.size).head
      exact ⟨_, fp, rfl, hO, ext_trans X0 B⟩
theorem rhs_no {o : Option (List Hop × Int)} {l : List Hop} {j : Int} {ok : Bool} (hr : rhs3 o = (l, j, ok)) (hok : (!ok) = true) : o = none := by
  cases ok
  · cases o with
    | none => rfl
    | some r => cases hr
  · cases hok
theorem rhs_yes {o : Option (List Hop × Int)} {l : List Hop} {j : Int} {ok : Bool} (hr : rhs3 o = (l, j, ok)) (hok : (!ok) = false) : o = some (l, j) := by
  cases ok
  · cases hok
  · cases o with
    | none => cases hr
    | some r => cases hr; rfl
theorem readHs_eq {b : List UInt8} {j : Nat} {n : Int} (hj : j ≤ b.length) (h8 : n ≤ 8) : readHs b j n = match decA b (5 * n.toNat) j [] with
    | none => none
    | some (l, m) => if (hopsAt l 0 n.toNat).all validHop then some (hopsAt l 0 n.toNat, (m : Int)) else none := by
  rw [readHs, if_neg (by omega), rhK_eq _ _ _ hj]
  cases decA b (5 * n.toNat) j [] with
  | none => rfl
  | some r => rfl
theorem hopsAt_in {l : List Int} (h : ∀ x ∈ l, In64 x) (i n : Nat) : ∀ x ∈ hopsAt l i n, rng_hop x := by
  intro x hx
  obtain ⟨j, _, rfl⟩ := List.mem_map.1 hx
  exact ⟨gI_in h _, gI_in h _, gI_in h _, gI_in h _, gI_in h _⟩
theorem rp_yes {b : List UInt8} {n i j : Nat} {acc : Path} {h : List Int} {hs : List Hop} {j2 : Int} (hd : decA b 4 i [] = some (h, j)) (hj : j ≤ b.length) (hr : readHs b j (gI h 3) = some (hs, j2)) :
    rpK b (n + 1) i acc = rpK b n j2.toNat (acc ++ [⟨gI h 0, gI h 1, gI h 2, hs⟩]) ∧ 0 ≤ j2 ∧ j2 ≤ b.length ∧ hs.length ≤ 8 ∧ ∀ x ∈ hs, rng_hop x := by
  by_cases h8 : 8 < gI h 3
  · rw [readHs, if_pos h8] at hr; cases hr
  · rw [readHs_eq hj (by omega)] at hr
    cases hd2 : decA b (5 * (gI h 3).toNat) j [] with
    | none => rw [hd2] at hr; cases hr
    | some r =>
      obtain ⟨l, m⟩ := r
      have ho := decA_out hd2 (fun x hx => by cases hx) hj
      have hin : ∀ x ∈ l, In64 x := fun x hx => by
        have := ho.2.1 x hx
        unfold In64; omega
      rw [hd2] at hr
      simp only at hr
      cases hv : (hopsAt l 0 (gI h 3).toNat).all validHop with
      | false => rw [hv] at hr; cases hr
      | true =>
        rw [hv] at hr
        cases hr
        rw [rpK, hd]
        simp only [if_neg h8, hd2]
        exact ⟨rfl, Int.natCast_nonneg _, by have := ho.2.2.2; show (m : Int) ≤ _; omega, by rw [hopsAt_len]; omega, hopsAt_in hin _ _⟩
theorem rp_no {b : List UInt8} {n i j : Nat} {acc : Path} {h : List Int} (hd : decA b 4 i [] = some (h, j)) (hj : j ≤ b.length) (hr : readHs b j (gI h 3) = none) : rpK b (n + 1) i acc = none := by
  rw [rpK, hd]
  by_cases h8 : 8 < gI h 3
  · simp only [if_pos h8]
  · simp only [if_neg h8]
    rw [readHs_eq hj (by omega)] at hr
    cases hd2 : decA b (5 * (gI h 3).toNat) j [] with
    | none => rfl
    | some r =>
      obtain ⟨l, m⟩ := r
      rw [hd2] at hr
      simp only at hr ⊢
      cases hv : (hopsAt l 0 (gI h 3).toNat).all validHop with
      | true => rw [hv] at hr; cases hr
      | false =>
        refine rpK_spoilt _ _ _ ?_
        cases he : encPath (acc ++ [partOfI h l]) with
        | false => rfl
        | true =>
          exfalso
          unfold encPath at he
          simp only [Bool.and_eq_true, List.all_append, List.all_cons, List.all_nil, Bool.and_true] at he
          have h1 := he.2.2
          unfold encPart encHops at h1
          simp only [Bool.and_eq_true] at h1
          have h2 : (partOfI h l).hops = hopsAt l 0 (gI h 3).toNat := rfl
          rw [h2, hv] at h1
          exact absurd h1.2.2.2 (by decide)
theorem rp_none {b : List UInt8} {n i : Nat} {acc : Path} (hd : decA b 4 i [] = none) : rpK b (n + 1) i acc = none := by rw [rpK, hd]
theorem rp_end {b : List UInt8} {i : Nat} {acc : Path} : rpK b 0 i acc = if encPath acc then some (acc, i) else none := rfl
theorem readP_no {b : List UInt8} {i : Int} (h : readVI b i = none) : readP b i = none := by rw [readP, h]
theorem readP_big {b : List UInt8} {i n : Int} {j : Nat} (h : readVI b i = some (n, j)) (hn : 3 < n) : readP b i = none := by rw [readP, h]; simp only [if_pos hn]
theorem readP_eq {b : List UInt8} {i n : Int} {j : Nat} (h : readVI b i = some (n, j)) (hn : ¬ 3 < n) : readP b i = rpK b n.toNat j [] := by rw [readP, h]; simp only [if_neg hn]
theorem rp3_out {b : List UInt8} {i : Int} {p : Path} {j : Int} {ok : Bool} (hr : rp3 (readP b i) = (p, j, ok)) : sz_path p ≤ 27 ∧ encPath p = true ∧ 0 ≤ j ∧ j ≤ b.length := by
  cases ho : readP b i with
  | none => rw [ho] at hr; cases hr; exact ⟨by decide, by decide, by omega, by omega⟩
  | some r =>
    obtain ⟨q, m⟩ := r
    have := readP_out ho
    rw [ho] at hr
    cases hr
    exact ⟨encPath_sz this.1, this.1, Int.natCast_nonneg _, by have := this.2; show (m : Int) ≤ _; omega⟩
theorem impl_ReadPath (b : List UInt8) (v : Value) (i : Int) {p0 : Path} {j0 : Int} {ok0 : Bool} (w : World) (h : SlR byteT w v b) (hz : b.length ≤ 1048576) (hi : i ≤ 9223372036854775807) (hr : rp3 (readP b i) = (p0, j0, ok0)) : Calls Try.prog 35 #[v, I i] w fun e w' => ∃ cs fp, e = .returned (.tuple #[.agg cs.toArray, I j0, .bool ok0]) ∧ pathT.O w.heap.size w' cs p0 fp ∧ Below w.heap.size w w' := by
  obtain ⟨n1, j1, ok1, hr1⟩ : ∃ n j ok, rv3 (readVI b i) = (n, j, ok) := ⟨_, _, _, rfl⟩
  have X0 := Below.refl w.heap.size w
  refine enter Try.func35 rfl Try.ntmps35 rfl ?_
  refine w_seq ?_
  refine w_region ?_
  have S := Sep.nil w
  have B := Below.refl w.heap.size w
  have Hb := Nat.le_refl w.heap.size
  refine t_alloc S z_path rfl ?_ rfl rfl
  intro g4 w30 x31 S
  have B := bx Hb B x31
  refine t_assign rfl ?_ rfl
  refine t_assign rfl ?_ rfl
  refine t_done ?_
  refine x_seq ?_
  refine w_seq ?_
  refine w_region ?_
  refine t_move rfl ?_ rfl
  refine t_move rfl ?_ rfl
  refine t_callx Try.call80 rfl (impl_ReadVarint _ _ _ _ (by first | assumption | exact SlR.below (by assumption) B) (by omega) (by omega) hr1) ?_ rfl rfl
  intro w32 x33
  have B := bx Hb B x33
  have S := S.below x33
  refine t_move rfl ?_ rfl
  refine t_extract rfl rfl ?_ rfl
  refine t_extract rfl rfl ?_ rfl
  refine t_extract rfl rfl ?_ rfl
  refine t_assign rfl ?_ rfl
  refine t_assign rfl ?_ rfl
  refine t_assign rfl ?_ rfl
  refine t_done ?_
  refine x_seq ?_
  refine w_seq ?_
  refine w_seq ?_
  refine w_region ?_
  refine t_move rfl ?_ rfl
  refine t_notb rfl ?_ rfl
  refine t_move rfl ?_ rfl
  refine t_part (t := 26) rfl ?_ ?_
  · intro hno
    refine t_off rfl rfl rfl ?_ rfl
    refine t_off rfl rfl rfl ?_ rfl
    refine t_pickt rfl rfl ?_ rfl
    refine t_done ?_
    refine x_seq ?_
    refine w_yes rfl ?_
    refine w_seq ?_
    refine w_region ?_
    refine t_build (fun w => b_path0 w) rfl ?_ rfl
    refine t_stn S sb_path rfl rfl rfl rfl (by simp [Value.oneCell']) ?_
    intro w34 b35 S
    have B := B.trans b35
    refine t_assign rfl ?_ rfl
    refine t_assign rfl ?_ rfl
    refine t_done ?_
    refine x_seq ?_
    refine w_ret ?_
    refine x_then_ret ?_
    refine x_retctt rfl rfl S.box ab_path sb_path rfl rfl rfl ?_
    rw [readP_no (rv_no hr1 hno)] at hr
    cases hr
    obtain ⟨fp, hO⟩ := ((S.addNil (T := partT) (e := 71)).pathShut (x := [])).head
    exact ⟨_, fp, rfl, pathT.mono _ _ _ _ _ _ X0.size hO, ext_trans X0 B⟩
  intro hyes
  obtain ⟨hy1, hy2, hy3, hy4, hy5, hy6⟩ := rv_yes hr1 hyes
  refine t_on rfl rfl ?_
  refine t_move rfl ?_ rfl
  refine t_on rfl rfl ?_
  refine t_gtr rfl rfl ?_ rfl
  refine t_pickf rfl rfl ?_ rfl
  refine t_done ?_
  refine x_seq ?_
  refine w_if rfl ?_ ?_
  · intro hbig
    refine w_seq ?_
    refine w_region ?_
    refine t_build (fun w => b_path0 w) rfl ?_ rfl
    refine t_stn S sb_path rfl rfl rfl rfl (by simp [Value.oneCell']) ?_
    intro w36 b37 S
    have B := B.trans b37
    refine t_assign rfl ?_ rfl
    refine t_assign rfl ?_ rfl
    refine t_done ?_
    refine x_seq ?_
    refine w_ret ?_
    refine x_then_ret ?_
    refine x_retctt rfl rfl S.box ab_path sb_path rfl rfl rfl ?_
    rw [readP_big hy1 (by omega)] at hr
    cases hr
    obtain ⟨fp, hO⟩ := ((S.addNil (T := partT) (e := 71)).pathShut (x := [])).head
    exact ⟨_, fp, rfl, pathT.mono _ _ _ _ _ _ X0.size hO, ext_trans X0 B⟩
  intro hbig
  rw [readP_eq hy1 (by omega)] at hr
  refine w_skip ?_
  refine x_seq ?_
  refine w_seq ?_
  refine w_region ?_
  refine t_alloc S z_path rfl ?_ rfl rfl
  intro g9 w38 x39 S
  have B := bx Hb B x39
  refine t_done ?_
  refine x_seq ?_
  refine w_seq ?_
  refine w_seq ?_
  refine w_region ?_
  refine t_assign rfl ?_ rfl
  refine t_done ?_
  refine x_seq ?_
  refine w_block ?_
  refine w_loop (X := Nat × Int × Path × Value) (fun x wq => (fun k q acc u => k ≤ n1.toNat ∧ (0 : Int) ≤ q ∧ q ≤ b.length ∧ List.length acc = k ∧ sz_path acc ≤ 9 * k ∧ rng_path acc ∧ rpK b (n1.toNat - k) q.toNat acc = rpK b n1.toNat j1.toNat [] ∧ Below w.heap.size w wq ∧ Sep w.heap.size wq [bxO g9 30 #[u], slO partT 71 u acc, bxO g4 30 #[.slice none 0 0]]) x.1 x.2.1 x.2.2.1 x.2.2.2) (fun x => (fun k q acc u => [(10, I ((k : Int))), (1, I q), (0, v), (4, .pointer (some ⟨g4, 0, none⟩)), (7, I n1), (9, .pointer (some ⟨g9, 0, none⟩))]) x.1 x.2.1 x.2.2.1 x.2.2.2) (fun x => (fun k q acc u => n1.toNat - k) x.1 x.2.1 x.2.2.1 x.2.2.2) (0, j1, [], .slice none 0 0) ?_ ⟨rfl, rfl, rfl, rfl, rfl, rfl, trivial⟩ ?_
  · exact ⟨by omega, (by show (0 : Int) ≤ j1; omega), hy5, rfl, Nat.le_refl _, (fun x hx => by cases hx), rfl, B, S.addNil.f1⟩
  · rintro ⟨k, q, acc, u⟩ w40 hI
    try dsimp only at hI ⊢
    obtain ⟨hk, hq0, hq1, hal, hsz, hrg, hq, B, S⟩ := hI
    refine w_seq ?_
    refine w_seq ?_
    refine w_region ?_
    refine t_move rfl ?_ rfl
    refine t_move rfl ?_ rfl
    refine t_lss rfl rfl ?_ rfl
    refine t_done ?_
    refine x_seq ?_
    refine w_if rfl ?_ ?_
    · intro hlt
      have hf : n1.toNat - k = (n1.toNat - (k + 1)) + 1 := by omega
      rw [hf] at hq
      obtain ⟨l2, j2, ok2, hr2⟩ : ∃ l j ok, dec3 (decI b q 4) = (l, j, ok) := ⟨_, _, _, rfl⟩
      have hd4 : decI b q 4 = decA b 4 q.toNat [] := decI_at hq0 hq1 (by omega) (by omega)
      refine w_skip ?_
      refine x_seq ?_
      refine w_seq ?_
      refine w_block ?_
      refine w_seq ?_
      refine w_region ?_
      refine t_move rfl ?_ rfl
      refine t_move rfl ?_ rfl
      refine t_call Try.call81 rfl (impl_DecodeInts _ _ _ _ _ (by first | assumption | exact SlR.below (by assumption) B) (by omega) hr2) ?_ rfl rfl
      rintro e w41 ⟨v39, fpv39, rfl, hOv39, x42⟩
      refine ⟨_, rfl, x42, ?_⟩
      have S := S.add (o := slO _ _ _ _) x42 hOv39
      have B := bx Hb B x42
      refine t_move rfl ?_ rfl
      refine t_extract rfl rfl ?_ rfl
      refine t_extract rfl rfl ?_ rfl
      refine t_extract rfl rfl ?_ rfl
      refine t_assign rfl ?_ rfl
      refine t_assign rfl ?_ rfl
      refine t_assign rfl ?_ rfl
      refine t_done ?_
      refine x_seq ?_
      refine w_seq ?_
      refine w_seq ?_
      refine w_region ?_
      refine t_move rfl ?_ rfl
      refine t_notb rfl ?_ rfl
      refine t_done ?_
      refine x_seq ?_
      refine w_ifb rfl ?_ ?_
      · intro hno
        refine w_seq ?_
        refine w_region ?_
        refine t_build (fun w => b_path0 w) rfl ?_ rfl
        have S := S.f3
        refine t_stn S sb_path rfl rfl rfl rfl (by simp [Value.oneCell']) ?_
        intro w43 b44 S
        have B := B.trans b44
        refine t_assign rfl ?_ rfl
        refine t_assign rfl ?_ rfl
        refine t_done ?_
        refine x_seq ?_
        refine w_ret ?_
        refine x_then_ret ?_
        refine x_block_ret ?_
        refine x_then_ret ?_
        refine x_then_ret ?_
        refine x_block_ret ?_
        refine x_then_ret ?_
        refine x_retctt rfl rfl S.box ab_path sb_path rfl rfl rfl ?_
        have hdn := dec_no hr2 hno
        rw [hd4] at hdn
        rw [rp_none hdn] at hq
        rw [← hq] at hr
        cases hr
        obtain ⟨fp, hO⟩ := ((S.addNil (T := partT) (e := 71)).pathShut (x := [])).head
        exact ⟨_, fp, rfl, pathT.mono _ _ _ _ _ _ X0.size hO, ext_trans X0 B⟩
      intro hyes2
      obtain ⟨ha1, ha2, ha3, ha4, ha5, ha6⟩ := dec_yes hr2 hyes2
      rw [hd4] at ha1
      have hl4 : l2.length = 4 := by simpa using ha2
      have hin : ∀ x ∈ l2, In64 x := fun x hx => by
        have := ha3 x hx
        unfold In64; omega
      obtain ⟨e50, he50⟩ : ∃ e, l2[3]? = some e := getx (by omega)
      have hg3 := gI_eq he50
      have h50 := ha3 e50 (List.mem_of_getElem? he50)
      obtain ⟨l3, j3, ok3, hr3⟩ : ∃ l j ok, rhs3 (readHs b j2 e50) = (l, j, ok) := ⟨_, _, _, rfl⟩
      have hj2 : ((j2.toNat : Nat) : Int) = j2 := Int.toNat_of_nonneg ha6
      refine w_skip ?_
      refine x_seq ?_
      refine w_seq ?_
      refine w_region ?_
      refine t_move rfl ?_ rfl
      refine t_move rfl ?_ rfl
      refine t_move rfl ?_ rfl
      refine t_idx e_int (k := 3) (S.sl) he50 (Below.refl _ _) rfl rfl (by first | rfl | omega) ?_ rfl
      intro p50 hp50
      refine t_ldi (by assumption) ab_int (Below.refl _ _) rfl ?_ rfl
      refine t_call Try.call82 rfl (impl_readHops _ _ _ _ _ (by first | assumption | exact SlR.below (by assumption) B) (by omega) (by omega) (by omega) hr3) ?_ rfl rfl
      rintro e w45 ⟨v52, fpv52, rfl, hOv52, x46⟩
      refine ⟨_, rfl, x46, ?_⟩
      have S := S.add (o := slO _ _ _ _) x46 hOv52
      have B := bx Hb B x46
      refine t_move rfl ?_ rfl
      refine t_extract rfl rfl ?_ rfl
      refine t_extract rfl rfl ?_ rfl
      refine t_extract rfl rfl ?_ rfl
      refine t_assign rfl ?_ rfl
      refine t_assign rfl ?_ rfl
      refine t_assign rfl ?_ rfl
      refine t_done ?_
      refine x_seq ?_
      refine w_seq ?_
      refine w_seq ?_
      refine w_region ?_
      refine t_move rfl ?_ rfl
      refine t_notb rfl ?_ rfl
      refine t_done ?_
      refine x_seq ?_
      refine w_ifb rfl ?_ ?_
      · intro hno
        refine w_seq ?_
        refine w_region ?_
        refine t_build (fun w => b_path0 w) rfl ?_ rfl
        have S := S.f4
        refine t_stn S sb_path rfl rfl rfl rfl (by simp [Value.oneCell']) ?_
        intro w47 b48 S
        have B := B.trans b48
        refine t_assign rfl ?_ rfl
        refine t_assign rfl ?_ rfl
        refine t_done ?_
        refine x_seq ?_
        refine w_ret ?_
        refine x_then_ret ?_
        refine x_block_ret ?_
        refine x_then_ret ?_
        refine x_then_ret ?_
        refine x_block_ret ?_
        refine x_then_ret ?_
        refine x_retctt rfl rfl S.box ab_path sb_path rfl rfl rfl ?_
        have hdn := rhs_no hr3 hno
        rw [rp_no ha1 (by omega) (by rw [hg3, hj2]; exact hdn)] at hq
        rw [← hq] at hr
        cases hr
        obtain ⟨fp, hO⟩ := ((S.addNil (T := partT) (e := 71)).pathShut (x := [])).head
        exact ⟨_, fp, rfl, pathT.mono _ _ _ _ _ _ X0.size hO, ext_trans X0 B⟩
      intro hyes3
      have hdy := rhs_yes hr3 hyes3
      obtain ⟨hb1, hb2, hb3, hb4, hb5⟩ := rp_yes (n := n1.toNat - (k + 1)) (acc := acc) ha1 (by omega) (by rw [hg3, hj2]; exact hdy)
      obtain ⟨e62, he62⟩ : ∃ e, l2[0]? = some e := getx (by omega)
      obtain ⟨e65, he65⟩ : ∃ e, l2[1]? = some e := getx (by omega)
      obtain ⟨e68, he68⟩ : ∃ e, l2[2]? = some e := getx (by omega)
      rw [gI_eq he62, gI_eq he65, gI_eq he68, hq] at hb1
      refine w_skip ?_
      refine x_seq ?_
      refine w_seq ?_
      refine w_draw (.st .take 0 (.st .take 1 (.st .take 2 (.st .take 3 (.st .take 4 (.st .take 5 (.st .take 6 (.st .take 7 (.st .take 8 (.st .take 9 (.st .take 10 (.st .take 11 (.st .take 12 (.st .run 13 (.st .fin 14 (.st .fin 15 (.st .fin 16 .done))))))))))))))))) mixed (by kernel_rfl) ?_
      intro w49 x50
      have B := bx Hb B x50
      have S := S.below x50
      refine t_fldx fb_path_0 rfl rfl ?_ rfl
      refine t_bx1 S.tail.tail.box ab_s_part rfl rfl ?_ rfl
      refine t_move rfl ?_ rfl
      refine t_idx e_int (k := 0) (S.tail.sl) he62 (Below.refl _ _) rfl rfl (by first | rfl | omega) ?_ rfl
      intro p62 hp62
      refine t_ldi (by assumption) ab_int (Below.refl _ _) rfl ?_ rfl
      refine t_move rfl ?_ rfl
      refine t_idx e_int (k := 1) (S.tail.sl) he65 (Below.refl _ _) rfl rfl (by first | rfl | omega) ?_ rfl
      intro p65 hp65
      refine t_ldi (by assumption) ab_int (Below.refl _ _) rfl ?_ rfl
      refine t_move rfl ?_ rfl
      refine t_idx e_int (k := 2) (S.tail.sl) he68 (Below.refl _ _) rfl rfl (by first | rfl | omega) ?_ rfl
      intro p68 hp68
      refine t_ldi (by assumption) ab_int (Below.refl _ _) rfl ?_ rfl
      refine t_move rfl ?_ rfl
      obtain ⟨Av52, cv52, rfl, _⟩ := S.sl.form
      refine t_build (fun w => b_part _ _ _ _ _ _ w) rfl ?_ rfl
      refine t_lit1 (fun w => bs_part1 _ _ _ _ w) rfl ?_ rfl rfl
      intro A72 w51 x52 hA72
      have B := bx Hb B x52
      have S := S.below x52
      have S := S.partShut (x := (⟨e62, e65, e68, l3⟩ : Part))
      have S := S.f3
      refine t_snoc e_part S hA72 rfl rfl rfl (by first | omega | (simp; done) | (simp; omega)) (by (simp only [maxLen]); first | omega | (simp; done) | (simp; omega)) ?_ rfl
      intro v73 w53 x54 S
      have B := B.trans x54
      refine t_fldx fb_path_0 rfl rfl ?_ rfl
      obtain ⟨Av73, cv73, rfl, _⟩ := S.sl.form
      have S := S.f2
      refine t_st1 S sb_s_part rfl rfl rfl rfl rfl ?_
      intro w55 b56 S
      have B := B.trans b56
      refine t_done' ?_
      refine x_seq ?_
      refine w_region ?_
      refine t_move rfl ?_ rfl
      refine t_assign rfl ?_ rfl
      refine t_done ?_
      refine x_block_normal ?_
      refine x_seq ?_
      refine w_region ?_
      refine t_move rfl ?_ rfl
      refine t_add rfl rfl (by omega) ?_ rfl
      refine t_assign rfl ?_ rfl
      refine t_done ?_
      have S := S.f2
      have S := S.tail
      refine x_round (X := Nat × Int × Path × Value) (I := (fun x wq => (fun k q acc u => k ≤ n1.toNat ∧ (0 : Int) ≤ q ∧ q ≤ b.length ∧ List.length acc = k ∧ sz_path acc ≤ 9 * k ∧ rng_path acc ∧ rpK b (n1.toNat - k) q.toNat acc = rpK b n1.toNat j1.toNat [] ∧ Below w.heap.size w wq ∧ Sep w.heap.size wq [bxO g9 30 #[u], slO partT 71 u acc, bxO g4 30 #[.slice none 0 0]]) x.1 x.2.1 x.2.2.1 x.2.2.2)) (F := (fun x => (fun k q acc u => [(10, I ((k : Int))), (1, I q), (0, v), (4, .pointer (some ⟨g4, 0, none⟩)), (7, I n1), (9, .pointer (some ⟨g9, 0, none⟩))]) x.1 x.2.1 x.2.2.1 x.2.2.2)) (μ := (fun x => (fun k q acc u => n1.toNat - k) x.1 x.2.1 x.2.2.1 x.2.2.2)) (k + 1, j3, acc ++ [⟨e62, e65, e68, l3⟩], .slice Av73 (acc ++ [(⟨e62, e65, e68, l3⟩ : Part)]).length cv73) ?_ (by exact ⟨rfl, rfl, rfl, rfl, rfl, rfl, trivial⟩) (by (try dsimp only); omega)
      try dsimp only
      refine ⟨by omega, hb2, hb3, by rw [List.length_append, hal]; rfl, by rw [sz_snoc]; show sz_path acc + 1 + l3.length ≤ _; omega, ?_, hb1.symm, B, S⟩
      intro x hx
      rcases List.mem_append.1 hx with hx | hx
      · exact hrg x hx
      · rw [List.mem_singleton] at hx
        rw [hx]
        exact ⟨hin _ (List.mem_of_getElem? he62), hin _ (List.mem_of_getElem? he65), hin _ (List.mem_of_getElem? he68), hb5⟩
    · intro hge
      have : n1.toNat - k = 0 := by omega
      rw [this, rp_end] at hq
      have hok2 := lenOk_sz (p := acc) (by omega)
      refine w_exit ?_
      refine x_then_exit ?_
      refine x_then_exit ?_
      refine x_block_exit ?_
      refine x_seq ?_
      refine w_seq ?_
      refine w_seq ?_
      refine w_region ?_
      refine t_bxn S.box ab_path sb_path rfl rfl ?_ rfl
      refine t_callx Try.call50 rfl (va1 (path_mkv (S.tail.sl)) fun cs h => impl_EncodablePath _ cs _ h (by omega) (by assumption) (by assumption)) ?_ rfl rfl
      intro w57 x58
      have B := bx Hb B x58
      have S := S.below x58
      refine t_notb rfl ?_ rfl
      refine t_done ?_
      refine x_seq ?_
      refine w_ifb rfl ?_ ?_
      · intro h4
        refine w_seq ?_
        refine w_region ?_
        refine t_build (fun w => b_path0 w) rfl ?_ rfl
        have S := S.f2
        refine t_stn S sb_path rfl rfl rfl rfl (by simp [Value.oneCell']) ?_
        intro w59 b60 S
        have B := B.trans b60
        refine t_assign rfl ?_ rfl
        refine t_assign rfl ?_ rfl
        refine t_done ?_
        refine x_seq ?_
        refine w_ret ?_
        refine x_then_ret ?_
        refine x_retctt rfl rfl S.box ab_path sb_path rfl rfl rfl ?_
        rw [show encPath acc = false by simpa using h4] at hq
        rw [← hq] at hr
        cases hr
        obtain ⟨fp, hO⟩ := ((S.addNil (T := partT) (e := 71)).pathShut (x := [])).head
        exact ⟨_, fp, rfl, pathT.mono _ _ _ _ _ _ X0.size hO, ext_trans X0 B⟩
      · intro h4
        refine w_skip ?_
        refine x_seq ?_
        refine w_seq ?_
        refine w_region ?_
        refine t_bxn S.box ab_path sb_path rfl rfl ?_ rfl
        refine t_move rfl ?_ rfl
        have S := S.f2
        refine t_stn S sb_path rfl rfl rfl rfl (by intro zz hu; have hu : zz ∈ ([u] : List Value) := hu; simp only [List.mem_cons, List.not_mem_nil, or_false] at hu; rcases hu with rfl <;> first | rfl | exact (SlR.cells (by first | assumption | exact S.tail.sl | exact S.tail.tail.sl | exact S.tail.tail.tail.sl | exact S.tail.tail.tail.tail.sl | exact S.tail.tail.tail.tail.tail.sl | exact S.tail.tail.tail.tail.tail.tail.sl | exact S.tail.tail.tail.tail.tail.tail.tail.sl | exact S.tail.tail.tail.tail.tail.tail.tail.tail.sl)).2) ?_
        intro w61 b62 S
        have B := B.trans b62
        refine t_assign rfl ?_ rfl
        refine t_assign rfl ?_ rfl
        refine t_done ?_
        refine x_seq ?_
        refine w_ret ?_
        refine x_retctt rfl rfl S.box ab_path sb_path rfl rfl rfl ?_
        rw [show encPath acc = true by simpa using h4] at hq
        rw [← hq] at hr
        have e0 : (p0, j0, ok0) = (acc, q, true) := by rw [← hr]; simp only [if_true, rp3]; congr 2; omega
        cases e0
        obtain ⟨fp, hO⟩ := (S.f2.pathShut).head
        exact ⟨_, fp, rfl, pathT.mono _ _ _ _ _ _ X0.size hO, ext_trans X0 B⟩
theorem pathInts_snoc (p : Path) (x : Part) : pathInts (p ++ [x]) = pathInts p ++ (piP x ++ x.hops.flatMap piH) := intsOf_snoc piP piH p x
theorem piP_of {h : List Int} {e0 e1 e2 e3 : Int} {hs : List Hop} (hl : h.length = 4) (h0 : h[0]? = some e0) (h1 : h[1]? = some e1) (h2 : h[2]? = some e2) (h3 : h[3]? = some e3) (hh : (hs.length : Int) = e3) : piP ⟨e0, e1, e2, hs⟩ = h := by
  obtain ⟨a, b, c, d, rfl⟩ : ∃ a b c d, h = [a, b, c, d] := by
    rcases h with _ | ⟨a, _ | ⟨b, _ | ⟨c, _ | ⟨d, _ | ⟨e, t⟩⟩⟩⟩⟩
    all_goals first | exact ⟨_, _, _, _, rfl⟩ | (simp at hl; done) | (simp at hl; omega)
  cases h0
  cases h1
  cases h2
  cases h3
  show [e0, e1, e2, (hs.length : Int)] = _
  rw [hh]
theorem rp_step {b : List UInt8} {n i j m : Nat} {acc : Path} {h l : List Int} (hd : decA b 4 i [] = some (h, j)) (h8 : ¬ 8 < gI h 3) (hd2 : decA b (5 * (gI h 3).toNat) j [] = some (l, m)) : rpK b (n + 1) i acc = rpK b n m (acc ++ [partOfI h l]) := by
  rw [rpK, hd]
  simp only [if_neg h8, hd2]
theorem rp_bad8 {b : List UInt8} {n i j : Nat} {acc : Path} {h : List Int} (hd : decA b 4 i [] = some (h, j)) (h8 : 8 < gI h 3) : rpK b (n + 1) i acc = none := by
  rw [rpK, hd]
  simp only [if_pos h8]
theorem rp_bad5 {b : List UInt8} {n i j : Nat} {acc : Path} {h : List Int} (hd : decA b 4 i [] = some (h, j)) (hd2 : decA b (5 * (gI h 3).toNat) j [] = none) : rpK b (n + 1) i acc = none := by
  rw [rpK, hd]
  by_cases h8 : 8 < gI h 3
  · simp only [if_pos h8]
  · simp only [if_neg h8, hd2]
theorem spec_ReadPath (b : List UInt8) (v : Value) (i : Int) {p0 : Path} {j0 : Int} {ok0 : Bool} (w : World) (h : SlR byteT w v b) (hz : b.length ≤ 1048576) (hi : i ≤ 9223372036854775807) (hr : rp3 (readP b i) = (p0, j0, ok0)) : Calls Try.prog 36 #[v, I i] w fun e w' => ∃ cs fp, e = .returned (.tuple #[.agg cs.toArray, I j0, .bool ok0]) ∧ pathT.O w.heap.size w' cs p0 fp ∧ Below w.heap.size w w' := by
  obtain ⟨n1, j1, ok1, hr1⟩ : ∃ n j ok, rv3 (readVI b i) = (n, j, ok) := ⟨_, _, _, rfl⟩
  have X0 := Below.refl w.heap.size w
  refine enter Try.func36 rfl Try.ntmps36 rfl ?_
  refine w_seq ?_
  refine w_region ?_
  have S := Sep.nil w
  have B := Below.refl w.heap.size w
  have Hb := Nat.le_refl w.heap.size
  refine t_alloc S z_path rfl ?_ rfl rfl
  intro g4 w63 x64 S
  have B := bx Hb B x64
  refine t_assign rfl ?_ rfl
  refine t_assign rfl ?_ rfl
  refine t_done ?_
  refine x_seq ?_
  refine w_seq ?_
  refine w_region ?_
  refine t_build (fun w => b_path0 w) rfl ?_ rfl
  refine t_alloc S z_path rfl ?_ rfl rfl
  intro g7 w65 x66 S
  have B := bx Hb B x66
  refine t_stn S sb_path rfl rfl rfl rfl (by simp [Value.oneCell']) ?_
  intro w67 b68 S
  have B := B.trans b68
  refine t_done ?_
  refine x_seq ?_
  refine w_seq ?_
  refine w_region ?_
  refine t_move rfl ?_ rfl
  refine t_move rfl ?_ rfl
  refine t_callx Try.call83 rfl (spec_ReadVarint _ _ _ _ (by first | assumption | exact SlR.below (by assumption) B) (by omega) (by omega) hr1) ?_ rfl rfl
  intro w69 x70
  have B := bx Hb B x70
  have S := S.below x70
  refine t_move rfl ?_ rfl
  refine t_extract rfl rfl ?_ rfl
  refine t_extract rfl rfl ?_ rfl
  refine t_extract rfl rfl ?_ rfl
  refine t_assign rfl ?_ rfl
  refine t_assign rfl ?_ rfl
  refine t_assign rfl ?_ rfl
  refine t_done ?_
  refine x_seq ?_
  refine w_seq ?_
  refine w_seq ?_
  refine w_region ?_
  refine t_move rfl ?_ rfl
  refine t_notb rfl ?_ rfl
  refine t_move rfl ?_ rfl
  refine t_part (t := 31) rfl ?_ ?_
  · intro hno
    refine t_off rfl rfl rfl ?_ rfl
    refine t_off rfl rfl rfl ?_ rfl
    refine t_pickt rfl rfl ?_ rfl
    refine t_done ?_
    refine x_seq ?_
    refine w_yes rfl ?_
    refine w_seq ?_
    refine w_region ?_
    refine t_bxn S.box ab_path sb_path rfl rfl ?_ rfl
    have S := S.f1
    refine t_stn S sb_path rfl rfl rfl rfl (by simp [Value.oneCell']) ?_
    intro w71 b72 S
    have B := B.trans b72
    refine t_assign rfl ?_ rfl
    refine t_assign rfl ?_ rfl
    refine t_done ?_
    refine x_seq ?_
    refine w_ret ?_
    refine x_then_ret ?_
    refine x_retctt rfl rfl S.box ab_path sb_path rfl rfl rfl ?_
    rw [readP_no (rv_no hr1 hno)] at hr
    cases hr
    obtain ⟨fp, hO⟩ := ((S.addNil (T := partT) (e := 71)).pathShut (x := [])).head
    exact ⟨_, fp, rfl, pathT.mono _ _ _ _ _ _ X0.size hO, ext_trans X0 B⟩
  intro hyes
  obtain ⟨hy1, hy2, hy3, hy4, hy5, hy6⟩ := rv_yes hr1 hyes
  refine t_on rfl rfl ?_
  refine t_move rfl ?_ rfl
  refine t_on rfl rfl ?_
  refine t_gtr rfl rfl ?_ rfl
  refine t_pickf rfl rfl ?_ rfl
  refine t_done ?_
  refine x_seq ?_
  refine w_if rfl ?_ ?_
  · intro hbig
    refine w_seq ?_
    refine w_region ?_
    refine t_bxn S.box ab_path sb_path rfl rfl ?_ rfl
    have S := S.f1
    refine t_stn S sb_path rfl rfl rfl rfl (by simp [Value.oneCell']) ?_
    intro w73 b74 S
    have B := B.trans b74
    refine t_assign rfl ?_ rfl
    refine t_assign rfl ?_ rfl
    refine t_done ?_
    refine x_seq ?_
    refine w_ret ?_
    refine x_then_ret ?_
    refine x_retctt rfl rfl S.box ab_path sb_path rfl rfl rfl ?_
    rw [readP_big hy1 (by omega)] at hr
    cases hr
    obtain ⟨fp, hO⟩ := ((S.addNil (T := partT) (e := 71)).pathShut (x := [])).head
    exact ⟨_, fp, rfl, pathT.mono _ _ _ _ _ _ X0.size hO, ext_trans X0 B⟩
  intro hbig
  rw [readP_eq hy1 (by omega)] at hr
  refine w_skip ?_
  refine x_seq ?_
  refine w_seq ?_
  refine w_region ?_
  refine t_lit (T := intT) (css := []) (l := []) int_flat S bs_int0 rfl rfl rfl rfl (Nat.zero_le _) litR_nil ?_ rfl rfl
  intro u36 w75 x76 S
  have B := bx Hb B x76
  refine t_assign rfl ?_ rfl
  refine t_done ?_
  refine x_seq ?_
  refine w_seq ?_
  refine w_seq ?_
  refine w_region ?_
  refine t_assign rfl ?_ rfl
  refine t_done ?_
  refine x_seq ?_
  refine w_block ?_
  refine w_loop (X := Nat × Int × Path × Value) (fun x wq => (fun k q acc u => k ≤ n1.toNat ∧ (0 : Int) ≤ q ∧ q ≤ b.length ∧ (pathInts acc).length ≤ 44 * k ∧ (∀ x ∈ acc, x.hops.length ≤ 8) ∧ (∀ x ∈ pathInts acc, In64 x) ∧ rpK b (n1.toNat - k) q.toNat acc = rpK b n1.toNat j1.toNat [] ∧ Below w.heap.size w wq ∧ Sep w.heap.size wq [slO intT 3 u (pathInts acc), bxO g7 30 #[.slice none 0 0], bxO g4 30 #[.slice none 0 0]]) x.1 x.2.1 x.2.2.1 x.2.2.2) (fun x => (fun k q acc u => [(12, I ((k : Int))), (9, I q), (11, u), (0, v), (4, .pointer (some ⟨g4, 0, none⟩)), (7, .pointer (some ⟨g7, 0, none⟩)), (8, I n1)]) x.1 x.2.1 x.2.2.1 x.2.2.2) (fun x => (fun k q acc u => n1.toNat - k) x.1 x.2.1 x.2.2.1 x.2.2.2) (0, j1, [], u36) ?_ ⟨rfl, rfl, rfl, rfl, rfl, rfl, rfl, trivial⟩ ?_
  · exact ⟨by omega, (by show (0 : Int) ≤ j1; omega), hy5, Nat.le_refl _, (fun x hx => by cases hx), (fun x hx => by cases hx), rfl, B, S⟩
  · rintro ⟨k, q, acc, u⟩ w77 hI
    try dsimp only at hI ⊢
    obtain ⟨hk, hq0, hq1, hal, hh8, hin, hq, B, S⟩ := hI
    refine w_seq ?_
    refine w_seq ?_
    refine w_region ?_
    refine t_move rfl ?_ rfl
    refine t_move rfl ?_ rfl
    refine t_lss rfl rfl ?_ rfl
    refine t_done ?_
    refine x_seq ?_
    refine w_if rfl ?_ ?_
    · intro hlt
      have hf : n1.toNat - k = (n1.toNat - (k + 1)) + 1 := by omega
      rw [hf] at hq
      obtain ⟨l2, j2, ok2, hr2⟩ : ∃ l j ok, dec3 (decI b q 4) = (l, j, ok) := ⟨_, _, _, rfl⟩
      have hd4 : decI b q 4 = decA b 4 q.toNat [] := decI_at hq0 hq1 (by omega) (by omega)
      refine w_skip ?_
      refine x_seq ?_
      refine w_seq ?_
      refine w_block ?_
      refine w_seq ?_
      refine w_region ?_
      refine t_move rfl ?_ rfl
      refine t_move rfl ?_ rfl
      refine t_call Try.call84 rfl (spec_DecodeInts _ _ _ _ _ (by first | assumption | exact SlR.below (by assumption) B) (by omega) hr2) ?_ rfl rfl
      rintro e w78 ⟨v45, fpv45, rfl, hOv45, x79⟩
      refine ⟨_, rfl, x79, ?_⟩
      have S := S.add (o := slO _ _ _ _) x79 hOv45
      have B := bx Hb B x79
      refine t_move rfl ?_ rfl
      refine t_extract rfl rfl ?_ rfl
      refine t_extract rfl rfl ?_ rfl
      refine t_extract rfl rfl ?_ rfl
      refine t_assign rfl ?_ rfl
      refine t_assign rfl ?_ rfl
      refine t_assign rfl ?_ rfl
      refine t_done ?_
      refine x_seq ?_
      refine w_seq ?_
      refine w_seq ?_
      refine w_region ?_
      refine t_move rfl ?_ rfl
      refine t_notb rfl ?_ rfl
      refine t_move rfl ?_ rfl
      refine t_part (t := 51) rfl ?_ ?_
      · intro hno
        refine t_off rfl rfl rfl ?_ rfl
        refine t_off rfl rfl rfl ?_ rfl
        refine t_off rfl rfl rfl ?_ rfl
        refine t_off rfl rfl rfl ?_ rfl
        refine t_pickt rfl rfl ?_ rfl
        refine t_done ?_
        refine x_seq ?_
        refine w_yes rfl ?_
        refine w_seq ?_
        refine w_region ?_
        refine t_bxn S.tail.tail.box ab_path sb_path rfl rfl ?_ rfl
        have S := S.f3
        refine t_stn S sb_path rfl rfl rfl rfl (by simp [Value.oneCell']) ?_
        intro w80 b81 S
        have B := B.trans b81
        refine t_assign rfl ?_ rfl
        refine t_assign rfl ?_ rfl
        refine t_done ?_
        refine x_seq ?_
        refine w_ret ?_
        refine x_then_ret ?_
        refine x_block_ret ?_
        refine x_then_ret ?_
        refine x_then_ret ?_
        refine x_block_ret ?_
        refine x_then_ret ?_
        refine x_retctt rfl rfl S.box ab_path sb_path rfl rfl rfl ?_
        have hdn := dec_no hr2 hno
        rw [hd4] at hdn
        rw [rp_none hdn] at hq
        rw [← hq] at hr
        cases hr
        obtain ⟨fp, hO⟩ := ((S.addNil (T := partT) (e := 71)).pathShut (x := [])).head
        exact ⟨_, fp, rfl, pathT.mono _ _ _ _ _ _ X0.size hO, ext_trans X0 B⟩
      intro hyes2
      obtain ⟨ha1, ha2, ha3, ha4, ha5, ha6⟩ := dec_yes hr2 hyes2
      rw [hd4] at ha1
      have hl4 : l2.length = 4 := by simpa using ha2
      have hin2 : ∀ x ∈ l2, In64 x := fun x hx => by
        have := ha3 x hx
        unfold In64; omega
      obtain ⟨e53, he53⟩ : ∃ e, l2[3]? = some e := getx (by omega)
      have hg3 := gI_eq he53
      have h53 := ha3 e53 (List.mem_of_getElem? he53)
      refine t_on rfl rfl ?_
      refine t_move rfl ?_ rfl
      refine t_on rfl rfl ?_
      refine t_idx e_int (k := 3) (S.sl) he53 (Below.refl _ _) rfl rfl (by first | rfl | omega) ?_ rfl
      intro p53 hp53
      refine t_on rfl rfl ?_
      refine t_ldi (by assumption) ab_int (Below.refl _ _) rfl ?_ rfl
      refine t_on rfl rfl ?_
      refine t_gtr rfl rfl ?_ rfl
      refine t_pickf rfl rfl ?_ rfl
      refine t_done ?_
      refine x_seq ?_
      refine w_if rfl ?_ ?_
      · intro hbig8
        refine w_seq ?_
        refine w_region ?_
        refine t_bxn S.tail.tail.box ab_path sb_path rfl rfl ?_ rfl
        have S := S.f3
        refine t_stn S sb_path rfl rfl rfl rfl (by simp [Value.oneCell']) ?_
        intro w82 b83 S
        have B := B.trans b83
        refine t_assign rfl ?_ rfl
        refine t_assign rfl ?_ rfl
        refine t_done ?_
        refine x_seq ?_
        refine w_ret ?_
        refine x_then_ret ?_
        refine x_block_ret ?_
        refine x_then_ret ?_
        refine x_then_ret ?_
        refine x_block_ret ?_
        refine x_then_ret ?_
        refine x_retctt rfl rfl S.box ab_path sb_path rfl rfl rfl ?_
        rw [rp_bad8 ha1 (by rw [hg3]; exact hbig8)] at hq
        rw [← hq] at hr
        cases hr
        obtain ⟨fp, hO⟩ := ((S.addNil (T := partT) (e := 71)).pathShut (x := [])).head
        exact ⟨_, fp, rfl, pathT.mono _ _ _ _ _ _ X0.size hO, ext_trans X0 B⟩
      intro hbig8
      obtain ⟨l3, j3, ok3, hr3⟩ : ∃ l j ok, dec3 (decI b j2 (5 * e53)) = (l, j, ok) := ⟨_, _, _, rfl⟩
      have hd5 : decI b j2 (5 * e53) = decA b (5 * e53.toNat) j2.toNat [] := by
        rw [decI_at ha6 ha5 (by omega) (by omega), show (5 * e53).toNat = 5 * e53.toNat by omega]
      refine w_skip ?_
      refine x_seq ?_
      refine w_seq ?_
      refine w_region ?_
      refine t_move rfl ?_ rfl
      refine t_move rfl ?_ rfl
      refine t_move rfl ?_ rfl
      refine t_idx e_int (k := 3) (S.sl) he53 (Below.refl _ _) rfl rfl (by first | rfl | omega) ?_ rfl
      intro p62 hp62
      refine t_ldi (by assumption) ab_int (Below.refl _ _) rfl ?_ rfl
      refine t_mul rfl rfl (by omega) ?_ rfl
      refine t_call Try.call84 rfl (spec_DecodeInts _ _ _ _ _ (by first | assumption | exact SlR.below (by assumption) B) (by omega) hr3) ?_ rfl rfl
      rintro e w84 ⟨v65, fpv65, rfl, hOv65, x85⟩
      refine ⟨_, rfl, x85, ?_⟩
      have S := S.add (o := slO _ _ _ _) x85 hOv65
      have B := bx Hb B x85
      refine t_move rfl ?_ rfl
      refine t_extract rfl rfl ?_ rfl
      refine t_extract rfl rfl ?_ rfl
      refine t_extract rfl rfl ?_ rfl
      refine t_assign rfl ?_ rfl
      refine t_assign rfl ?_ rfl
      refine t_assign rfl ?_ rfl
      refine t_done ?_
      refine x_seq ?_
      refine w_seq ?_
      refine w_seq ?_
      refine w_region ?_
      refine t_move rfl ?_ rfl
      refine t_notb rfl ?_ rfl
      refine t_done ?_
      refine x_seq ?_
      refine w_ifb rfl ?_ ?_
      · intro hno
        refine w_seq ?_
        refine w_region ?_
        refine t_bxn S.tail.tail.tail.box ab_path sb_path rfl rfl ?_ rfl
        have S := S.f4
        refine t_stn S sb_path rfl rfl rfl rfl (by simp [Value.oneCell']) ?_
        intro w86 b87 S
        have B := B.trans b87
        refine t_assign rfl ?_ rfl
        refine t_assign rfl ?_ rfl
        refine t_done ?_
        refine x_seq ?_
        refine w_ret ?_
        refine x_then_ret ?_
        refine x_block_ret ?_
        refine x_then_ret ?_
        refine x_then_ret ?_
        refine x_block_ret ?_
        refine x_then_ret ?_
        refine x_retctt rfl rfl S.box ab_path sb_path rfl rfl rfl ?_
        have hdn := dec_no hr3 hno
        rw [hd5] at hdn
        rw [rp_bad5 ha1 (by rw [hg3]; exact hdn)] at hq
        rw [← hq] at hr
        cases hr
        obtain ⟨fp, hO⟩ := ((S.addNil (T := partT) (e := 71)).pathShut (x := [])).head
        exact ⟨_, fp, rfl, pathT.mono _ _ _ _ _ _ X0.size hO, ext_trans X0 B⟩
      intro hyes3
      obtain ⟨hb1, hb2, hb3, hb4, hb5, hb6⟩ := dec_yes hr3 hyes3
      rw [hd5] at hb1
      have hst := rp_step (n := n1.toNat - (k + 1)) (acc := acc) ha1 (by rw [hg3]; exact hbig8) (by rw [hg3]; exact hb1)
      rw [hq] at hst
      have hl3 : l3.length = 5 * e53.toNat := by rw [hb2]; omega
      obtain ⟨e0, he0⟩ : ∃ e, l2[0]? = some e := getx (by omega)
      obtain ⟨e1, he1⟩ : ∃ e, l2[1]? = some e := getx (by omega)
      obtain ⟨e2, he2⟩ : ∃ e, l2[2]? = some e := getx (by omega)
      have hhl := hopsAt_len l3 0 e53.toNat
      have hpo : partOfI l2 l3 = ⟨e0, e1, e2, hopsAt l3 0 e53.toNat⟩ := by
        unfold partOfI; rw [gI_eq he0, gI_eq he1, gI_eq he2, hg3]
      have hpi : pathInts (acc ++ [partOfI l2 l3]) = (pathInts acc ++ l2) ++ l3 := by
        rw [pathInts_snoc, hpo, piP_of hl4 he0 he1 he2 he53 (by rw [hhl]; omega)]
        show pathInts acc ++ (l2 ++ (hopsAt l3 0 e53.toNat).flatMap piH) = _
        rw [hopsAt_ints l3 _ hl3, List.append_assoc]
      refine w_skip ?_
      refine x_seq ?_
      refine w_seq ?_
      refine w_region ?_
      refine t_move rfl ?_ rfl
      refine t_move rfl ?_ rfl
      have hR := S.tail.sl
      have S := S.f2
      refine t_cat int_flat e_int S hR rfl rfl rfl (by first | omega | (simp [-List.length_flatMap]; omega)) (by (simp [maxLen, -List.length_flatMap]; try omega)) ?_ rfl
      intro v74 w88 x89 S
      have B := B.trans x89
      clear hR
      refine t_move rfl ?_ rfl
      have hR := S.tail.sl
      refine t_cat int_flat e_int S hR rfl rfl rfl (by first | omega | (simp [-List.length_flatMap]; omega)) (by (simp [maxLen, -List.length_flatMap]; try omega)) ?_ rfl
      intro v76 w90 x91 S
      have B := B.trans x91
      clear hR
      refine t_assign rfl ?_ rfl
      refine t_done ?_
      refine x_seq ?_
      refine w_region ?_
      refine t_move rfl ?_ rfl
      refine t_assign rfl ?_ rfl
      refine t_done ?_
      refine x_block_normal ?_
      refine x_seq ?_
      refine w_region ?_
      refine t_move rfl ?_ rfl
      refine t_add rfl rfl (by omega) ?_ rfl
      refine t_assign rfl ?_ rfl
      refine t_done ?_
      have S := S.f1
      have S := S.tail
      have S := S.f1
      have S := S.tail
      refine x_round (X := Nat × Int × Path × Value) (I := (fun x wq => (fun k q acc u => k ≤ n1.toNat ∧ (0 : Int) ≤ q ∧ q ≤ b.length ∧ (pathInts acc).length ≤ 44 * k ∧ (∀ x ∈ acc, x.hops.length ≤ 8) ∧ (∀ x ∈ pathInts acc, In64 x) ∧ rpK b (n1.toNat - k) q.toNat acc = rpK b n1.toNat j1.toNat [] ∧ Below w.heap.size w wq ∧ Sep w.heap.size wq [slO intT 3 u (pathInts acc), bxO g7 30 #[.slice none 0 0], bxO g4 30 #[.slice none 0 0]]) x.1 x.2.1 x.2.2.1 x.2.2.2)) (F := (fun x => (fun k q acc u => [(12, I ((k : Int))), (9, I q), (11, u), (0, v), (4, .pointer (some ⟨g4, 0, none⟩)), (7, .pointer (some ⟨g7, 0, none⟩)), (8, I n1)]) x.1 x.2.1 x.2.2.1 x.2.2.2)) (μ := (fun x => (fun k q acc u => n1.toNat - k) x.1 x.2.1 x.2.2.1 x.2.2.2)) (k + 1, j3, acc ++ [partOfI l2 l3], v76) ?_ (by exact ⟨rfl, rfl, rfl, rfl, rfl, rfl, rfl, trivial⟩) (by (try dsimp only); omega)
      try dsimp only
      refine ⟨by omega, hb6, hb5, by rw [hpi]; simp only [List.length_append]; omega, ?_, ?_, hst.symm, B, by rw [hpi]; exact S⟩
      · intro x hx
        rcases List.mem_append.1 hx with hx | hx
        · exact hh8 x hx
        · rw [List.mem_singleton] at hx
          rw [hx, hpo]
          show (hopsAt l3 0 e53.toNat).length ≤ 8
          omega
      · intro x hx
        rw [hpi] at hx
        rcases List.mem_append.1 hx with hx | hx
        · rcases List.mem_append.1 hx with hx | hx
          · exact hin x hx
          · exact hin2 x hx
        · have := hb3 x hx
          unfold In64; omega
    · intro hge
      have : n1.toNat - k = 0 := by omega
      rw [this, rp_end] at hq
      have hpo := pathOf_ints hh8
      obtain ⟨q1, ok3, hpq⟩ : ∃ q1 ok3, pathOf (pathInts acc) = (q1, ok3) := ⟨_, _, rfl⟩
      refine w_exit ?_
      refine x_then_exit ?_
      refine x_then_exit ?_
      refine x_block_exit ?_
      refine x_seq ?_
      refine w_seq ?_
      refine w_region ?_
      refine t_move rfl ?_ rfl
      refine t_call Try.call39 rfl (spec_PathFromInts _ _ _ (S.sl) (by omega) (by assumption)) ?_ rfl rfl
      rintro e w92 ⟨cs80, fp80, rfl, hO80, x93⟩
      refine ⟨_, rfl, x93, ?_⟩
      have S := S.add (o := tyO pathT _ _) x93 hO80
      have B := bx Hb B x93
      obtain ⟨u80_0, heq, S2⟩ := S.pathOpen
      subst heq
      have S := S2
      clear S2
      refine t_move rfl ?_ rfl
      refine t_extract rfl rfl ?_ rfl
      refine t_extract rfl rfl ?_ rfl
      refine t_alloc S z_path rfl ?_ rfl rfl
      intro g19 w94 x95 S
      have B := bx Hb B x95
      refine t_stn S sb_path rfl rfl rfl rfl (by intro zz hu; have hu : zz ∈ ([u80_0] : List Value) := hu; simp only [List.mem_cons, List.not_mem_nil, or_false] at hu; rcases hu with rfl <;> first | rfl | exact (SlR.cells (by first | assumption | exact S.tail.sl | exact S.tail.tail.sl | exact S.tail.tail.tail.sl | exact S.tail.tail.tail.tail.sl | exact S.tail.tail.tail.tail.tail.sl | exact S.tail.tail.tail.tail.tail.tail.sl | exact S.tail.tail.tail.tail.tail.tail.tail.sl | exact S.tail.tail.tail.tail.tail.tail.tail.tail.sl)).2) ?_
      intro w96 b97 S
      have B := B.trans b97
      refine t_assign rfl ?_ rfl
      refine t_done ?_
      refine x_seq ?_
      refine w_seq ?_
      refine w_seq ?_
      refine w_region ?_
      refine t_move rfl ?_ rfl
      refine t_notb rfl ?_ rfl
      refine t_done ?_
      refine x_seq ?_
      refine w_ifb rfl ?_ ?_
      · intro h4
        refine w_seq ?_
        refine w_region ?_
        refine t_bxn S.tail.tail.tail.box ab_path sb_path rfl rfl ?_ rfl
        have S := S.f4
        refine t_stn S sb_path rfl rfl rfl rfl (by simp [Value.oneCell']) ?_
        intro w98 b99 S
        have B := B.trans b99
        refine t_assign rfl ?_ rfl
        refine t_assign rfl ?_ rfl
        refine t_done ?_
        refine x_seq ?_
        refine w_ret ?_
        refine x_then_ret ?_
        refine x_retctt rfl rfl S.box ab_path sb_path rfl rfl rfl ?_
        have h5 : encPath acc = false := by
          cases he : encPath acc with
          | false => rfl
          | true => rw [hpo, he] at h4; exact absurd h4 (by simp)
        rw [h5] at hq
        rw [← hq] at hr
        cases hr
        obtain ⟨fp, hO⟩ := ((S.addNil (T := partT) (e := 71)).pathShut (x := [])).head
        exact ⟨_, fp, rfl, pathT.mono _ _ _ _ _ _ X0.size hO, ext_trans X0 B⟩
      · intro h4
        have h5 : encPath acc = true := by
          cases he : encPath acc with
          | true => rfl
          | false => rw [hpo, he] at h4; exact absurd h4 (by simp)
        refine w_skip ?_
        refine x_seq ?_
        refine w_seq ?_
        refine w_region ?_
        refine t_bxn S.box ab_path sb_path rfl rfl ?_ rfl
        refine t_move rfl ?_ rfl
        have S := S.f4
        refine t_stn S sb_path rfl rfl rfl rfl (by intro zz hu; have hu : zz ∈ ([u80_0] : List Value) := hu; simp only [List.mem_cons, List.not_mem_nil, or_false] at hu; rcases hu with rfl <;> first | rfl | exact (SlR.cells (by first | assumption | exact S.tail.sl | exact S.tail.tail.sl | exact S.tail.tail.tail.sl | exact S.tail.tail.tail.tail.sl | exact S.tail.tail.tail.tail.tail.sl | exact S.tail.tail.tail.tail.tail.tail.sl | exact S.tail.tail.tail.tail.tail.tail.tail.sl | exact S.tail.tail.tail.tail.tail.tail.tail.tail.sl)).2) ?_
        intro w100 b101 S
        have B := B.trans b101
        refine t_assign rfl ?_ rfl
        refine t_assign rfl ?_ rfl
        refine t_done ?_
        refine x_seq ?_
        refine w_ret ?_
        refine x_retctt rfl rfl S.box ab_path sb_path rfl rfl rfl ?_
        have S := S.f2
        have S := S.pathShut (x := (pathOf (pathInts acc)).1)
        obtain ⟨fp, hO⟩ := (S.mono X0.size).head
        rw [h5] at hq
        rw [← hq] at hr
        have e0 : (p0, j0, ok0) = (acc, q, true) := by rw [← hr]; simp only [if_true, rp3]; congr 2; omega
        cases e0
        rw [show (pathOf (pathInts p0)).1 = p0 by rw [hpo, h5]; rfl] at hO
        exact ⟨_, fp, rfl, hO, ext_trans X0 B⟩
end Go.Proofs.Ytdaecknfahgddaa
namespace Go.Proofs.Ytdaecknfahgddaa
open Go.RowKit
set_option linter.unusedVariables false
set_option maxRecDepth 20000
theorem bt_small {n : Nat} (h : n < 256) : (bt (n : Int)).toNat = n := by
  have := bt_toNat (n : Int)
  rw [IntKind.wrap_u8] at this
  omega
theorem bt_self (x : UInt8) : bt ((x.toNat : Nat) : Int) = x := by
  apply UInt8.toNat_inj.1
  exact bt_small x.toNat_lt
theorem take_snoc1 {α : Type} {l : List α} {i : Nat} {x : α} (h : l[i]? = some x) : l.take (i + 1) = l.take i ++ [x] := take_succ h
theorem venc_pos (n : Nat) : 1 ≤ (venc n).length := by
  by_cases h : n < 128
  · rw [venc_small h]; simp
  · rw [venc_big h]; simp
/-- A number's bytes are read as_ the number. -/
theorem rvK_venc : ∀ (f m k i : Nat) (a : Int) (b pre post : List UInt8), b = pre ++ (venc m ++ post) → i = pre.length → (venc m).length ≤ f → (m ≠ 0 ∨ k = 0) → a + (m : Int) * 128 ^ k ≤ 1000000000000 →
    rvK b f k a i = some (a + (m : Int) * 128 ^ k, i + (venc m).length)
  | 0, m, k, i, a, b, pre, post, hb, hi, hf, hm, hbd => by have := venc_pos m; omega
  | f + 1, m, k, i, a, b, pre, post, hb, hi, hf, hm, hbd => by
    by_cases hs : m < 128
    · rw [venc_small hs] at hb ⊢
      have hx : b[i]? = some (bt (m : Int)) := by rw [hb, hi]; simp
      have ht := bt_small (n := m) (by omega)
      have e : ((bt (m : Int)).toNat : Int) % 128 = m := by rw [ht]; omega
      rw [rvK_last hx (by omega) (by rw [e, ht]; omega), e]
      rfl
    · rw [venc_big hs] at hb hf ⊢
      have e0 : ((m : Int) % 128 + 128) = (((m % 128 + 128 : Nat)) : Int) := by omega
      rw [e0] at hb hf ⊢
      have hx : b[i]? = some (bt ((m % 128 + 128 : Nat) : Int)) := by rw [hb, hi]; simp
      have ht := bt_small (n := m % 128 + 128) (by omega)
      have e : ((bt ((m % 128 + 128 : Nat) : Int)).toNat : Int) % 128 = ((m % 128 : Nat) : Int) := by rw [ht]; omega
      have hsum : a + ((m % 128 : Nat) : Int) * 128 ^ k + ((m / 128 : Nat) : Int) * 128 ^ (k + 1) = a + (m : Int) * 128 ^ k := by
        have h1 : (m : Int) = ((m % 128 : Nat) : Int) + 128 * ((m / 128 : Nat) : Int) := by omega
        have h2 : (128 : Int) ^ (k + 1) = 128 * 128 ^ k := by rw [Int.pow_succ]; exact Int.mul_comm _ _
        have h3 : (m : Int) * 128 ^ k = ((m % 128 : Nat) : Int) * 128 ^ k + ((m / 128 : Nat) : Int) * 128 ^ (k + 1) := by
          rw [h2, ← Int.mul_assoc, Int.mul_comm ((m / 128 : Nat) : Int) 128, ← Int.add_mul, ← h1]
        omega
      rw [rvK_more hx (by omega), e]
      have hI := rvK_venc f (m / 128) (k + 1) (i + 1) (a + ((m % 128 : Nat) : Int) * 128 ^ k) b (pre ++ [bt ((m % 128 + 128 : Nat) : Int)]) post (by rw [hb]; simp) (by rw [hi]; simp) (by simp only [List.length_cons] at hf; omega) (.inl (by omega)) (by omega)
      rw [hI, hsum]
      simp only [List.length_cons]
      congr 2
      omega
theorem readV_vint {n : Int} (h0 : 0 ≤ n) (h1 : n ≤ 1000000000000) (pre post : List UInt8) : readV (pre ++ (vint n ++ post)) pre.length = some (n, pre.length + (vint n).length) := by
  have e : vint n = venc n.toNat := by unfold vint; rw [if_pos (inR_iff.2 ⟨h0, h1⟩)]
  rw [e]
  have := rvK_venc 6 n.toNat 0 pre.length 0 _ pre post rfl rfl (by rw [← e]; exact vint_len n) (.inr rfl) (by simp; omega)
  unfold readV
  rw [this]
  simp only [Int.pow_zero, Int.mul_one, Int.zero_add]
  congr 2
  omega
/-- What is read as_ a number is that number's bytes. -/
theorem rvK_back : ∀ (f k i : Nat) (a : Int) (b : List UInt8) {r : Int × Nat}, rvK b f k a i = some r → ∃ m : Nat, r.1 = a + (m : Int) * 128 ^ k ∧ (m ≠ 0 ∨ k = 0) ∧ b.take r.2 = b.take i ++ venc m ∧ r.2 = i + (venc m).length
  | 0, _, _, _, _, _, h => by cases h
  | f + 1, k, i, a, b, r, h => by
    cases hx : b[i]? with
    | none => rw [rvK, hx] at h; cases h
    | some x =>
      by_cases hs : x.toNat < 128
      · by_cases hb : (x.toNat = 0 ∧ 0 < k) ∨ 1000000000000 < a + (x.toNat : Int) % 128 * 128 ^ k
        · rw [rvK_bad hx hs hb] at h; cases h
        · rw [rvK_last hx hs hb] at h
          cases h
          refine ⟨x.toNat, by simp only; rw [show (x.toNat : Int) % 128 = x.toNat by omega], by omega, ?_, by rw [venc_small hs]; rfl⟩
          rw [venc_small hs, bt_self]
          exact take_snoc1 hx
      · rw [rvK_more hx hs] at h
        obtain ⟨m', h1, h2, h3, h4⟩ := rvK_back f (k + 1) (i + 1) _ b h
        have hx256 := x.toNat_lt
        have hm0 : m' ≠ 0 := by omega
        have hbig : ¬ (x.toNat % 128 + 128 * m') < 128 := by omega
        have ev : venc (x.toNat % 128 + 128 * m') = x :: venc m' := by
          rw [venc_big hbig, show (x.toNat % 128 + 128 * m') / 128 = m' by omega]
          have : (((x.toNat % 128 + 128 * m' : Nat)) : Int) % 128 + 128 = ((x.toNat : Nat) : Int) := by omega
          rw [this, bt_self]
        refine ⟨x.toNat % 128 + 128 * m', ?_, .inl (by omega), ?_, ?_⟩
        · rw [h1]
          have h5 : (128 : Int) ^ (k + 1) = 128 * 128 ^ k := by rw [Int.pow_succ]; exact Int.mul_comm _ _
          have h6 : (((x.toNat % 128 + 128 * m' : Nat)) : Int) * 128 ^ k = ((x.toNat : Int) % 128) * 128 ^ k + (m' : Int) * 128 ^ (k + 1) := by
            rw [h5, ← Int.mul_assoc, Int.mul_comm (m' : Int) 128, ← Int.add_mul]
            congr 1
          omega
        · rw [h3, ev, take_snoc1 hx]
          simp
        · rw [h4, ev, List.length_cons]
          omega
theorem readV_back {b : List UInt8} {i : Nat} {r : Int × Nat} (h : readV b i = some r) : b.take r.2 = b.take i ++ vint r.1 ∧ r.2 = i + (vint r.1).length := by
  have ho := readV_out h
  obtain ⟨m, h1, h2, h3, h4⟩ := rvK_back 6 0 i 0 b h
  have e : vint r.1 = venc m := by
    unfold vint
    rw [if_pos (inR_iff.2 ⟨ho.1, ho.2.1⟩)]
    congr 1
    rw [h1]
    simp
  rw [e]
  exact ⟨h3, h4⟩
theorem decA_vint : ∀ (l acc : List Int) (pre post : List UInt8), (∀ x ∈ l, 0 ≤ x ∧ x ≤ 1000000000000) → decA (pre ++ (l.flatMap vint ++ post)) l.length pre.length acc = some (acc ++ l, pre.length + (l.flatMap vint).length)
  | [], acc, pre, post, _ => by simp [decA]
  | a :: t, acc, pre, post, h => by
    have ha := h a (by simp)
    have e : pre ++ ((a :: t).flatMap vint ++ post) = pre ++ (vint a ++ (t.flatMap vint ++ post)) := by simp
    have h1 := readV_vint ha.1 ha.2 pre (t.flatMap vint ++ post)
    rw [← e] at h1
    rw [List.length_cons, decA_yes h1]
    have h2 := decA_vint t (acc ++ [a]) (pre ++ vint a) post fun x hx => h x (by simp [hx])
    have e2 : (pre ++ vint a) ++ (t.flatMap vint ++ post) = pre ++ ((a :: t).flatMap vint ++ post) := by simp
    rw [e2, List.length_append] at h2
    rw [h2]
    simp [Nat.add_assoc]
theorem decA_back {b : List UInt8} : ∀ (n i : Nat) (acc : List Int) {r : List Int × Nat}, decA b n i acc = some r → ∃ l, r.1 = acc ++ l ∧ l.length = n ∧ b.take r.2 = b.take i ++ l.flatMap vint ∧ ∀ x ∈ l, 0 ≤ x ∧ x ≤ 1000000000000
  | 0, i, acc, r, h => by cases h; exact ⟨[], by simp, rfl, by simp, fun x hx => by cases hx⟩
  | n + 1, i, acc, r, h => by
    cases hr : readV b i with
    | none => rw [decA_no hr] at h; cases h
    | some q =>
      obtain ⟨x, j⟩ := q
      have ho := readV_out hr
      have hb := (readV_back hr).1
      rw [decA_yes hr] at h
      obtain ⟨l, h1, h2, h3, h4⟩ := decA_back n j _ h
      refine ⟨x :: l, by rw [h1]; simp, by simp [h2], by rw [h3]; simp only at hb; rw [hb]; simp, fun y hy => ?_⟩
      rcases List.mem_cons.1 hy with hy | hy
      · rw [hy]; exact ⟨ho.1, ho.2.1⟩
      · exact h4 y hy
theorem pathInts_cons (x : Part) (t : Path) : pathInts (x :: t) = piP x ++ (x.hops.flatMap piH ++ pathInts t) := by
  show intsOf piP piH (x :: t) = _
  unfold intsOf
  rw [List.flatMap_cons, List.append_assoc]
  rfl
theorem encPart_ints {x : Part} (h : encPart x = true) : (∀ y ∈ piP x, 0 ≤ y ∧ y ≤ 1000000000000) ∧ (∀ y ∈ x.hops.flatMap piH, 0 ≤ y ∧ y ≤ 1000000000000) ∧ x.hops.length ≤ 8 := by
  unfold encPart encHops at h
  simp only [Bool.and_eq_true, List.all_eq_true, inR_iff, decide_eq_true_eq] at h
  refine ⟨fun y hy => ?_, fun y hy => ?_, h.2.2.1⟩
  · simp only [piP, List.mem_cons, List.not_mem_nil, or_false] at hy
    have := h.2.2.1
    rcases hy with rfl | rfl | rfl | rfl <;> omega
  · obtain ⟨z, hz, hy⟩ := List.mem_flatMap.1 hy
    have h2 := h.2.2.2 z hz
    unfold validHop at h2
    simp only [Bool.and_eq_true, inR_iff] at h2
    simp only [piH, List.mem_cons, List.not_mem_nil, or_false] at hy
    rcases hy with rfl | rfl | rfl | rfl | rfl <;> omega
theorem partOfI_back (x : Part) : partOfI (piP x) (x.hops.flatMap piH) = x := by
  have h := hopsAt_flat x.hops []
  rw [List.append_nil] at h
  unfold partOfI
  have e3 : gI (piP x) 3 = (x.hops.length : Int) := rfl
  rw [e3, Int.toNat_natCast, h]
  rfl
theorem ints_partOfI {h l : List Int} (hh : h.length = 4) (h3 : 0 ≤ gI h 3) (hl : l.length = 5 * (gI h 3).toNat) : piP (partOfI h l) ++ (partOfI h l).hops.flatMap piH = h ++ l := by
  obtain ⟨e0, he0⟩ : ∃ e, h[0]? = some e := getx (by omega)
  obtain ⟨e1, he1⟩ : ∃ e, h[1]? = some e := getx (by omega)
  obtain ⟨e2, he2⟩ : ∃ e, h[2]? = some e := getx (by omega)
  obtain ⟨e3, he3⟩ : ∃ e, h[3]? = some e := getx (by omega)
  have g3 := gI_eq he3
  have hhl := hopsAt_len l 0 e3.toNat
  rw [g3] at h3 hl
  have hpo : partOfI h l = ⟨e0, e1, e2, hopsAt l 0 e3.toNat⟩ := by
    unfold partOfI; rw [gI_eq he0, gI_eq he1, gI_eq he2, g3]
  rw [hpo, piP_of hh he0 he1 he2 he3 (by rw [hhl]; omega)]
  show h ++ (hopsAt l 0 e3.toNat).flatMap piH = _
  rw [hopsAt_ints l _ hl]
theorem rpK_write : ∀ (q acc : Path) (pre post : List UInt8), (∀ x ∈ q, encPart x = true) → rpK (pre ++ ((pathInts q).flatMap vint ++ post)) q.length pre.length acc = if encPath (acc ++ q) then some (acc ++ q, pre.length + ((pathInts q).flatMap vint).length) else none
  | [], acc, pre, post, _ => by simp [rpK, pathInts, intsOf]
  | x :: t, acc, pre, post, h => by
    have hx := encPart_ints (h x (by simp))
    have e0 : (pathInts (x :: t)).flatMap vint = (piP x).flatMap vint ++ ((x.hops.flatMap piH).flatMap vint ++ (pathInts t).flatMap vint) := by rw [pathInts_cons]; simp
    have eb : pre ++ ((pathInts (x :: t)).flatMap vint ++ post) = pre ++ ((piP x).flatMap vint ++ ((x.hops.flatMap piH).flatMap vint ++ ((pathInts t).flatMap vint ++ post))) := by rw [e0]; simp
    have h1 := decA_vint (piP x) [] pre ((x.hops.flatMap piH).flatMap vint ++ ((pathInts t).flatMap vint ++ post)) hx.1
    have h2 := decA_vint (x.hops.flatMap piH) [] (pre ++ (piP x).flatMap vint) ((pathInts t).flatMap vint ++ post) hx.2.1
    have hI := rpK_write t (acc ++ [x]) ((pre ++ (piP x).flatMap vint) ++ (x.hops.flatMap piH).flatMap vint) post fun y hy => h y (by simp [hy])
    have eb2 : (pre ++ (piP x).flatMap vint) ++ ((x.hops.flatMap piH).flatMap vint ++ ((pathInts t).flatMap vint ++ post)) = pre ++ ((pathInts (x :: t)).flatMap vint ++ post) := by rw [eb]; simp
    have eb3 : ((pre ++ (piP x).flatMap vint) ++ (x.hops.flatMap piH).flatMap vint) ++ ((pathInts t).flatMap vint ++ post) = pre ++ ((pathInts (x :: t)).flatMap vint ++ post) := by rw [eb]; simp
    rw [← eb, List.nil_append, show (piP x).length = 4 from rfl] at h1
    rw [eb2, List.nil_append, piH_len, List.length_append] at h2
    rw [eb3, List.length_append, List.length_append] at hI
    have g3 : gI (piP x) 3 = (x.hops.length : Int) := rfl
    rw [List.length_cons, rp_step h1 (by rw [g3]; omega) (by rw [g3, Int.toNat_natCast]; exact h2), partOfI_back, hI, e0]
    have e5 : acc ++ [x] ++ t = acc ++ x :: t := by simp
    rw [e5]
    simp only [List.length_append, Nat.add_assoc]
theorem rpK_back {b : List UInt8} : ∀ (n i : Nat) (acc : Path) {r : Path × Nat}, rpK b n i acc = some r → ∃ q, r.1 = acc ++ q ∧ q.length = n ∧ b.take r.2 = b.take i ++ (pathInts q).flatMap vint
  | 0, i, acc, r, h => by
    rw [rp_end] at h
    split at h
    · cases h; exact ⟨[], by simp, rfl, by simp [pathInts, intsOf]⟩
    · cases h
  | n + 1, i, acc, r, h => by
    cases hd : decA b 4 i [] with
    | none => rw [rp_none hd] at h; cases h
    | some q4 =>
      obtain ⟨h4, j⟩ := q4
      obtain ⟨l4, a1, a2, a3, a4⟩ := decA_back 4 i [] hd
      simp only [List.nil_append] at a1
      subst a1
      by_cases h8 : 8 < gI h4 3
      · rw [rp_bad8 hd h8] at h; cases h
      · cases hd2 : decA b (5 * (gI h4 3).toNat) j [] with
        | none => rw [rp_bad5 hd hd2] at h; cases h
        | some q5 =>
          obtain ⟨h5, e⟩ := q5
          obtain ⟨l5, b1, b2, b3, b4⟩ := decA_back _ j [] hd2
          simp only [List.nil_append] at b1
          subst b1
          rw [rp_step hd h8 hd2] at h
          obtain ⟨q, c1, c2, c3⟩ := rpK_back n e _ h
          obtain ⟨e3, he3⟩ : ∃ e, h4[3]? = some e := getx (by omega)
          have g0 : 0 ≤ gI h4 3 := by rw [gI_eq he3]; exact (a4 _ (List.mem_of_getElem? he3)).1
          have hp := ints_partOfI a2 g0 b2
          refine ⟨partOfI h4 h5 :: q, by rw [c1]; simp, by simp [c2], ?_⟩
          simp only at a3 b3
          rw [c3, b3, a3, pathInts_cons, ← List.append_assoc (piP _), hp]
          simp
theorem encPath_part {p : Path} (h : encPath p = true) : List.length p ≤ 3 ∧ ∀ x ∈ p, encPart x = true := by
  unfold encPath at h
  simp only [Bool.and_eq_true, decide_eq_true_eq, List.all_eq_true] at h
  exact h
theorem readVI_nat (b : List UInt8) (i : Nat) : readVI b (i : Int) = readV b i := by rw [readVI, if_pos (by omega)]; rfl
/-- A path's encoding is read as_ the path. -/
theorem readP_write {p : Path} (h : encPath p = true) (pre post : List UInt8) : readP (pre ++ (pathEnc p ++ post)) pre.length = some (p, pre.length + (pathEnc p).length) := by
  have hp := encPath_part h
  have e : pathEnc p = vint (List.length p : Int) ++ (pathInts p).flatMap vint := by unfold pathEnc; rw [if_pos h]
  have e1 : pre ++ (pathEnc p ++ post) = pre ++ (vint (List.length p : Int) ++ ((pathInts p).flatMap vint ++ post)) := by rw [e]; simp
  have e2 : pre ++ (pathEnc p ++ post) = (pre ++ vint (List.length p : Int)) ++ ((pathInts p).flatMap vint ++ post) := by rw [e]; simp
  have h1 := readV_vint (n := (List.length p : Int)) (by omega) (by omega) pre ((pathInts p).flatMap vint ++ post)
  rw [← e1, ← readVI_nat] at h1
  have h2 := rpK_write p [] (pre ++ vint (List.length p : Int)) post hp.2
  rw [← e2, List.nil_append, h, List.length_append] at h2
  rw [readP_eq h1 (by omega), Int.toNat_natCast]
  show rpK _ p.length _ [] = _
  rw [h2, e]
  simp [Nat.add_assoc]
/-- What is read as_ a path is that path's encoding. -/
theorem readP_back {b : List UInt8} {i : Int} {r : Path × Nat} (h : readP b i = some r) : 0 ≤ i ∧ encPath r.1 = true ∧ b.take r.2 = b.take i.toNat ++ pathEnc r.1 ∧ r.2 ≤ b.length := by
  have ho := readP_out h
  cases hv : readVI b i with
  | none => rw [readP_no hv] at h; cases h
  | some q =>
    obtain ⟨n, j⟩ := q
    have hvo := readVI_out hv
    by_cases hn : 3 < n
    · rw [readP_big hv hn] at h; cases h
    · rw [readP_eq hv hn] at h
      obtain ⟨q, c1, c2, c3⟩ := rpK_back _ _ _ h
      rw [List.nil_append] at c1
      have hi0 : 0 ≤ i := hvo.2.2.2.2
      have hv2 : readV b i.toNat = some (n, j) := by rw [readVI, if_pos hi0] at hv; exact hv
      have hb := (readV_back hv2).1
      simp only at hb
      refine ⟨hi0, ho.1, ?_, ho.2⟩
      have hq : List.length r.1 = n.toNat := by rw [c1]; exact c2
      have hn0 : 0 ≤ n := hvo.1
      unfold pathEnc
      rw [if_pos ho.1, c3, hb, c1, show ((q.length : Nat) : Int) = n by omega]
      simp
theorem gI_take {l : List Int} {n m : Nat} (h : m < n) : gI (l.take n) m = gI l m := by unfold gI; rw [List.getElem?_take_of_lt h]
theorem gI_drop {l : List Int} {i m : Nat} : gI (l.drop i) m = gI l (i + m) := by unfold gI; rw [List.getElem?_drop]
theorem cut_at (l : List Int) (i n : Nat) : l.drop i = (l.drop i).take n ++ l.drop (i + n) := by
  rw [← List.drop_drop]
  exact (List.take_append_drop n (l.drop i)).symm
/-- Numbers that spell a path are its numbers. -/
theorem pfi_back (l : List Int) : ∀ (k i : Nat) (acc : Path) {r : Path}, l.length - i ≤ k → i ≤ l.length → pfi l i acc = some r → ∃ q, r = acc ++ q ∧ pathInts q = l.drop i
  | k, i, acc, r, hk, hi, h => by
    by_cases hlt : i < l.length
    · by_cases hok : okAt l i
      · have hok' := hok
        unfold okAt at hok'
        rw [pfi_step hlt hok] at h
        obtain ⟨k, rfl⟩ : ∃ k', k = k' + 1 := ⟨k - 1, by omega⟩
        obtain ⟨q, h1, h2⟩ := pfi_back l k (i + 4 + 5 * (gI l (i + 3)).toNat) _ (by omega) (by omega) h
        refine ⟨partAt l i :: q, by rw [h1]; simp, ?_⟩
        rw [pathInts_cons, h2]
        have e4 := cut_at l i 4
        have e5 := cut_at l (i + 4) (5 * (gI l (i + 3)).toNat)
        have hl4 : ((l.drop i).take 4).length = 4 := by rw [List.length_take, List.length_drop]; omega
        have hg4 : ∀ j, j < 4 → gI ((l.drop i).take 4) j = gI l (i + j) := fun j hj => by rw [gI_take hj, gI_drop]
        have hl5 : ((l.drop (i + 4)).take (5 * (gI l (i + 3)).toNat)).length = 5 * (gI ((l.drop i).take 4) 3).toNat := by rw [hg4 3 (by omega), List.length_take, List.length_drop]; omega
        have hp := ints_partOfI hl4 (by rw [hg4 3 (by omega)]; exact hok'.2.1.1) hl5
        have hpa : partOfI ((l.drop i).take 4) ((l.drop (i + 4)).take (5 * (gI l (i + 3)).toNat)) = partAt l i := by
          unfold partOfI partAt
          rw [hg4 0 (by omega), hg4 1 (by omega), hg4 2 (by omega), hg4 3 (by omega), Nat.add_zero]
          congr 1
          unfold hopsAt
          refine List.map_congr_left fun j hj => ?_
          have hjn := List.mem_range.1 hj
          have hgg : ∀ m, m < 5 * (gI l (i + 3)).toNat → gI ((l.drop (i + 4)).take (5 * (gI l (i + 3)).toNat)) m = gI l (i + 4 + m) := fun m hm => by rw [gI_take hm, gI_drop]
          unfold hopAt
          rw [hgg _ (by omega), hgg _ (by omega), hgg _ (by omega), hgg _ (by omega), hgg _ (by omega)]
          simp only [Nat.zero_add, Nat.add_assoc]
        rw [hpa] at hp
        rw [← List.append_assoc, hp, List.append_assoc, ← e5, ← e4]
      · rw [pfi_bad hlt hok] at h; cases h
    · rw [pfi_done hlt] at h
      cases h
      exact ⟨[], by simp, by rw [List.drop_of_length_le (by omega)]; rfl⟩
theorem pathOf_back {l : List Int} {p : Path} (h : pathOf l = (p, true)) : pathInts p = l ∧ encPath p = true := by
  unfold pathOf at h
  cases hp : pfi l 0 [] with
  | none => rw [hp] at h; cases h
  | some r =>
    rw [hp] at h
    simp only at h
    split at h
    · rename_i he
      cases h
      obtain ⟨q, h1, h2⟩ := pfi_back l l.length 0 [] (by omega) (by omega) hp
      rw [List.nil_append] at h1
      subst h1
      exact ⟨by rw [h2]; rfl, he⟩
    · cases h
end Go.Proofs.Ytdaecknfahgddaa
namespace Go.Proofs.Ytdaecknfahgddaa
open Go.RowKit
set_option linter.unusedVariables false
set_option maxRecDepth 20000
theorem PathS.ints {p : Path} (h : PathS p) : ∀ x ∈ pathInts p, In64 x := by
  have h' := h.2
  clear h
  induction p with
  | nil => intro x hx; rw [show pathInts ([] : Path) = [] from rfl] at hx; cases hx
  | cons a t ih =>
    intro x hx
    rw [pathInts_cons, List.mem_append, List.mem_append] at hx
    obtain ⟨hl, k1, k2, k3, k4⟩ := h' a (by simp)
    rcases hx with hx | hx | hx
    · unfold piP at hx
      simp only [List.mem_cons, List.not_mem_nil, or_false] at hx
      rcases hx with rfl | rfl | rfl | rfl
      · exact k1
      · exact k2
      · exact k3
      · exact in64 (by omega) (by omega)
    · obtain ⟨y, hy, hx⟩ := List.mem_flatMap.1 hx
      obtain ⟨m1, m2, m3, m4, m5⟩ := k4 y hy
      unfold piH at hx
      simp only [List.mem_cons, List.not_mem_nil, or_false] at hx
      rcases hx with rfl | rfl | rfl | rfl | rfl <;> assumption
    · exact ih (fun y hy => h' y (List.mem_cons_of_mem _ hy)) x hx
theorem PathS.enc {p : Path} (h : PathS p) : (pathEnc p).length ≤ 1000 := by
  have hT := pathInts_len p
  have hs := h.sz
  have hv0 := vint_len (List.length p : Int)
  have hf1 := flat_vint (pathInts p)
  unfold pathEnc
  split
  · rw [List.length_append]; omega
  · simp
theorem enc_rng {p : Path} (h : encPath p = true) : rng_path p ∧ lenOk_path p := by
  have hp := encPath_part h
  have key : ∀ x ∈ p, rng_part x ∧ x.hops.length ≤ 8 := fun x hx => by
    have hx' := hp.2 x hx
    unfold encPart encHops at hx'
    simp only [Bool.and_eq_true, inR_iff, decide_eq_true_eq, List.all_eq_true] at hx'
    obtain ⟨h1, ⟨h2, h3⟩, h4, h5⟩ := hx'
    exact ⟨⟨in64 (by omega) (by omega), in64 (by omega) (by omega), in64 (by omega) (by omega), fun y hy => validHop_rng (h5 y hy)⟩, h4⟩
  exact ⟨fun x hx => (key x hx).1, by omega, fun x hx => by have := (key x hx).2; show x.hops.length ≤ _; omega⟩
theorem spec_DrawAppendPath (code : List UInt8) (v : Value) (w : World) (h : SlR byteT w v code) (hz : code.length ≤ 1048576) : Calls Try.prog 32 #[v] w fun e w' => ∃ (vb vp : Value) (b : List UInt8) (p : Path), e = .returned (.tuple #[vb, .agg #[vp]]) ∧ (b.length ≤ 2 ∧ PathS p) ∧ Sep w.heap.size w' [slO byteT 5 vb b, rdO partT vp p] ∧ Ext w w' := by
  have K := CodeK.of h hz
  have X0 := Below.refl w.heap.size w
  refine enter Try.func32 rfl Try.ntmps32 rfl ?_
  have S := Sep.nil w
  have B := Below.refl w.heap.size w
  have Hb := Nat.le_refl w.heap.size
  refine w_seq ?_
  refine w_region ?_
  refine t_assign rfl ?_ rfl
  refine t_alloc S z_path rfl ?_ rfl rfl
  intro g3 w1 x2 S
  have B := bx Hb B x2
  refine t_done ?_
  refine x_seq ?_
  refine w_seq ?_
  refine w_region ?_
  refine t_move rfl ?_ rfl
  refine t_call Try.call72 rfl (spec_l22One _ _ _ (by first | assumption | exact SlR.below (by assumption) B) (by omega)) ?_ rfl rfl
  rintro e w3 ⟨g9, va9, vl9, vp9, A9, L9, p9, rfl, hf9, S9, x4⟩
  refine ⟨_, rfl, x4, ?_⟩
  have S := S.join2 x4 S9
  clear S9
  have B := bx Hb B x4
  refine t_move rfl ?_ rfl
  refine t_extract rfl rfl ?_ rfl
  refine t_extract rfl rfl ?_ rfl
  refine t_extract rfl rfl ?_ rfl
  refine t_alloc S z_topo rfl ?_ rfl rfl
  intro g5 w5 x6 S
  have B := bx Hb B x6
  refine t_alloc S z_path rfl ?_ rfl rfl
  intro g6 w7 x8 S
  have B := bx Hb B x8
  refine t_assign rfl ?_ rfl
  have S := S.f1
  refine t_stn S sb_topo rfl rfl rfl rfl (by intro zz hu; have hu : zz ∈ ([va9, vl9] : List Value) := hu; simp only [List.mem_cons, List.not_mem_nil, or_false] at hu; rcases hu with rfl | rfl <;> first | rfl | exact (SlR.cells (by first | assumption | exact S.tail.sl | exact S.tail.tail.sl | exact S.tail.tail.tail.sl | exact S.tail.tail.tail.tail.sl | exact S.tail.tail.tail.tail.tail.sl | exact S.tail.tail.tail.tail.tail.tail.sl | exact S.tail.tail.tail.tail.tail.tail.tail.sl | exact S.tail.tail.tail.tail.tail.tail.tail.tail.sl | exact S.tail.tail.tail.tail.tail.tail.tail.tail.tail.sl | exact S.tail.tail.tail.tail.tail.tail.tail.tail.tail.tail.sl | exact S.tail.tail.tail.tail.tail.tail.tail.tail.tail.tail.tail.sl | exact S.tail.tail.tail.tail.tail.tail.tail.tail.tail.tail.tail.tail.sl | exact S.tail.tail.tail.tail.tail.tail.tail.tail.tail.tail.tail.tail.tail.sl)).2) ?_
  intro w9 b10 S
  have B := B.trans b10
  have S := S.f1
  refine t_stn S sb_path rfl rfl rfl rfl (by intro zz hu; have hu : zz ∈ ([vp9] : List Value) := hu; simp only [List.mem_cons, List.not_mem_nil, or_false] at hu; rcases hu with rfl <;> first | rfl | exact (SlR.cells (by first | assumption | exact S.tail.sl | exact S.tail.tail.sl | exact S.tail.tail.tail.sl | exact S.tail.tail.tail.tail.sl | exact S.tail.tail.tail.tail.tail.sl | exact S.tail.tail.tail.tail.tail.tail.sl | exact S.tail.tail.tail.tail.tail.tail.tail.sl | exact S.tail.tail.tail.tail.tail.tail.tail.tail.sl | exact S.tail.tail.tail.tail.tail.tail.tail.tail.tail.sl | exact S.tail.tail.tail.tail.tail.tail.tail.tail.tail.tail.sl | exact S.tail.tail.tail.tail.tail.tail.tail.tail.tail.tail.tail.sl | exact S.tail.tail.tail.tail.tail.tail.tail.tail.tail.tail.tail.tail.sl | exact S.tail.tail.tail.tail.tail.tail.tail.tail.tail.tail.tail.tail.tail.sl | exact S.tail.rd | exact S.tail.tail.rd | exact S.tail.tail.tail.rd | exact S.tail.tail.tail.tail.rd | exact S.tail.tail.tail.tail.tail.rd | exact S.tail.tail.tail.tail.tail.tail.rd | exact S.tail.tail.tail.tail.tail.tail.tail.rd | exact S.tail.tail.tail.tail.tail.tail.tail.tail.rd | exact S.tail.tail.tail.tail.tail.tail.tail.tail.tail.rd | exact S.tail.tail.tail.tail.tail.tail.tail.tail.tail.tail.rd | exact S.tail.tail.tail.tail.tail.tail.tail.tail.tail.tail.tail.rd | exact S.tail.tail.tail.tail.tail.tail.tail.tail.tail.tail.tail.tail.rd | exact S.tail.tail.tail.tail.tail.tail.tail.tail.tail.tail.tail.tail.tail.rd)).2) ?_
  intro w11 b12 S
  have B := B.trans b12
  refine t_done ?_
  refine x_seq ?_
  refine w_seq ?_
  obtain ⟨T, hP⟩ := hf9
  refine w_drawP [0, 1] (.alt (.st .fin 2 (.alt (.st .fin 3 (.alt (.st .fin 4 (.st .fin 5 (.st .fin 6 .done))) (.st .fin 5 (.st .fin 4 (.st .fin 6 .done))))) (.st .fin 4 (.st .fin 3 (.st .fin 5 (.st .fin 6 .done)))))) (.st .fin 4 (.st .fin 2 (.st .fin 3 (.st .fin 5 (.st .fin 6 .done)))))) mixed (by kernel_rfl) ?_
  intro w13 x14
  have B := bx Hb B x14
  have S := S.below x14
  refine p_move rfl ?_ rfl
  refine p_move rfl ?_ rfl
  refine p_done ?_
  refine t_alt ?_ ?_
  · have S := S.f5
    refine t_callf Try.call64 rfl (spec_l1Below 3 S (K.below B)) ?_ rfl
    rintro e w15 ⟨y15, rfl, hf15, S, x16⟩
    refine ⟨_, rfl, ?_⟩
    have B := B.trans x16
    refine t_alt ?_ ?_
    · refine t_callf Try.call73 rfl (spec_l1Bytes y15 S (K.below B) (by omega)) ?_ rfl
      rintro e w17 ⟨v16, l16, rfl, hf16, S, x18⟩
      refine ⟨_, rfl, ?_⟩
      have B := B.trans x18
      refine t_alt ?_ ?_
      · refine t_bxn S.tail.tail.box ab_path sb_path rfl rfl ?_ rfl
        refine t_assign rfl ?_ rfl
        have S := S.f7
        refine t_stn S sb_path rfl rfl rfl rfl (by intro zz hu; have hu : zz ∈ ([vp9] : List Value) := hu; simp only [List.mem_cons, List.not_mem_nil, or_false] at hu; rcases hu with rfl <;> first | rfl | exact (SlR.cells (by first | assumption | exact S.tail.sl | exact S.tail.tail.sl | exact S.tail.tail.tail.sl | exact S.tail.tail.tail.tail.sl | exact S.tail.tail.tail.tail.tail.sl | exact S.tail.tail.tail.tail.tail.tail.sl | exact S.tail.tail.tail.tail.tail.tail.tail.sl | exact S.tail.tail.tail.tail.tail.tail.tail.tail.sl | exact S.tail.tail.tail.tail.tail.tail.tail.tail.tail.sl | exact S.tail.tail.tail.tail.tail.tail.tail.tail.tail.tail.sl | exact S.tail.tail.tail.tail.tail.tail.tail.tail.tail.tail.tail.sl | exact S.tail.tail.tail.tail.tail.tail.tail.tail.tail.tail.tail.tail.sl | exact S.tail.tail.tail.tail.tail.tail.tail.tail.tail.tail.tail.tail.tail.sl | exact S.tail.rd | exact S.tail.tail.rd | exact S.tail.tail.tail.rd | exact S.tail.tail.tail.tail.rd | exact S.tail.tail.tail.tail.tail.rd | exact S.tail.tail.tail.tail.tail.tail.rd | exact S.tail.tail.tail.tail.tail.tail.tail.rd | exact S.tail.tail.tail.tail.tail.tail.tail.tail.rd | exact S.tail.tail.tail.tail.tail.tail.tail.tail.tail.rd | exact S.tail.tail.tail.tail.tail.tail.tail.tail.tail.tail.rd | exact S.tail.tail.tail.tail.tail.tail.tail.tail.tail.tail.tail.rd | exact S.tail.tail.tail.tail.tail.tail.tail.tail.tail.tail.tail.tail.rd | exact S.tail.tail.tail.tail.tail.tail.tail.tail.tail.tail.tail.tail.tail.rd)).2) ?_
        intro w19 b20 S
        have B := B.trans b20
        refine t_done' ?_
        refine x_seq ?_
        refine w_ret ?_
        refine x_rettc rfl rfl rfl S.box ab_path sb_path rfl ?_
        have S := S.tail
        have S := S.f1
        have S := S.tail
        have S := S.f1
        have S := S.tail
        have S := S.f1
        have S := S.tail
        have S := S.f2
        have S := S.tail
        have S := S.f2
        have S := S.tail
        have S := S.f1
        have S := S.f1
        exact ⟨_, _, _, _, rfl, ⟨by omega, hP⟩, S, ext_trans X0 B⟩
      · refine t_assign rfl ?_ rfl
        refine t_bxn S.tail.tail.box ab_path sb_path rfl rfl ?_ rfl
        have S := S.f7
        refine t_stn S sb_path rfl rfl rfl rfl (by intro zz hu; have hu : zz ∈ ([vp9] : List Value) := hu; simp only [List.mem_cons, List.not_mem_nil, or_false] at hu; rcases hu with rfl <;> first | rfl | exact (SlR.cells (by first | assumption | exact S.tail.sl | exact S.tail.tail.sl | exact S.tail.tail.tail.sl | exact S.tail.tail.tail.tail.sl | exact S.tail.tail.tail.tail.tail.sl | exact S.tail.tail.tail.tail.tail.tail.sl | exact S.tail.tail.tail.tail.tail.tail.tail.sl | exact S.tail.tail.tail.tail.tail.tail.tail.tail.sl | exact S.tail.tail.tail.tail.tail.tail.tail.tail.tail.sl | exact S.tail.tail.tail.tail.tail.tail.tail.tail.tail.tail.sl | exact S.tail.tail.tail.tail.tail.tail.tail.tail.tail.tail.tail.sl | exact S.tail.tail.tail.tail.tail.tail.tail.tail.tail.tail.tail.tail.sl | exact S.tail.tail.tail.tail.tail.tail.tail.tail.tail.tail.tail.tail.tail.sl | exact S.tail.rd | exact S.tail.tail.rd | exact S.tail.tail.tail.rd | exact S.tail.tail.tail.tail.rd | exact S.tail.tail.tail.tail.tail.rd | exact S.tail.tail.tail.tail.tail.tail.rd | exact S.tail.tail.tail.tail.tail.tail.tail.rd | exact S.tail.tail.tail.tail.tail.tail.tail.tail.rd | exact S.tail.tail.tail.tail.tail.tail.tail.tail.tail.rd | exact S.tail.tail.tail.tail.tail.tail.tail.tail.tail.tail.rd | exact S.tail.tail.tail.tail.tail.tail.tail.tail.tail.tail.tail.rd | exact S.tail.tail.tail.tail.tail.tail.tail.tail.tail.tail.tail.tail.rd | exact S.tail.tail.tail.tail.tail.tail.tail.tail.tail.tail.tail.tail.tail.rd)).2) ?_
        intro w21 b22 S
        have B := B.trans b22
        refine t_done' ?_
        refine x_seq ?_
        refine w_ret ?_
        refine x_rettc rfl rfl rfl S.box ab_path sb_path rfl ?_
        have S := S.tail
        have S := S.f1
        have S := S.tail
        have S := S.f1
        have S := S.tail
        have S := S.f1
        have S := S.tail
        have S := S.f2
        have S := S.tail
        have S := S.f2
        have S := S.tail
        have S := S.f1
        have S := S.f1
        exact ⟨_, _, _, _, rfl, ⟨by omega, hP⟩, S, ext_trans X0 B⟩
    · refine t_bxn S.tail.box ab_path sb_path rfl rfl ?_ rfl
      refine t_callf Try.call73 rfl (spec_l1Bytes y15 S (K.below B) (by omega)) ?_ rfl
      rintro e w23 ⟨v16, l16, rfl, hf16, S, x24⟩
      refine ⟨_, rfl, ?_⟩
      have B := B.trans x24
      refine t_assign rfl ?_ rfl
      have S := S.f7
      refine t_stn S sb_path rfl rfl rfl rfl (by intro zz hu; have hu : zz ∈ ([vp9] : List Value) := hu; simp only [List.mem_cons, List.not_mem_nil, or_false] at hu; rcases hu with rfl <;> first | rfl | exact (SlR.cells (by first | assumption | exact S.tail.sl | exact S.tail.tail.sl | exact S.tail.tail.tail.sl | exact S.tail.tail.tail.tail.sl | exact S.tail.tail.tail.tail.tail.sl | exact S.tail.tail.tail.tail.tail.tail.sl | exact S.tail.tail.tail.tail.tail.tail.tail.sl | exact S.tail.tail.tail.tail.tail.tail.tail.tail.sl | exact S.tail.tail.tail.tail.tail.tail.tail.tail.tail.sl | exact S.tail.tail.tail.tail.tail.tail.tail.tail.tail.tail.sl | exact S.tail.tail.tail.tail.tail.tail.tail.tail.tail.tail.tail.sl | exact S.tail.tail.tail.tail.tail.tail.tail.tail.tail.tail.tail.tail.sl | exact S.tail.tail.tail.tail.tail.tail.tail.tail.tail.tail.tail.tail.tail.sl | exact S.tail.rd | exact S.tail.tail.rd | exact S.tail.tail.tail.rd | exact S.tail.tail.tail.tail.rd | exact S.tail.tail.tail.tail.tail.rd | exact S.tail.tail.tail.tail.tail.tail.rd | exact S.tail.tail.tail.tail.tail.tail.tail.rd | exact S.tail.tail.tail.tail.tail.tail.tail.tail.rd | exact S.tail.tail.tail.tail.tail.tail.tail.tail.tail.rd | exact S.tail.tail.tail.tail.tail.tail.tail.tail.tail.tail.rd | exact S.tail.tail.tail.tail.tail.tail.tail.tail.tail.tail.tail.rd | exact S.tail.tail.tail.tail.tail.tail.tail.tail.tail.tail.tail.tail.rd | exact S.tail.tail.tail.tail.tail.tail.tail.tail.tail.tail.tail.tail.tail.rd)).2) ?_
      intro w25 b26 S
      have B := B.trans b26
      refine t_done' ?_
      refine x_seq ?_
      refine w_ret ?_
      refine x_rettc rfl rfl rfl S.box ab_path sb_path rfl ?_
      have S := S.tail
      have S := S.f1
      have S := S.tail
      have S := S.f1
      have S := S.tail
      have S := S.f1
      have S := S.tail
      have S := S.f2
      have S := S.tail
      have S := S.f2
      have S := S.tail
      have S := S.f1
      have S := S.f1
      exact ⟨_, _, _, _, rfl, ⟨by omega, hP⟩, S, ext_trans X0 B⟩
  · refine t_bxn S.box ab_path sb_path rfl rfl ?_ rfl
    have S := S.f5
    refine t_callf Try.call64 rfl (spec_l1Below 3 S (K.below B)) ?_ rfl
    rintro e w27 ⟨y15, rfl, hf15, S, x28⟩
    refine ⟨_, rfl, ?_⟩
    have B := B.trans x28
    refine t_callf Try.call73 rfl (spec_l1Bytes y15 S (K.below B) (by omega)) ?_ rfl
    rintro e w29 ⟨v16, l16, rfl, hf16, S, x30⟩
    refine ⟨_, rfl, ?_⟩
    have B := B.trans x30
    refine t_assign rfl ?_ rfl
    have S := S.f7
    refine t_stn S sb_path rfl rfl rfl rfl (by intro zz hu; have hu : zz ∈ ([vp9] : List Value) := hu; simp only [List.mem_cons, List.not_mem_nil, or_false] at hu; rcases hu with rfl <;> first | rfl | exact (SlR.cells (by first | assumption | exact S.tail.sl | exact S.tail.tail.sl | exact S.tail.tail.tail.sl | exact S.tail.tail.tail.tail.sl | exact S.tail.tail.tail.tail.tail.sl | exact S.tail.tail.tail.tail.tail.tail.sl | exact S.tail.tail.tail.tail.tail.tail.tail.sl | exact S.tail.tail.tail.tail.tail.tail.tail.tail.sl | exact S.tail.tail.tail.tail.tail.tail.tail.tail.tail.sl | exact S.tail.tail.tail.tail.tail.tail.tail.tail.tail.tail.sl | exact S.tail.tail.tail.tail.tail.tail.tail.tail.tail.tail.tail.sl | exact S.tail.tail.tail.tail.tail.tail.tail.tail.tail.tail.tail.tail.sl | exact S.tail.tail.tail.tail.tail.tail.tail.tail.tail.tail.tail.tail.tail.sl | exact S.tail.rd | exact S.tail.tail.rd | exact S.tail.tail.tail.rd | exact S.tail.tail.tail.tail.rd | exact S.tail.tail.tail.tail.tail.rd | exact S.tail.tail.tail.tail.tail.tail.rd | exact S.tail.tail.tail.tail.tail.tail.tail.rd | exact S.tail.tail.tail.tail.tail.tail.tail.tail.rd | exact S.tail.tail.tail.tail.tail.tail.tail.tail.tail.rd | exact S.tail.tail.tail.tail.tail.tail.tail.tail.tail.tail.rd | exact S.tail.tail.tail.tail.tail.tail.tail.tail.tail.tail.tail.rd | exact S.tail.tail.tail.tail.tail.tail.tail.tail.tail.tail.tail.tail.rd | exact S.tail.tail.tail.tail.tail.tail.tail.tail.tail.tail.tail.tail.tail.rd)).2) ?_
    intro w31 b32 S
    have B := B.trans b32
    refine t_done' ?_
    refine x_seq ?_
    refine w_ret ?_
    refine x_rettc rfl rfl rfl S.box ab_path sb_path rfl ?_
    have S := S.tail
    have S := S.f1
    have S := S.tail
    have S := S.f1
    have S := S.tail
    have S := S.f1
    have S := S.tail
    have S := S.f2
    have S := S.tail
    have S := S.f2
    have S := S.tail
    have S := S.f1
    have S := S.f1
    exact ⟨_, _, _, _, rfl, ⟨by omega, hP⟩, S, ext_trans X0 B⟩
theorem spec_DrawReadPath (code : List UInt8) (v : Value) (w : World) (h : SlR byteT w v code) (hz : code.length ≤ 1048576) : Calls Try.prog 34 #[v] w fun e w' => ∃ (vb : Value) (b : List UInt8) (i : Int), e = .returned (.tuple #[vb, I i]) ∧ (b.length ≤ 2000 ∧ In64 i) ∧ Sep w.heap.size w' [rdO byteT vb b] ∧ Ext w w' := by
  have K := CodeK.of h hz
  have X0 := Below.refl w.heap.size w
  refine enter Try.func34 rfl Try.ntmps34 rfl ?_
  have S := Sep.nil w
  have B := Below.refl w.heap.size w
  have Hb := Nat.le_refl w.heap.size
  refine w_seq ?_
  refine w_region ?_
  refine t_assign rfl ?_ rfl
  refine t_assign rfl ?_ rfl
  refine t_done ?_
  refine x_seq ?_
  refine w_seq ?_
  refine w_region ?_
  refine t_move rfl ?_ rfl
  refine t_call Try.call72 rfl (spec_l22One _ _ _ (by first | assumption | exact SlR.below (by assumption) B) (by omega)) ?_ rfl rfl
  rintro e w33 ⟨g10, va10, vl10, vp10, A10, L10, p10, rfl, hf10, S9, x34⟩
  refine ⟨_, rfl, x34, ?_⟩
  have S := S.join2 x34 S9
  clear S9
  have B := bx Hb B x34
  refine t_move rfl ?_ rfl
  refine t_extract rfl rfl ?_ rfl
  refine t_extract rfl rfl ?_ rfl
  refine t_extract rfl rfl ?_ rfl
  refine t_alloc S z_topo rfl ?_ rfl rfl
  intro g5 w35 x36 S
  have B := bx Hb B x36
  refine t_alloc S z_path rfl ?_ rfl rfl
  intro g6 w37 x38 S
  have B := bx Hb B x38
  refine t_assign rfl ?_ rfl
  have S := S.f1
  refine t_stn S sb_topo rfl rfl rfl rfl (by intro zz hu; have hu : zz ∈ ([va10, vl10] : List Value) := hu; simp only [List.mem_cons, List.not_mem_nil, or_false] at hu; rcases hu with rfl | rfl <;> first | rfl | exact (SlR.cells (by first | assumption | exact S.tail.sl | exact S.tail.tail.sl | exact S.tail.tail.tail.sl | exact S.tail.tail.tail.tail.sl | exact S.tail.tail.tail.tail.tail.sl | exact S.tail.tail.tail.tail.tail.tail.sl | exact S.tail.tail.tail.tail.tail.tail.tail.sl | exact S.tail.tail.tail.tail.tail.tail.tail.tail.sl | exact S.tail.tail.tail.tail.tail.tail.tail.tail.tail.sl | exact S.tail.tail.tail.tail.tail.tail.tail.tail.tail.tail.sl | exact S.tail.tail.tail.tail.tail.tail.tail.tail.tail.tail.tail.sl | exact S.tail.tail.tail.tail.tail.tail.tail.tail.tail.tail.tail.tail.sl | exact S.tail.tail.tail.tail.tail.tail.tail.tail.tail.tail.tail.tail.tail.sl)).2) ?_
  intro w39 b40 S
  have B := B.trans b40
  have S := S.f1
  refine t_stn S sb_path rfl rfl rfl rfl (by intro zz hu; have hu : zz ∈ ([vp10] : List Value) := hu; simp only [List.mem_cons, List.not_mem_nil, or_false] at hu; rcases hu with rfl <;> first | rfl | exact (SlR.cells (by first | assumption | exact S.tail.sl | exact S.tail.tail.sl | exact S.tail.tail.tail.sl | exact S.tail.tail.tail.tail.sl | exact S.tail.tail.tail.tail.tail.sl | exact S.tail.tail.tail.tail.tail.tail.sl | exact S.tail.tail.tail.tail.tail.tail.tail.sl | exact S.tail.tail.tail.tail.tail.tail.tail.tail.sl | exact S.tail.tail.tail.tail.tail.tail.tail.tail.tail.sl | exact S.tail.tail.tail.tail.tail.tail.tail.tail.tail.tail.sl | exact S.tail.tail.tail.tail.tail.tail.tail.tail.tail.tail.tail.sl | exact S.tail.tail.tail.tail.tail.tail.tail.tail.tail.tail.tail.tail.sl | exact S.tail.tail.tail.tail.tail.tail.tail.tail.tail.tail.tail.tail.tail.sl | exact S.tail.rd | exact S.tail.tail.rd | exact S.tail.tail.tail.rd | exact S.tail.tail.tail.tail.rd | exact S.tail.tail.tail.tail.tail.rd | exact S.tail.tail.tail.tail.tail.tail.rd | exact S.tail.tail.tail.tail.tail.tail.tail.rd | exact S.tail.tail.tail.tail.tail.tail.tail.tail.rd | exact S.tail.tail.tail.tail.tail.tail.tail.tail.tail.rd | exact S.tail.tail.tail.tail.tail.tail.tail.tail.tail.tail.rd | exact S.tail.tail.tail.tail.tail.tail.tail.tail.tail.tail.tail.rd | exact S.tail.tail.tail.tail.tail.tail.tail.tail.tail.tail.tail.tail.rd | exact S.tail.tail.tail.tail.tail.tail.tail.tail.tail.tail.tail.tail.tail.rd)).2) ?_
  intro w41 b42 S
  have B := B.trans b42
  refine t_done ?_
  refine x_seq ?_
  refine w_seq ?_
  obtain ⟨T, hP⟩ := hf10
  have hsz := hP.sz
  have hrg := hP.rng
  have hln := hP.lenOk
  have hpe := hP.enc
  refine w_region ?_
  refine t_move rfl ?_ rfl
  refine t_lit (T := byteT) (l := [bt 9]) (css := [[.int .u8 (IntKind.u8.wrap 9)]]) byte_flat S (fun w => bs_byte1 _ w) rfl rfl rfl rfl (by simp [maxLen]) (litR_one fun _ => byte_lit _) ?_ rfl rfl
  intro u15 w43 x44 S
  have B := bx Hb B x44
  refine t_bxn S.tail.box ab_path sb_path rfl rfl ?_ rfl
  refine t_call Try.call41 rfl (spec_AppendPath _ _ _ _ _ (S.sl) (path_mkv (S.tail.tail.tail.rd)) (by first | omega | (simp; done) | (simp only [List.length_append]; omega)) (by omega) (by assumption) (by assumption)) ?_ rfl rfl
  rintro e w45 ⟨v17, fpv17, rfl, hOv17, x46⟩
  refine ⟨_, rfl, x46, ?_⟩
  have S := S.add (o := slO _ _ _ _) x46 hOv17
  have B := bx Hb B x46
  have S := S.f7
  refine t_callf Try.call78 rfl (spec_l1Bent S (K.below B) (by first | omega | (simp only [List.length_append, List.length_singleton]; omega))) ?_ rfl
  rintro e w47 ⟨v18, l18, rfl, hf18, S, x48⟩
  refine ⟨_, rfl, ?_⟩
  have B := B.trans x48
  refine t_assign rfl ?_ rfl
  refine t_done ?_
  refine x_seq ?_
  refine w_seq ?_
  refine w_region ?_
  refine t_move rfl ?_ rfl
  refine t_move rfl ?_ rfl
  refine t_lit (T := intT) (l := [1, 1, 1, 0, (-1), 99]) (css := ([1, 1, 1, 0, (-1), 99]).map fun a => [I a]) int_flat S (fun w => bs_int6 _ _ _ _ _ _ w) rfl rfl rfl rfl (by simp [maxLen]) (litR_int _) ?_ rfl rfl
  intro u21 w49 x50 S
  have B := bx Hb B x50
  have S := S.f2
  refine t_callf Try.call79 rfl (spec_l1Int S (K.below B) (by simp)) ?_ rfl
  rintro e w51 ⟨y22, rfl, hf22, S, x52⟩
  refine ⟨_, rfl, ?_⟩
  have B := B.trans x52
  refine t_assign rfl ?_ rfl
  refine t_assign rfl ?_ rfl
  refine t_done ?_
  refine x_seq ?_
  refine w_ret ?_
  refine x_ret2 rfl rfl rfl ?_
  have hz2 : In64 y22 := by simp at hf22; unfold In64; omega
  simp only [List.length_append, List.length_singleton] at hf18
  have S := S.tail
  have S := S.tail
  have S := S.f1
  have S := S.tail
  have S := S.f1
  have S := S.tail
  have S := S.f1
  have S := S.tail
  have S := S.f1
  have S := S.tail
  have S := S.f1
  have S := S.tail
  have S := S.f1
  have S := S.tail
  have S := S.f1
  have S := S.tail
  exact ⟨_, _, _, rfl, ⟨by omega, hz2⟩, S, ext_trans X0 B⟩
theorem spec_DrawPathFromInts (code : List UInt8) (v : Value) (w : World) (h : SlR byteT w v code) (hz : code.length ≤ 1048576) : Calls Try.prog 37 #[v] w fun e w' => ∃ (vb : Value) (l : List Int), e = .returned vb ∧ (l.length ≤ 1000 ∧ ∀ x ∈ l, In64 x) ∧ Sep w.heap.size w' [rdO intT vb l] ∧ Ext w w' := by
  have K := CodeK.of h hz
  have X0 := Below.refl w.heap.size w
  refine enter Try.func37 rfl Try.ntmps37 rfl ?_
  have S := Sep.nil w
  have B := Below.refl w.heap.size w
  have Hb := Nat.le_refl w.heap.size
  refine w_seq ?_
  refine w_region ?_
  refine t_assign rfl ?_ rfl
  refine t_done ?_
  refine x_seq ?_
  refine w_seq ?_
  refine w_region ?_
  refine t_move rfl ?_ rfl
  refine t_call Try.call72 rfl (spec_l22One _ _ _ (by first | assumption | exact SlR.below (by assumption) B) (by omega)) ?_ rfl rfl
  rintro e w53 ⟨g9, va9, vl9, vp9, A9, L9, p9, rfl, hf9, S9, x54⟩
  refine ⟨_, rfl, x54, ?_⟩
  have S := S.join2 x54 S9
  clear S9
  have B := bx Hb B x54
  refine t_move rfl ?_ rfl
  refine t_extract rfl rfl ?_ rfl
  refine t_extract rfl rfl ?_ rfl
  refine t_extract rfl rfl ?_ rfl
  refine t_alloc S z_topo rfl ?_ rfl rfl
  intro g4 w55 x56 S
  have B := bx Hb B x56
  refine t_alloc S z_path rfl ?_ rfl rfl
  intro g5 w57 x58 S
  have B := bx Hb B x58
  refine t_assign rfl ?_ rfl
  have S := S.f1
  refine t_stn S sb_topo rfl rfl rfl rfl (by intro zz hu; have hu : zz ∈ ([va9, vl9] : List Value) := hu; simp only [List.mem_cons, List.not_mem_nil, or_false] at hu; rcases hu with rfl | rfl <;> first | rfl | exact (SlR.cells (by first | assumption | exact S.tail.sl | exact S.tail.tail.sl | exact S.tail.tail.tail.sl | exact S.tail.tail.tail.tail.sl | exact S.tail.tail.tail.tail.tail.sl | exact S.tail.tail.tail.tail.tail.tail.sl | exact S.tail.tail.tail.tail.tail.tail.tail.sl | exact S.tail.tail.tail.tail.tail.tail.tail.tail.sl | exact S.tail.tail.tail.tail.tail.tail.tail.tail.tail.sl | exact S.tail.tail.tail.tail.tail.tail.tail.tail.tail.tail.sl | exact S.tail.tail.tail.tail.tail.tail.tail.tail.tail.tail.tail.sl | exact S.tail.tail.tail.tail.tail.tail.tail.tail.tail.tail.tail.tail.sl | exact S.tail.tail.tail.tail.tail.tail.tail.tail.tail.tail.tail.tail.tail.sl)).2) ?_
  intro w59 b60 S
  have B := B.trans b60
  have S := S.f1
  refine t_stn S sb_path rfl rfl rfl rfl (by intro zz hu; have hu : zz ∈ ([vp9] : List Value) := hu; simp only [List.mem_cons, List.not_mem_nil, or_false] at hu; rcases hu with rfl <;> first | rfl | exact (SlR.cells (by first | assumption | exact S.tail.sl | exact S.tail.tail.sl | exact S.tail.tail.tail.sl | exact S.tail.tail.tail.tail.sl | exact S.tail.tail.tail.tail.tail.sl | exact S.tail.tail.tail.tail.tail.tail.sl | exact S.tail.tail.tail.tail.tail.tail.tail.sl | exact S.tail.tail.tail.tail.tail.tail.tail.tail.sl | exact S.tail.tail.tail.tail.tail.tail.tail.tail.tail.sl | exact S.tail.tail.tail.tail.tail.tail.tail.tail.tail.tail.sl | exact S.tail.tail.tail.tail.tail.tail.tail.tail.tail.tail.tail.sl | exact S.tail.tail.tail.tail.tail.tail.tail.tail.tail.tail.tail.tail.sl | exact S.tail.tail.tail.tail.tail.tail.tail.tail.tail.tail.tail.tail.tail.sl | exact S.tail.rd | exact S.tail.tail.rd | exact S.tail.tail.tail.rd | exact S.tail.tail.tail.tail.rd | exact S.tail.tail.tail.tail.tail.rd | exact S.tail.tail.tail.tail.tail.tail.rd | exact S.tail.tail.tail.tail.tail.tail.tail.rd | exact S.tail.tail.tail.tail.tail.tail.tail.tail.rd | exact S.tail.tail.tail.tail.tail.tail.tail.tail.tail.rd | exact S.tail.tail.tail.tail.tail.tail.tail.tail.tail.tail.rd | exact S.tail.tail.tail.tail.tail.tail.tail.tail.tail.tail.tail.rd | exact S.tail.tail.tail.tail.tail.tail.tail.tail.tail.tail.tail.tail.rd | exact S.tail.tail.tail.tail.tail.tail.tail.tail.tail.tail.tail.tail.tail.rd)).2) ?_
  intro w61 b62 S
  have B := B.trans b62
  refine t_done ?_
  refine x_seq ?_
  refine w_seq ?_
  obtain ⟨T, hP⟩ := hf9
  have hsz := hP.sz
  have hrg := hP.rng
  have hln := hP.lenOk
  have hpl := pathInts_len p9
  have hpi := hP.ints
  refine w_region ?_
  refine t_bxn S.box ab_path sb_path rfl rfl ?_ rfl
  refine t_call Try.call45 rfl (va1 (path_mkv (S.tail.tail.rd)) fun cs h => spec_PathInts _ cs _ h (by omega) (by assumption) (by assumption)) ?_ rfl rfl
  rintro e w63 ⟨v14, fpv14, rfl, hOv14, x64⟩
  refine ⟨_, rfl, x64, ?_⟩
  have S := S.add (o := slO _ _ _ _) x64 hOv14
  have B := bx Hb B x64
  refine t_assign rfl ?_ rfl
  refine t_done ?_
  refine x_seq ?_
  refine w_seq ?_
  refine w_seq ?_
  refine w_region ?_
  refine t_move rfl ?_ rfl
  have S := S.f6
  refine t_callf Try.call64 rfl (spec_l1Below 4 S (K.below B)) ?_ rfl
  rintro e w65 ⟨y16, rfl, hf16, S, x66⟩
  refine ⟨_, rfl, ?_⟩
  have B := B.trans x66
  refine t_done ?_
  refine x_seq ?_
  refine w_block ?_
  refine w_seq ?_
  refine w_region ?_
  refine t_eql rfl rfl ?_ rfl
  refine t_assign rfl ?_ rfl
  refine t_done ?_
  refine x_seq ?_
  refine w_if rfl ?_ ?_
  · intro h0
    refine w_region ?_
    refine t_move rfl ?_ rfl
    refine t_move rfl ?_ rfl
    refine t_move rfl ?_ rfl
    refine t_len e_int (S.tail.sl) rfl rfl ?_ rfl
    refine t_add rfl rfl (by omega) ?_ rfl
    refine t_callf Try.call64 rfl (spec_l1Below ((((pathInts p9).length : Int)) + 1) S (K.below B)) ?_ rfl
    rintro e w67 ⟨y24, rfl, hf24, S, x68⟩
    refine ⟨_, rfl, ?_⟩
    have B := B.trans x68
    obtain ⟨Av14, cv14, rfl, _⟩ := S.tail.sl.form
    refine t_sltv e_int (k := y24.toNat) rfl rfl (by first | rfl | omega) (by omega) ?_ rfl
    refine t_assign rfl ?_ rfl
    refine t_done ?_
    refine x_block_normal ?_
    refine x_seq ?_
    refine w_seq ?_
    refine w_region ?_
    refine t_move rfl ?_ rfl
    refine t_assign rfl ?_ rfl
    refine t_done ?_
    refine x_seq ?_
    refine w_ret ?_
    refine x_ret1 rfl rfl ?_
    have S := S.f1
    have S := S.toRd (fun _ h => SlR.takeV (k := y24.toNat) h (by omega))
    have S := S.f1
    have S := S.tail
    have S := S.f1
    have S := S.tail
    have S := S.f1
    have S := S.tail
    have S := S.f1
    have S := S.tail
    have S := S.f1
    have S := S.tail
    have S := S.f1
    have S := S.tail
    exact ⟨_, (pathInts p9).take y24.toNat, rfl, ⟨by rw [List.length_take]; omega, fun x hx => hpi x (List.mem_of_mem_take hx)⟩, S, ext_trans X0 B⟩
  · intro h0
    refine w_seq ?_
    refine w_region ?_
    refine t_eql rfl rfl ?_ rfl
    refine t_assign rfl ?_ rfl
    refine t_done ?_
    refine x_seq ?_
    refine w_if rfl ?_ ?_
    · intro h1
      refine w_seq ?_
      refine w_region ?_
      refine t_move rfl ?_ rfl
      refine t_len e_int (S.tail.sl) rfl rfl ?_ rfl
      refine t_gtr rfl rfl ?_ rfl
      refine t_done ?_
      refine x_seq ?_
      refine w_if rfl ?_ ?_
      · intro h2
        have S := S.f1
        obtain ⟨Gv14, Cv14, rfl⟩ := S.addr (by omega)
        refine w_region ?_
        refine t_move rfl ?_ rfl
        refine t_move rfl ?_ rfl
        refine t_move rfl ?_ rfl
        refine t_lenx e_int rfl rfl ?_ rfl
        have S := S.f1
        refine t_callf Try.call64 rfl (spec_l1Below (((pathInts p9).length : Int)) S (K.below B)) ?_ rfl
        rintro e w69 ⟨y35, rfl, hf35, S, x70⟩
        refine ⟨_, rfl, ?_⟩
        have B := B.trans x70
        refine t_move rfl ?_ rfl
        refine t_callf Try.call85 rfl (spec_l1One S (K.below B)) ?_ rfl
        rintro e w71 ⟨y37, rfl, hf37, S, x72⟩
        refine ⟨_, rfl, ?_⟩
        have B := B.trans x72
        refine t_idxx e_int (k := y35.toNat) rfl rfl (by first | rfl | omega) (by omega) rfl ?_ rfl
        obtain ⟨e0, he0⟩ := getx (l := pathInts p9) (k := y35.toNat) (by omega)
        have S := S.f1
        refine t_stS (T := intT) (j := 0) (x' := y37) S (by first | rfl | ((try simp only [List.length_set]); first | omega | simp)) sb_int rfl rfl he0 rfl (by decide) rfl rfl so_int ?_
        intro w73 b74 S
        have B := B.trans b74
        have hq75 := set_at (y := y37) he0
        refine t_done ?_
        refine x_block_normal ?_
        refine x_seq ?_
        refine w_seq ?_
        refine w_region ?_
        refine t_move rfl ?_ rfl
        refine t_assign rfl ?_ rfl
        refine t_done ?_
        refine x_seq ?_
        refine w_ret ?_
        refine x_ret1 rfl rfl ?_
        have S := S.toRd (fun _ h => h)
        have S := S.f1
        have S := S.tail
        have S := S.f1
        have S := S.tail
        have S := S.f1
        have S := S.tail
        have S := S.f1
        have S := S.tail
        have S := S.f1
        have S := S.tail
        have S := S.f1
        have S := S.tail
        exact ⟨_, _, rfl, ⟨by rw [List.length_set]; omega, set_all hpi hf37⟩, S, ext_trans X0 B⟩
      · intro h2
        refine w_skip ?_
        refine x_block_normal ?_
        refine x_seq ?_
        refine w_seq ?_
        refine w_region ?_
        refine t_move rfl ?_ rfl
        refine t_assign rfl ?_ rfl
        refine t_done ?_
        refine x_seq ?_
        refine w_ret ?_
        refine x_ret1 rfl rfl ?_
        have S := S.f1
        have S := S.toRd (fun _ h => h)
        have S := S.f1
        have S := S.tail
        have S := S.f1
        have S := S.tail
        have S := S.f1
        have S := S.tail
        have S := S.f1
        have S := S.tail
        have S := S.f1
        have S := S.tail
        have S := S.f1
        have S := S.tail
        exact ⟨_, pathInts p9, rfl, ⟨by omega, hpi⟩, S, ext_trans X0 B⟩
    · intro h1
      refine w_skip ?_
      refine x_block_normal ?_
      refine x_seq ?_
      refine w_seq ?_
      refine w_region ?_
      refine t_move rfl ?_ rfl
      refine t_assign rfl ?_ rfl
      refine t_done ?_
      refine x_seq ?_
      refine w_ret ?_
      refine x_ret1 rfl rfl ?_
      have S := S.f1
      have S := S.toRd (fun _ h => h)
      have S := S.f1
      have S := S.tail
      have S := S.f1
      have S := S.tail
      have S := S.f1
      have S := S.tail
      have S := S.f1
      have S := S.tail
      have S := S.f1
      have S := S.tail
      have S := S.f1
      have S := S.tail
      exact ⟨_, pathInts p9, rfl, ⟨by omega, hpi⟩, S, ext_trans X0 B⟩
end Go.Proofs.Ytdaecknfahgddaa
namespace Go.Proofs.Ytdaecknfahgddaa
open Go.RowKit
set_option linter.unusedVariables false
set_option maxRecDepth 20000
theorem eqF_step {P : Program} {d : Nat} {f : Field} {fs : List Field} {xs ys : Array Value} {a b : Int} (hn : f.name ≠ "_") (ht : P.underlying f.type = some (.int .i64)) (ha : ∀ w, (part f.type xs f.offset).run P w = .ok (I a) w) (hb : ∀ w, (part f.type ys f.offset).run P w = .ok (I b) w) (w : World) : (Op.eqFields (d + 1) xs ys (f :: fs)).run P w = if a = b then (Op.eqFields (d + 1) xs ys fs).run P w else .ok false w := by
  simp only [Op.eqFields, if_pos hn, Sem.run_bind, ha, hb, Result.andThen_ok, run_equalIn_int (w := w) _ _ _ _ _ _ ht, Sem.run_ite]
  by_cases h : a = b <;> simp [h]
theorem flds_hop : (Try.prog.fieldsOf 74).toList = [(Try.prog.fieldsOf 74).getD 0 default, (Try.prog.fieldsOf 74).getD 1 default, (Try.prog.fieldsOf 74).getD 2 default, (Try.prog.fieldsOf 74).getD 3 default, (Try.prog.fieldsOf 74).getD 4 default] := by kernel_rfl
theorem run_eq_hop (x y : Hop) (w : World) : (Op.equal 74 (.agg #[I x.ia, I x.ing, I x.eg, I x.exp, I x.mac]) (.agg #[I y.ia, I y.ing, I y.eg, I y.exp, I y.mac])).run Try.prog w = .ok (decide (x = y)) w := by
  unfold Op.equal
  obtain ⟨d, hd⟩ : ∃ d, Op.maxDepth = (d + 1) + 1 := ⟨9998, rfl⟩
  rw [hd, run_equalIn_struct w (d + 1) 74 _ _ (by kernel_rfl) (by kernel_rfl), flds_hop]
  rw [eqF_step (a := x.ia) (b := y.ia) (of_decide_eq_true (by kernel_rfl)) (by kernel_rfl) (fun w => by kernel_rfl) (fun w => by kernel_rfl)]
  rw [eqF_step (a := x.ing) (b := y.ing) (of_decide_eq_true (by kernel_rfl)) (by kernel_rfl) (fun w => by kernel_rfl) (fun w => by kernel_rfl)]
  rw [eqF_step (a := x.eg) (b := y.eg) (of_decide_eq_true (by kernel_rfl)) (by kernel_rfl) (fun w => by kernel_rfl) (fun w => by kernel_rfl)]
  rw [eqF_step (a := x.exp) (b := y.exp) (of_decide_eq_true (by kernel_rfl)) (by kernel_rfl) (fun w => by kernel_rfl) (fun w => by kernel_rfl)]
  rw [eqF_step (a := x.mac) (b := y.mac) (of_decide_eq_true (by kernel_rfl)) (by kernel_rfl) (fun w => by kernel_rfl) (fun w => by kernel_rfl)]
  obtain ⟨x0, x1, x2, x3, x4⟩ := x
  obtain ⟨y0, y1, y2, y3, y4⟩ := y
  by_cases h0 : x0 = y0 <;> by_cases h1 : x1 = y1 <;> by_cases h2 : x2 = y2 <;> by_cases h3 : x3 = y3 <;> by_cases h4 : x4 = y4 <;> simp [h0, h1, h2, h3, h4, Op.eqFields]
section
variable {P : Program} {n : Nat} {ops : Array Oper} {Q : Exit → Act → World → Prop} {L : Frm} {w w0 : World} {m : Md} {r : IT} {d : Nat} {ty : TypeId} {pos : String} {af : Array Edge}
theorem t_neqv {x y : Operand} {t t' : TypeId} {a b : Array Value} {p : Prop} {dp : Decidable p} (hg : P.eqGuardType P.depth t = false) (he : ∀ w, (Op.equal t (.agg a) (.agg b)).run P w = .ok (decide p) w) (hx : ev L x = some (.agg a)) (hy : ev L y = some (.agg b)) (k : WT P n ops Q r ((d, .bool (decide (¬ p))) :: L) w) (hn : Nat.blt d n = true) : WT P n ops Q (.st m ⟨some d, .binOp .neq t x y t', ty, pos, af, none⟩ r) L w :=
  t_read (fun e ha _ _ _ w' _ => by
    have h := he w'
    simp [execOp, ha.ev hx, ha.ev hy, eqGuard, binOp, h, hg]) k hn
end
theorem eq_step {α : Type} {a b : List α} {k : Nat} {x y : α} (h : a.take k = b.take k) (ha : a[k]? = some x) (hb : b[k]? = some y) (e : x = y) : a.take (k + 1) = b.take (k + 1) := by
  subst e; rw [take_succ ha, take_succ hb, h]
theorem eq_not {α : Type} {a b : List α} {k : Nat} {x y : α} (ha : a[k]? = some x) (hb : b[k]? = some y) (e : ¬ x = y) : ¬ a = b := by
  rintro rfl; rw [ha] at hb; exact e (Option.some.inj hb)
theorem eq_end {α : Type} {a b : List α} {k : Nat} (h : a.take k = b.take k) (hk : a.length ≤ k) (hl : a.length = b.length) : a = b := by
  rw [List.take_of_length_le hk, List.take_of_length_le (by omega)] at h; exact h
theorem laws_same (a b : List UInt8) (v u : Value) (w : World) (h : SlR byteT w v a) (h2 : SlR byteT w u b) (hz : a.length ≤ 4611686018427387904) (hz2 : b.length ≤ 4611686018427387904) : Calls Try.prog 40 #[v, u] w fun e w' => e = .returned (.bool (decide (a = b))) ∧ Below w.heap.size w w' := by
  have X0 := Below.refl w.heap.size w
  refine enter Try.func40 rfl Try.ntmps40 rfl ?_
  refine w_seq ?_
  refine w_region ?_
  have S := Sep.nil w
  have B := Below.refl w.heap.size w
  have Hb := Nat.le_refl w.heap.size
  refine t_assign rfl ?_ rfl
  refine t_done ?_
  refine x_seq ?_
  refine w_seq ?_
  refine w_seq ?_
  refine w_region ?_
  refine t_move rfl ?_ rfl
  refine t_len e_byte (by assumption) rfl rfl ?_ rfl
  refine t_move rfl ?_ rfl
  refine t_len e_byte (by assumption) rfl rfl ?_ rfl
  refine t_neq rfl rfl ?_ rfl
  refine t_done ?_
  refine x_seq ?_
  refine w_if rfl ?_ ?_
  · intro hl
    refine w_seq ?_
    refine w_region ?_
    refine t_assign rfl ?_ rfl
    refine t_done ?_
    refine x_seq ?_
    refine w_ret ?_
    refine x_then_ret ?_
    refine x_ret1 rfl rfl ?_
    exact ⟨ret_bool (decide_eq_false (fun e => hl (by rw [e]))).symm, ext_trans X0 B⟩
  · intro hl
    refine w_skip ?_
    refine x_seq ?_
    refine w_seq ?_
    refine w_seq ?_
    refine w_region ?_
    refine t_assign rfl ?_ rfl
    refine t_done ?_
    refine x_seq ?_
    refine w_block ?_
    refine w_loop (X := Nat) (fun k wq => k ≤ a.length ∧ a.take k = b.take k ∧ Below w.heap.size w wq ∧ Sep w.heap.size wq []) (fun k => [(5, I ((k : Int))), (0, v), (1, u)]) (fun k => a.length - k) (0) ?_ ⟨rfl, rfl, rfl, trivial⟩ ?_
    · exact ⟨by omega, rfl, B, S⟩
    rintro k w1 hI
    try dsimp only at hI ⊢
    obtain ⟨hk, hab, B, S⟩ := hI
    refine w_seq ?_
    refine w_seq ?_
    refine w_region ?_
    refine t_move rfl ?_ rfl
    refine t_move rfl ?_ rfl
    refine t_len e_byte (by assumption) rfl rfl ?_ rfl
    refine t_lss rfl rfl ?_ rfl
    refine t_done ?_
    refine x_seq ?_
    refine w_if rfl ?_ ?_
    · intro hlt
      refine w_skip ?_
      refine x_seq ?_
      refine w_seq ?_
      refine w_block ?_
      refine w_seq ?_
      refine w_draw (.st .take 0 (.st .take 1 (.st .take 2 (.st .take 3 (.st .take 4 (.st .take 5 (.st .take 6 (.st .take 7 (.st .take 8 .done))))))))) mixed (by kernel_rfl) ?_
      intro w2 x3
      have B := bx Hb B x3
      have S := S.below x3
      refine t_move rfl ?_ rfl
      refine t_move rfl ?_ rfl
      obtain ⟨e19, he19⟩ : ∃ e, (a)[k]? = some e := getx (by omega)
      refine t_idx e_byte (k := k) (by assumption) he19 B rfl rfl (by first | rfl | omega) ?_ rfl
      intro p19 hp19
      refine t_ldu (by assumption) ab_byte B rfl ?_ rfl
      refine t_move rfl ?_ rfl
      refine t_move rfl ?_ rfl
      obtain ⟨e23, he23⟩ : ∃ e, (b)[k]? = some e := getx (by omega)
      refine t_idx e_byte (k := k) (by assumption) he23 B rfl rfl (by first | rfl | omega) ?_ rfl
      intro p23 hp23
      refine t_ldu (by assumption) ab_byte B rfl ?_ rfl
      refine t_neq rfl rfl ?_ rfl
      refine t_done' ?_
      refine x_seq ?_
      refine w_if rfl ?_ ?_
      · intro hne
        refine w_seq ?_
        refine w_region ?_
        refine t_assign rfl ?_ rfl
        refine t_done ?_
        refine x_seq ?_
        refine w_ret ?_
        refine x_block_ret ?_
        refine x_then_ret ?_
        refine x_then_ret ?_
        refine x_block_ret ?_
        refine x_then_ret ?_
        refine x_ret1 rfl rfl ?_
        have hne2 : ¬ e19 = e23 := fun e => hne (by rw [e])
        exact ⟨ret_bool (decide_eq_false (eq_not he19 he23 hne2)).symm, ext_trans X0 B⟩
      · intro hne
        refine w_skip ?_
        refine x_block_normal ?_
        refine x_seq ?_
        refine w_region ?_
        refine t_move rfl ?_ rfl
        refine t_add rfl rfl (by omega) ?_ rfl
        refine t_assign rfl ?_ rfl
        refine t_done ?_
        refine x_round (X := Nat) (I := (fun k wq => k ≤ a.length ∧ a.take k = b.take k ∧ Below w.heap.size w wq ∧ Sep w.heap.size wq [])) (F := (fun k => [(5, I ((k : Int))), (0, v), (1, u)])) (μ := (fun k => a.length - k)) (k + 1) ?_ (by exact ⟨rfl, rfl, rfl, trivial⟩) (by (try dsimp only); omega)
        try dsimp only
        have heq : e19 = e23 := by first | exact Classical.not_not.1 hne | exact UInt8.toNat_inj.1 (by omega)
        exact ⟨by omega, eq_step hab he19 he23 heq, B, S⟩
    · intro hge
      refine w_exit ?_
      refine x_then_exit ?_
      refine x_then_exit ?_
      refine x_block_exit ?_
      refine x_seq ?_
      refine w_seq ?_
      refine w_region ?_
      refine t_assign rfl ?_ rfl
      refine t_done ?_
      refine x_seq ?_
      refine w_ret ?_
      refine x_ret1 rfl rfl ?_
      exact ⟨ret_bool (decide_eq_true (eq_end hab (by omega) (by omega))).symm, ext_trans X0 B⟩
theorem laws_sameInts (a b : List Int) (v u : Value) (w : World) (h : SlR intT w v a) (h2 : SlR intT w u b) (hz : a.length ≤ 4611686018427387904) (hz2 : b.length ≤ 4611686018427387904) : Calls Try.prog 43 #[v, u] w fun e w' => e = .returned (.bool (decide (a = b))) ∧ Below w.heap.size w w' := by
  have X0 := Below.refl w.heap.size w
  refine enter Try.func43 rfl Try.ntmps43 rfl ?_
  refine w_seq ?_
  refine w_region ?_
  have S := Sep.nil w
  have B := Below.refl w.heap.size w
  have Hb := Nat.le_refl w.heap.size
  refine t_assign rfl ?_ rfl
  refine t_done ?_
  refine x_seq ?_
  refine w_seq ?_
  refine w_seq ?_
  refine w_region ?_
  refine t_move rfl ?_ rfl
  refine t_len e_int (by assumption) rfl rfl ?_ rfl
  refine t_move rfl ?_ rfl
  refine t_len e_int (by assumption) rfl rfl ?_ rfl
  refine t_neq rfl rfl ?_ rfl
  refine t_done ?_
  refine x_seq ?_
  refine w_if rfl ?_ ?_
  · intro hl
    refine w_seq ?_
    refine w_region ?_
    refine t_assign rfl ?_ rfl
    refine t_done ?_
    refine x_seq ?_
    refine w_ret ?_
    refine x_then_ret ?_
    refine x_ret1 rfl rfl ?_
    exact ⟨ret_bool (decide_eq_false (fun e => hl (by rw [e]))).symm, ext_trans X0 B⟩
  · intro hl
    refine w_skip ?_
    refine x_seq ?_
    refine w_seq ?_
    refine w_seq ?_
    refine w_region ?_
    refine t_assign rfl ?_ rfl
    refine t_done ?_
    refine x_seq ?_
    refine w_block ?_
    refine w_loop (X := Nat) (fun k wq => k ≤ a.length ∧ a.take k = b.take k ∧ Below w.heap.size w wq ∧ Sep w.heap.size wq []) (fun k => [(5, I ((k : Int))), (0, v), (1, u)]) (fun k => a.length - k) (0) ?_ ⟨rfl, rfl, rfl, trivial⟩ ?_
    · exact ⟨by omega, rfl, B, S⟩
    rintro k w4 hI
    try dsimp only at hI ⊢
    obtain ⟨hk, hab, B, S⟩ := hI
    refine w_seq ?_
    refine w_seq ?_
    refine w_region ?_
    refine t_move rfl ?_ rfl
    refine t_move rfl ?_ rfl
    refine t_len e_int (by assumption) rfl rfl ?_ rfl
    refine t_lss rfl rfl ?_ rfl
    refine t_done ?_
    refine x_seq ?_
    refine w_if rfl ?_ ?_
    · intro hlt
      refine w_skip ?_
      refine x_seq ?_
      refine w_seq ?_
      refine w_block ?_
      refine w_seq ?_
      refine w_draw (.st .take 0 (.st .take 1 (.st .take 2 (.st .take 3 (.st .take 4 (.st .take 5 (.st .take 6 (.st .take 7 (.st .take 8 .done))))))))) mixed (by kernel_rfl) ?_
      intro w5 x6
      have B := bx Hb B x6
      have S := S.below x6
      refine t_move rfl ?_ rfl
      refine t_move rfl ?_ rfl
      obtain ⟨e19, he19⟩ : ∃ e, (a)[k]? = some e := getx (by omega)
      refine t_idx e_int (k := k) (by assumption) he19 B rfl rfl (by first | rfl | omega) ?_ rfl
      intro p19 hp19
      refine t_ldi (by assumption) ab_int B rfl ?_ rfl
      refine t_move rfl ?_ rfl
      refine t_move rfl ?_ rfl
      obtain ⟨e23, he23⟩ : ∃ e, (b)[k]? = some e := getx (by omega)
      refine t_idx e_int (k := k) (by assumption) he23 B rfl rfl (by first | rfl | omega) ?_ rfl
      intro p23 hp23
      refine t_ldi (by assumption) ab_int B rfl ?_ rfl
      refine t_neq rfl rfl ?_ rfl
      refine t_done' ?_
      refine x_seq ?_
      refine w_if rfl ?_ ?_
      · intro hne
        refine w_seq ?_
        refine w_region ?_
        refine t_assign rfl ?_ rfl
        refine t_done ?_
        refine x_seq ?_
        refine w_ret ?_
        refine x_block_ret ?_
        refine x_then_ret ?_
        refine x_then_ret ?_
        refine x_block_ret ?_
        refine x_then_ret ?_
        refine x_ret1 rfl rfl ?_
        have hne2 : ¬ e19 = e23 := fun e => hne (by rw [e])
        exact ⟨ret_bool (decide_eq_false (eq_not he19 he23 hne2)).symm, ext_trans X0 B⟩
      · intro hne
        refine w_skip ?_
        refine x_block_normal ?_
        refine x_seq ?_
        refine w_region ?_
        refine t_move rfl ?_ rfl
        refine t_add rfl rfl (by omega) ?_ rfl
        refine t_assign rfl ?_ rfl
        refine t_done ?_
        refine x_round (X := Nat) (I := (fun k wq => k ≤ a.length ∧ a.take k = b.take k ∧ Below w.heap.size w wq ∧ Sep w.heap.size wq [])) (F := (fun k => [(5, I ((k : Int))), (0, v), (1, u)])) (μ := (fun k => a.length - k)) (k + 1) ?_ (by exact ⟨rfl, rfl, rfl, trivial⟩) (by (try dsimp only); omega)
        try dsimp only
        have heq : e19 = e23 := by first | exact Classical.not_not.1 hne | exact UInt8.toNat_inj.1 (by omega)
        exact ⟨by omega, eq_step hab he19 he23 heq, B, S⟩
    · intro hge
      refine w_exit ?_
      refine x_then_exit ?_
      refine x_then_exit ?_
      refine x_block_exit ?_
      refine x_seq ?_
      refine w_seq ?_
      refine w_region ?_
      refine t_assign rfl ?_ rfl
      refine t_done ?_
      refine x_seq ?_
      refine w_ret ?_
      refine x_ret1 rfl rfl ?_
      exact ⟨ret_bool (decide_eq_true (eq_end hab (by omega) (by omega))).symm, ext_trans X0 B⟩
theorem laws_sameHops (a b : List Hop) (v u : Value) (w : World) (h : SlR hopT w v a) (h2 : SlR hopT w u b) (hz : a.length ≤ 4611686018427387904) (hz2 : b.length ≤ 4611686018427387904) : Calls Try.prog 119 #[v, u] w fun e w' => e = .returned (.bool (decide (a = b))) ∧ Below w.heap.size w w' := by
  have X0 := Below.refl w.heap.size w
  refine enter Try.func119 rfl Try.ntmps119 rfl ?_
  refine w_seq ?_
  refine w_region ?_
  have S := Sep.nil w
  have B := Below.refl w.heap.size w
  have Hb := Nat.le_refl w.heap.size
  refine t_assign rfl ?_ rfl
  refine t_done ?_
  refine x_seq ?_
  refine w_seq ?_
  refine w_seq ?_
  refine w_region ?_
  refine t_move rfl ?_ rfl
  refine t_len e_hop (by assumption) rfl rfl ?_ rfl
  refine t_move rfl ?_ rfl
  refine t_len e_hop (by assumption) rfl rfl ?_ rfl
  refine t_neq rfl rfl ?_ rfl
  refine t_done ?_
  refine x_seq ?_
  refine w_if rfl ?_ ?_
  · intro hl
    refine w_seq ?_
    refine w_region ?_
    refine t_assign rfl ?_ rfl
    refine t_done ?_
    refine x_seq ?_
    refine w_ret ?_
    refine x_then_ret ?_
    refine x_ret1 rfl rfl ?_
    exact ⟨ret_bool (decide_eq_false (fun e => hl (by rw [e]))).symm, ext_trans X0 B⟩
  · intro hl
    refine w_skip ?_
    refine x_seq ?_
    refine w_seq ?_
    refine w_seq ?_
    refine w_region ?_
    refine t_assign rfl ?_ rfl
    refine t_done ?_
    refine x_seq ?_
    refine w_block ?_
    refine w_loop (X := Nat) (fun k wq => k ≤ a.length ∧ a.take k = b.take k ∧ Below w.heap.size w wq ∧ Sep w.heap.size wq []) (fun k => [(5, I ((k : Int))), (0, v), (1, u)]) (fun k => a.length - k) (0) ?_ ⟨rfl, rfl, rfl, trivial⟩ ?_
    · exact ⟨by omega, rfl, B, S⟩
    rintro k w7 hI
    try dsimp only at hI ⊢
    obtain ⟨hk, hab, B, S⟩ := hI
    refine w_seq ?_
    refine w_seq ?_
    refine w_region ?_
    refine t_move rfl ?_ rfl
    refine t_move rfl ?_ rfl
    refine t_len e_hop (by assumption) rfl rfl ?_ rfl
    refine t_lss rfl rfl ?_ rfl
    refine t_done ?_
    refine x_seq ?_
    refine w_if rfl ?_ ?_
    · intro hlt
      refine w_skip ?_
      refine x_seq ?_
      refine w_seq ?_
      refine w_block ?_
      refine w_seq ?_
      refine w_draw (.st .take 0 (.st .take 1 (.st .take 2 (.st .take 3 (.st .take 4 (.st .take 5 (.st .take 6 (.st .take 7 (.st .take 8 .done))))))))) mixed (by kernel_rfl) ?_
      intro w8 x9
      have B := bx Hb B x9
      have S := S.below x9
      refine t_move rfl ?_ rfl
      refine t_move rfl ?_ rfl
      obtain ⟨e19, he19⟩ : ∃ e, (a)[k]? = some e := getx (by omega)
      refine t_idx e_hop (k := k) (by assumption) he19 B rfl rfl (by first | rfl | omega) ?_ rfl
      intro p19 hp19
      refine t_lda (by assumption) ab_hop sb_hop B rfl ?_ rfl
      intro v20 hv20
      obtain rfl := hop_va hv20
      refine t_move rfl ?_ rfl
      refine t_move rfl ?_ rfl
      obtain ⟨e23, he23⟩ : ∃ e, (b)[k]? = some e := getx (by omega)
      refine t_idx e_hop (k := k) (by assumption) he23 B rfl rfl (by first | rfl | omega) ?_ rfl
      intro p23 hp23
      refine t_lda (by assumption) ab_hop sb_hop B rfl ?_ rfl
      intro v24 hv24
      obtain rfl := hop_va hv24
      refine t_neqv (by kernel_rfl) (fun w => run_eq_hop e19 e23 w) rfl rfl ?_ rfl
      refine t_done' ?_
      refine x_seq ?_
      refine w_if rfl ?_ ?_
      · intro hne
        refine w_seq ?_
        refine w_region ?_
        refine t_assign rfl ?_ rfl
        refine t_done ?_
        refine x_seq ?_
        refine w_ret ?_
        refine x_block_ret ?_
        refine x_then_ret ?_
        refine x_then_ret ?_
        refine x_block_ret ?_
        refine x_then_ret ?_
        refine x_ret1 rfl rfl ?_
        have hne2 : ¬ e19 = e23 := fun e => hne (by rw [e])
        exact ⟨ret_bool (decide_eq_false (eq_not he19 he23 hne2)).symm, ext_trans X0 B⟩
      · intro hne
        refine w_skip ?_
        refine x_block_normal ?_
        refine x_seq ?_
        refine w_region ?_
        refine t_move rfl ?_ rfl
        refine t_add rfl rfl (by omega) ?_ rfl
        refine t_assign rfl ?_ rfl
        refine t_done ?_
        refine x_round (X := Nat) (I := (fun k wq => k ≤ a.length ∧ a.take k = b.take k ∧ Below w.heap.size w wq ∧ Sep w.heap.size wq [])) (F := (fun k => [(5, I ((k : Int))), (0, v), (1, u)])) (μ := (fun k => a.length - k)) (k + 1) ?_ (by exact ⟨rfl, rfl, rfl, trivial⟩) (by (try dsimp only); omega)
        try dsimp only
        have heq : e19 = e23 := by first | exact Classical.not_not.1 hne | exact UInt8.toNat_inj.1 (by omega)
        exact ⟨by omega, eq_step hab he19 he23 heq, B, S⟩
    · intro hge
      refine w_exit ?_
      refine x_then_exit ?_
      refine x_then_exit ?_
      refine x_block_exit ?_
      refine x_seq ?_
      refine w_seq ?_
      refine w_region ?_
      refine t_assign rfl ?_ rfl
      refine t_done ?_
      refine x_seq ?_
      refine w_ret ?_
      refine x_ret1 rfl rfl ?_
      exact ⟨ret_bool (decide_eq_true (eq_end hab (by omega) (by omega))).symm, ext_trans X0 B⟩
theorem part_eqh {x y : Part} (h1 : x.kind = y.kind) (h2 : x.ts = y.ts) (h3 : x.beta = y.beta) : x.hops = y.hops ↔ x = y := by
  obtain ⟨a, b, c, d⟩ := x
  obtain ⟨a', b', c', d'⟩ := y
  dsimp only at h1 h2 h3 ⊢
  subst h1 h2 h3
  simp
theorem laws_samePart (x y : Part) (v u : Value) (w : World) (h : VA partT w v x) (h2 : VA partT w u y) (hz : x.hops.length ≤ 4611686018427387904) (hz2 : y.hops.length ≤ 4611686018427387904) : Calls Try.prog 88 #[v, u] w fun e w' => e = .returned (.bool (decide (x = y))) ∧ Below w.heap.size w w' := by
  have X0 := Below.refl w.heap.size w
  refine enter Try.func88 rfl Try.ntmps88 rfl ?_
  refine w_seq ?_
  refine w_region ?_
  refine t_boxr (by assumption) rfl ?_ rfl rfl
  intro p2 w10 x11 hp2
  replace h := h.below x11
  replace h2 := h2.below x11
  have X0 := ext_trans X0 x11
  refine t_boxr (by assumption) rfl ?_ rfl rfl
  intro p3 w12 x13 hp3
  replace h := h.below x13
  replace h2 := h2.below x13
  replace hp2 := hp2.below x13
  have X0 := ext_trans X0 x13
  have S := Sep.nil w12
  have B := Below.refl w12.heap.size w12
  have Hb := Nat.le_refl w12.heap.size
  refine t_assign rfl ?_ rfl
  refine t_done ?_
  refine x_seq ?_
  refine w_seq ?_
  refine w_region ?_
  refine t_fld ln_part_0 (by assumption) fb_part_0 rfl ?_ rfl
  intro p5 hp5
  refine t_ldi (by assumption) ab_int B rfl ?_ rfl
  refine t_fld ln_part_0 (by assumption) fb_part_0 rfl ?_ rfl
  intro p7 hp7
  refine t_ldi (by assumption) ab_int B rfl ?_ rfl
  refine t_eql rfl rfl ?_ rfl
  refine t_move rfl ?_ rfl
  refine t_partp (t := 10) rfl ?_ ?_
  · intro hc1
    refine t_on rfl rfl ?_
    refine t_fld ln_part_1 (by assumption) fb_part_1 rfl ?_ rfl
    intro p11 hp11
    refine t_on rfl rfl ?_
    refine t_ldi (by assumption) ab_int B rfl ?_ rfl
    refine t_on rfl rfl ?_
    refine t_fld ln_part_1 (by assumption) fb_part_1 rfl ?_ rfl
    intro p13 hp13
    refine t_on rfl rfl ?_
    refine t_ldi (by assumption) ab_int B rfl ?_ rfl
    refine t_on rfl rfl ?_
    refine t_eql rfl rfl ?_ rfl
    refine t_pickt rfl rfl ?_ rfl
    refine t_move rfl ?_ rfl
    refine t_partp (t := 17) rfl ?_ ?_
    · intro hc2
      refine t_on rfl rfl ?_
      refine t_fld ln_part_2 (by assumption) fb_part_2 rfl ?_ rfl
      intro p18 hp18
      refine t_on rfl rfl ?_
      refine t_ldi (by assumption) ab_int B rfl ?_ rfl
      refine t_on rfl rfl ?_
      refine t_fld ln_part_2 (by assumption) fb_part_2 rfl ?_ rfl
      intro p20 hp20
      refine t_on rfl rfl ?_
      refine t_ldi (by assumption) ab_int B rfl ?_ rfl
      refine t_on rfl rfl ?_
      refine t_eql rfl rfl ?_ rfl
      refine t_pickt rfl rfl ?_ rfl
      refine t_move rfl ?_ rfl
      refine t_partp (t := 24) rfl ?_ ?_
      · intro hc3
        refine t_on rfl rfl ?_
        refine t_fld ln_part_3 (by assumption) fb_part_3 rfl ?_ rfl
        intro p25 hp25
        refine t_on rfl rfl ?_
        refine t_lds (by assumption) ab_s_hop B rfl ?_ rfl
        intro v26 hv26
        refine t_on rfl rfl ?_
        refine t_fld ln_part_3 (by assumption) fb_part_3 rfl ?_ rfl
        intro p27 hp27
        refine t_on rfl rfl ?_
        refine t_lds (by assumption) ab_s_hop B rfl ?_ rfl
        intro v28 hv28
        refine t_on rfl rfl ?_
        refine t_callx Try.call119 rfl (laws_sameHops x.hops y.hops _ _ _ (by first | assumption | exact SlR.below (by assumption) B) (by first | assumption | exact SlR.below (by assumption) B) (by omega) (by omega)) ?_ rfl rfl
        intro w14 x15
        have B := bx Hb B x15
        have S := S.below x15
        refine t_pickt rfl rfl ?_ rfl
        refine t_assign rfl ?_ rfl
        refine t_done ?_
        refine x_seq ?_
        refine w_ret ?_
        refine x_ret1 rfl rfl ?_
        first | exact ⟨ret_bool (decide_eq_false fun e => absurd (congrArg Part.kind e) (by assumption)).symm, ext_trans X0 B⟩ | exact ⟨ret_bool (decide_eq_false fun e => absurd (congrArg Part.ts e) (by assumption)).symm, ext_trans X0 B⟩ | exact ⟨ret_bool (decide_eq_false fun e => absurd (congrArg Part.beta e) (by assumption)).symm, ext_trans X0 B⟩ | exact ⟨ret_bool (decide_eq_decide.2 (part_eqh (by assumption) (by assumption) (by assumption))), ext_trans X0 B⟩
      · intro hc4
        refine t_off rfl rfl rfl ?_ rfl
        refine t_off rfl rfl rfl ?_ rfl
        refine t_off rfl rfl rfl ?_ rfl
        refine t_off rfl rfl rfl ?_ rfl
        refine t_off rfl rfl rfl ?_ rfl
        refine t_pickf rfl rfl ?_ rfl
        refine t_assign rfl ?_ rfl
        refine t_done ?_
        refine x_seq ?_
        refine w_ret ?_
        refine x_ret1 rfl rfl ?_
        first | exact ⟨ret_bool (decide_eq_false fun e => absurd (congrArg Part.kind e) (by assumption)).symm, ext_trans X0 B⟩ | exact ⟨ret_bool (decide_eq_false fun e => absurd (congrArg Part.ts e) (by assumption)).symm, ext_trans X0 B⟩ | exact ⟨ret_bool (decide_eq_false fun e => absurd (congrArg Part.beta e) (by assumption)).symm, ext_trans X0 B⟩ | exact ⟨ret_bool (decide_eq_decide.2 (part_eqh (by assumption) (by assumption) (by assumption))), ext_trans X0 B⟩
    · intro hc5
      refine t_off rfl rfl rfl ?_ rfl
      refine t_off rfl rfl rfl ?_ rfl
      refine t_off rfl rfl rfl ?_ rfl
      refine t_off rfl rfl rfl ?_ rfl
      refine t_off rfl rfl rfl ?_ rfl
      refine t_pickf rfl rfl ?_ rfl
      refine t_move rfl ?_ rfl
      refine t_off rfl rfl rfl ?_ rfl
      refine t_off rfl rfl rfl ?_ rfl
      refine t_off rfl rfl rfl ?_ rfl
      refine t_off rfl rfl rfl ?_ rfl
      refine t_off rfl rfl rfl ?_ rfl
      refine t_pickf rfl rfl ?_ rfl
      refine t_assign rfl ?_ rfl
      refine t_done ?_
      refine x_seq ?_
      refine w_ret ?_
      refine x_ret1 rfl rfl ?_
      first | exact ⟨ret_bool (decide_eq_false fun e => absurd (congrArg Part.kind e) (by assumption)).symm, ext_trans X0 B⟩ | exact ⟨ret_bool (decide_eq_false fun e => absurd (congrArg Part.ts e) (by assumption)).symm, ext_trans X0 B⟩ | exact ⟨ret_bool (decide_eq_false fun e => absurd (congrArg Part.beta e) (by assumption)).symm, ext_trans X0 B⟩ | exact ⟨ret_bool (decide_eq_decide.2 (part_eqh (by assumption) (by assumption) (by assumption))), ext_trans X0 B⟩
  · intro hc6
    refine t_off rfl rfl rfl ?_ rfl
    refine t_off rfl rfl rfl ?_ rfl
    refine t_off rfl rfl rfl ?_ rfl
    refine t_off rfl rfl rfl ?_ rfl
    refine t_off rfl rfl rfl ?_ rfl
    refine t_pickf rfl rfl ?_ rfl
    refine t_move rfl ?_ rfl
    refine t_off rfl rfl rfl ?_ rfl
    refine t_off rfl rfl rfl ?_ rfl
    refine t_off rfl rfl rfl ?_ rfl
    refine t_off rfl rfl rfl ?_ rfl
    refine t_off rfl rfl rfl ?_ rfl
    refine t_pickf rfl rfl ?_ rfl
    refine t_move rfl ?_ rfl
    refine t_off rfl rfl rfl ?_ rfl
    refine t_off rfl rfl rfl ?_ rfl
    refine t_off rfl rfl rfl ?_ rfl
    refine t_off rfl rfl rfl ?_ rfl
    refine t_off rfl rfl rfl ?_ rfl
    refine t_pickf rfl rfl ?_ rfl
    refine t_assign rfl ?_ rfl
    refine t_done ?_
    refine x_seq ?_
    refine w_ret ?_
    refine x_ret1 rfl rfl ?_
    first | exact ⟨ret_bool (decide_eq_false fun e => absurd (congrArg Part.kind e) (by assumption)).symm, ext_trans X0 B⟩ | exact ⟨ret_bool (decide_eq_false fun e => absurd (congrArg Part.ts e) (by assumption)).symm, ext_trans X0 B⟩ | exact ⟨ret_bool (decide_eq_false fun e => absurd (congrArg Part.beta e) (by assumption)).symm, ext_trans X0 B⟩ | exact ⟨ret_bool (decide_eq_decide.2 (part_eqh (by assumption) (by assumption) (by assumption))), ext_trans X0 B⟩
theorem laws_samePath (a b : Path) (v u : Value) (w : World) (h : VA pathT w v a) (h2 : VA pathT w u b) (hz : sz_path a ≤ 1048576) (hz2 : sz_path b ≤ 1048576) : Calls Try.prog 42 #[v, u] w fun e w' => e = .returned (.bool (decide (a = b))) ∧ Below w.heap.size w w' := by
  have hl1 : List.length a ≤ sz_path a := Nat.le_add_right _ _
  have hl2 : List.length b ≤ sz_path b := Nat.le_add_right _ _
  have X0 := Below.refl w.heap.size w
  refine enter Try.func42 rfl Try.ntmps42 rfl ?_
  refine w_seq ?_
  refine w_region ?_
  refine t_boxr (by assumption) rfl ?_ rfl rfl
  intro p2 w16 x17 hp2
  replace h := h.below x17
  replace h2 := h2.below x17
  have X0 := ext_trans X0 x17
  refine t_boxr (by assumption) rfl ?_ rfl rfl
  intro p3 w18 x19 hp3
  replace h := h.below x19
  replace h2 := h2.below x19
  replace hp2 := hp2.below x19
  have X0 := ext_trans X0 x19
  have S := Sep.nil w18
  have B := Below.refl w18.heap.size w18
  have Hb := Nat.le_refl w18.heap.size
  refine t_assign rfl ?_ rfl
  refine t_done ?_
  refine x_seq ?_
  refine w_seq ?_
  refine w_seq ?_
  refine w_region ?_
  refine t_fld ln_path_0 (by assumption) fb_path_0 rfl ?_ rfl
  intro p6 hp6
  refine t_lds (by assumption) ab_s_part B rfl ?_ rfl
  intro v7 hv7
  refine t_len e_part (by assumption) rfl rfl ?_ rfl
  refine t_fld ln_path_0 (by assumption) fb_path_0 rfl ?_ rfl
  intro p9 hp9
  refine t_lds (by assumption) ab_s_part B rfl ?_ rfl
  intro v10 hv10
  refine t_len e_part (by assumption) rfl rfl ?_ rfl
  refine t_neq rfl rfl ?_ rfl
  refine t_done ?_
  refine x_seq ?_
  refine w_if rfl ?_ ?_
  · intro hl
    refine w_seq ?_
    refine w_region ?_
    refine t_assign rfl ?_ rfl
    refine t_done ?_
    refine x_seq ?_
    refine w_ret ?_
    refine x_then_ret ?_
    refine x_ret1 rfl rfl ?_
    exact ⟨ret_bool (decide_eq_false (fun e => hl (by rw [e]))).symm, ext_trans X0 B⟩
  · intro hl
    refine w_skip ?_
    refine x_seq ?_
    refine w_seq ?_
    refine w_seq ?_
    refine w_region ?_
    refine t_assign rfl ?_ rfl
    refine t_done ?_
    refine x_seq ?_
    refine w_block ?_
    refine w_loop (X := Nat) (fun k wq => k ≤ List.length a ∧ List.take k a = List.take k b ∧ Below w18.heap.size w18 wq ∧ Sep w18.heap.size wq []) (fun k => [(5, I ((k : Int))), (2, p2), (3, p3)]) (fun k => List.length a - k) (0) ?_ ⟨rfl, rfl, rfl, trivial⟩ ?_
    · exact ⟨by omega, rfl, B, S⟩
    rintro k w20 hI
    try dsimp only at hI ⊢
    obtain ⟨hk, hab, B, S⟩ := hI
    refine w_seq ?_
    refine w_seq ?_
    refine w_region ?_
    refine t_move rfl ?_ rfl
    refine t_fld ln_path_0 (by assumption) fb_path_0 rfl ?_ rfl
    intro p14 hp14
    refine t_lds (by assumption) ab_s_part B rfl ?_ rfl
    intro v15 hv15
    refine t_len e_part (by assumption) rfl rfl ?_ rfl
    refine t_lss rfl rfl ?_ rfl
    refine t_done ?_
    refine x_seq ?_
    refine w_if rfl ?_ ?_
    · intro hlt
      obtain ⟨e23, he23⟩ := getx (l := a) (k := k) (by omega)
      obtain ⟨e28, he28⟩ := getx (l := b) (k := k) (by omega)
      have hh1 := hops_le_path (List.mem_of_getElem? he23)
      have hh2 := hops_le_path (List.mem_of_getElem? he28)
      refine w_skip ?_
      refine x_seq ?_
      refine w_seq ?_
      refine w_block ?_
      refine w_seq ?_
      refine w_draw (.st .take 0 (.st .take 1 (.st .take 2 (.st .take 3 (.st .take 4 (.st .take 5 (.st .take 6 (.st .take 7 (.st .take 8 (.st .take 9 (.st .run 10 (.st .take 11 .done)))))))))))) mixed (by kernel_rfl) ?_
      intro w21 x22
      have B := bx Hb B x22
      have S := S.below x22
      refine t_fld ln_path_0 (by assumption) fb_path_0 rfl ?_ rfl
      intro p20 hp20
      refine t_lds (by assumption) ab_s_part B rfl ?_ rfl
      intro v21 hv21
      refine t_move rfl ?_ rfl
      refine t_idx e_part (k := k) (by assumption) he23 B rfl rfl (by first | rfl | omega) ?_ rfl
      intro p23 hp23
      refine t_lda (by assumption) ab_part sb_part B rfl ?_ rfl
      intro v24 hv24
      obtain ⟨v24_3, rfl, hv24_3⟩ := part_va hv24
      refine t_fld ln_path_0 (by assumption) fb_path_0 rfl ?_ rfl
      intro p25 hp25
      refine t_lds (by assumption) ab_s_part B rfl ?_ rfl
      intro v26 hv26
      refine t_move rfl ?_ rfl
      refine t_idx e_part (k := k) (by assumption) he28 B rfl rfl (by first | rfl | omega) ?_ rfl
      intro p28 hp28
      refine t_lda (by assumption) ab_part sb_part B rfl ?_ rfl
      intro v29 hv29
      obtain ⟨v29_3, rfl, hv29_3⟩ := part_va hv29
      refine t_callx Try.call88 rfl (laws_samePart e23 e28 _ _ _ (by first | assumption | exact VA.below (by assumption) B | exact part_mkv (by first | assumption | exact SlR.below (by assumption) B)) (by first | assumption | exact VA.below (by assumption) B | exact part_mkv (by first | assumption | exact SlR.below (by assumption) B)) (by omega) (by omega)) ?_ rfl rfl
      intro w23 x24
      have B := bx Hb B x24
      have S := S.below x24
      refine t_not rfl ?_ rfl
      refine t_done' ?_
      refine x_seq ?_
      refine w_if rfl ?_ ?_
      · intro hne
        refine w_seq ?_
        refine w_region ?_
        refine t_assign rfl ?_ rfl
        refine t_done ?_
        refine x_seq ?_
        refine w_ret ?_
        refine x_block_ret ?_
        refine x_then_ret ?_
        refine x_then_ret ?_
        refine x_block_ret ?_
        refine x_then_ret ?_
        refine x_ret1 rfl rfl ?_
        exact ⟨ret_bool (decide_eq_false (eq_not he23 he28 (by simpa using hne))).symm, ext_trans X0 B⟩
      · intro hne
        refine w_skip ?_
        refine x_block_normal ?_
        refine x_seq ?_
        refine w_region ?_
        refine t_move rfl ?_ rfl
        refine t_add rfl rfl (by omega) ?_ rfl
        refine t_assign rfl ?_ rfl
        refine t_done ?_
        refine x_round (X := Nat) (I := (fun k wq => k ≤ List.length a ∧ List.take k a = List.take k b ∧ Below w18.heap.size w18 wq ∧ Sep w18.heap.size wq [])) (F := (fun k => [(5, I ((k : Int))), (2, p2), (3, p3)])) (μ := (fun k => List.length a - k)) (k + 1) ?_ (by exact ⟨rfl, rfl, rfl, trivial⟩) (by (try dsimp only); omega)
        try dsimp only
        exact ⟨by omega, eq_step hab he23 he28 (by simpa using hne), B, S⟩
    · intro hge
      refine w_exit ?_
      refine x_then_exit ?_
      refine x_then_exit ?_
      refine x_block_exit ?_
      refine x_seq ?_
      refine w_seq ?_
      refine w_region ?_
      refine t_assign rfl ?_ rfl
      refine t_done ?_
      refine x_seq ?_
      refine w_ret ?_
      refine x_ret1 rfl rfl ?_
      exact ⟨ret_bool (decide_eq_true (eq_end hab (by omega) (by omega))).symm, ext_trans X0 B⟩
end Go.Proofs.Ytdaecknfahgddaa
namespace Go.Proofs.Ytdaecknfahgddaa
open Go.RowKit
set_option linter.unusedVariables false
def hopsOf (p : Path) : List Hop := p.flatMap (·.hops)
theorem hopsOf_len (p : Path) : (hopsOf p).length + p.length = sz_path p := by
  show (p.flatMap (·.hops)).length + p.length = p.length + (p.map fun d => d.hops.length).sum
  rw [List.length_flatMap]
  omega
theorem hopsOf_snoc (p : Path) (x : Part) : hopsOf (p ++ [x]) = hopsOf p ++ x.hops := by simp [hopsOf]
theorem hopsOf_take_le (p : Path) (k : Nat) : (hopsOf (p.take k)).length ≤ (hopsOf p).length := by
  have : hopsOf p = hopsOf (p.take k) ++ hopsOf (p.drop k) := by unfold hopsOf; rw [← List.flatMap_append, List.take_append_drop]
  rw [this, List.length_append]; omega
theorem impl_allHops (p : Path) (cs : List Value) (w : World) (h : pathT.R w cs p) (hz : sz_path p ≤ 1048576) :
    Calls Try.prog 90 #[.agg cs.toArray] w fun r w' => ∃ v' fp, r = .returned v' ∧ SlO hopT 74 w.heap.size w' v' (hopsOf p) fp ∧ Below w.heap.size w w' := by
  obtain ⟨A, c, rfl, ⟨h, _⟩⟩ := path_form h
  obtain ⟨n, H⟩ : ∃ n, Hid (n = p.length) := ⟨_, rfl⟩
  have hp := hopsOf_len p
  have hn2 : n ≤ 1048576 := by rw [H.out]; omega
  have HL : (hopsOf p).length ≤ 1048576 := by omega
  rw [← H.out] at h ⊢
  clear hp hz
  go_enter Try.func90, Try.ntmps90
  go_wp2
  go_loopw [3, 9] (fun v i wr => ∃ k : Nat, k ≤ n ∧ i = I k ∧ Below w.heap.size w wr ∧ ∃ fp, SlO hopT 74 w.heap.size wr v (hopsOf (p.take k)) fp) (fun _ i _ => n - (intOf i).toNat)
  case atStart => exact ⟨0, by omega, rfl, ext_alloc1 _ _, [], SlO.nil⟩
  case round =>
    rename_i wr
    obtain ⟨k, hk, rfl, hb, fp, hO⟩ := hrel
    by_cases hlt : k < n
    · obtain ⟨g, o, q, x, B, d, e, hg, hxk, hin, hd, c0, c1, c2, c3⟩ := part_at (h.below hb) (by rw [← H.out]; exact hlt)
      rw [← H.out] at e
      cases e
      have hsn : hopsOf (p.take (k + 1)) = hopsOf (p.take k) ++ x.hops := by rw [take_succ hxk.out, hopsOf_snoc]
      have hle := hopsOf_take_le p (k + 1)
      rw [hsn, List.length_append] at hle
      have HS := hid hsn
      clear hsn
      have hw := hb.size
      go_wp2_with ((at_builtin; refine wpList_cat hop_flat (.tmp 13) (.tmp 15) et_hop (hO.alloc _) (hin.below (ext_alloc1 _ _)) ?_ ?_ ?_ rfl rfl rfl rfl ?_))
      · omega
      · simp only [maxLen]; omega
      · simp; omega
      · intro v' w1 fp' hO' hfp hkp
        have hb1 : Below w.heap.size w w1 := (hb.alloc hw _).trans (hkp.below (fun b hb => (hO.size_ok b hb).1) (by simp; omega))
        go_wp2
        go_roundw
        case rel => exact ⟨k + 1, by omega, by go_num, hb1, fp', by rw [HS.out]; exact hO'⟩
        case measure => simp [intOf]; omega
    · go_wp2
      go_ret
      have : k = n := by omega
      subst this
      rw [H.out, List.take_length] at hO
      exact ⟨_, fp, rfl, hO, hb⟩
theorem impl_HopCount (p : Path) (cs : List Value) (w : World) (h : pathT.R w cs p) (hz : sz_path p ≤ 1048576) (hl : lenOk_path p) (hg : rng_path p) :
    Calls Try.prog 48 #[.agg cs.toArray] w fun r w' => r = .returned (I (hopsOf p).length) ∧ Below w.heap.size w w' := by
  obtain ⟨A, c, rfl, _⟩ := path_form h
  have hb0 : Below w.heap.size w (w.alloc (.cells #[.slice A p.length c] 30)) := ext_alloc1 _ _
  clear hl hg
  go_enter Try.func48, Try.ntmps48
  go_wp2_with (fail)
  refine (impl_allHops p _ _ (pathT.kp h hb0) hz).mono ?_
  rintro e w1 ⟨v', fp, rfl, hO, hb1⟩
  obtain ⟨A', c', rfl, _⟩ := hO.form
  go_wp2_with (fail)
  go_ret
  exact ⟨rfl, ext_trans hb0 hb1⟩
theorem spec_HopCount (p : Path) (cs : List Value) (w : World) (h : pathT.R w cs p) (hz : sz_path p ≤ 1048576) (hl : lenOk_path p) (hg : rng_path p) :
    Calls Try.prog 49 #[.agg cs.toArray] w fun r w' => r = .returned (I (hopsOf p).length) ∧ Below w.heap.size w w' := by
  obtain ⟨A, c, rfl, ⟨h, _⟩⟩ := path_form h
  obtain ⟨n, H⟩ : ∃ n, Hid (n = p.length) := ⟨_, rfl⟩
  have hp := hopsOf_len p
  have hn2 : n ≤ 1048576 := by rw [H.out]; omega
  have HL : (hopsOf p).length ≤ 1048576 := by omega
  rw [← H.out] at h ⊢
  clear hp hz hl hg
  have hb0 : Below w.heap.size w (w.alloc (.cells #[.slice A n c] 30)) := ext_alloc1 _ _
  go_enter Try.func49, Try.ntmps49
  go_wp2
  go_loop [3, 4] (fun t i => ∃ k : Nat, k ≤ n ∧ i = I k ∧ t = I (hopsOf (p.take k)).length) (fun _ i => n - (intOf i).toNat)
  case atStart => exact ⟨0, by omega, rfl, rfl⟩
  case round =>
    obtain ⟨k, hk, rfl, rfl⟩ := hrel
    by_cases hlt : k < n
    · obtain ⟨g, o, q, x, B, d, e, hg, hxk, hin, hd, c0, c1, c2, c3⟩ := part_at (h.below hb0) (by rw [← H.out]; exact hlt)
      rw [← H.out] at e
      cases e
      have hsn : hopsOf (p.take (k + 1)) = hopsOf (p.take k) ++ x.hops := by rw [take_succ hxk.out, hopsOf_snoc]
      have hle := hopsOf_take_le p (k + 1)
      rw [hsn, List.length_append] at hle
      have HS := hid hsn
      clear hsn
      go_wp2
      go_round
      case rel => exact ⟨k + 1, by omega, by go_num, by rw [HS.out, List.length_append]; go_num⟩
      case measure => simp [intOf]; omega
    · go_wp2
      go_ret
      have : k = n := by omega
      subst this
      rw [H.out, List.take_length]
      exact ⟨rfl, by rw [← H.out]; exact hb0⟩
end Go.Proofs.Ytdaecknfahgddaa
