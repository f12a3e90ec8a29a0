/- What LawFnPasses needs of the texts below it, part 7: contracts of functions, plain lemmas. (Put together by slim.py.) -/
import Derived.Test.YtdaecknfahgddaaSLawFnPasses6
namespace Go.Proofs.Ytdaecknfahgddaa
open Go.RowKit
set_option linter.unusedVariables false
set_option maxRecDepth 20000
/-- A path of a few short parts. -/
def PathS (p : Path) : Prop := List.length p ≤ 4 ∧ ∀ x ∈ p, x.hops.length ≤ 5 ∧ rng_part x
theorem validHop_rng {h : Hop} (e : validHop h = true) : rng_hop h := by
  unfold validHop at e
  simp only [Bool.and_eq_true, inR_iff] at e
  obtain ⟨⟨⟨⟨⟨h1, h2⟩, h3⟩, _⟩, h5⟩, h6⟩ := e
  refine ⟨⟨?_, ?_⟩, ⟨?_, ?_⟩, ⟨?_, ?_⟩, ⟨?_, ?_⟩, ?_, ?_⟩ <;> omega
theorem in64 {n : Int} (h0 : -9223372036854775808 ≤ n) (h1 : n ≤ 9223372036854775807) : In64 n := ⟨h0, h1⟩
theorem PartK.small {t : Topo} {x : Part} (h : PartK t x) : x.hops.length ≤ 5 ∧ rng_part x := by
  obtain ⟨s, kind, i, hs, h1, h2, rfl⟩ := h
  obtain ⟨⟨k0, k1, k2, k3, k4⟩, hS⟩ := hs
  have hb : ∀ j, Res (segBeta s j) := fun j => by
    unfold segBeta
    split
    · exact chain_in ⟨k2, by omega⟩ _
    · exact ⟨by omega, by omega⟩
  have hv := hS.hop
  refine ⟨Nat.le_trans (make_len s kind i) k4, ?_⟩
  unfold makePart
  split
  · split
    · refine ⟨in64 (by dsimp only; omega) (by dsimp only; omega), in64 (by dsimp only; omega) (by dsimp only; omega), ?_, fun y hy => validHop_rng (hv y (List.mem_of_mem_drop (List.mem_reverse.1 hy)))⟩
      have := hb s.hops.length
      unfold Res at this
      exact in64 (by dsimp only; omega) (by dsimp only; omega)
    · refine ⟨in64 (by dsimp only; omega) (by dsimp only; omega), in64 (by dsimp only; omega) (by dsimp only; omega), ?_, fun y hy => validHop_rng (hv y (List.mem_of_mem_drop hy))⟩
      have := hb i
      unfold Res at this
      exact in64 (by dsimp only; omega) (by dsimp only; omega)
  · exact ⟨in64 (by dsimp only; omega) (by dsimp only; omega), in64 (by dsimp only; omega) (by dsimp only; omega), in64 (by dsimp only; omega) (by dsimp only; omega), fun y hy => by simp at hy⟩
theorem PathK.small {t : Topo} {p : Path} (h : PathK t p) : List.length p ≤ 3 ∧ ∀ x ∈ p, x.hops.length ≤ 5 ∧ rng_part x := ⟨h.1, fun x hx => (h.2 x hx).small⟩
theorem set_all {α : Type} {Q : α → Prop} {l : List α} (h : ∀ x ∈ l, Q x) {i : Nat} {y : α} (hy : Q y) : ∀ x ∈ l.set i y, Q x := fun x hx => by
  rcases List.mem_or_eq_of_mem_set hx with hx | rfl
  · exact h x hx
  · exact hy
theorem PathS.sz {p : Path} (h : PathS p) : sz_path p ≤ 24 := by
  obtain ⟨h1, h2⟩ := h
  have : ∀ l : List Part, (∀ x ∈ l, x.hops.length ≤ 5) → (l.map sz_part).sum ≤ 5 * l.length := fun l => by
    induction l with
    | nil => simp
    | cons a t ih =>
      intro ha
      have h3 := ha a (by simp)
      have h4 := ih fun x hx => ha x (List.mem_cons_of_mem _ hx)
      simp only [List.map_cons, List.sum_cons, List.length_cons]
      have : sz_part a = a.hops.length := rfl
      omega
  have h3 := this p fun x hx => (h2 x hx).1
  show List.length p + (p.map sz_part).sum ≤ 24
  omega
theorem PathS.rng {p : Path} (h : PathS p) : rng_path p := fun x hx => (h.2 x hx).2
theorem PathS.lenOk {p : Path} (h : PathS p) : lenOk_path p := ⟨by have := h.1; omega, fun x hx => by have := (h.2 x hx).1; show x.hops.length ≤ _; omega⟩
theorem PathK.toS {t : Topo} {p : Path} (h : PathK t p) : PathS p := ⟨by have := h.1; omega, h.small.2⟩
set_option maxHeartbeats 8000000 in
theorem spec_l22Any {b n c : Nat} {w : World} {v : Value} {os : List Ow} (S : Sep b w (curO v n c 109 :: os)) (K : CodeK b w v n) : Calls Try.prog 113 #[.pointer (some ⟨c, 0, none⟩)] w fun e w' =>
    ∃ (va vl vp : Value) (A : List ASd) (L : List Lnk) (p : Path), e = .returned (.tuple #[.agg #[va, vl], .agg #[vp]]) ∧ (TopK A L ∧ PathS p) ∧ Sep b w' (rdO partT vp p :: slO asnT 121 va A :: slO linkT 78 vl L :: curO v n c 109 :: os) ∧ Below b w w' := by
  have X0 := Below.refl w.heap.size w
  refine enter Try.func113 rfl Try.ntmps113 rfl ?_
  have B := Below.refl b w
  have Hb := S.base
  refine w_seq ?_
  refine w_region ?_
  refine t_alloc S z_topo rfl ?_ rfl rfl
  intro g2 w1 x2 S
  have B := bx Hb B x2
  refine t_alloc S z_path rfl ?_ rfl rfl
  intro g3 w3 x4 S
  have B := bx Hb B x4
  refine t_done ?_
  refine x_seq ?_
  refine w_seq ?_
  refine w_region ?_
  refine t_move rfl ?_ rfl
  have S := S.f2
  refine t_callf Try.call53 rfl (spec_l22Draw S (K.below B)) ?_ rfl
  rintro e w5 ⟨va10, vl10, vp10, A10, L10, p10, rfl, hf10, S, x6⟩
  refine ⟨_, rfl, ?_⟩
  have B := B.trans x6
  refine t_move rfl ?_ rfl
  refine t_extract rfl rfl ?_ rfl
  refine t_extract rfl rfl ?_ rfl
  refine t_alloc S z_topo rfl ?_ rfl rfl
  intro g4 w7 x8 S
  have B := bx Hb B x8
  refine t_alloc S z_path rfl ?_ rfl rfl
  intro g5 w9 x10 S
  have B := bx Hb B x10
  have S := S.f1
  refine t_stn S sb_topo rfl rfl rfl rfl (by intro zz hu; have hu : zz ∈ ([va10, vl10] : List Value) := hu; simp only [List.mem_cons, List.not_mem_nil, or_false] at hu; rcases hu with rfl | rfl <;> first | rfl | exact (SlR.cells (by first | assumption | exact S.tail.sl | exact S.tail.tail.sl | exact S.tail.tail.tail.sl | exact S.tail.tail.tail.tail.sl | exact S.tail.tail.tail.tail.tail.sl | exact S.tail.tail.tail.tail.tail.tail.sl | exact S.tail.tail.tail.tail.tail.tail.tail.sl | exact S.tail.tail.tail.tail.tail.tail.tail.tail.sl | exact S.tail.tail.tail.tail.tail.tail.tail.tail.tail.sl | exact S.tail.tail.tail.tail.tail.tail.tail.tail.tail.tail.sl | exact S.tail.tail.tail.tail.tail.tail.tail.tail.tail.tail.tail.sl | exact S.tail.tail.tail.tail.tail.tail.tail.tail.tail.tail.tail.tail.sl | exact S.tail.tail.tail.tail.tail.tail.tail.tail.tail.tail.tail.tail.tail.sl)).2) ?_
  intro w11 b12 S
  have B := B.trans b12
  have S := S.f1
  refine t_stn S sb_path rfl rfl rfl rfl (by intro zz hu; have hu : zz ∈ ([vp10] : List Value) := hu; simp only [List.mem_cons, List.not_mem_nil, or_false] at hu; rcases hu with rfl <;> first | rfl | exact (SlR.cells (by first | assumption | exact S.tail.sl | exact S.tail.tail.sl | exact S.tail.tail.tail.sl | exact S.tail.tail.tail.tail.sl | exact S.tail.tail.tail.tail.tail.sl | exact S.tail.tail.tail.tail.tail.tail.sl | exact S.tail.tail.tail.tail.tail.tail.tail.sl | exact S.tail.tail.tail.tail.tail.tail.tail.tail.sl | exact S.tail.tail.tail.tail.tail.tail.tail.tail.tail.sl | exact S.tail.tail.tail.tail.tail.tail.tail.tail.tail.tail.sl | exact S.tail.tail.tail.tail.tail.tail.tail.tail.tail.tail.tail.sl | exact S.tail.tail.tail.tail.tail.tail.tail.tail.tail.tail.tail.tail.sl | exact S.tail.tail.tail.tail.tail.tail.tail.tail.tail.tail.tail.tail.tail.sl)).2) ?_
  intro w13 b14 S
  have B := B.trans b14
  refine t_done ?_
  refine x_seq ?_
  refine w_seq ?_
  obtain ⟨T, hP⟩ := hf10
  have hQ := hP.small
  refine w_seq ?_
  refine w_region ?_
  refine t_fldx fb_path_0 rfl rfl ?_ rfl
  refine t_bx1 S.box ab_s_part rfl rfl ?_ rfl
  refine t_len e_part (S.tail.tail.sl) rfl rfl ?_ rfl
  refine t_eql rfl rfl ?_ rfl
  refine t_done ?_
  refine x_seq ?_
  refine w_if rfl ?_ ?_
  · intro h0
    refine w_seq ?_
    refine w_drawP [] (.alt (.st .fin 0 (.alt (.st .fin 1 (.st .fin 2 (.st .fin 3 .done))) (.st .fin 2 (.st .fin 1 (.st .fin 3 .done))))) (.st .fin 1 (.st .fin 0 (.st .fin 2 (.st .fin 3 .done))))) mixed (by kernel_rfl) ?_
    intro w15 x16
    have B := bx Hb B x16
    have S := S.below x16
    refine t_alt ?_ ?_
    · refine t_bxn S.tail.box ab_topo sb_topo rfl rfl ?_ rfl
      refine t_alt ?_ ?_
      · refine t_bxn S.box ab_path sb_path rfl rfl ?_ rfl
        have S := S.f7
        refine t_stn S sb_topo rfl rfl rfl rfl (by intro zz hu; have hu : zz ∈ ([va10, vl10] : List Value) := hu; simp only [List.mem_cons, List.not_mem_nil, or_false] at hu; rcases hu with rfl | rfl <;> first | rfl | exact (SlR.cells (by first | assumption | exact S.tail.sl | exact S.tail.tail.sl | exact S.tail.tail.tail.sl | exact S.tail.tail.tail.tail.sl | exact S.tail.tail.tail.tail.tail.sl | exact S.tail.tail.tail.tail.tail.tail.sl | exact S.tail.tail.tail.tail.tail.tail.tail.sl | exact S.tail.tail.tail.tail.tail.tail.tail.tail.sl | exact S.tail.tail.tail.tail.tail.tail.tail.tail.tail.sl | exact S.tail.tail.tail.tail.tail.tail.tail.tail.tail.tail.sl | exact S.tail.tail.tail.tail.tail.tail.tail.tail.tail.tail.tail.sl | exact S.tail.tail.tail.tail.tail.tail.tail.tail.tail.tail.tail.tail.sl | exact S.tail.tail.tail.tail.tail.tail.tail.tail.tail.tail.tail.tail.tail.sl)).2) ?_
        intro w17 b18 S
        have B := B.trans b18
        have S := S.f7
        refine t_stn S sb_path rfl rfl rfl rfl (by intro zz hu; have hu : zz ∈ ([vp10] : List Value) := hu; simp only [List.mem_cons, List.not_mem_nil, or_false] at hu; rcases hu with rfl <;> first | rfl | exact (SlR.cells (by first | assumption | exact S.tail.sl | exact S.tail.tail.sl | exact S.tail.tail.tail.sl | exact S.tail.tail.tail.tail.sl | exact S.tail.tail.tail.tail.tail.sl | exact S.tail.tail.tail.tail.tail.tail.sl | exact S.tail.tail.tail.tail.tail.tail.tail.sl | exact S.tail.tail.tail.tail.tail.tail.tail.tail.sl | exact S.tail.tail.tail.tail.tail.tail.tail.tail.tail.sl | exact S.tail.tail.tail.tail.tail.tail.tail.tail.tail.tail.sl | exact S.tail.tail.tail.tail.tail.tail.tail.tail.tail.tail.tail.sl | exact S.tail.tail.tail.tail.tail.tail.tail.tail.tail.tail.tail.tail.sl | exact S.tail.tail.tail.tail.tail.tail.tail.tail.tail.tail.tail.tail.tail.sl)).2) ?_
        intro w19 b20 S
        have B := B.trans b20
        refine t_done' ?_
        refine x_seq ?_
        refine w_ret ?_
        refine x_then_ret ?_
        refine x_retcc rfl rfl S.tail.box ab_topo sb_topo rfl rfl S.box ab_path sb_path rfl ?_
        have S := S.f4
        have S := S.toRd (fun _ h => h)
        have S := S.f1
        have S := S.tail
        have S := S.f1
        have S := S.tail
        have S := S.f1
        have S := S.tail
        have S := S.f1
        have S := S.tail
        have S := S.f3
        have S := S.f3
        have S := S.f3
        have S := S.f3
        exact ⟨_, _, _, _, _, p10, rfl, ⟨T, hP.toS⟩, S, B⟩
      · have S := S.f7
        refine t_stn S sb_topo rfl rfl rfl rfl (by intro zz hu; have hu : zz ∈ ([va10, vl10] : List Value) := hu; simp only [List.mem_cons, List.not_mem_nil, or_false] at hu; rcases hu with rfl | rfl <;> first | rfl | exact (SlR.cells (by first | assumption | exact S.tail.sl | exact S.tail.tail.sl | exact S.tail.tail.tail.sl | exact S.tail.tail.tail.tail.sl | exact S.tail.tail.tail.tail.tail.sl | exact S.tail.tail.tail.tail.tail.tail.sl | exact S.tail.tail.tail.tail.tail.tail.tail.sl | exact S.tail.tail.tail.tail.tail.tail.tail.tail.sl | exact S.tail.tail.tail.tail.tail.tail.tail.tail.tail.sl | exact S.tail.tail.tail.tail.tail.tail.tail.tail.tail.tail.sl | exact S.tail.tail.tail.tail.tail.tail.tail.tail.tail.tail.tail.sl | exact S.tail.tail.tail.tail.tail.tail.tail.tail.tail.tail.tail.tail.sl | exact S.tail.tail.tail.tail.tail.tail.tail.tail.tail.tail.tail.tail.tail.sl)).2) ?_
        intro w21 b22 S
        have B := B.trans b22
        refine t_bxn S.tail.box ab_path sb_path rfl rfl ?_ rfl
        have S := S.f7
        refine t_stn S sb_path rfl rfl rfl rfl (by intro zz hu; have hu : zz ∈ ([vp10] : List Value) := hu; simp only [List.mem_cons, List.not_mem_nil, or_false] at hu; rcases hu with rfl <;> first | rfl | exact (SlR.cells (by first | assumption | exact S.tail.sl | exact S.tail.tail.sl | exact S.tail.tail.tail.sl | exact S.tail.tail.tail.tail.sl | exact S.tail.tail.tail.tail.tail.sl | exact S.tail.tail.tail.tail.tail.tail.sl | exact S.tail.tail.tail.tail.tail.tail.tail.sl | exact S.tail.tail.tail.tail.tail.tail.tail.tail.sl | exact S.tail.tail.tail.tail.tail.tail.tail.tail.tail.sl | exact S.tail.tail.tail.tail.tail.tail.tail.tail.tail.tail.sl | exact S.tail.tail.tail.tail.tail.tail.tail.tail.tail.tail.tail.sl | exact S.tail.tail.tail.tail.tail.tail.tail.tail.tail.tail.tail.tail.sl | exact S.tail.tail.tail.tail.tail.tail.tail.tail.tail.tail.tail.tail.tail.sl)).2) ?_
        intro w23 b24 S
        have B := B.trans b24
        refine t_done' ?_
        refine x_seq ?_
        refine w_ret ?_
        refine x_then_ret ?_
        refine x_retcc rfl rfl S.tail.box ab_topo sb_topo rfl rfl S.box ab_path sb_path rfl ?_
        have S := S.f4
        have S := S.toRd (fun _ h => h)
        have S := S.f1
        have S := S.tail
        have S := S.f1
        have S := S.tail
        have S := S.f1
        have S := S.tail
        have S := S.f1
        have S := S.tail
        have S := S.f3
        have S := S.f3
        have S := S.f3
        have S := S.f3
        exact ⟨_, _, _, _, _, p10, rfl, ⟨T, hP.toS⟩, S, B⟩
    · refine t_bxn S.box ab_path sb_path rfl rfl ?_ rfl
      refine t_bxn S.tail.box ab_topo sb_topo rfl rfl ?_ rfl
      have S := S.f7
      refine t_stn S sb_topo rfl rfl rfl rfl (by intro zz hu; have hu : zz ∈ ([va10, vl10] : List Value) := hu; simp only [List.mem_cons, List.not_mem_nil, or_false] at hu; rcases hu with rfl | rfl <;> first | rfl | exact (SlR.cells (by first | assumption | exact S.tail.sl | exact S.tail.tail.sl | exact S.tail.tail.tail.sl | exact S.tail.tail.tail.tail.sl | exact S.tail.tail.tail.tail.tail.sl | exact S.tail.tail.tail.tail.tail.tail.sl | exact S.tail.tail.tail.tail.tail.tail.tail.sl | exact S.tail.tail.tail.tail.tail.tail.tail.tail.sl | exact S.tail.tail.tail.tail.tail.tail.tail.tail.tail.sl | exact S.tail.tail.tail.tail.tail.tail.tail.tail.tail.tail.sl | exact S.tail.tail.tail.tail.tail.tail.tail.tail.tail.tail.tail.sl | exact S.tail.tail.tail.tail.tail.tail.tail.tail.tail.tail.tail.tail.sl | exact S.tail.tail.tail.tail.tail.tail.tail.tail.tail.tail.tail.tail.tail.sl)).2) ?_
      intro w25 b26 S
      have B := B.trans b26
      have S := S.f7
      refine t_stn S sb_path rfl rfl rfl rfl (by intro zz hu; have hu : zz ∈ ([vp10] : List Value) := hu; simp only [List.mem_cons, List.not_mem_nil, or_false] at hu; rcases hu with rfl <;> first | rfl | exact (SlR.cells (by first | assumption | exact S.tail.sl | exact S.tail.tail.sl | exact S.tail.tail.tail.sl | exact S.tail.tail.tail.tail.sl | exact S.tail.tail.tail.tail.tail.sl | exact S.tail.tail.tail.tail.tail.tail.sl | exact S.tail.tail.tail.tail.tail.tail.tail.sl | exact S.tail.tail.tail.tail.tail.tail.tail.tail.sl | exact S.tail.tail.tail.tail.tail.tail.tail.tail.tail.sl | exact S.tail.tail.tail.tail.tail.tail.tail.tail.tail.tail.sl | exact S.tail.tail.tail.tail.tail.tail.tail.tail.tail.tail.tail.sl | exact S.tail.tail.tail.tail.tail.tail.tail.tail.tail.tail.tail.tail.sl | exact S.tail.tail.tail.tail.tail.tail.tail.tail.tail.tail.tail.tail.tail.sl)).2) ?_
      intro w27 b28 S
      have B := B.trans b28
      refine t_done' ?_
      refine x_seq ?_
      refine w_ret ?_
      refine x_then_ret ?_
      refine x_retcc rfl rfl S.tail.box ab_topo sb_topo rfl rfl S.box ab_path sb_path rfl ?_
      have S := S.f4
      have S := S.toRd (fun _ h => h)
      have S := S.f1
      have S := S.tail
      have S := S.f1
      have S := S.tail
      have S := S.f1
      have S := S.tail
      have S := S.f1
      have S := S.tail
      have S := S.f3
      have S := S.f3
      have S := S.f3
      have S := S.f3
      exact ⟨_, _, _, _, _, p10, rfl, ⟨T, hP.toS⟩, S, B⟩
  · intro h0
    refine w_skip ?_
    refine x_seq ?_
    refine w_seq ?_
    refine w_region ?_
    refine t_move rfl ?_ rfl
    refine t_fldx fb_path_0 rfl rfl ?_ rfl
    refine t_bx1 S.box ab_s_part rfl rfl ?_ rfl
    refine t_len e_part (S.tail.tail.sl) rfl rfl ?_ rfl
    have S := S.f5
    refine t_callf Try.call64 rfl (spec_l1Below (p10.length : Int) S (K.below B)) ?_ rfl
    rintro e w29 ⟨y23, rfl, hf23, S, x30⟩
    refine ⟨_, rfl, ?_⟩
    have B := B.trans x30
    refine t_assign rfl ?_ rfl
    refine t_done ?_
    refine x_seq ?_
    refine w_seq ?_
    obtain ⟨ek, hek⟩ := getx (l := p10) (k := y23.toNat) (by omega)
    have hkm := List.mem_of_getElem? hek
    have hkS := hQ.2 ek hkm
    refine w_cut (X := Path × Value) (fun x wq => (fun q vq => PathS q ∧ Below b w wq ∧ Sep b wq (rdO partT vq q :: bxO g5 30 #[vq] :: slO asnT 121 va10 A10 :: slO linkT 78 vl10 L10 :: curO v n c 109 :: bxO g4 27 #[va10, vl10] :: bxO g3 30 #[.slice none 0 0] :: bxO g2 27 #[.slice none 0 0, .slice none 0 0] :: os)) x.1 x.2) (fun x => (fun q vq => [(2, .pointer (some ⟨g2, 0, none⟩)), (3, .pointer (some ⟨g3, 0, none⟩)), (4, .pointer (some ⟨g4, 0, none⟩)), (5, .pointer (some ⟨g5, 0, none⟩))]) x.1 x.2) ?_ ?_
    · refine w_seq ?_
      refine w_region ?_
      refine t_move rfl ?_ rfl
      refine t_callf Try.call64 rfl (spec_l1Below 12 S (K.below B)) ?_ rfl
      rintro e w31 ⟨y25, rfl, hf25, S, x32⟩
      refine ⟨_, rfl, ?_⟩
      have B := B.trans x32
      refine t_done ?_
      refine x_seq ?_
      refine w_block ?_
      refine w_seq ?_
      refine w_region ?_
      refine t_eql rfl rfl ?_ rfl
      refine t_assign rfl ?_ rfl
      refine t_done ?_
      refine x_seq ?_
      refine w_if rfl ?_ ?_
      · intro h1
        have S := S.f3
        obtain ⟨Gvp10, Cvp10, rfl⟩ := S.addr (by omega)
        refine w_drawP [0, 2, 3] (.alt (.st .fin 1 (.st .fin 4 (.st .fin 5 (.st .fin 6 (.st .fin 7 .done))))) (.st .fin 4 (.st .fin 1 (.st .fin 5 (.st .fin 6 (.st .fin 7 .done)))))) mixed (by kernel_rfl) ?_
        intro w33 x34
        have B := bx Hb B x34
        have S := S.below x34
        refine p_fldx fb_path_0 rfl rfl ?_ rfl
        refine p_move rfl ?_ rfl
        refine p_move rfl ?_ rfl
        refine p_done ?_
        refine t_alt ?_ ?_
        · refine t_bx1 S.tail.tail.box ab_s_part rfl rfl ?_ rfl
          have S := S.f1
          refine t_callf Try.call64 rfl (spec_l1Below 6 S (K.below B)) ?_ rfl
          rintro e w35 ⟨y32, rfl, hf32, S, x36⟩
          refine ⟨_, rfl, ?_⟩
          have B := B.trans x36
          refine t_idxx e_part (k := y23.toNat) rfl rfl (by first | rfl | omega) (by omega) rfl ?_ rfl
          refine t_fldx fb_part_0 rfl rfl ?_ rfl
          have S := S.f1
          refine t_stS (T := partT) (j := 0) (x' := { ek with kind := y32 }) S (by first | rfl | ((try simp only [List.length_set]); first | omega | simp)) sb_int rfl rfl hek rfl (by decide) rfl rfl so_part_0 ?_
          intro w37 b38 S
          have B := B.trans b38
          have hq39 := set_at (y := { ek with kind := y32 }) hek
          refine t_done' ?_
          refine x_block_normal ?_
          have S := S.toRd (fun _ h => h)
          have S := S.f7
          have S := S.f7
          have S := S.f5
          have S := S.f4
          have S := S.f7
          have S := S.f7
          have S := S.f7
          have S := S.f7
          refine x_cut (X := Path × Value) (I := (fun x wq => (fun q vq => PathS q ∧ Below b w wq ∧ Sep b wq (rdO partT vq q :: bxO g5 30 #[vq] :: slO asnT 121 va10 A10 :: slO linkT 78 vl10 L10 :: curO v n c 109 :: bxO g4 27 #[va10, vl10] :: bxO g3 30 #[.slice none 0 0] :: bxO g2 27 #[.slice none 0 0, .slice none 0 0] :: os)) x.1 x.2)) (F := (fun x => (fun q vq => [(2, .pointer (some ⟨g2, 0, none⟩)), (3, .pointer (some ⟨g3, 0, none⟩)), (4, .pointer (some ⟨g4, 0, none⟩)), (5, .pointer (some ⟨g5, 0, none⟩))]) x.1 x.2)) (p10.set y23.toNat { ek with kind := y32 }, (.slice (some ⟨Gvp10, 0, none⟩) p10.length Cvp10)) ?_ ?_
          rotate_left
          · exact ⟨rfl, rfl, rfl, rfl, trivial⟩
          try dsimp only
          exact ⟨⟨by rw [List.length_set]; omega, set_all hQ.2 ⟨hkS.1, in64 (by dsimp only; omega) (by dsimp only; omega), hkS.2.2⟩⟩, B, S⟩
        · have S := S.f1
          refine t_callf Try.call64 rfl (spec_l1Below 6 S (K.below B)) ?_ rfl
          rintro e w40 ⟨y32, rfl, hf32, S, x41⟩
          refine ⟨_, rfl, ?_⟩
          have B := B.trans x41
          refine t_bx1 S.tail.tail.box ab_s_part rfl rfl ?_ rfl
          refine t_idxx e_part (k := y23.toNat) rfl rfl (by first | rfl | omega) (by omega) rfl ?_ rfl
          refine t_fldx fb_part_0 rfl rfl ?_ rfl
          have S := S.f1
          refine t_stS (T := partT) (j := 0) (x' := { ek with kind := y32 }) S (by first | rfl | ((try simp only [List.length_set]); first | omega | simp)) sb_int rfl rfl hek rfl (by decide) rfl rfl so_part_0 ?_
          intro w42 b43 S
          have B := B.trans b43
          have hq44 := set_at (y := { ek with kind := y32 }) hek
          refine t_done' ?_
          refine x_block_normal ?_
          have S := S.toRd (fun _ h => h)
          have S := S.f7
          have S := S.f7
          have S := S.f5
          have S := S.f4
          have S := S.f7
          have S := S.f7
          have S := S.f7
          have S := S.f7
          refine x_cut (X := Path × Value) (I := (fun x wq => (fun q vq => PathS q ∧ Below b w wq ∧ Sep b wq (rdO partT vq q :: bxO g5 30 #[vq] :: slO asnT 121 va10 A10 :: slO linkT 78 vl10 L10 :: curO v n c 109 :: bxO g4 27 #[va10, vl10] :: bxO g3 30 #[.slice none 0 0] :: bxO g2 27 #[.slice none 0 0, .slice none 0 0] :: os)) x.1 x.2)) (F := (fun x => (fun q vq => [(2, .pointer (some ⟨g2, 0, none⟩)), (3, .pointer (some ⟨g3, 0, none⟩)), (4, .pointer (some ⟨g4, 0, none⟩)), (5, .pointer (some ⟨g5, 0, none⟩))]) x.1 x.2)) (p10.set y23.toNat { ek with kind := y32 }, (.slice (some ⟨Gvp10, 0, none⟩) p10.length Cvp10)) ?_ ?_
          rotate_left
          · exact ⟨rfl, rfl, rfl, rfl, trivial⟩
          try dsimp only
          exact ⟨⟨by rw [List.length_set]; omega, set_all hQ.2 ⟨hkS.1, in64 (by dsimp only; omega) (by dsimp only; omega), hkS.2.2⟩⟩, B, S⟩
      · intro h1
        refine w_seq ?_
        refine w_region ?_
        refine t_eql rfl rfl ?_ rfl
        refine t_assign rfl ?_ rfl
        refine t_done ?_
        refine x_seq ?_
        refine w_if rfl ?_ ?_
        · intro h2
          have S := S.f3
          obtain ⟨Gvp10, Cvp10, rfl⟩ := S.addr (by omega)
          refine w_drawP [0, 2, 3] (.alt (.st .fin 1 (.st .fin 4 (.st .fin 5 (.st .fin 6 (.st .fin 7 .done))))) (.st .fin 4 (.st .fin 1 (.st .fin 5 (.st .fin 6 (.st .fin 7 .done)))))) mixed (by kernel_rfl) ?_
          intro w45 x46
          have B := bx Hb B x46
          have S := S.below x46
          refine p_fldx fb_path_0 rfl rfl ?_ rfl
          refine p_move rfl ?_ rfl
          refine p_move rfl ?_ rfl
          refine p_done ?_
          refine t_alt ?_ ?_
          · refine t_bx1 S.tail.tail.box ab_s_part rfl rfl ?_ rfl
            have S := S.f1
            refine t_callf Try.call129 rfl (spec_l3Word S (K.below B)) ?_ rfl
            rintro e w47 ⟨y41, rfl, hf41, S, x48⟩
            refine ⟨_, rfl, ?_⟩
            have B := B.trans x48
            refine t_idxx e_part (k := y23.toNat) rfl rfl (by first | rfl | omega) (by omega) rfl ?_ rfl
            refine t_fldx fb_part_2 rfl rfl ?_ rfl
            have S := S.f1
            refine t_stS (T := partT) (j := 2) (x' := { ek with beta := y41 }) S (by first | rfl | ((try simp only [List.length_set]); first | omega | simp)) sb_int rfl rfl hek rfl (by decide) rfl rfl so_part_2 ?_
            intro w49 b50 S
            have B := B.trans b50
            have hq51 := set_at (y := { ek with beta := y41 }) hek
            refine t_done' ?_
            refine x_block_normal ?_
            have S := S.toRd (fun _ h => h)
            have S := S.f7
            have S := S.f7
            have S := S.f5
            have S := S.f4
            have S := S.f7
            have S := S.f7
            have S := S.f7
            have S := S.f7
            refine x_cut (X := Path × Value) (I := (fun x wq => (fun q vq => PathS q ∧ Below b w wq ∧ Sep b wq (rdO partT vq q :: bxO g5 30 #[vq] :: slO asnT 121 va10 A10 :: slO linkT 78 vl10 L10 :: curO v n c 109 :: bxO g4 27 #[va10, vl10] :: bxO g3 30 #[.slice none 0 0] :: bxO g2 27 #[.slice none 0 0, .slice none 0 0] :: os)) x.1 x.2)) (F := (fun x => (fun q vq => [(2, .pointer (some ⟨g2, 0, none⟩)), (3, .pointer (some ⟨g3, 0, none⟩)), (4, .pointer (some ⟨g4, 0, none⟩)), (5, .pointer (some ⟨g5, 0, none⟩))]) x.1 x.2)) (p10.set y23.toNat { ek with beta := y41 }, (.slice (some ⟨Gvp10, 0, none⟩) p10.length Cvp10)) ?_ ?_
            rotate_left
            · exact ⟨rfl, rfl, rfl, rfl, trivial⟩
            try dsimp only
            exact ⟨⟨by rw [List.length_set]; omega, set_all hQ.2 ⟨hkS.1, hkS.2.1, hkS.2.2.1, in64 (by dsimp only; omega) (by dsimp only; omega), hkS.2.2.2.2⟩⟩, B, S⟩
          · have S := S.f1
            refine t_callf Try.call129 rfl (spec_l3Word S (K.below B)) ?_ rfl
            rintro e w52 ⟨y41, rfl, hf41, S, x53⟩
            refine ⟨_, rfl, ?_⟩
            have B := B.trans x53
            refine t_bx1 S.tail.tail.box ab_s_part rfl rfl ?_ rfl
            refine t_idxx e_part (k := y23.toNat) rfl rfl (by first | rfl | omega) (by omega) rfl ?_ rfl
            refine t_fldx fb_part_2 rfl rfl ?_ rfl
            have S := S.f1
            refine t_stS (T := partT) (j := 2) (x' := { ek with beta := y41 }) S (by first | rfl | ((try simp only [List.length_set]); first | omega | simp)) sb_int rfl rfl hek rfl (by decide) rfl rfl so_part_2 ?_
            intro w54 b55 S
            have B := B.trans b55
            have hq56 := set_at (y := { ek with beta := y41 }) hek
            refine t_done' ?_
            refine x_block_normal ?_
            have S := S.toRd (fun _ h => h)
            have S := S.f7
            have S := S.f7
            have S := S.f5
            have S := S.f4
            have S := S.f7
            have S := S.f7
            have S := S.f7
            have S := S.f7
            refine x_cut (X := Path × Value) (I := (fun x wq => (fun q vq => PathS q ∧ Below b w wq ∧ Sep b wq (rdO partT vq q :: bxO g5 30 #[vq] :: slO asnT 121 va10 A10 :: slO linkT 78 vl10 L10 :: curO v n c 109 :: bxO g4 27 #[va10, vl10] :: bxO g3 30 #[.slice none 0 0] :: bxO g2 27 #[.slice none 0 0, .slice none 0 0] :: os)) x.1 x.2)) (F := (fun x => (fun q vq => [(2, .pointer (some ⟨g2, 0, none⟩)), (3, .pointer (some ⟨g3, 0, none⟩)), (4, .pointer (some ⟨g4, 0, none⟩)), (5, .pointer (some ⟨g5, 0, none⟩))]) x.1 x.2)) (p10.set y23.toNat { ek with beta := y41 }, (.slice (some ⟨Gvp10, 0, none⟩) p10.length Cvp10)) ?_ ?_
            rotate_left
            · exact ⟨rfl, rfl, rfl, rfl, trivial⟩
            try dsimp only
            exact ⟨⟨by rw [List.length_set]; omega, set_all hQ.2 ⟨hkS.1, hkS.2.1, hkS.2.2.1, in64 (by dsimp only; omega) (by dsimp only; omega), hkS.2.2.2.2⟩⟩, B, S⟩
        · intro h2
          refine w_seq ?_
          refine w_region ?_
          refine t_eql rfl rfl ?_ rfl
          refine t_assign rfl ?_ rfl
          refine t_done ?_
          refine x_seq ?_
          refine w_if rfl ?_ ?_
          · intro h3
            refine w_draw (.st .take 0 (.st .take 1 (.st .take 2 (.st .take 3 (.st .take 4 (.st .take 5 (.st .take 6 (.st .run 7 (.st .run 8 (.st .fin 9 (.st .fin 10 (.st .fin 11 .done)))))))))))) mixed (by kernel_rfl) ?_
            intro w57 x58
            have B := bx Hb B x58
            have S := S.below x58
            refine t_fldx fb_path_0 rfl rfl ?_ rfl
            refine t_bx1 S.tail.box ab_s_part rfl rfl ?_ rfl
            refine t_fldx fb_path_0 rfl rfl ?_ rfl
            refine t_bx1 S.tail.box ab_s_part rfl rfl ?_ rfl
            refine t_move rfl ?_ rfl
            refine t_idx e_part (k := y23.toNat) (S.tail.tail.tail.sl) hek (Below.refl _ _) rfl rfl (by first | rfl | omega) ?_ rfl
            intro p51 hp51
            refine t_lda (by assumption) ab_part sb_part (Below.refl _ _) rfl ?_ rfl
            intro v52 hv52
            obtain ⟨v52_3, rfl, hv52_3⟩ := part_va hv52
            refine t_call Try.call130 rfl (spec_l21Copy ek _ _ (by first | assumption | exact VA.below (by assumption) B | exact part_mkv (by first | assumption | exact SlR.below (by assumption) B)) (by omega)) ?_ rfl rfl
            rintro e w59 ⟨cs53, fp53, rfl, hO53, x60⟩
            refine ⟨_, rfl, x60, ?_⟩
            have S := S.add (o := tyO partT _ _) x60 hO53
            have B := bx Hb B x60
            obtain ⟨u53_3, heq, S2⟩ := S.partOpen
            subst heq
            have S := S2
            clear S2
            refine t_lit1 (fun w => bs_part1 _ _ _ _ w) rfl ?_ rfl rfl
            intro A54 w61 x62 hA54
            have B := bx Hb B x62
            have S := S.below x62
            have S := S.partShut (x := ek)
            have S := S.f4
            refine t_snoc e_part S hA54 rfl rfl rfl (by first | omega | (simp; done) | (simp; omega)) (by (simp only [maxLen]); first | omega | (simp; done) | (simp; omega)) ?_ rfl
            intro v55 w63 x64 S
            have B := B.trans x64
            refine t_fldx fb_path_0 rfl rfl ?_ rfl
            obtain ⟨Av55, cv55, rfl, _⟩ := S.sl.form
            have S := S.f2
            refine t_st1 S sb_s_part rfl rfl rfl rfl rfl ?_
            intro w65 b66 S
            have B := B.trans b66
            refine t_done' ?_
            refine x_block_normal ?_
            have S := S.f1
            have S := S.toRd (fun _ h => h)
            have S := S.f7
            have S := S.f7
            have S := S.f5
            have S := S.f5
            have S := S.f7
            have S := S.f7
            have S := S.f7
            have S := S.f7
            refine x_cut (X := Path × Value) (I := (fun x wq => (fun q vq => PathS q ∧ Below b w wq ∧ Sep b wq (rdO partT vq q :: bxO g5 30 #[vq] :: slO asnT 121 va10 A10 :: slO linkT 78 vl10 L10 :: curO v n c 109 :: bxO g4 27 #[va10, vl10] :: bxO g3 30 #[.slice none 0 0] :: bxO g2 27 #[.slice none 0 0, .slice none 0 0] :: os)) x.1 x.2)) (F := (fun x => (fun q vq => [(2, .pointer (some ⟨g2, 0, none⟩)), (3, .pointer (some ⟨g3, 0, none⟩)), (4, .pointer (some ⟨g4, 0, none⟩)), (5, .pointer (some ⟨g5, 0, none⟩))]) x.1 x.2)) (p10 ++ [ek], .slice Av55 (p10 ++ [ek]).length cv55) ?_ ?_
            rotate_left
            · exact ⟨rfl, rfl, rfl, rfl, trivial⟩
            try dsimp only
            exact ⟨⟨by rw [List.length_append, List.length_singleton]; omega, fun x hx => by rcases List.mem_append.1 hx with hx | hx; exact hQ.2 x hx; rw [List.mem_singleton] at hx; rw [hx]; exact hkS⟩, B, S⟩
          · intro h3
            refine w_seq ?_
            refine w_region ?_
            refine t_eql rfl rfl ?_ rfl
            refine t_assign rfl ?_ rfl
            refine t_done ?_
            refine x_seq ?_
            refine w_if rfl ?_ ?_
            · intro h4
              refine w_region ?_
              refine t_fldx fb_path_0 rfl rfl ?_ rfl
              refine t_bx1 S.tail.box ab_s_part rfl rfl ?_ rfl
              obtain ⟨Avp10, cvp10, rfl, _⟩ := S.tail.tail.tail.sl.form
              refine t_sldv e_part (k := 1) rfl rfl (by first | rfl | omega) (by omega) (by omega) ?_ rfl
              refine t_fldx fb_path_0 rfl rfl ?_ rfl
              have S := S.f1
              refine t_st1 S sb_s_part rfl rfl rfl rfl rfl ?_
              intro w67 b68 S
              have B := B.trans b68
              refine t_done ?_
              refine x_block_normal ?_
              have S := S.f3
              have S := S.toRd (fun _ h => SlR.drop (k := 1) h (by omega))
              have S := S.f7
              have S := S.f7
              have S := S.f5
              have S := S.f5
              have S := S.f7
              have S := S.f7
              have S := S.f7
              have S := S.f7
              refine x_cut (X := Path × Value) (I := (fun x wq => (fun q vq => PathS q ∧ Below b w wq ∧ Sep b wq (rdO partT vq q :: bxO g5 30 #[vq] :: slO asnT 121 va10 A10 :: slO linkT 78 vl10 L10 :: curO v n c 109 :: bxO g4 27 #[va10, vl10] :: bxO g3 30 #[.slice none 0 0] :: bxO g2 27 #[.slice none 0 0, .slice none 0 0] :: os)) x.1 x.2)) (F := (fun x => (fun q vq => [(2, .pointer (some ⟨g2, 0, none⟩)), (3, .pointer (some ⟨g3, 0, none⟩)), (4, .pointer (some ⟨g4, 0, none⟩)), (5, .pointer (some ⟨g5, 0, none⟩))]) x.1 x.2)) (p10.drop 1, (.slice (if cvp10 = 1 then Avp10 else Avp10.map (·.add (1 * 4))) (p10.length - 1) (cvp10 - 1))) ?_ ?_
              rotate_left
              · exact ⟨rfl, rfl, rfl, rfl, trivial⟩
              try dsimp only
              exact ⟨⟨by rw [List.length_drop]; omega, fun x hx => hQ.2 x (List.mem_of_mem_drop hx)⟩, B, S⟩
            · intro h4
              refine w_seq ?_
              refine w_region ?_
              refine t_eql rfl rfl ?_ rfl
              refine t_assign rfl ?_ rfl
              refine t_done ?_
              refine x_seq ?_
              refine w_if rfl ?_ ?_
              · intro h5
                refine w_seq ?_
                refine w_region ?_
                refine t_fldx fb_path_0 rfl rfl ?_ rfl
                refine t_bx1 S.tail.box ab_s_part rfl rfl ?_ rfl
                refine t_move rfl ?_ rfl
                refine t_idx e_part (k := y23.toNat) (S.tail.tail.tail.sl) hek (Below.refl _ _) rfl rfl (by first | rfl | omega) ?_ rfl
                intro p68 hp68
                refine t_fld ln_part_3 (by assumption) fb_part_3 rfl ?_ rfl
                intro p69 hp69
                refine t_lds (by assumption) ab_s_hop (Below.refl _ _) rfl ?_ rfl
                intro v70 hv70
                refine t_len e_hop (by assumption) rfl rfl ?_ rfl
                refine t_gtr rfl rfl ?_ rfl
                refine t_done ?_
                refine x_seq ?_
                refine w_if rfl ?_ ?_
                · intro h6
                  refine w_seq ?_
                  refine w_region ?_
                  refine t_move rfl ?_ rfl
                  refine t_fldx fb_path_0 rfl rfl ?_ rfl
                  refine t_bx1 S.tail.box ab_s_part rfl rfl ?_ rfl
                  refine t_move rfl ?_ rfl
                  refine t_idx e_part (k := y23.toNat) (S.tail.tail.tail.sl) hek (Below.refl _ _) rfl rfl (by first | rfl | omega) ?_ rfl
                  intro p77 hp77
                  refine t_fld ln_part_3 (by assumption) fb_part_3 rfl ?_ rfl
                  intro p78 hp78
                  refine t_lds (by assumption) ab_s_hop (Below.refl _ _) rfl ?_ rfl
                  intro v79 hv79
                  refine t_len e_hop (by assumption) rfl rfl ?_ rfl
                  refine t_callf Try.call64 rfl (spec_l1Below (ek.hops.length : Int) S (K.below B)) ?_ rfl
                  rintro e w69 ⟨y81, rfl, hf81, S, x70⟩
                  refine ⟨_, rfl, ?_⟩
                  have B := B.trans x70
                  refine t_assign rfl ?_ rfl
                  refine t_done ?_
                  refine x_seq ?_
                  have S := S.f3
                  obtain ⟨Gvp10, Cvp10, rfl⟩ := S.addr (by omega)
                  obtain ⟨eh, heh⟩ := getx (l := ek.hops) (k := y81.toNat) (by omega)
                  have heR := hkS.2.2.2.2 eh (List.mem_of_getElem? heh)
                  refine w_drawP [0, 2, 6, 7] (.alt (.st .fin 1 (.alt (.st .fin 3 (.alt (.st .fin 4 (.alt (.st .fin 5 (.st .fin 8 (.st .fin 9 (.st .fin 10 (.st .fin 11 .done))))) (.st .fin 8 (.st .fin 5 (.st .fin 9 (.st .fin 10 (.st .fin 11 .done))))))) (.st .fin 8 (.st .fin 4 (.st .fin 5 (.st .fin 9 (.st .fin 10 (.st .fin 11 .done)))))))) (.st .fin 8 (.st .fin 3 (.st .fin 4 (.st .fin 5 (.st .fin 9 (.st .fin 10 (.st .fin 11 .done))))))))) (.st .fin 8 (.st .fin 1 (.st .fin 3 (.st .fin 4 (.st .fin 5 (.st .fin 9 (.st .fin 10 (.st .fin 11 .done))))))))) mixed (by kernel_rfl) ?_
                  intro w71 x72
                  have B := bx Hb B x72
                  have S := S.below x72
                  refine p_fldx fb_path_0 rfl rfl ?_ rfl
                  refine p_move rfl ?_ rfl
                  refine p_move rfl ?_ rfl
                  refine p_move rfl ?_ rfl
                  refine p_done ?_
                  refine t_alt ?_ ?_
                  · refine t_bx1 S.tail.tail.box ab_s_part rfl rfl ?_ rfl
                    refine t_alt ?_ ?_
                    · refine t_idxx e_part (k := y23.toNat) rfl rfl (by first | rfl | omega) (by omega) rfl ?_ rfl
                      refine t_alt ?_ ?_
                      · refine t_fldx fb_part_3 rfl rfl ?_ rfl
                        refine t_alt ?_ ?_
                        · obtain ⟨cs87, S, hc87⟩ := S.split hek
                          obtain ⟨u87, rfl, S⟩ := S.partOpen
                          obtain ⟨Gu87, Cu87, rfl⟩ := S.addr (by omega)
                          refine t_ld1 ab_s_hop (hc87 _ _ _ rfl 3 _ rfl) (Below.refl _ _) rfl ?_ rfl
                          have S := S.f2
                          refine t_callf Try.call129 rfl (spec_l3Word S (K.below B)) ?_ rfl
                          rintro e w73 ⟨y90, rfl, hf90, S, x74⟩
                          refine ⟨_, rfl, ?_⟩
                          have B := B.trans x74
                          refine t_idxx e_hop (k := y81.toNat) rfl rfl (by first | rfl | omega) (by omega) rfl ?_ rfl
                          refine t_fldx fb_hop_4 rfl rfl ?_ rfl
                          have S := S.f1
                          refine t_stS (T := hopT) (j := 4) (x' := { eh with mac := y90 }) S (by first | rfl | ((try simp only [List.length_set]); first | omega | simp)) sb_int rfl rfl heh rfl (by decide) rfl rfl so_hop_4 ?_
                          intro w75 b76 S
                          have B := B.trans b76
                          have hq77 := set_at (y := { eh with mac := y90 }) heh
                          refine t_done' ?_
                          refine x_block_normal ?_
                          have S := S.f2
                          have S := S.f1
                          have S := S.partShut (x := { ek with hops := ek.hops.set y81.toNat { eh with mac := y90 } })
                          have S := S.join
                          have S := S.toRd (fun _ h => h)
                          have S := S.f7
                          have S := S.f7
                          have S := S.f5
                          have S := S.f4
                          have S := S.f7
                          have S := S.f7
                          have S := S.f7
                          have S := S.f7
                          refine x_cut (X := Path × Value) (I := (fun x wq => (fun q vq => PathS q ∧ Below b w wq ∧ Sep b wq (rdO partT vq q :: bxO g5 30 #[vq] :: slO asnT 121 va10 A10 :: slO linkT 78 vl10 L10 :: curO v n c 109 :: bxO g4 27 #[va10, vl10] :: bxO g3 30 #[.slice none 0 0] :: bxO g2 27 #[.slice none 0 0, .slice none 0 0] :: os)) x.1 x.2)) (F := (fun x => (fun q vq => [(2, .pointer (some ⟨g2, 0, none⟩)), (3, .pointer (some ⟨g3, 0, none⟩)), (4, .pointer (some ⟨g4, 0, none⟩)), (5, .pointer (some ⟨g5, 0, none⟩))]) x.1 x.2)) (p10.set y23.toNat { ek with hops := ek.hops.set y81.toNat { eh with mac := y90 } }, (.slice (some ⟨Gvp10, 0, none⟩) p10.length Cvp10)) ?_ ?_
                          rotate_left
                          · exact ⟨rfl, rfl, rfl, rfl, trivial⟩
                          try dsimp only
                          exact ⟨⟨by rw [List.length_set]; omega, set_all hQ.2 ⟨by dsimp only; rw [List.length_set]; exact hkS.1, hkS.2.1, hkS.2.2.1, hkS.2.2.2.1, set_all hkS.2.2.2.2 ⟨heR.1, heR.2.1, heR.2.2.1, heR.2.2.2.1, in64 (by dsimp only; omega) (by dsimp only; omega)⟩⟩⟩, B, S⟩
                        · have S := S.f1
                          refine t_callf Try.call129 rfl (spec_l3Word S (K.below B)) ?_ rfl
                          rintro e w78 ⟨y90, rfl, hf90, S, x79⟩
                          refine ⟨_, rfl, ?_⟩
                          have B := B.trans x79
                          have S := S.f1
                          obtain ⟨cs87, S, hc87⟩ := S.split hek
                          obtain ⟨u87, rfl, S⟩ := S.partOpen
                          obtain ⟨Gu87, Cu87, rfl⟩ := S.addr (by omega)
                          refine t_ld1 ab_s_hop (hc87 _ _ _ rfl 3 _ rfl) (Below.refl _ _) rfl ?_ rfl
                          refine t_idxx e_hop (k := y81.toNat) rfl rfl (by first | rfl | omega) (by omega) rfl ?_ rfl
                          refine t_fldx fb_hop_4 rfl rfl ?_ rfl
                          refine t_stS (T := hopT) (j := 4) (x' := { eh with mac := y90 }) S (by first | rfl | ((try simp only [List.length_set]); first | omega | simp)) sb_int rfl rfl heh rfl (by decide) rfl rfl so_hop_4 ?_
                          intro w80 b81 S
                          have B := B.trans b81
                          have hq82 := set_at (y := { eh with mac := y90 }) heh
                          refine t_done' ?_
                          refine x_block_normal ?_
                          have S := S.f1
                          have S := S.f1
                          have S := S.partShut (x := { ek with hops := ek.hops.set y81.toNat { eh with mac := y90 } })
                          have S := S.join
                          have S := S.toRd (fun _ h => h)
                          have S := S.f7
                          have S := S.f7
                          have S := S.f5
                          have S := S.f4
                          have S := S.f7
                          have S := S.f7
                          have S := S.f7
                          have S := S.f7
                          refine x_cut (X := Path × Value) (I := (fun x wq => (fun q vq => PathS q ∧ Below b w wq ∧ Sep b wq (rdO partT vq q :: bxO g5 30 #[vq] :: slO asnT 121 va10 A10 :: slO linkT 78 vl10 L10 :: curO v n c 109 :: bxO g4 27 #[va10, vl10] :: bxO g3 30 #[.slice none 0 0] :: bxO g2 27 #[.slice none 0 0, .slice none 0 0] :: os)) x.1 x.2)) (F := (fun x => (fun q vq => [(2, .pointer (some ⟨g2, 0, none⟩)), (3, .pointer (some ⟨g3, 0, none⟩)), (4, .pointer (some ⟨g4, 0, none⟩)), (5, .pointer (some ⟨g5, 0, none⟩))]) x.1 x.2)) (p10.set y23.toNat { ek with hops := ek.hops.set y81.toNat { eh with mac := y90 } }, (.slice (some ⟨Gvp10, 0, none⟩) p10.length Cvp10)) ?_ ?_
                          rotate_left
                          · exact ⟨rfl, rfl, rfl, rfl, trivial⟩
                          try dsimp only
                          exact ⟨⟨by rw [List.length_set]; omega, set_all hQ.2 ⟨by dsimp only; rw [List.length_set]; exact hkS.1, hkS.2.1, hkS.2.2.1, hkS.2.2.2.1, set_all hkS.2.2.2.2 ⟨heR.1, heR.2.1, heR.2.2.1, heR.2.2.2.1, in64 (by dsimp only; omega) (by dsimp only; omega)⟩⟩⟩, B, S⟩
                      · have S := S.f1
                        refine t_callf Try.call129 rfl (spec_l3Word S (K.below B)) ?_ rfl
                        rintro e w83 ⟨y90, rfl, hf90, S, x84⟩
                        refine ⟨_, rfl, ?_⟩
                        have B := B.trans x84
                        refine t_fldx fb_part_3 rfl rfl ?_ rfl
                        have S := S.f1
                        obtain ⟨cs87, S, hc87⟩ := S.split hek
                        obtain ⟨u87, rfl, S⟩ := S.partOpen
                        obtain ⟨Gu87, Cu87, rfl⟩ := S.addr (by omega)
                        refine t_ld1 ab_s_hop (hc87 _ _ _ rfl 3 _ rfl) (Below.refl _ _) rfl ?_ rfl
                        refine t_idxx e_hop (k := y81.toNat) rfl rfl (by first | rfl | omega) (by omega) rfl ?_ rfl
                        refine t_fldx fb_hop_4 rfl rfl ?_ rfl
                        refine t_stS (T := hopT) (j := 4) (x' := { eh with mac := y90 }) S (by first | rfl | ((try simp only [List.length_set]); first | omega | simp)) sb_int rfl rfl heh rfl (by decide) rfl rfl so_hop_4 ?_
                        intro w85 b86 S
                        have B := B.trans b86
                        have hq87 := set_at (y := { eh with mac := y90 }) heh
                        refine t_done' ?_
                        refine x_block_normal ?_
                        have S := S.f1
                        have S := S.f1
                        have S := S.partShut (x := { ek with hops := ek.hops.set y81.toNat { eh with mac := y90 } })
                        have S := S.join
                        have S := S.toRd (fun _ h => h)
                        have S := S.f7
                        have S := S.f7
                        have S := S.f5
                        have S := S.f4
                        have S := S.f7
                        have S := S.f7
                        have S := S.f7
                        have S := S.f7
                        refine x_cut (X := Path × Value) (I := (fun x wq => (fun q vq => PathS q ∧ Below b w wq ∧ Sep b wq (rdO partT vq q :: bxO g5 30 #[vq] :: slO asnT 121 va10 A10 :: slO linkT 78 vl10 L10 :: curO v n c 109 :: bxO g4 27 #[va10, vl10] :: bxO g3 30 #[.slice none 0 0] :: bxO g2 27 #[.slice none 0 0, .slice none 0 0] :: os)) x.1 x.2)) (F := (fun x => (fun q vq => [(2, .pointer (some ⟨g2, 0, none⟩)), (3, .pointer (some ⟨g3, 0, none⟩)), (4, .pointer (some ⟨g4, 0, none⟩)), (5, .pointer (some ⟨g5, 0, none⟩))]) x.1 x.2)) (p10.set y23.toNat { ek with hops := ek.hops.set y81.toNat { eh with mac := y90 } }, (.slice (some ⟨Gvp10, 0, none⟩) p10.length Cvp10)) ?_ ?_
                        rotate_left
                        · exact ⟨rfl, rfl, rfl, rfl, trivial⟩
                        try dsimp only
                        exact ⟨⟨by rw [List.length_set]; omega, set_all hQ.2 ⟨by dsimp only; rw [List.length_set]; exact hkS.1, hkS.2.1, hkS.2.2.1, hkS.2.2.2.1, set_all hkS.2.2.2.2 ⟨heR.1, heR.2.1, heR.2.2.1, heR.2.2.2.1, in64 (by dsimp only; omega) (by dsimp only; omega)⟩⟩⟩, B, S⟩
                    · have S := S.f1
                      refine t_callf Try.call129 rfl (spec_l3Word S (K.below B)) ?_ rfl
                      rintro e w88 ⟨y90, rfl, hf90, S, x89⟩
                      refine ⟨_, rfl, ?_⟩
                      have B := B.trans x89
                      refine t_idxx e_part (k := y23.toNat) rfl rfl (by first | rfl | omega) (by omega) rfl ?_ rfl
                      refine t_fldx fb_part_3 rfl rfl ?_ rfl
                      have S := S.f1
                      obtain ⟨cs87, S, hc87⟩ := S.split hek
                      obtain ⟨u87, rfl, S⟩ := S.partOpen
                      obtain ⟨Gu87, Cu87, rfl⟩ := S.addr (by omega)
                      refine t_ld1 ab_s_hop (hc87 _ _ _ rfl 3 _ rfl) (Below.refl _ _) rfl ?_ rfl
                      refine t_idxx e_hop (k := y81.toNat) rfl rfl (by first | rfl | omega) (by omega) rfl ?_ rfl
                      refine t_fldx fb_hop_4 rfl rfl ?_ rfl
                      refine t_stS (T := hopT) (j := 4) (x' := { eh with mac := y90 }) S (by first | rfl | ((try simp only [List.length_set]); first | omega | simp)) sb_int rfl rfl heh rfl (by decide) rfl rfl so_hop_4 ?_
                      intro w90 b91 S
                      have B := B.trans b91
                      have hq92 := set_at (y := { eh with mac := y90 }) heh
                      refine t_done' ?_
                      refine x_block_normal ?_
                      have S := S.f1
                      have S := S.f1
                      have S := S.partShut (x := { ek with hops := ek.hops.set y81.toNat { eh with mac := y90 } })
                      have S := S.join
                      have S := S.toRd (fun _ h => h)
                      have S := S.f7
                      have S := S.f7
                      have S := S.f5
                      have S := S.f4
                      have S := S.f7
                      have S := S.f7
                      have S := S.f7
                      have S := S.f7
                      refine x_cut (X := Path × Value) (I := (fun x wq => (fun q vq => PathS q ∧ Below b w wq ∧ Sep b wq (rdO partT vq q :: bxO g5 30 #[vq] :: slO asnT 121 va10 A10 :: slO linkT 78 vl10 L10 :: curO v n c 109 :: bxO g4 27 #[va10, vl10] :: bxO g3 30 #[.slice none 0 0] :: bxO g2 27 #[.slice none 0 0, .slice none 0 0] :: os)) x.1 x.2)) (F := (fun x => (fun q vq => [(2, .pointer (some ⟨g2, 0, none⟩)), (3, .pointer (some ⟨g3, 0, none⟩)), (4, .pointer (some ⟨g4, 0, none⟩)), (5, .pointer (some ⟨g5, 0, none⟩))]) x.1 x.2)) (p10.set y23.toNat { ek with hops := ek.hops.set y81.toNat { eh with mac := y90 } }, (.slice (some ⟨Gvp10, 0, none⟩) p10.length Cvp10)) ?_ ?_
                      rotate_left
                      · exact ⟨rfl, rfl, rfl, rfl, trivial⟩
                      try dsimp only
                      exact ⟨⟨by rw [List.length_set]; omega, set_all hQ.2 ⟨by dsimp only; rw [List.length_set]; exact hkS.1, hkS.2.1, hkS.2.2.1, hkS.2.2.2.1, set_all hkS.2.2.2.2 ⟨heR.1, heR.2.1, heR.2.2.1, heR.2.2.2.1, in64 (by dsimp only; omega) (by dsimp only; omega)⟩⟩⟩, B, S⟩
                  · have S := S.f1
                    refine t_callf Try.call129 rfl (spec_l3Word S (K.below B)) ?_ rfl
                    rintro e w93 ⟨y90, rfl, hf90, S, x94⟩
                    refine ⟨_, rfl, ?_⟩
                    have B := B.trans x94
                    refine t_bx1 S.tail.tail.box ab_s_part rfl rfl ?_ rfl
                    refine t_idxx e_part (k := y23.toNat) rfl rfl (by first | rfl | omega) (by omega) rfl ?_ rfl
                    refine t_fldx fb_part_3 rfl rfl ?_ rfl
                    have S := S.f1
                    obtain ⟨cs87, S, hc87⟩ := S.split hek
                    obtain ⟨u87, rfl, S⟩ := S.partOpen
                    obtain ⟨Gu87, Cu87, rfl⟩ := S.addr (by omega)
                    refine t_ld1 ab_s_hop (hc87 _ _ _ rfl 3 _ rfl) (Below.refl _ _) rfl ?_ rfl
                    refine t_idxx e_hop (k := y81.toNat) rfl rfl (by first | rfl | omega) (by omega) rfl ?_ rfl
                    refine t_fldx fb_hop_4 rfl rfl ?_ rfl
                    refine t_stS (T := hopT) (j := 4) (x' := { eh with mac := y90 }) S (by first | rfl | ((try simp only [List.length_set]); first | omega | simp)) sb_int rfl rfl heh rfl (by decide) rfl rfl so_hop_4 ?_
                    intro w95 b96 S
                    have B := B.trans b96
                    have hq97 := set_at (y := { eh with mac := y90 }) heh
                    refine t_done' ?_
                    refine x_block_normal ?_
                    have S := S.f1
                    have S := S.f1
                    have S := S.partShut (x := { ek with hops := ek.hops.set y81.toNat { eh with mac := y90 } })
                    have S := S.join
                    have S := S.toRd (fun _ h => h)
                    have S := S.f7
                    have S := S.f7
                    have S := S.f5
                    have S := S.f4
                    have S := S.f7
                    have S := S.f7
                    have S := S.f7
                    have S := S.f7
                    refine x_cut (X := Path × Value) (I := (fun x wq => (fun q vq => PathS q ∧ Below b w wq ∧ Sep b wq (rdO partT vq q :: bxO g5 30 #[vq] :: slO asnT 121 va10 A10 :: slO linkT 78 vl10 L10 :: curO v n c 109 :: bxO g4 27 #[va10, vl10] :: bxO g3 30 #[.slice none 0 0] :: bxO g2 27 #[.slice none 0 0, .slice none 0 0] :: os)) x.1 x.2)) (F := (fun x => (fun q vq => [(2, .pointer (some ⟨g2, 0, none⟩)), (3, .pointer (some ⟨g3, 0, none⟩)), (4, .pointer (some ⟨g4, 0, none⟩)), (5, .pointer (some ⟨g5, 0, none⟩))]) x.1 x.2)) (p10.set y23.toNat { ek with hops := ek.hops.set y81.toNat { eh with mac := y90 } }, (.slice (some ⟨Gvp10, 0, none⟩) p10.length Cvp10)) ?_ ?_
                    rotate_left
                    · exact ⟨rfl, rfl, rfl, rfl, trivial⟩
                    try dsimp only
                    exact ⟨⟨by rw [List.length_set]; omega, set_all hQ.2 ⟨by dsimp only; rw [List.length_set]; exact hkS.1, hkS.2.1, hkS.2.2.1, hkS.2.2.2.1, set_all hkS.2.2.2.2 ⟨heR.1, heR.2.1, heR.2.2.1, heR.2.2.2.1, in64 (by dsimp only; omega) (by dsimp only; omega)⟩⟩⟩, B, S⟩
                · intro h6
                  refine w_skip ?_
                  refine x_block_normal ?_
                  have S := S.f3
                  have S := S.toRd (fun _ h => h)
                  have S := S.f7
                  have S := S.f7
                  have S := S.f5
                  have S := S.f4
                  have S := S.f7
                  have S := S.f7
                  have S := S.f7
                  have S := S.f7
                  refine x_cut (X := Path × Value) (I := (fun x wq => (fun q vq => PathS q ∧ Below b w wq ∧ Sep b wq (rdO partT vq q :: bxO g5 30 #[vq] :: slO asnT 121 va10 A10 :: slO linkT 78 vl10 L10 :: curO v n c 109 :: bxO g4 27 #[va10, vl10] :: bxO g3 30 #[.slice none 0 0] :: bxO g2 27 #[.slice none 0 0, .slice none 0 0] :: os)) x.1 x.2)) (F := (fun x => (fun q vq => [(2, .pointer (some ⟨g2, 0, none⟩)), (3, .pointer (some ⟨g3, 0, none⟩)), (4, .pointer (some ⟨g4, 0, none⟩)), (5, .pointer (some ⟨g5, 0, none⟩))]) x.1 x.2)) (p10, vp10) ?_ ?_
                  rotate_left
                  · exact ⟨rfl, rfl, rfl, rfl, trivial⟩
                  try dsimp only
                  exact ⟨hP.toS, B, S⟩
              · intro h5
                refine w_skip ?_
                refine x_block_normal ?_
                have S := S.f3
                have S := S.toRd (fun _ h => h)
                have S := S.f7
                have S := S.f7
                have S := S.f5
                have S := S.f4
                have S := S.f7
                have S := S.f7
                have S := S.f7
                have S := S.f7
                refine x_cut (X := Path × Value) (I := (fun x wq => (fun q vq => PathS q ∧ Below b w wq ∧ Sep b wq (rdO partT vq q :: bxO g5 30 #[vq] :: slO asnT 121 va10 A10 :: slO linkT 78 vl10 L10 :: curO v n c 109 :: bxO g4 27 #[va10, vl10] :: bxO g3 30 #[.slice none 0 0] :: bxO g2 27 #[.slice none 0 0, .slice none 0 0] :: os)) x.1 x.2)) (F := (fun x => (fun q vq => [(2, .pointer (some ⟨g2, 0, none⟩)), (3, .pointer (some ⟨g3, 0, none⟩)), (4, .pointer (some ⟨g4, 0, none⟩)), (5, .pointer (some ⟨g5, 0, none⟩))]) x.1 x.2)) (p10, vp10) ?_ ?_
                rotate_left
                · exact ⟨rfl, rfl, rfl, rfl, trivial⟩
                try dsimp only
                exact ⟨hP.toS, B, S⟩
    rintro ⟨q, vq⟩ w98 hI
    try dsimp only at hI ⊢
    obtain ⟨hS, B, S⟩ := hI
    refine w_seq ?_
    refine w_drawP [] (.alt (.st .fin 0 (.alt (.st .fin 1 (.st .fin 2 (.st .fin 3 .done))) (.st .fin 2 (.st .fin 1 (.st .fin 3 .done))))) (.st .fin 1 (.st .fin 0 (.st .fin 2 (.st .fin 3 .done))))) mixed (by kernel_rfl) ?_
    intro w99 x100
    have B := bx Hb B x100
    have S := S.below x100
    refine t_alt ?_ ?_
    · refine t_bxn S.tail.tail.tail.tail.tail.box ab_topo sb_topo rfl rfl ?_ rfl
      refine t_alt ?_ ?_
      · refine t_bxn S.tail.box ab_path sb_path rfl rfl ?_ rfl
        have S := S.f7
        refine t_stn S sb_topo rfl rfl rfl rfl (by intro zz hu; have hu : zz ∈ ([va10, vl10] : List Value) := hu; simp only [List.mem_cons, List.not_mem_nil, or_false] at hu; rcases hu with rfl | rfl <;> first | rfl | exact (SlR.cells (by first | assumption | exact S.tail.sl | exact S.tail.tail.sl | exact S.tail.tail.tail.sl | exact S.tail.tail.tail.tail.sl | exact S.tail.tail.tail.tail.tail.sl | exact S.tail.tail.tail.tail.tail.tail.sl | exact S.tail.tail.tail.tail.tail.tail.tail.sl | exact S.tail.tail.tail.tail.tail.tail.tail.tail.sl | exact S.tail.tail.tail.tail.tail.tail.tail.tail.tail.sl | exact S.tail.tail.tail.tail.tail.tail.tail.tail.tail.tail.sl | exact S.tail.tail.tail.tail.tail.tail.tail.tail.tail.tail.tail.sl | exact S.tail.tail.tail.tail.tail.tail.tail.tail.tail.tail.tail.tail.sl | exact S.tail.tail.tail.tail.tail.tail.tail.tail.tail.tail.tail.tail.tail.sl)).2) ?_
        intro w101 b102 S
        have B := B.trans b102
        have S := S.f7
        refine t_stn S sb_path rfl rfl rfl rfl (by intro zz hu; have hu : zz ∈ ([vq] : List Value) := hu; simp only [List.mem_cons, List.not_mem_nil, or_false] at hu; rcases hu with rfl <;> first | rfl | exact (SlR.cells (by first | assumption | exact S.tail.sl | exact S.tail.tail.sl | exact S.tail.tail.tail.sl | exact S.tail.tail.tail.tail.sl | exact S.tail.tail.tail.tail.tail.sl | exact S.tail.tail.tail.tail.tail.tail.sl | exact S.tail.tail.tail.tail.tail.tail.tail.sl | exact S.tail.tail.tail.tail.tail.tail.tail.tail.sl | exact S.tail.tail.tail.tail.tail.tail.tail.tail.tail.sl | exact S.tail.tail.tail.tail.tail.tail.tail.tail.tail.tail.sl | exact S.tail.tail.tail.tail.tail.tail.tail.tail.tail.tail.tail.sl | exact S.tail.tail.tail.tail.tail.tail.tail.tail.tail.tail.tail.tail.sl | exact S.tail.tail.tail.tail.tail.tail.tail.tail.tail.tail.tail.tail.tail.sl | exact S.tail.rd | exact S.tail.tail.rd | exact S.tail.tail.tail.rd | exact S.tail.tail.tail.tail.rd | exact S.tail.tail.tail.tail.tail.rd | exact S.tail.tail.tail.tail.tail.tail.rd | exact S.tail.tail.tail.tail.tail.tail.tail.rd | exact S.tail.tail.tail.tail.tail.tail.tail.tail.rd | exact S.tail.tail.tail.tail.tail.tail.tail.tail.tail.rd | exact S.tail.tail.tail.tail.tail.tail.tail.tail.tail.tail.rd | exact S.tail.tail.tail.tail.tail.tail.tail.tail.tail.tail.tail.rd | exact S.tail.tail.tail.tail.tail.tail.tail.tail.tail.tail.tail.tail.rd | exact S.tail.tail.tail.tail.tail.tail.tail.tail.tail.tail.tail.tail.tail.rd)).2) ?_
        intro w103 b104 S
        have B := B.trans b104
        refine t_done' ?_
        refine x_seq ?_
        refine w_ret ?_
        refine x_retcc rfl rfl S.tail.box ab_topo sb_topo rfl rfl S.box ab_path sb_path rfl ?_
        have S := S.tail
        have S := S.tail
        have S := S.f1
        have S := S.tail
        have S := S.f4
        have S := S.tail
        have S := S.f3
        have S := S.f3
        have S := S.f3
        have S := S.f3
        exact ⟨_, _, _, _, _, q, rfl, ⟨T, hS⟩, S, B⟩
      · have S := S.f7
        refine t_stn S sb_topo rfl rfl rfl rfl (by intro zz hu; have hu : zz ∈ ([va10, vl10] : List Value) := hu; simp only [List.mem_cons, List.not_mem_nil, or_false] at hu; rcases hu with rfl | rfl <;> first | rfl | exact (SlR.cells (by first | assumption | exact S.tail.sl | exact S.tail.tail.sl | exact S.tail.tail.tail.sl | exact S.tail.tail.tail.tail.sl | exact S.tail.tail.tail.tail.tail.sl | exact S.tail.tail.tail.tail.tail.tail.sl | exact S.tail.tail.tail.tail.tail.tail.tail.sl | exact S.tail.tail.tail.tail.tail.tail.tail.tail.sl | exact S.tail.tail.tail.tail.tail.tail.tail.tail.tail.sl | exact S.tail.tail.tail.tail.tail.tail.tail.tail.tail.tail.sl | exact S.tail.tail.tail.tail.tail.tail.tail.tail.tail.tail.tail.sl | exact S.tail.tail.tail.tail.tail.tail.tail.tail.tail.tail.tail.tail.sl | exact S.tail.tail.tail.tail.tail.tail.tail.tail.tail.tail.tail.tail.tail.sl)).2) ?_
        intro w105 b106 S
        have B := B.trans b106
        refine t_bxn S.tail.tail.box ab_path sb_path rfl rfl ?_ rfl
        have S := S.f7
        refine t_stn S sb_path rfl rfl rfl rfl (by intro zz hu; have hu : zz ∈ ([vq] : List Value) := hu; simp only [List.mem_cons, List.not_mem_nil, or_false] at hu; rcases hu with rfl <;> first | rfl | exact (SlR.cells (by first | assumption | exact S.tail.sl | exact S.tail.tail.sl | exact S.tail.tail.tail.sl | exact S.tail.tail.tail.tail.sl | exact S.tail.tail.tail.tail.tail.sl | exact S.tail.tail.tail.tail.tail.tail.sl | exact S.tail.tail.tail.tail.tail.tail.tail.sl | exact S.tail.tail.tail.tail.tail.tail.tail.tail.sl | exact S.tail.tail.tail.tail.tail.tail.tail.tail.tail.sl | exact S.tail.tail.tail.tail.tail.tail.tail.tail.tail.tail.sl | exact S.tail.tail.tail.tail.tail.tail.tail.tail.tail.tail.tail.sl | exact S.tail.tail.tail.tail.tail.tail.tail.tail.tail.tail.tail.tail.sl | exact S.tail.tail.tail.tail.tail.tail.tail.tail.tail.tail.tail.tail.tail.sl | exact S.tail.rd | exact S.tail.tail.rd | exact S.tail.tail.tail.rd | exact S.tail.tail.tail.tail.rd | exact S.tail.tail.tail.tail.tail.rd | exact S.tail.tail.tail.tail.tail.tail.rd | exact S.tail.tail.tail.tail.tail.tail.tail.rd | exact S.tail.tail.tail.tail.tail.tail.tail.tail.rd | exact S.tail.tail.tail.tail.tail.tail.tail.tail.tail.rd | exact S.tail.tail.tail.tail.tail.tail.tail.tail.tail.tail.rd | exact S.tail.tail.tail.tail.tail.tail.tail.tail.tail.tail.tail.rd | exact S.tail.tail.tail.tail.tail.tail.tail.tail.tail.tail.tail.tail.rd | exact S.tail.tail.tail.tail.tail.tail.tail.tail.tail.tail.tail.tail.tail.rd)).2) ?_
        intro w107 b108 S
        have B := B.trans b108
        refine t_done' ?_
        refine x_seq ?_
        refine w_ret ?_
        refine x_retcc rfl rfl S.tail.box ab_topo sb_topo rfl rfl S.box ab_path sb_path rfl ?_
        have S := S.tail
        have S := S.tail
        have S := S.f1
        have S := S.tail
        have S := S.f4
        have S := S.tail
        have S := S.f3
        have S := S.f3
        have S := S.f3
        have S := S.f3
        exact ⟨_, _, _, _, _, q, rfl, ⟨T, hS⟩, S, B⟩
    · refine t_bxn S.tail.box ab_path sb_path rfl rfl ?_ rfl
      refine t_bxn S.tail.tail.tail.tail.tail.box ab_topo sb_topo rfl rfl ?_ rfl
      have S := S.f7
      refine t_stn S sb_topo rfl rfl rfl rfl (by intro zz hu; have hu : zz ∈ ([va10, vl10] : List Value) := hu; simp only [List.mem_cons, List.not_mem_nil, or_false] at hu; rcases hu with rfl | rfl <;> first | rfl | exact (SlR.cells (by first | assumption | exact S.tail.sl | exact S.tail.tail.sl | exact S.tail.tail.tail.sl | exact S.tail.tail.tail.tail.sl | exact S.tail.tail.tail.tail.tail.sl | exact S.tail.tail.tail.tail.tail.tail.sl | exact S.tail.tail.tail.tail.tail.tail.tail.sl | exact S.tail.tail.tail.tail.tail.tail.tail.tail.sl | exact S.tail.tail.tail.tail.tail.tail.tail.tail.tail.sl | exact S.tail.tail.tail.tail.tail.tail.tail.tail.tail.tail.sl | exact S.tail.tail.tail.tail.tail.tail.tail.tail.tail.tail.tail.sl | exact S.tail.tail.tail.tail.tail.tail.tail.tail.tail.tail.tail.tail.sl | exact S.tail.tail.tail.tail.tail.tail.tail.tail.tail.tail.tail.tail.tail.sl)).2) ?_
      intro w109 b110 S
      have B := B.trans b110
      have S := S.f7
      refine t_stn S sb_path rfl rfl rfl rfl (by intro zz hu; have hu : zz ∈ ([vq] : List Value) := hu; simp only [List.mem_cons, List.not_mem_nil, or_false] at hu; rcases hu with rfl <;> first | rfl | exact (SlR.cells (by first | assumption | exact S.tail.sl | exact S.tail.tail.sl | exact S.tail.tail.tail.sl | exact S.tail.tail.tail.tail.sl | exact S.tail.tail.tail.tail.tail.sl | exact S.tail.tail.tail.tail.tail.tail.sl | exact S.tail.tail.tail.tail.tail.tail.tail.sl | exact S.tail.tail.tail.tail.tail.tail.tail.tail.sl | exact S.tail.tail.tail.tail.tail.tail.tail.tail.tail.sl | exact S.tail.tail.tail.tail.tail.tail.tail.tail.tail.tail.sl | exact S.tail.tail.tail.tail.tail.tail.tail.tail.tail.tail.tail.sl | exact S.tail.tail.tail.tail.tail.tail.tail.tail.tail.tail.tail.tail.sl | exact S.tail.tail.tail.tail.tail.tail.tail.tail.tail.tail.tail.tail.tail.sl | exact S.tail.rd | exact S.tail.tail.rd | exact S.tail.tail.tail.rd | exact S.tail.tail.tail.tail.rd | exact S.tail.tail.tail.tail.tail.rd | exact S.tail.tail.tail.tail.tail.tail.rd | exact S.tail.tail.tail.tail.tail.tail.tail.rd | exact S.tail.tail.tail.tail.tail.tail.tail.tail.rd | exact S.tail.tail.tail.tail.tail.tail.tail.tail.tail.rd | exact S.tail.tail.tail.tail.tail.tail.tail.tail.tail.tail.rd | exact S.tail.tail.tail.tail.tail.tail.tail.tail.tail.tail.tail.rd | exact S.tail.tail.tail.tail.tail.tail.tail.tail.tail.tail.tail.tail.rd | exact S.tail.tail.tail.tail.tail.tail.tail.tail.tail.tail.tail.tail.tail.rd)).2) ?_
      intro w111 b112 S
      have B := B.trans b112
      refine t_done' ?_
      refine x_seq ?_
      refine w_ret ?_
      refine x_retcc rfl rfl S.tail.box ab_topo sb_topo rfl rfl S.box ab_path sb_path rfl ?_
      have S := S.tail
      have S := S.tail
      have S := S.f1
      have S := S.tail
      have S := S.f4
      have S := S.tail
      have S := S.f3
      have S := S.f3
      have S := S.f3
      have S := S.f3
      exact ⟨_, _, _, _, _, q, rfl, ⟨T, hS⟩, S, B⟩
theorem spec_l22One (code : List UInt8) (v : Value) (w : World) (h : SlR byteT w v code) (hz : code.length ≤ 1048576) : Calls Try.prog 72 #[v] w fun e w' => ∃ (g : Nat) (va vl vp : Value) (A : List ASd) (L : List Lnk) (p : Path), e = .returned (.tuple #[.pointer (some ⟨g, 0, none⟩), .agg #[va, vl], .agg #[vp]]) ∧ (TopK A L ∧ PathS p) ∧ Sep w.heap.size w' [rdO partT vp p, slO asnT 121 va A, slO linkT 78 vl L, curO v code.length g 109] ∧ Ext w w' := by
  have K := CodeK.of h hz
  have X0 := Below.refl w.heap.size w
  refine enter Try.func72 rfl Try.ntmps72 rfl ?_
  have S := Sep.nil w
  have B := Below.refl w.heap.size w
  have Hb := Nat.le_refl w.heap.size
  refine w_seq ?_
  refine w_region ?_
  refine t_assign rfl ?_ rfl
  refine t_alloc S z_topo rfl ?_ rfl rfl
  intro g3 w113 x114 S
  have B := bx Hb B x114
  refine t_alloc S z_path rfl ?_ rfl rfl
  intro g4 w115 x116 S
  have B := bx Hb B x116
  refine t_done ?_
  refine x_seq ?_
  refine w_seq ?_
  refine w_region ?_
  refine t_move rfl ?_ rfl
  refine t_call Try.call52 rfl (spec_l1New _ _ _ (by first | assumption | exact SlR.below (by assumption) B) (by omega)) ?_ rfl rfl
  rintro e w117 ⟨g9, fpg9, rfl, hOg9, x118⟩
  refine ⟨_, rfl, x118, ?_⟩
  have S := S.add (o := curO _ _ _ _) x118 hOg9
  have B := bx Hb B x118
  refine t_assign rfl ?_ rfl
  refine t_done ?_
  refine x_seq ?_
  refine w_seq ?_
  refine w_region ?_
  refine t_move rfl ?_ rfl
  refine t_callf Try.call113 rfl (spec_l22Any S (K.below B)) ?_ rfl
  rintro e w119 ⟨va12, vl12, vp12, A12, L12, p12, rfl, hf12, S, x120⟩
  refine ⟨_, rfl, ?_⟩
  have B := B.trans x120
  refine t_move rfl ?_ rfl
  refine t_extract rfl rfl ?_ rfl
  refine t_extract rfl rfl ?_ rfl
  refine t_alloc S z_topo rfl ?_ rfl rfl
  intro g6 w121 x122 S
  have B := bx Hb B x122
  refine t_alloc S z_path rfl ?_ rfl rfl
  intro g7 w123 x124 S
  have B := bx Hb B x124
  have S := S.f1
  refine t_stn S sb_topo rfl rfl rfl rfl (by intro zz hu; have hu : zz ∈ ([va12, vl12] : List Value) := hu; simp only [List.mem_cons, List.not_mem_nil, or_false] at hu; rcases hu with rfl | rfl <;> first | rfl | exact (SlR.cells (by first | assumption | exact S.tail.sl | exact S.tail.tail.sl | exact S.tail.tail.tail.sl | exact S.tail.tail.tail.tail.sl | exact S.tail.tail.tail.tail.tail.sl | exact S.tail.tail.tail.tail.tail.tail.sl | exact S.tail.tail.tail.tail.tail.tail.tail.sl | exact S.tail.tail.tail.tail.tail.tail.tail.tail.sl | exact S.tail.tail.tail.tail.tail.tail.tail.tail.tail.sl | exact S.tail.tail.tail.tail.tail.tail.tail.tail.tail.tail.sl | exact S.tail.tail.tail.tail.tail.tail.tail.tail.tail.tail.tail.sl | exact S.tail.tail.tail.tail.tail.tail.tail.tail.tail.tail.tail.tail.sl | exact S.tail.tail.tail.tail.tail.tail.tail.tail.tail.tail.tail.tail.tail.sl)).2) ?_
  intro w125 b126 S
  have B := B.trans b126
  have S := S.f1
  refine t_stn S sb_path rfl rfl rfl rfl (by intro zz hu; have hu : zz ∈ ([vp12] : List Value) := hu; simp only [List.mem_cons, List.not_mem_nil, or_false] at hu; rcases hu with rfl <;> first | rfl | exact (SlR.cells (by first | assumption | exact S.tail.sl | exact S.tail.tail.sl | exact S.tail.tail.tail.sl | exact S.tail.tail.tail.tail.sl | exact S.tail.tail.tail.tail.tail.sl | exact S.tail.tail.tail.tail.tail.tail.sl | exact S.tail.tail.tail.tail.tail.tail.tail.sl | exact S.tail.tail.tail.tail.tail.tail.tail.tail.sl | exact S.tail.tail.tail.tail.tail.tail.tail.tail.tail.sl | exact S.tail.tail.tail.tail.tail.tail.tail.tail.tail.tail.sl | exact S.tail.tail.tail.tail.tail.tail.tail.tail.tail.tail.tail.sl | exact S.tail.tail.tail.tail.tail.tail.tail.tail.tail.tail.tail.tail.sl | exact S.tail.tail.tail.tail.tail.tail.tail.tail.tail.tail.tail.tail.tail.sl | exact S.tail.rd | exact S.tail.tail.rd | exact S.tail.tail.tail.rd | exact S.tail.tail.tail.tail.rd | exact S.tail.tail.tail.tail.tail.rd | exact S.tail.tail.tail.tail.tail.tail.rd | exact S.tail.tail.tail.tail.tail.tail.tail.rd | exact S.tail.tail.tail.tail.tail.tail.tail.tail.rd | exact S.tail.tail.tail.tail.tail.tail.tail.tail.tail.rd | exact S.tail.tail.tail.tail.tail.tail.tail.tail.tail.tail.rd | exact S.tail.tail.tail.tail.tail.tail.tail.tail.tail.tail.tail.rd | exact S.tail.tail.tail.tail.tail.tail.tail.tail.tail.tail.tail.tail.rd | exact S.tail.tail.tail.tail.tail.tail.tail.tail.tail.tail.tail.tail.tail.rd)).2) ?_
  intro w127 b128 S
  have B := B.trans b128
  refine t_done ?_
  refine x_seq ?_
  refine w_seq ?_
  refine w_drawP [0] (.alt (.st .fin 1 (.alt (.st .fin 2 (.st .fin 3 (.st .fin 4 (.st .fin 5 .done)))) (.st .fin 3 (.alt (.st .fin 2 (.st .fin 4 (.st .fin 5 .done))) (.st .fin 4 (.st .fin 2 (.st .fin 5 .done))))))) (.alt (.st .fin 2 (.alt (.st .fin 1 (.st .fin 3 (.st .fin 4 (.st .fin 5 .done)))) (.st .fin 3 (.st .fin 1 (.st .fin 4 (.st .fin 5 .done)))))) (.st .fin 3 (.alt (.st .fin 1 (.alt (.st .fin 2 (.st .fin 4 (.st .fin 5 .done))) (.st .fin 4 (.st .fin 2 (.st .fin 5 .done))))) (.st .fin 2 (.st .fin 1 (.st .fin 4 (.st .fin 5 .done)))))))) mixed (by kernel_rfl) ?_
  intro w129 x130
  have B := bx Hb B x130
  have S := S.below x130
  refine p_move rfl ?_ rfl
  refine p_done ?_
  refine t_alt ?_ (t_alt ?_ ?_)
  · refine t_bxn S.tail.box ab_topo sb_topo rfl rfl ?_ rfl
    refine t_alt ?_ ?_
    · refine t_bxn S.box ab_path sb_path rfl rfl ?_ rfl
      refine t_assign rfl ?_ rfl
      have S := S.f7
      refine t_stn S sb_topo rfl rfl rfl rfl (by intro zz hu; have hu : zz ∈ ([va12, vl12] : List Value) := hu; simp only [List.mem_cons, List.not_mem_nil, or_false] at hu; rcases hu with rfl | rfl <;> first | rfl | exact (SlR.cells (by first | assumption | exact S.tail.sl | exact S.tail.tail.sl | exact S.tail.tail.tail.sl | exact S.tail.tail.tail.tail.sl | exact S.tail.tail.tail.tail.tail.sl | exact S.tail.tail.tail.tail.tail.tail.sl | exact S.tail.tail.tail.tail.tail.tail.tail.sl | exact S.tail.tail.tail.tail.tail.tail.tail.tail.sl | exact S.tail.tail.tail.tail.tail.tail.tail.tail.tail.sl | exact S.tail.tail.tail.tail.tail.tail.tail.tail.tail.tail.sl | exact S.tail.tail.tail.tail.tail.tail.tail.tail.tail.tail.tail.sl | exact S.tail.tail.tail.tail.tail.tail.tail.tail.tail.tail.tail.tail.sl | exact S.tail.tail.tail.tail.tail.tail.tail.tail.tail.tail.tail.tail.tail.sl)).2) ?_
      intro w131 b132 S
      have B := B.trans b132
      have S := S.f7
      refine t_stn S sb_path rfl rfl rfl rfl (by intro zz hu; have hu : zz ∈ ([vp12] : List Value) := hu; simp only [List.mem_cons, List.not_mem_nil, or_false] at hu; rcases hu with rfl <;> first | rfl | exact (SlR.cells (by first | assumption | exact S.tail.sl | exact S.tail.tail.sl | exact S.tail.tail.tail.sl | exact S.tail.tail.tail.tail.sl | exact S.tail.tail.tail.tail.tail.sl | exact S.tail.tail.tail.tail.tail.tail.sl | exact S.tail.tail.tail.tail.tail.tail.tail.sl | exact S.tail.tail.tail.tail.tail.tail.tail.tail.sl | exact S.tail.tail.tail.tail.tail.tail.tail.tail.tail.sl | exact S.tail.tail.tail.tail.tail.tail.tail.tail.tail.tail.sl | exact S.tail.tail.tail.tail.tail.tail.tail.tail.tail.tail.tail.sl | exact S.tail.tail.tail.tail.tail.tail.tail.tail.tail.tail.tail.tail.sl | exact S.tail.tail.tail.tail.tail.tail.tail.tail.tail.tail.tail.tail.tail.sl | exact S.tail.rd | exact S.tail.tail.rd | exact S.tail.tail.tail.rd | exact S.tail.tail.tail.tail.rd | exact S.tail.tail.tail.tail.tail.rd | exact S.tail.tail.tail.tail.tail.tail.rd | exact S.tail.tail.tail.tail.tail.tail.tail.rd | exact S.tail.tail.tail.tail.tail.tail.tail.tail.rd | exact S.tail.tail.tail.tail.tail.tail.tail.tail.tail.rd | exact S.tail.tail.tail.tail.tail.tail.tail.tail.tail.tail.rd | exact S.tail.tail.tail.tail.tail.tail.tail.tail.tail.tail.tail.rd | exact S.tail.tail.tail.tail.tail.tail.tail.tail.tail.tail.tail.tail.rd | exact S.tail.tail.tail.tail.tail.tail.tail.tail.tail.tail.tail.tail.tail.rd)).2) ?_
      intro w133 b134 S
      have B := B.trans b134
      refine t_done' ?_
      refine x_seq ?_
      refine w_ret ?_
      refine x_rettcc rfl rfl rfl S.tail.box ab_topo sb_topo rfl rfl S.box ab_path sb_path rfl ?_
      have S := S.tail
      have S := S.tail
      have S := S.tail
      have S := S.tail
      have S := S.f3
      have S := S.f3
      have S := S.f3
      have S := S.f3
      exact ⟨_, _, _, _, _, _, _, rfl, hf12, S, ext_trans X0 B⟩
    · refine t_assign rfl ?_ rfl
      refine t_alt ?_ ?_
      · refine t_bxn S.box ab_path sb_path rfl rfl ?_ rfl
        have S := S.f7
        refine t_stn S sb_topo rfl rfl rfl rfl (by intro zz hu; have hu : zz ∈ ([va12, vl12] : List Value) := hu; simp only [List.mem_cons, List.not_mem_nil, or_false] at hu; rcases hu with rfl | rfl <;> first | rfl | exact (SlR.cells (by first | assumption | exact S.tail.sl | exact S.tail.tail.sl | exact S.tail.tail.tail.sl | exact S.tail.tail.tail.tail.sl | exact S.tail.tail.tail.tail.tail.sl | exact S.tail.tail.tail.tail.tail.tail.sl | exact S.tail.tail.tail.tail.tail.tail.tail.sl | exact S.tail.tail.tail.tail.tail.tail.tail.tail.sl | exact S.tail.tail.tail.tail.tail.tail.tail.tail.tail.sl | exact S.tail.tail.tail.tail.tail.tail.tail.tail.tail.tail.sl | exact S.tail.tail.tail.tail.tail.tail.tail.tail.tail.tail.tail.sl | exact S.tail.tail.tail.tail.tail.tail.tail.tail.tail.tail.tail.tail.sl | exact S.tail.tail.tail.tail.tail.tail.tail.tail.tail.tail.tail.tail.tail.sl)).2) ?_
        intro w135 b136 S
        have B := B.trans b136
        have S := S.f7
        refine t_stn S sb_path rfl rfl rfl rfl (by intro zz hu; have hu : zz ∈ ([vp12] : List Value) := hu; simp only [List.mem_cons, List.not_mem_nil, or_false] at hu; rcases hu with rfl <;> first | rfl | exact (SlR.cells (by first | assumption | exact S.tail.sl | exact S.tail.tail.sl | exact S.tail.tail.tail.sl | exact S.tail.tail.tail.tail.sl | exact S.tail.tail.tail.tail.tail.sl | exact S.tail.tail.tail.tail.tail.tail.sl | exact S.tail.tail.tail.tail.tail.tail.tail.sl | exact S.tail.tail.tail.tail.tail.tail.tail.tail.sl | exact S.tail.tail.tail.tail.tail.tail.tail.tail.tail.sl | exact S.tail.tail.tail.tail.tail.tail.tail.tail.tail.tail.sl | exact S.tail.tail.tail.tail.tail.tail.tail.tail.tail.tail.tail.sl | exact S.tail.tail.tail.tail.tail.tail.tail.tail.tail.tail.tail.tail.sl | exact S.tail.tail.tail.tail.tail.tail.tail.tail.tail.tail.tail.tail.tail.sl | exact S.tail.rd | exact S.tail.tail.rd | exact S.tail.tail.tail.rd | exact S.tail.tail.tail.tail.rd | exact S.tail.tail.tail.tail.tail.rd | exact S.tail.tail.tail.tail.tail.tail.rd | exact S.tail.tail.tail.tail.tail.tail.tail.rd | exact S.tail.tail.tail.tail.tail.tail.tail.tail.rd | exact S.tail.tail.tail.tail.tail.tail.tail.tail.tail.rd | exact S.tail.tail.tail.tail.tail.tail.tail.tail.tail.tail.rd | exact S.tail.tail.tail.tail.tail.tail.tail.tail.tail.tail.tail.rd | exact S.tail.tail.tail.tail.tail.tail.tail.tail.tail.tail.tail.tail.rd | exact S.tail.tail.tail.tail.tail.tail.tail.tail.tail.tail.tail.tail.tail.rd)).2) ?_
        intro w137 b138 S
        have B := B.trans b138
        refine t_done' ?_
        refine x_seq ?_
        refine w_ret ?_
        refine x_rettcc rfl rfl rfl S.tail.box ab_topo sb_topo rfl rfl S.box ab_path sb_path rfl ?_
        have S := S.tail
        have S := S.tail
        have S := S.tail
        have S := S.tail
        have S := S.f3
        have S := S.f3
        have S := S.f3
        have S := S.f3
        exact ⟨_, _, _, _, _, _, _, rfl, hf12, S, ext_trans X0 B⟩
      · have S := S.f7
        refine t_stn S sb_topo rfl rfl rfl rfl (by intro zz hu; have hu : zz ∈ ([va12, vl12] : List Value) := hu; simp only [List.mem_cons, List.not_mem_nil, or_false] at hu; rcases hu with rfl | rfl <;> first | rfl | exact (SlR.cells (by first | assumption | exact S.tail.sl | exact S.tail.tail.sl | exact S.tail.tail.tail.sl | exact S.tail.tail.tail.tail.sl | exact S.tail.tail.tail.tail.tail.sl | exact S.tail.tail.tail.tail.tail.tail.sl | exact S.tail.tail.tail.tail.tail.tail.tail.sl | exact S.tail.tail.tail.tail.tail.tail.tail.tail.sl | exact S.tail.tail.tail.tail.tail.tail.tail.tail.tail.sl | exact S.tail.tail.tail.tail.tail.tail.tail.tail.tail.tail.sl | exact S.tail.tail.tail.tail.tail.tail.tail.tail.tail.tail.tail.sl | exact S.tail.tail.tail.tail.tail.tail.tail.tail.tail.tail.tail.tail.sl | exact S.tail.tail.tail.tail.tail.tail.tail.tail.tail.tail.tail.tail.tail.sl)).2) ?_
        intro w139 b140 S
        have B := B.trans b140
        refine t_bxn S.tail.box ab_path sb_path rfl rfl ?_ rfl
        have S := S.f7
        refine t_stn S sb_path rfl rfl rfl rfl (by intro zz hu; have hu : zz ∈ ([vp12] : List Value) := hu; simp only [List.mem_cons, List.not_mem_nil, or_false] at hu; rcases hu with rfl <;> first | rfl | exact (SlR.cells (by first | assumption | exact S.tail.sl | exact S.tail.tail.sl | exact S.tail.tail.tail.sl | exact S.tail.tail.tail.tail.sl | exact S.tail.tail.tail.tail.tail.sl | exact S.tail.tail.tail.tail.tail.tail.sl | exact S.tail.tail.tail.tail.tail.tail.tail.sl | exact S.tail.tail.tail.tail.tail.tail.tail.tail.sl | exact S.tail.tail.tail.tail.tail.tail.tail.tail.tail.sl | exact S.tail.tail.tail.tail.tail.tail.tail.tail.tail.tail.sl | exact S.tail.tail.tail.tail.tail.tail.tail.tail.tail.tail.tail.sl | exact S.tail.tail.tail.tail.tail.tail.tail.tail.tail.tail.tail.tail.sl | exact S.tail.tail.tail.tail.tail.tail.tail.tail.tail.tail.tail.tail.tail.sl | exact S.tail.rd | exact S.tail.tail.rd | exact S.tail.tail.tail.rd | exact S.tail.tail.tail.tail.rd | exact S.tail.tail.tail.tail.tail.rd | exact S.tail.tail.tail.tail.tail.tail.rd | exact S.tail.tail.tail.tail.tail.tail.tail.rd | exact S.tail.tail.tail.tail.tail.tail.tail.tail.rd | exact S.tail.tail.tail.tail.tail.tail.tail.tail.tail.rd | exact S.tail.tail.tail.tail.tail.tail.tail.tail.tail.tail.rd | exact S.tail.tail.tail.tail.tail.tail.tail.tail.tail.tail.tail.rd | exact S.tail.tail.tail.tail.tail.tail.tail.tail.tail.tail.tail.tail.rd | exact S.tail.tail.tail.tail.tail.tail.tail.tail.tail.tail.tail.tail.tail.rd)).2) ?_
        intro w141 b142 S
        have B := B.trans b142
        refine t_done' ?_
        refine x_seq ?_
        refine w_ret ?_
        refine x_rettcc rfl rfl rfl S.tail.box ab_topo sb_topo rfl rfl S.box ab_path sb_path rfl ?_
        have S := S.tail
        have S := S.tail
        have S := S.tail
        have S := S.tail
        have S := S.f3
        have S := S.f3
        have S := S.f3
        have S := S.f3
        exact ⟨_, _, _, _, _, _, _, rfl, hf12, S, ext_trans X0 B⟩
  · refine t_bxn S.box ab_path sb_path rfl rfl ?_ rfl
    refine t_alt ?_ ?_
    · refine t_bxn S.tail.box ab_topo sb_topo rfl rfl ?_ rfl
      refine t_assign rfl ?_ rfl
      have S := S.f7
      refine t_stn S sb_topo rfl rfl rfl rfl (by intro zz hu; have hu : zz ∈ ([va12, vl12] : List Value) := hu; simp only [List.mem_cons, List.not_mem_nil, or_false] at hu; rcases hu with rfl | rfl <;> first | rfl | exact (SlR.cells (by first | assumption | exact S.tail.sl | exact S.tail.tail.sl | exact S.tail.tail.tail.sl | exact S.tail.tail.tail.tail.sl | exact S.tail.tail.tail.tail.tail.sl | exact S.tail.tail.tail.tail.tail.tail.sl | exact S.tail.tail.tail.tail.tail.tail.tail.sl | exact S.tail.tail.tail.tail.tail.tail.tail.tail.sl | exact S.tail.tail.tail.tail.tail.tail.tail.tail.tail.sl | exact S.tail.tail.tail.tail.tail.tail.tail.tail.tail.tail.sl | exact S.tail.tail.tail.tail.tail.tail.tail.tail.tail.tail.tail.sl | exact S.tail.tail.tail.tail.tail.tail.tail.tail.tail.tail.tail.tail.sl | exact S.tail.tail.tail.tail.tail.tail.tail.tail.tail.tail.tail.tail.tail.sl)).2) ?_
      intro w143 b144 S
      have B := B.trans b144
      have S := S.f7
      refine t_stn S sb_path rfl rfl rfl rfl (by intro zz hu; have hu : zz ∈ ([vp12] : List Value) := hu; simp only [List.mem_cons, List.not_mem_nil, or_false] at hu; rcases hu with rfl <;> first | rfl | exact (SlR.cells (by first | assumption | exact S.tail.sl | exact S.tail.tail.sl | exact S.tail.tail.tail.sl | exact S.tail.tail.tail.tail.sl | exact S.tail.tail.tail.tail.tail.sl | exact S.tail.tail.tail.tail.tail.tail.sl | exact S.tail.tail.tail.tail.tail.tail.tail.sl | exact S.tail.tail.tail.tail.tail.tail.tail.tail.sl | exact S.tail.tail.tail.tail.tail.tail.tail.tail.tail.sl | exact S.tail.tail.tail.tail.tail.tail.tail.tail.tail.tail.sl | exact S.tail.tail.tail.tail.tail.tail.tail.tail.tail.tail.tail.sl | exact S.tail.tail.tail.tail.tail.tail.tail.tail.tail.tail.tail.tail.sl | exact S.tail.tail.tail.tail.tail.tail.tail.tail.tail.tail.tail.tail.tail.sl | exact S.tail.rd | exact S.tail.tail.rd | exact S.tail.tail.tail.rd | exact S.tail.tail.tail.tail.rd | exact S.tail.tail.tail.tail.tail.rd | exact S.tail.tail.tail.tail.tail.tail.rd | exact S.tail.tail.tail.tail.tail.tail.tail.rd | exact S.tail.tail.tail.tail.tail.tail.tail.tail.rd | exact S.tail.tail.tail.tail.tail.tail.tail.tail.tail.rd | exact S.tail.tail.tail.tail.tail.tail.tail.tail.tail.tail.rd | exact S.tail.tail.tail.tail.tail.tail.tail.tail.tail.tail.tail.rd | exact S.tail.tail.tail.tail.tail.tail.tail.tail.tail.tail.tail.tail.rd | exact S.tail.tail.tail.tail.tail.tail.tail.tail.tail.tail.tail.tail.tail.rd)).2) ?_
      intro w145 b146 S
      have B := B.trans b146
      refine t_done' ?_
      refine x_seq ?_
      refine w_ret ?_
      refine x_rettcc rfl rfl rfl S.tail.box ab_topo sb_topo rfl rfl S.box ab_path sb_path rfl ?_
      have S := S.tail
      have S := S.tail
      have S := S.tail
      have S := S.tail
      have S := S.f3
      have S := S.f3
      have S := S.f3
      have S := S.f3
      exact ⟨_, _, _, _, _, _, _, rfl, hf12, S, ext_trans X0 B⟩
    · refine t_assign rfl ?_ rfl
      refine t_bxn S.tail.box ab_topo sb_topo rfl rfl ?_ rfl
      have S := S.f7
      refine t_stn S sb_topo rfl rfl rfl rfl (by intro zz hu; have hu : zz ∈ ([va12, vl12] : List Value) := hu; simp only [List.mem_cons, List.not_mem_nil, or_false] at hu; rcases hu with rfl | rfl <;> first | rfl | exact (SlR.cells (by first | assumption | exact S.tail.sl | exact S.tail.tail.sl | exact S.tail.tail.tail.sl | exact S.tail.tail.tail.tail.sl | exact S.tail.tail.tail.tail.tail.sl | exact S.tail.tail.tail.tail.tail.tail.sl | exact S.tail.tail.tail.tail.tail.tail.tail.sl | exact S.tail.tail.tail.tail.tail.tail.tail.tail.sl | exact S.tail.tail.tail.tail.tail.tail.tail.tail.tail.sl | exact S.tail.tail.tail.tail.tail.tail.tail.tail.tail.tail.sl | exact S.tail.tail.tail.tail.tail.tail.tail.tail.tail.tail.tail.sl | exact S.tail.tail.tail.tail.tail.tail.tail.tail.tail.tail.tail.tail.sl | exact S.tail.tail.tail.tail.tail.tail.tail.tail.tail.tail.tail.tail.tail.sl)).2) ?_
      intro w147 b148 S
      have B := B.trans b148
      have S := S.f7
      refine t_stn S sb_path rfl rfl rfl rfl (by intro zz hu; have hu : zz ∈ ([vp12] : List Value) := hu; simp only [List.mem_cons, List.not_mem_nil, or_false] at hu; rcases hu with rfl <;> first | rfl | exact (SlR.cells (by first | assumption | exact S.tail.sl | exact S.tail.tail.sl | exact S.tail.tail.tail.sl | exact S.tail.tail.tail.tail.sl | exact S.tail.tail.tail.tail.tail.sl | exact S.tail.tail.tail.tail.tail.tail.sl | exact S.tail.tail.tail.tail.tail.tail.tail.sl | exact S.tail.tail.tail.tail.tail.tail.tail.tail.sl | exact S.tail.tail.tail.tail.tail.tail.tail.tail.tail.sl | exact S.tail.tail.tail.tail.tail.tail.tail.tail.tail.tail.sl | exact S.tail.tail.tail.tail.tail.tail.tail.tail.tail.tail.tail.sl | exact S.tail.tail.tail.tail.tail.tail.tail.tail.tail.tail.tail.tail.sl | exact S.tail.tail.tail.tail.tail.tail.tail.tail.tail.tail.tail.tail.tail.sl | exact S.tail.rd | exact S.tail.tail.rd | exact S.tail.tail.tail.rd | exact S.tail.tail.tail.tail.rd | exact S.tail.tail.tail.tail.tail.rd | exact S.tail.tail.tail.tail.tail.tail.rd | exact S.tail.tail.tail.tail.tail.tail.tail.rd | exact S.tail.tail.tail.tail.tail.tail.tail.tail.rd | exact S.tail.tail.tail.tail.tail.tail.tail.tail.tail.rd | exact S.tail.tail.tail.tail.tail.tail.tail.tail.tail.tail.rd | exact S.tail.tail.tail.tail.tail.tail.tail.tail.tail.tail.tail.rd | exact S.tail.tail.tail.tail.tail.tail.tail.tail.tail.tail.tail.tail.rd | exact S.tail.tail.tail.tail.tail.tail.tail.tail.tail.tail.tail.tail.tail.rd)).2) ?_
      intro w149 b150 S
      have B := B.trans b150
      refine t_done' ?_
      refine x_seq ?_
      refine w_ret ?_
      refine x_rettcc rfl rfl rfl S.tail.box ab_topo sb_topo rfl rfl S.box ab_path sb_path rfl ?_
      have S := S.tail
      have S := S.tail
      have S := S.tail
      have S := S.tail
      have S := S.f3
      have S := S.f3
      have S := S.f3
      have S := S.f3
      exact ⟨_, _, _, _, _, _, _, rfl, hf12, S, ext_trans X0 B⟩
  · refine t_assign rfl ?_ rfl
    refine t_alt ?_ ?_
    · refine t_bxn S.tail.box ab_topo sb_topo rfl rfl ?_ rfl
      refine t_alt ?_ ?_
      · refine t_bxn S.box ab_path sb_path rfl rfl ?_ rfl
        have S := S.f7
        refine t_stn S sb_topo rfl rfl rfl rfl (by intro zz hu; have hu : zz ∈ ([va12, vl12] : List Value) := hu; simp only [List.mem_cons, List.not_mem_nil, or_false] at hu; rcases hu with rfl | rfl <;> first | rfl | exact (SlR.cells (by first | assumption | exact S.tail.sl | exact S.tail.tail.sl | exact S.tail.tail.tail.sl | exact S.tail.tail.tail.tail.sl | exact S.tail.tail.tail.tail.tail.sl | exact S.tail.tail.tail.tail.tail.tail.sl | exact S.tail.tail.tail.tail.tail.tail.tail.sl | exact S.tail.tail.tail.tail.tail.tail.tail.tail.sl | exact S.tail.tail.tail.tail.tail.tail.tail.tail.tail.sl | exact S.tail.tail.tail.tail.tail.tail.tail.tail.tail.tail.sl | exact S.tail.tail.tail.tail.tail.tail.tail.tail.tail.tail.tail.sl | exact S.tail.tail.tail.tail.tail.tail.tail.tail.tail.tail.tail.tail.sl | exact S.tail.tail.tail.tail.tail.tail.tail.tail.tail.tail.tail.tail.tail.sl)).2) ?_
        intro w151 b152 S
        have B := B.trans b152
        have S := S.f7
        refine t_stn S sb_path rfl rfl rfl rfl (by intro zz hu; have hu : zz ∈ ([vp12] : List Value) := hu; simp only [List.mem_cons, List.not_mem_nil, or_false] at hu; rcases hu with rfl <;> first | rfl | exact (SlR.cells (by first | assumption | exact S.tail.sl | exact S.tail.tail.sl | exact S.tail.tail.tail.sl | exact S.tail.tail.tail.tail.sl | exact S.tail.tail.tail.tail.tail.sl | exact S.tail.tail.tail.tail.tail.tail.sl | exact S.tail.tail.tail.tail.tail.tail.tail.sl | exact S.tail.tail.tail.tail.tail.tail.tail.tail.sl | exact S.tail.tail.tail.tail.tail.tail.tail.tail.tail.sl | exact S.tail.tail.tail.tail.tail.tail.tail.tail.tail.tail.sl | exact S.tail.tail.tail.tail.tail.tail.tail.tail.tail.tail.tail.sl | exact S.tail.tail.tail.tail.tail.tail.tail.tail.tail.tail.tail.tail.sl | exact S.tail.tail.tail.tail.tail.tail.tail.tail.tail.tail.tail.tail.tail.sl | exact S.tail.rd | exact S.tail.tail.rd | exact S.tail.tail.tail.rd | exact S.tail.tail.tail.tail.rd | exact S.tail.tail.tail.tail.tail.rd | exact S.tail.tail.tail.tail.tail.tail.rd | exact S.tail.tail.tail.tail.tail.tail.tail.rd | exact S.tail.tail.tail.tail.tail.tail.tail.tail.rd | exact S.tail.tail.tail.tail.tail.tail.tail.tail.tail.rd | exact S.tail.tail.tail.tail.tail.tail.tail.tail.tail.tail.rd | exact S.tail.tail.tail.tail.tail.tail.tail.tail.tail.tail.tail.rd | exact S.tail.tail.tail.tail.tail.tail.tail.tail.tail.tail.tail.tail.rd | exact S.tail.tail.tail.tail.tail.tail.tail.tail.tail.tail.tail.tail.tail.rd)).2) ?_
        intro w153 b154 S
        have B := B.trans b154
        refine t_done' ?_
        refine x_seq ?_
        refine w_ret ?_
        refine x_rettcc rfl rfl rfl S.tail.box ab_topo sb_topo rfl rfl S.box ab_path sb_path rfl ?_
        have S := S.tail
        have S := S.tail
        have S := S.tail
        have S := S.tail
        have S := S.f3
        have S := S.f3
        have S := S.f3
        have S := S.f3
        exact ⟨_, _, _, _, _, _, _, rfl, hf12, S, ext_trans X0 B⟩
      · have S := S.f7
        refine t_stn S sb_topo rfl rfl rfl rfl (by intro zz hu; have hu : zz ∈ ([va12, vl12] : List Value) := hu; simp only [List.mem_cons, List.not_mem_nil, or_false] at hu; rcases hu with rfl | rfl <;> first | rfl | exact (SlR.cells (by first | assumption | exact S.tail.sl | exact S.tail.tail.sl | exact S.tail.tail.tail.sl | exact S.tail.tail.tail.tail.sl | exact S.tail.tail.tail.tail.tail.sl | exact S.tail.tail.tail.tail.tail.tail.sl | exact S.tail.tail.tail.tail.tail.tail.tail.sl | exact S.tail.tail.tail.tail.tail.tail.tail.tail.sl | exact S.tail.tail.tail.tail.tail.tail.tail.tail.tail.sl | exact S.tail.tail.tail.tail.tail.tail.tail.tail.tail.tail.sl | exact S.tail.tail.tail.tail.tail.tail.tail.tail.tail.tail.tail.sl | exact S.tail.tail.tail.tail.tail.tail.tail.tail.tail.tail.tail.tail.sl | exact S.tail.tail.tail.tail.tail.tail.tail.tail.tail.tail.tail.tail.tail.sl)).2) ?_
        intro w155 b156 S
        have B := B.trans b156
        refine t_bxn S.tail.box ab_path sb_path rfl rfl ?_ rfl
        have S := S.f7
        refine t_stn S sb_path rfl rfl rfl rfl (by intro zz hu; have hu : zz ∈ ([vp12] : List Value) := hu; simp only [List.mem_cons, List.not_mem_nil, or_false] at hu; rcases hu with rfl <;> first | rfl | exact (SlR.cells (by first | assumption | exact S.tail.sl | exact S.tail.tail.sl | exact S.tail.tail.tail.sl | exact S.tail.tail.tail.tail.sl | exact S.tail.tail.tail.tail.tail.sl | exact S.tail.tail.tail.tail.tail.tail.sl | exact S.tail.tail.tail.tail.tail.tail.tail.sl | exact S.tail.tail.tail.tail.tail.tail.tail.tail.sl | exact S.tail.tail.tail.tail.tail.tail.tail.tail.tail.sl | exact S.tail.tail.tail.tail.tail.tail.tail.tail.tail.tail.sl | exact S.tail.tail.tail.tail.tail.tail.tail.tail.tail.tail.tail.sl | exact S.tail.tail.tail.tail.tail.tail.tail.tail.tail.tail.tail.tail.sl | exact S.tail.tail.tail.tail.tail.tail.tail.tail.tail.tail.tail.tail.tail.sl | exact S.tail.rd | exact S.tail.tail.rd | exact S.tail.tail.tail.rd | exact S.tail.tail.tail.tail.rd | exact S.tail.tail.tail.tail.tail.rd | exact S.tail.tail.tail.tail.tail.tail.rd | exact S.tail.tail.tail.tail.tail.tail.tail.rd | exact S.tail.tail.tail.tail.tail.tail.tail.tail.rd | exact S.tail.tail.tail.tail.tail.tail.tail.tail.tail.rd | exact S.tail.tail.tail.tail.tail.tail.tail.tail.tail.tail.rd | exact S.tail.tail.tail.tail.tail.tail.tail.tail.tail.tail.tail.rd | exact S.tail.tail.tail.tail.tail.tail.tail.tail.tail.tail.tail.tail.rd | exact S.tail.tail.tail.tail.tail.tail.tail.tail.tail.tail.tail.tail.tail.rd)).2) ?_
        intro w157 b158 S
        have B := B.trans b158
        refine t_done' ?_
        refine x_seq ?_
        refine w_ret ?_
        refine x_rettcc rfl rfl rfl S.tail.box ab_topo sb_topo rfl rfl S.box ab_path sb_path rfl ?_
        have S := S.tail
        have S := S.tail
        have S := S.tail
        have S := S.tail
        have S := S.f3
        have S := S.f3
        have S := S.f3
        have S := S.f3
        exact ⟨_, _, _, _, _, _, _, rfl, hf12, S, ext_trans X0 B⟩
    · refine t_bxn S.box ab_path sb_path rfl rfl ?_ rfl
      refine t_bxn S.tail.box ab_topo sb_topo rfl rfl ?_ rfl
      have S := S.f7
      refine t_stn S sb_topo rfl rfl rfl rfl (by intro zz hu; have hu : zz ∈ ([va12, vl12] : List Value) := hu; simp only [List.mem_cons, List.not_mem_nil, or_false] at hu; rcases hu with rfl | rfl <;> first | rfl | exact (SlR.cells (by first | assumption | exact S.tail.sl | exact S.tail.tail.sl | exact S.tail.tail.tail.sl | exact S.tail.tail.tail.tail.sl | exact S.tail.tail.tail.tail.tail.sl | exact S.tail.tail.tail.tail.tail.tail.sl | exact S.tail.tail.tail.tail.tail.tail.tail.sl | exact S.tail.tail.tail.tail.tail.tail.tail.tail.sl | exact S.tail.tail.tail.tail.tail.tail.tail.tail.tail.sl | exact S.tail.tail.tail.tail.tail.tail.tail.tail.tail.tail.sl | exact S.tail.tail.tail.tail.tail.tail.tail.tail.tail.tail.tail.sl | exact S.tail.tail.tail.tail.tail.tail.tail.tail.tail.tail.tail.tail.sl | exact S.tail.tail.tail.tail.tail.tail.tail.tail.tail.tail.tail.tail.tail.sl)).2) ?_
      intro w159 b160 S
      have B := B.trans b160
      have S := S.f7
      refine t_stn S sb_path rfl rfl rfl rfl (by intro zz hu; have hu : zz ∈ ([vp12] : List Value) := hu; simp only [List.mem_cons, List.not_mem_nil, or_false] at hu; rcases hu with rfl <;> first | rfl | exact (SlR.cells (by first | assumption | exact S.tail.sl | exact S.tail.tail.sl | exact S.tail.tail.tail.sl | exact S.tail.tail.tail.tail.sl | exact S.tail.tail.tail.tail.tail.sl | exact S.tail.tail.tail.tail.tail.tail.sl | exact S.tail.tail.tail.tail.tail.tail.tail.sl | exact S.tail.tail.tail.tail.tail.tail.tail.tail.sl | exact S.tail.tail.tail.tail.tail.tail.tail.tail.tail.sl | exact S.tail.tail.tail.tail.tail.tail.tail.tail.tail.tail.sl | exact S.tail.tail.tail.tail.tail.tail.tail.tail.tail.tail.tail.sl | exact S.tail.tail.tail.tail.tail.tail.tail.tail.tail.tail.tail.tail.sl | exact S.tail.tail.tail.tail.tail.tail.tail.tail.tail.tail.tail.tail.tail.sl | exact S.tail.rd | exact S.tail.tail.rd | exact S.tail.tail.tail.rd | exact S.tail.tail.tail.tail.rd | exact S.tail.tail.tail.tail.tail.rd | exact S.tail.tail.tail.tail.tail.tail.rd | exact S.tail.tail.tail.tail.tail.tail.tail.rd | exact S.tail.tail.tail.tail.tail.tail.tail.tail.rd | exact S.tail.tail.tail.tail.tail.tail.tail.tail.tail.rd | exact S.tail.tail.tail.tail.tail.tail.tail.tail.tail.tail.rd | exact S.tail.tail.tail.tail.tail.tail.tail.tail.tail.tail.tail.rd | exact S.tail.tail.tail.tail.tail.tail.tail.tail.tail.tail.tail.tail.rd | exact S.tail.tail.tail.tail.tail.tail.tail.tail.tail.tail.tail.tail.tail.rd)).2) ?_
      intro w161 b162 S
      have B := B.trans b162
      refine t_done' ?_
      refine x_seq ?_
      refine w_ret ?_
      refine x_rettcc rfl rfl rfl S.tail.box ab_topo sb_topo rfl rfl S.box ab_path sb_path rfl ?_
      have S := S.tail
      have S := S.tail
      have S := S.tail
      have S := S.tail
      have S := S.f3
      have S := S.f3
      have S := S.f3
      have S := S.f3
      exact ⟨_, _, _, _, _, _, _, rfl, hf12, S, ext_trans X0 B⟩
theorem spec_l22Two (code : List UInt8) (v : Value) (w : World) (h : SlR byteT w v code) (hz : code.length ≤ 1048576) : Calls Try.prog 66 #[v] w fun e w' => ∃ (va vl vp : Value) (A : List ASd) (L : List Lnk) (p : Path), e = .returned (.tuple #[.agg #[va, vl], .agg #[vp]]) ∧ (TopK A L ∧ PathS p) ∧ Sep w.heap.size w' [rdO partT vp p, slO asnT 121 va A, slO linkT 78 vl L] ∧ Ext w w' := by
  have X0 := Below.refl w.heap.size w
  refine enter Try.func66 rfl Try.ntmps66 rfl ?_
  have S := Sep.nil w
  have B := Below.refl w.heap.size w
  have Hb := Nat.le_refl w.heap.size
  refine w_seq ?_
  refine w_region ?_
  refine t_alloc S z_topo rfl ?_ rfl rfl
  intro g2 w163 x164 S
  have B := bx Hb B x164
  refine t_alloc S z_path rfl ?_ rfl rfl
  intro g3 w165 x166 S
  have B := bx Hb B x166
  refine t_done ?_
  refine x_seq ?_
  refine w_seq ?_
  refine w_region ?_
  refine t_move rfl ?_ rfl
  refine t_call Try.call72 rfl (spec_l22One _ _ _ (by first | assumption | exact SlR.below (by assumption) B) (by omega)) ?_ rfl rfl
  rintro e w167 ⟨g9, va9, vl9, vp9, A9, L9, p9, rfl, hf9, S9, x168⟩
  refine ⟨_, rfl, x168, ?_⟩
  have S := S.join2 x168 S9
  clear S9
  have B := bx Hb B x168
  refine t_move rfl ?_ rfl
  refine t_extract rfl rfl ?_ rfl
  refine t_extract rfl rfl ?_ rfl
  refine t_extract rfl rfl ?_ rfl
  refine t_alloc S z_topo rfl ?_ rfl rfl
  intro g5 w169 x170 S
  have B := bx Hb B x170
  refine t_alloc S z_path rfl ?_ rfl rfl
  intro g6 w171 x172 S
  have B := bx Hb B x172
  refine t_assign rfl ?_ rfl
  have S := S.f1
  refine t_stn S sb_topo rfl rfl rfl rfl (by intro zz hu; have hu : zz ∈ ([va9, vl9] : List Value) := hu; simp only [List.mem_cons, List.not_mem_nil, or_false] at hu; rcases hu with rfl | rfl <;> first | rfl | exact (SlR.cells (by first | assumption | exact S.tail.sl | exact S.tail.tail.sl | exact S.tail.tail.tail.sl | exact S.tail.tail.tail.tail.sl | exact S.tail.tail.tail.tail.tail.sl | exact S.tail.tail.tail.tail.tail.tail.sl | exact S.tail.tail.tail.tail.tail.tail.tail.sl | exact S.tail.tail.tail.tail.tail.tail.tail.tail.sl | exact S.tail.tail.tail.tail.tail.tail.tail.tail.tail.sl | exact S.tail.tail.tail.tail.tail.tail.tail.tail.tail.tail.sl | exact S.tail.tail.tail.tail.tail.tail.tail.tail.tail.tail.tail.sl | exact S.tail.tail.tail.tail.tail.tail.tail.tail.tail.tail.tail.tail.sl | exact S.tail.tail.tail.tail.tail.tail.tail.tail.tail.tail.tail.tail.tail.sl)).2) ?_
  intro w173 b174 S
  have B := B.trans b174
  have S := S.f1
  refine t_stn S sb_path rfl rfl rfl rfl (by intro zz hu; have hu : zz ∈ ([vp9] : List Value) := hu; simp only [List.mem_cons, List.not_mem_nil, or_false] at hu; rcases hu with rfl <;> first | rfl | exact (SlR.cells (by first | assumption | exact S.tail.sl | exact S.tail.tail.sl | exact S.tail.tail.tail.sl | exact S.tail.tail.tail.tail.sl | exact S.tail.tail.tail.tail.tail.sl | exact S.tail.tail.tail.tail.tail.tail.sl | exact S.tail.tail.tail.tail.tail.tail.tail.sl | exact S.tail.tail.tail.tail.tail.tail.tail.tail.sl | exact S.tail.tail.tail.tail.tail.tail.tail.tail.tail.sl | exact S.tail.tail.tail.tail.tail.tail.tail.tail.tail.tail.sl | exact S.tail.tail.tail.tail.tail.tail.tail.tail.tail.tail.tail.sl | exact S.tail.tail.tail.tail.tail.tail.tail.tail.tail.tail.tail.tail.sl | exact S.tail.tail.tail.tail.tail.tail.tail.tail.tail.tail.tail.tail.tail.sl | exact S.tail.rd | exact S.tail.tail.rd | exact S.tail.tail.tail.rd | exact S.tail.tail.tail.tail.rd | exact S.tail.tail.tail.tail.tail.rd | exact S.tail.tail.tail.tail.tail.tail.rd | exact S.tail.tail.tail.tail.tail.tail.tail.rd | exact S.tail.tail.tail.tail.tail.tail.tail.tail.rd | exact S.tail.tail.tail.tail.tail.tail.tail.tail.tail.rd | exact S.tail.tail.tail.tail.tail.tail.tail.tail.tail.tail.rd | exact S.tail.tail.tail.tail.tail.tail.tail.tail.tail.tail.tail.rd | exact S.tail.tail.tail.tail.tail.tail.tail.tail.tail.tail.tail.tail.rd | exact S.tail.tail.tail.tail.tail.tail.tail.tail.tail.tail.tail.tail.tail.rd)).2) ?_
  intro w175 b176 S
  have B := B.trans b176
  refine t_done ?_
  refine x_seq ?_
  refine w_seq ?_
  refine w_drawP [] (.alt (.st .fin 0 (.alt (.st .fin 1 (.st .fin 2 (.st .fin 3 .done))) (.st .fin 2 (.st .fin 1 (.st .fin 3 .done))))) (.st .fin 1 (.st .fin 0 (.st .fin 2 (.st .fin 3 .done))))) mixed (by kernel_rfl) ?_
  intro w177 x178
  have B := bx Hb B x178
  have S := S.below x178
  refine t_alt ?_ ?_
  · refine t_bxn S.tail.box ab_topo sb_topo rfl rfl ?_ rfl
    refine t_alt ?_ ?_
    · refine t_bxn S.box ab_path sb_path rfl rfl ?_ rfl
      have S := S.f7
      refine t_stn S sb_topo rfl rfl rfl rfl (by intro zz hu; have hu : zz ∈ ([va9, vl9] : List Value) := hu; simp only [List.mem_cons, List.not_mem_nil, or_false] at hu; rcases hu with rfl | rfl <;> first | rfl | exact (SlR.cells (by first | assumption | exact S.tail.sl | exact S.tail.tail.sl | exact S.tail.tail.tail.sl | exact S.tail.tail.tail.tail.sl | exact S.tail.tail.tail.tail.tail.sl | exact S.tail.tail.tail.tail.tail.tail.sl | exact S.tail.tail.tail.tail.tail.tail.tail.sl | exact S.tail.tail.tail.tail.tail.tail.tail.tail.sl | exact S.tail.tail.tail.tail.tail.tail.tail.tail.tail.sl | exact S.tail.tail.tail.tail.tail.tail.tail.tail.tail.tail.sl | exact S.tail.tail.tail.tail.tail.tail.tail.tail.tail.tail.tail.sl | exact S.tail.tail.tail.tail.tail.tail.tail.tail.tail.tail.tail.tail.sl | exact S.tail.tail.tail.tail.tail.tail.tail.tail.tail.tail.tail.tail.tail.sl)).2) ?_
      intro w179 b180 S
      have B := B.trans b180
      have S := S.f7
      refine t_stn S sb_path rfl rfl rfl rfl (by intro zz hu; have hu : zz ∈ ([vp9] : List Value) := hu; simp only [List.mem_cons, List.not_mem_nil, or_false] at hu; rcases hu with rfl <;> first | rfl | exact (SlR.cells (by first | assumption | exact S.tail.sl | exact S.tail.tail.sl | exact S.tail.tail.tail.sl | exact S.tail.tail.tail.tail.sl | exact S.tail.tail.tail.tail.tail.sl | exact S.tail.tail.tail.tail.tail.tail.sl | exact S.tail.tail.tail.tail.tail.tail.tail.sl | exact S.tail.tail.tail.tail.tail.tail.tail.tail.sl | exact S.tail.tail.tail.tail.tail.tail.tail.tail.tail.sl | exact S.tail.tail.tail.tail.tail.tail.tail.tail.tail.tail.sl | exact S.tail.tail.tail.tail.tail.tail.tail.tail.tail.tail.tail.sl | exact S.tail.tail.tail.tail.tail.tail.tail.tail.tail.tail.tail.tail.sl | exact S.tail.tail.tail.tail.tail.tail.tail.tail.tail.tail.tail.tail.tail.sl | exact S.tail.rd | exact S.tail.tail.rd | exact S.tail.tail.tail.rd | exact S.tail.tail.tail.tail.rd | exact S.tail.tail.tail.tail.tail.rd | exact S.tail.tail.tail.tail.tail.tail.rd | exact S.tail.tail.tail.tail.tail.tail.tail.rd | exact S.tail.tail.tail.tail.tail.tail.tail.tail.rd | exact S.tail.tail.tail.tail.tail.tail.tail.tail.tail.rd | exact S.tail.tail.tail.tail.tail.tail.tail.tail.tail.tail.rd | exact S.tail.tail.tail.tail.tail.tail.tail.tail.tail.tail.tail.rd | exact S.tail.tail.tail.tail.tail.tail.tail.tail.tail.tail.tail.tail.rd | exact S.tail.tail.tail.tail.tail.tail.tail.tail.tail.tail.tail.tail.tail.rd)).2) ?_
      intro w181 b182 S
      have B := B.trans b182
      refine t_done' ?_
      refine x_seq ?_
      refine w_ret ?_
      refine x_retcc rfl rfl S.tail.box ab_topo sb_topo rfl rfl S.box ab_path sb_path rfl ?_
      have S := S.tail
      have S := S.tail
      have S := S.tail
      have S := S.tail
      have S := S.f3
      have S := S.tail
      have S := S.f2
      have S := S.f2
      have S := S.f2
      exact ⟨_, _, _, _, _, _, rfl, hf9, S, ext_trans X0 B⟩
    · have S := S.f7
      refine t_stn S sb_topo rfl rfl rfl rfl (by intro zz hu; have hu : zz ∈ ([va9, vl9] : List Value) := hu; simp only [List.mem_cons, List.not_mem_nil, or_false] at hu; rcases hu with rfl | rfl <;> first | rfl | exact (SlR.cells (by first | assumption | exact S.tail.sl | exact S.tail.tail.sl | exact S.tail.tail.tail.sl | exact S.tail.tail.tail.tail.sl | exact S.tail.tail.tail.tail.tail.sl | exact S.tail.tail.tail.tail.tail.tail.sl | exact S.tail.tail.tail.tail.tail.tail.tail.sl | exact S.tail.tail.tail.tail.tail.tail.tail.tail.sl | exact S.tail.tail.tail.tail.tail.tail.tail.tail.tail.sl | exact S.tail.tail.tail.tail.tail.tail.tail.tail.tail.tail.sl | exact S.tail.tail.tail.tail.tail.tail.tail.tail.tail.tail.tail.sl | exact S.tail.tail.tail.tail.tail.tail.tail.tail.tail.tail.tail.tail.sl | exact S.tail.tail.tail.tail.tail.tail.tail.tail.tail.tail.tail.tail.tail.sl)).2) ?_
      intro w183 b184 S
      have B := B.trans b184
      refine t_bxn S.tail.box ab_path sb_path rfl rfl ?_ rfl
      have S := S.f7
      refine t_stn S sb_path rfl rfl rfl rfl (by intro zz hu; have hu : zz ∈ ([vp9] : List Value) := hu; simp only [List.mem_cons, List.not_mem_nil, or_false] at hu; rcases hu with rfl <;> first | rfl | exact (SlR.cells (by first | assumption | exact S.tail.sl | exact S.tail.tail.sl | exact S.tail.tail.tail.sl | exact S.tail.tail.tail.tail.sl | exact S.tail.tail.tail.tail.tail.sl | exact S.tail.tail.tail.tail.tail.tail.sl | exact S.tail.tail.tail.tail.tail.tail.tail.sl | exact S.tail.tail.tail.tail.tail.tail.tail.tail.sl | exact S.tail.tail.tail.tail.tail.tail.tail.tail.tail.sl | exact S.tail.tail.tail.tail.tail.tail.tail.tail.tail.tail.sl | exact S.tail.tail.tail.tail.tail.tail.tail.tail.tail.tail.tail.sl | exact S.tail.tail.tail.tail.tail.tail.tail.tail.tail.tail.tail.tail.sl | exact S.tail.tail.tail.tail.tail.tail.tail.tail.tail.tail.tail.tail.tail.sl | exact S.tail.rd | exact S.tail.tail.rd | exact S.tail.tail.tail.rd | exact S.tail.tail.tail.tail.rd | exact S.tail.tail.tail.tail.tail.rd | exact S.tail.tail.tail.tail.tail.tail.rd | exact S.tail.tail.tail.tail.tail.tail.tail.rd | exact S.tail.tail.tail.tail.tail.tail.tail.tail.rd | exact S.tail.tail.tail.tail.tail.tail.tail.tail.tail.rd | exact S.tail.tail.tail.tail.tail.tail.tail.tail.tail.tail.rd | exact S.tail.tail.tail.tail.tail.tail.tail.tail.tail.tail.tail.rd | exact S.tail.tail.tail.tail.tail.tail.tail.tail.tail.tail.tail.tail.rd | exact S.tail.tail.tail.tail.tail.tail.tail.tail.tail.tail.tail.tail.tail.rd)).2) ?_
      intro w185 b186 S
      have B := B.trans b186
      refine t_done' ?_
      refine x_seq ?_
      refine w_ret ?_
      refine x_retcc rfl rfl S.tail.box ab_topo sb_topo rfl rfl S.box ab_path sb_path rfl ?_
      have S := S.tail
      have S := S.tail
      have S := S.tail
      have S := S.tail
      have S := S.f3
      have S := S.tail
      have S := S.f2
      have S := S.f2
      have S := S.f2
      exact ⟨_, _, _, _, _, _, rfl, hf9, S, ext_trans X0 B⟩
  · refine t_bxn S.box ab_path sb_path rfl rfl ?_ rfl
    refine t_bxn S.tail.box ab_topo sb_topo rfl rfl ?_ rfl
    have S := S.f7
    refine t_stn S sb_topo rfl rfl rfl rfl (by intro zz hu; have hu : zz ∈ ([va9, vl9] : List Value) := hu; simp only [List.mem_cons, List.not_mem_nil, or_false] at hu; rcases hu with rfl | rfl <;> first | rfl | exact (SlR.cells (by first | assumption | exact S.tail.sl | exact S.tail.tail.sl | exact S.tail.tail.tail.sl | exact S.tail.tail.tail.tail.sl | exact S.tail.tail.tail.tail.tail.sl | exact S.tail.tail.tail.tail.tail.tail.sl | exact S.tail.tail.tail.tail.tail.tail.tail.sl | exact S.tail.tail.tail.tail.tail.tail.tail.tail.sl | exact S.tail.tail.tail.tail.tail.tail.tail.tail.tail.sl | exact S.tail.tail.tail.tail.tail.tail.tail.tail.tail.tail.sl | exact S.tail.tail.tail.tail.tail.tail.tail.tail.tail.tail.tail.sl | exact S.tail.tail.tail.tail.tail.tail.tail.tail.tail.tail.tail.tail.sl | exact S.tail.tail.tail.tail.tail.tail.tail.tail.tail.tail.tail.tail.tail.sl)).2) ?_
    intro w187 b188 S
    have B := B.trans b188
    have S := S.f7
    refine t_stn S sb_path rfl rfl rfl rfl (by intro zz hu; have hu : zz ∈ ([vp9] : List Value) := hu; simp only [List.mem_cons, List.not_mem_nil, or_false] at hu; rcases hu with rfl <;> first | rfl | exact (SlR.cells (by first | assumption | exact S.tail.sl | exact S.tail.tail.sl | exact S.tail.tail.tail.sl | exact S.tail.tail.tail.tail.sl | exact S.tail.tail.tail.tail.tail.sl | exact S.tail.tail.tail.tail.tail.tail.sl | exact S.tail.tail.tail.tail.tail.tail.tail.sl | exact S.tail.tail.tail.tail.tail.tail.tail.tail.sl | exact S.tail.tail.tail.tail.tail.tail.tail.tail.tail.sl | exact S.tail.tail.tail.tail.tail.tail.tail.tail.tail.tail.sl | exact S.tail.tail.tail.tail.tail.tail.tail.tail.tail.tail.tail.sl | exact S.tail.tail.tail.tail.tail.tail.tail.tail.tail.tail.tail.tail.sl | exact S.tail.tail.tail.tail.tail.tail.tail.tail.tail.tail.tail.tail.tail.sl | exact S.tail.rd | exact S.tail.tail.rd | exact S.tail.tail.tail.rd | exact S.tail.tail.tail.tail.rd | exact S.tail.tail.tail.tail.tail.rd | exact S.tail.tail.tail.tail.tail.tail.rd | exact S.tail.tail.tail.tail.tail.tail.tail.rd | exact S.tail.tail.tail.tail.tail.tail.tail.tail.rd | exact S.tail.tail.tail.tail.tail.tail.tail.tail.tail.rd | exact S.tail.tail.tail.tail.tail.tail.tail.tail.tail.tail.rd | exact S.tail.tail.tail.tail.tail.tail.tail.tail.tail.tail.tail.rd | exact S.tail.tail.tail.tail.tail.tail.tail.tail.tail.tail.tail.tail.rd | exact S.tail.tail.tail.tail.tail.tail.tail.tail.tail.tail.tail.tail.tail.rd)).2) ?_
    intro w189 b190 S
    have B := B.trans b190
    refine t_done' ?_
    refine x_seq ?_
    refine w_ret ?_
    refine x_retcc rfl rfl S.tail.box ab_topo sb_topo rfl rfl S.box ab_path sb_path rfl ?_
    have S := S.tail
    have S := S.tail
    have S := S.tail
    have S := S.tail
    have S := S.f3
    have S := S.tail
    have S := S.f2
    have S := S.f2
    have S := S.f2
    exact ⟨_, _, _, _, _, _, rfl, hf9, S, ext_trans X0 B⟩
theorem spec_DrawPathAllowed (code : List UInt8) (v : Value) (w : World) (h : SlR byteT w v code) (hz : code.length ≤ 1048576) : Calls Try.prog 16 #[v] w fun e w' => ∃ (va vl vp : Value) (A : List ASd) (L : List Lnk) (p : Path), e = .returned (.tuple #[.agg #[va, vl], .agg #[vp]]) ∧ (TopK A L ∧ PathS p) ∧ Sep w.heap.size w' [rdO partT vp p, slO asnT 121 va A, slO linkT 78 vl L] ∧ Ext w w' := by
  have X0 := Below.refl w.heap.size w
  refine enter Try.func16 rfl Try.ntmps16 rfl ?_
  have S := Sep.nil w
  have B := Below.refl w.heap.size w
  have Hb := Nat.le_refl w.heap.size
  refine w_seq ?_
  refine w_region ?_
  refine t_alloc S z_topo rfl ?_ rfl rfl
  intro g2 w191 x192 S
  have B := bx Hb B x192
  refine t_alloc S z_path rfl ?_ rfl rfl
  intro g3 w193 x194 S
  have B := bx Hb B x194
  refine t_done ?_
  refine x_seq ?_
  refine w_seq ?_
  refine w_region ?_
  refine t_move rfl ?_ rfl
  refine t_call Try.call66 rfl (spec_l22Two _ _ _ (by first | assumption | exact SlR.below (by assumption) B) (by omega)) ?_ rfl rfl
  rintro e w195 ⟨va5, vl5, vp5, A5, L5, p5, rfl, hf5, S9, x196⟩
  refine ⟨_, rfl, x196, ?_⟩
  have S := S.join2 x196 S9
  clear S9
  have B := bx Hb B x196
  refine t_extract rfl rfl ?_ rfl
  refine t_extract rfl rfl ?_ rfl
  have S := S.f4
  refine t_stn S sb_topo rfl rfl rfl rfl (by intro zz hu; have hu : zz ∈ ([va5, vl5] : List Value) := hu; simp only [List.mem_cons, List.not_mem_nil, or_false] at hu; rcases hu with rfl | rfl <;> first | rfl | exact (SlR.cells (by first | assumption | exact S.tail.sl | exact S.tail.tail.sl | exact S.tail.tail.tail.sl | exact S.tail.tail.tail.tail.sl | exact S.tail.tail.tail.tail.tail.sl | exact S.tail.tail.tail.tail.tail.tail.sl | exact S.tail.tail.tail.tail.tail.tail.tail.sl | exact S.tail.tail.tail.tail.tail.tail.tail.tail.sl | exact S.tail.tail.tail.tail.tail.tail.tail.tail.tail.sl | exact S.tail.tail.tail.tail.tail.tail.tail.tail.tail.tail.sl | exact S.tail.tail.tail.tail.tail.tail.tail.tail.tail.tail.tail.sl | exact S.tail.tail.tail.tail.tail.tail.tail.tail.tail.tail.tail.tail.sl | exact S.tail.tail.tail.tail.tail.tail.tail.tail.tail.tail.tail.tail.tail.sl)).2) ?_
  intro w197 b198 S
  have B := B.trans b198
  have S := S.f4
  refine t_stn S sb_path rfl rfl rfl rfl (by intro zz hu; have hu : zz ∈ ([vp5] : List Value) := hu; simp only [List.mem_cons, List.not_mem_nil, or_false] at hu; rcases hu with rfl <;> first | rfl | exact (SlR.cells (by first | assumption | exact S.tail.sl | exact S.tail.tail.sl | exact S.tail.tail.tail.sl | exact S.tail.tail.tail.tail.sl | exact S.tail.tail.tail.tail.tail.sl | exact S.tail.tail.tail.tail.tail.tail.sl | exact S.tail.tail.tail.tail.tail.tail.tail.sl | exact S.tail.tail.tail.tail.tail.tail.tail.tail.sl | exact S.tail.tail.tail.tail.tail.tail.tail.tail.tail.sl | exact S.tail.tail.tail.tail.tail.tail.tail.tail.tail.tail.sl | exact S.tail.tail.tail.tail.tail.tail.tail.tail.tail.tail.tail.sl | exact S.tail.tail.tail.tail.tail.tail.tail.tail.tail.tail.tail.tail.sl | exact S.tail.tail.tail.tail.tail.tail.tail.tail.tail.tail.tail.tail.tail.sl | exact S.tail.rd | exact S.tail.tail.rd | exact S.tail.tail.tail.rd | exact S.tail.tail.tail.tail.rd | exact S.tail.tail.tail.tail.tail.rd | exact S.tail.tail.tail.tail.tail.tail.rd | exact S.tail.tail.tail.tail.tail.tail.tail.rd | exact S.tail.tail.tail.tail.tail.tail.tail.tail.rd | exact S.tail.tail.tail.tail.tail.tail.tail.tail.tail.rd | exact S.tail.tail.tail.tail.tail.tail.tail.tail.tail.tail.rd | exact S.tail.tail.tail.tail.tail.tail.tail.tail.tail.tail.tail.rd | exact S.tail.tail.tail.tail.tail.tail.tail.tail.tail.tail.tail.tail.rd | exact S.tail.tail.tail.tail.tail.tail.tail.tail.tail.tail.tail.tail.tail.rd)).2) ?_
  intro w199 b200 S
  have B := B.trans b200
  refine t_done ?_
  refine x_seq ?_
  refine w_ret ?_
  refine x_retcc rfl rfl S.tail.box ab_topo sb_topo rfl rfl S.box ab_path sb_path rfl ?_
  have S := S.tail
  have S := S.tail
  have S := S.f2
  have S := S.f2
  have S := S.f2
  exact ⟨_, _, _, _, _, _, rfl, hf5, S, ext_trans X0 B⟩
theorem spec_DrawStepAllowed (code : List UInt8) (v : Value) (w : World) (h : SlR byteT w v code) (hz : code.length ≤ 1048576) : Calls Try.prog 15 #[v] w fun e w' => ∃ (va vl : Value) (A : List ASd) (L : List Lnk) (s : Stp), e = .returned (.tuple #[.agg #[va, vl], .agg #[I s.ia, I s.ing, I s.eg]]) ∧ (A.length ≤ 8 ∧ L.length ≤ 61) ∧ Sep w.heap.size w' [slO asnT 121 va A, slO linkT 78 vl L] ∧ Ext w w' := by
  have K := CodeK.of h hz
  have X0 := Below.refl w.heap.size w
  refine enter Try.func15 rfl Try.ntmps15 rfl ?_
  have S := Sep.nil w
  have B := Below.refl w.heap.size w
  have Hb := Nat.le_refl w.heap.size
  refine w_seq ?_
  refine w_region ?_
  refine t_alloc S z_topo rfl ?_ rfl rfl
  intro g2 w213 x214 S
  have B := bx Hb B x214
  refine t_alloc S z_step rfl ?_ rfl rfl
  intro g3 w215 x216 S
  have B := bx Hb B x216
  refine t_done ?_
  refine x_seq ?_
  refine w_seq ?_
  refine w_region ?_
  refine t_move rfl ?_ rfl
  refine t_call Try.call52 rfl (spec_l1New _ _ _ (by first | assumption | exact SlR.below (by assumption) B) (by omega)) ?_ rfl rfl
  rintro e w217 ⟨g8, fpg8, rfl, hOg8, x218⟩
  refine ⟨_, rfl, x218, ?_⟩
  have S := S.add (o := curO _ _ _ _) x218 hOg8
  have B := bx Hb B x218
  refine t_assign rfl ?_ rfl
  refine t_done ?_
  refine x_seq ?_
  refine w_seq ?_
  refine w_region ?_
  refine t_move rfl ?_ rfl
  refine t_callf Try.call65 rfl (spec_l5Any S (K.below B)) ?_ rfl
  rintro e w219 ⟨va10, vl10, A10, L10, rfl, hf10, S, x220⟩
  refine ⟨_, rfl, ?_⟩
  have B := B.trans x220
  refine t_alloc S z_topo rfl ?_ rfl rfl
  intro g5 w221 x222 S
  have B := bx Hb B x222
  refine t_stn S sb_topo rfl rfl rfl rfl (by intro zz hu; have hu : zz ∈ ([va10, vl10] : List Value) := hu; simp only [List.mem_cons, List.not_mem_nil, or_false] at hu; rcases hu with rfl | rfl <;> first | rfl | exact (SlR.cells (by first | assumption | exact S.tail.sl | exact S.tail.tail.sl | exact S.tail.tail.tail.sl | exact S.tail.tail.tail.tail.sl | exact S.tail.tail.tail.tail.tail.sl | exact S.tail.tail.tail.tail.tail.tail.sl | exact S.tail.tail.tail.tail.tail.tail.tail.sl | exact S.tail.tail.tail.tail.tail.tail.tail.tail.sl | exact S.tail.tail.tail.tail.tail.tail.tail.tail.tail.sl | exact S.tail.tail.tail.tail.tail.tail.tail.tail.tail.tail.sl | exact S.tail.tail.tail.tail.tail.tail.tail.tail.tail.tail.tail.sl | exact S.tail.tail.tail.tail.tail.tail.tail.tail.tail.tail.tail.tail.sl | exact S.tail.tail.tail.tail.tail.tail.tail.tail.tail.tail.tail.tail.tail.sl)).2) ?_
  intro w223 b224 S
  have B := B.trans b224
  refine t_done ?_
  refine x_seq ?_
  refine w_seq ?_
  refine w_region ?_
  refine t_move rfl ?_ rfl
  have S := S.f3
  refine t_callf Try.call64 rfl (spec_l1Below 9 S (K.below B)) ?_ rfl
  rintro e w225 ⟨y12, rfl, hf12, S, x226⟩
  refine ⟨_, rfl, ?_⟩
  have B := B.trans x226
  refine t_sub rfl rfl (by omega) ?_ rfl
  refine t_move rfl ?_ rfl
  refine t_callf Try.call64 rfl (spec_l1Below 5 S (K.below B)) ?_ rfl
  rintro e w227 ⟨y15, rfl, hf15, S, x228⟩
  refine ⟨_, rfl, ?_⟩
  have B := B.trans x228
  refine t_move rfl ?_ rfl
  refine t_callf Try.call64 rfl (spec_l1Below 5 S (K.below B)) ?_ rfl
  rintro e w229 ⟨y17, rfl, hf17, S, x230⟩
  refine ⟨_, rfl, ?_⟩
  have B := B.trans x230
  refine t_build (fun w => b_step _ _ _ w) rfl ?_ rfl
  refine t_alloc S z_step rfl ?_ rfl rfl
  intro g6 w231 x232 S
  have B := bx Hb B x232
  refine t_stn S sb_step rfl rfl rfl rfl (by simp [Value.oneCell']) ?_
  intro w233 b234 S
  have B := B.trans b234
  refine t_done ?_
  refine x_seq ?_
  refine w_seq ?_
  refine w_drawP [] (.alt (.st .fin 0 (.alt (.st .fin 1 (.st .fin 2 (.st .fin 3 .done))) (.st .fin 2 (.st .fin 1 (.st .fin 3 .done))))) (.st .fin 1 (.st .fin 0 (.st .fin 2 (.st .fin 3 .done))))) mixed (by kernel_rfl) ?_
  intro w235 x236
  have B := bx Hb B x236
  have S := S.below x236
  refine t_alt ?_ ?_
  · refine t_bxn S.tail.tail.box ab_topo sb_topo rfl rfl ?_ rfl
    refine t_alt ?_ ?_
    · refine t_bxn S.box ab_step sb_step rfl rfl ?_ rfl
      have S := S.f6
      refine t_stn S sb_topo rfl rfl rfl rfl (by intro zz hu; have hu : zz ∈ ([va10, vl10] : List Value) := hu; simp only [List.mem_cons, List.not_mem_nil, or_false] at hu; rcases hu with rfl | rfl <;> first | rfl | exact (SlR.cells (by first | assumption | exact S.tail.sl | exact S.tail.tail.sl | exact S.tail.tail.tail.sl | exact S.tail.tail.tail.tail.sl | exact S.tail.tail.tail.tail.tail.sl | exact S.tail.tail.tail.tail.tail.tail.sl | exact S.tail.tail.tail.tail.tail.tail.tail.sl | exact S.tail.tail.tail.tail.tail.tail.tail.tail.sl | exact S.tail.tail.tail.tail.tail.tail.tail.tail.tail.sl | exact S.tail.tail.tail.tail.tail.tail.tail.tail.tail.tail.sl | exact S.tail.tail.tail.tail.tail.tail.tail.tail.tail.tail.tail.sl | exact S.tail.tail.tail.tail.tail.tail.tail.tail.tail.tail.tail.tail.sl | exact S.tail.tail.tail.tail.tail.tail.tail.tail.tail.tail.tail.tail.tail.sl)).2) ?_
      intro w237 b238 S
      have B := B.trans b238
      have S := S.f6
      refine t_stn S sb_step rfl rfl rfl rfl (by simp [Value.oneCell']) ?_
      intro w239 b240 S
      have B := B.trans b240
      refine t_done' ?_
      refine x_seq ?_
      refine w_ret ?_
      refine x_retcc rfl rfl S.tail.box ab_topo sb_topo rfl rfl S.box ab_step sb_step rfl ?_
      have S := S.tail
      have S := S.tail
      have S := S.tail
      have S := S.tail
      have S := S.tail
      have S := S.f1
      have S := S.f1
      exact ⟨_, _, _, _, ⟨_, _, _⟩, rfl, hf10, S, ext_trans X0 B⟩
    · have S := S.f6
      refine t_stn S sb_topo rfl rfl rfl rfl (by intro zz hu; have hu : zz ∈ ([va10, vl10] : List Value) := hu; simp only [List.mem_cons, List.not_mem_nil, or_false] at hu; rcases hu with rfl | rfl <;> first | rfl | exact (SlR.cells (by first | assumption | exact S.tail.sl | exact S.tail.tail.sl | exact S.tail.tail.tail.sl | exact S.tail.tail.tail.tail.sl | exact S.tail.tail.tail.tail.tail.sl | exact S.tail.tail.tail.tail.tail.tail.sl | exact S.tail.tail.tail.tail.tail.tail.tail.sl | exact S.tail.tail.tail.tail.tail.tail.tail.tail.sl | exact S.tail.tail.tail.tail.tail.tail.tail.tail.tail.sl | exact S.tail.tail.tail.tail.tail.tail.tail.tail.tail.tail.sl | exact S.tail.tail.tail.tail.tail.tail.tail.tail.tail.tail.tail.sl | exact S.tail.tail.tail.tail.tail.tail.tail.tail.tail.tail.tail.tail.sl | exact S.tail.tail.tail.tail.tail.tail.tail.tail.tail.tail.tail.tail.tail.sl)).2) ?_
      intro w241 b242 S
      have B := B.trans b242
      refine t_bxn S.tail.box ab_step sb_step rfl rfl ?_ rfl
      have S := S.f6
      refine t_stn S sb_step rfl rfl rfl rfl (by simp [Value.oneCell']) ?_
      intro w243 b244 S
      have B := B.trans b244
      refine t_done' ?_
      refine x_seq ?_
      refine w_ret ?_
      refine x_retcc rfl rfl S.tail.box ab_topo sb_topo rfl rfl S.box ab_step sb_step rfl ?_
      have S := S.tail
      have S := S.tail
      have S := S.tail
      have S := S.tail
      have S := S.tail
      have S := S.f1
      have S := S.f1
      exact ⟨_, _, _, _, ⟨_, _, _⟩, rfl, hf10, S, ext_trans X0 B⟩
  · refine t_bxn S.box ab_step sb_step rfl rfl ?_ rfl
    refine t_bxn S.tail.tail.box ab_topo sb_topo rfl rfl ?_ rfl
    have S := S.f6
    refine t_stn S sb_topo rfl rfl rfl rfl (by intro zz hu; have hu : zz ∈ ([va10, vl10] : List Value) := hu; simp only [List.mem_cons, List.not_mem_nil, or_false] at hu; rcases hu with rfl | rfl <;> first | rfl | exact (SlR.cells (by first | assumption | exact S.tail.sl | exact S.tail.tail.sl | exact S.tail.tail.tail.sl | exact S.tail.tail.tail.tail.sl | exact S.tail.tail.tail.tail.tail.sl | exact S.tail.tail.tail.tail.tail.tail.sl | exact S.tail.tail.tail.tail.tail.tail.tail.sl | exact S.tail.tail.tail.tail.tail.tail.tail.tail.sl | exact S.tail.tail.tail.tail.tail.tail.tail.tail.tail.sl | exact S.tail.tail.tail.tail.tail.tail.tail.tail.tail.tail.sl | exact S.tail.tail.tail.tail.tail.tail.tail.tail.tail.tail.tail.sl | exact S.tail.tail.tail.tail.tail.tail.tail.tail.tail.tail.tail.tail.sl | exact S.tail.tail.tail.tail.tail.tail.tail.tail.tail.tail.tail.tail.tail.sl)).2) ?_
    intro w245 b246 S
    have B := B.trans b246
    have S := S.f6
    refine t_stn S sb_step rfl rfl rfl rfl (by simp [Value.oneCell']) ?_
    intro w247 b248 S
    have B := B.trans b248
    refine t_done' ?_
    refine x_seq ?_
    refine w_ret ?_
    refine x_retcc rfl rfl S.tail.box ab_topo sb_topo rfl rfl S.box ab_step sb_step rfl ?_
    have S := S.tail
    have S := S.tail
    have S := S.tail
    have S := S.tail
    have S := S.tail
    have S := S.f1
    have S := S.f1
    exact ⟨_, _, _, _, ⟨_, _, _⟩, rfl, hf10, S, ext_trans X0 B⟩
end Go.Proofs.Ytdaecknfahgddaa
namespace Go.Proofs.Ytdaecknfahgddaa
open Go.RowKit
set_option linter.unusedVariables false
set_option maxRecDepth 20000
theorem spec_DrawTransitAllowed (code : List UInt8) (v : Value) (w : World) (h : SlR byteT w v code) (hz : code.length ≤ 1048576) : Calls Try.prog 14 #[v] w fun e w' => ∃ x y : Int, e = .returned (.tuple #[I x, I y]) ∧ (-1 ≤ x ∧ x ≤ 6 ∧ -1 ≤ y ∧ y ≤ 6) ∧ Ext w w' := by
  have K := CodeK.of h hz
  have X0 := Below.refl w.heap.size w
  refine enter Try.func14 rfl Try.ntmps14 rfl ?_
  refine w_seq ?_
  refine w_region ?_
  have S := Sep.nil w
  have B := Below.refl w.heap.size w
  have Hb := Nat.le_refl w.heap.size
  refine t_assign rfl ?_ rfl
  refine t_assign rfl ?_ rfl
  refine t_done ?_
  refine x_seq ?_
  refine w_seq ?_
  refine w_region ?_
  refine t_move rfl ?_ rfl
  refine t_call Try.call52 rfl (spec_l1New _ _ _ (by first | assumption | exact SlR.below (by assumption) B) (by omega)) ?_ rfl rfl
  rintro e w1 ⟨g6, fpg6, rfl, hOg6, x2⟩
  refine ⟨_, rfl, x2, ?_⟩
  have S := S.add (o := curO _ _ _ _) x2 hOg6
  have B := bx Hb B x2
  refine t_assign rfl ?_ rfl
  refine t_done ?_
  refine x_seq ?_
  refine w_seq ?_
  refine w_region ?_
  refine t_move rfl ?_ rfl
  refine t_callf Try.call64 rfl (spec_l1Below 8 S (K.below B)) ?_ rfl
  rintro e w3 ⟨y8, rfl, hf8, S, x4⟩
  refine ⟨_, rfl, ?_⟩
  have B := B.trans x4
  refine t_sub rfl rfl (by omega) ?_ rfl
  refine t_move rfl ?_ rfl
  refine t_callf Try.call64 rfl (spec_l1Below 8 S (K.below B)) ?_ rfl
  rintro e w5 ⟨y11, rfl, hf11, S, x6⟩
  refine ⟨_, rfl, ?_⟩
  have B := B.trans x6
  refine t_sub rfl rfl (by omega) ?_ rfl
  refine t_assign rfl ?_ rfl
  refine t_assign rfl ?_ rfl
  refine t_done ?_
  refine x_seq ?_
  refine w_ret ?_
  refine x_ret2 rfl rfl rfl ?_
  exact ⟨_, _, rfl, by omega, ext_trans X0 B⟩
end Go.Proofs.Ytdaecknfahgddaa
namespace Go.Proofs.Ytdaecknfahgddaa
open Go.RowKit
set_option linter.unusedVariables false
set_option maxRecDepth 100000 in
theorem impl_PathLength (p : Path) (cs : List Value) (w : World) (h : pathT.R w cs p) (hz : sz_path p ≤ 1048576) (hl : lenOk_path p) (hg : rng_path p) :
    Calls Try.prog 31 #[.agg cs.toArray] w fun e w' => e = .returned (I ((pathSteps p).length : Int)) ∧ Below w.heap.size w w' := by
  have h0 := h
  obtain ⟨A, c, rfl, _⟩ := path_form h
  have HC := hid fun w' (hw : Below w.heap.size w w') => impl_PathSteps p _ w' (pathT.kp h0 hw) hz hl hg
  clear hz hl hg h h0
  have hb0 : Below w.heap.size w (w.alloc (.cells #[.slice A (List.length p) c] 30)) := ext_alloc1 _ _
  go_enter Try.func31, Try.ntmps31
  go_wp2_with (fail)
  refine (HC.out _ hb0).mono ?_
  rintro e w1 ⟨v1, fp1, rfl, hO1, hb1⟩
  obtain ⟨Av, cv, ev, _⟩ := hO1.form
  subst ev
  go_wp2_with (fail)
  go_ret
  exact ⟨rfl, ext_trans hb0 hb1⟩
end Go.Proofs.Ytdaecknfahgddaa
namespace Go.Proofs.Ytdaecknfahgddaa
open Go.RowKit
set_option linter.unusedVariables false
section
variable {P : Program} {n : Nat} {ops : Array Oper} {Q : Exit → Act → World → Prop} {L : Frm} {w w0 : World} {m : Md} {r : IT} {d : Nat} {ty : TypeId} {pos : String} {af : Array Edge}
theorem t_eqlb {x y : Operand} {t t' : TypeId} {a b : Bool} (ht : P.underlying t = some .bool) (hx : ev L x = some (.bool a)) (hy : ev L y = some (.bool b)) (k : WT P n ops Q r ((d, .bool (decide (a = b))) :: L) w) (hn : Nat.blt d n = true) : WT P n ops Q (.st m ⟨some d, .binOp .eql t x y t', ty, pos, af, none⟩ r) L w :=
  t_read (fun e ha _ _ _ w' _ => by
    have h := run_eq_bool (P := P) ht a b w'
    have e : (a == b) = decide (a = b) := by cases a <;> cases b <;> rfl
    simp [execOp, ha.ev hx, ha.ev hy, eqGuard, binOp, h]
    try (cases a <;> cases b <;> rfl)) k hn
end
end Go.Proofs.Ytdaecknfahgddaa
namespace Go.Proofs.Ytdaecknfahgddaa
set_option linter.unusedVariables false
section
variable (P : Program) (f : FuncId) (fn : Func) (s : ChangeSpec) (c : OpenClaim)
def jnA : Bool := c.wf (OpenSpec.ofChange s) && laidOutB P && mapsRowed P && fn.params.all (P.readableRec ·) && namedTie P c.named s.vars && (c.stops == []) && (P.stops == []) && (c.knobs == []) && (P.stopKnobs == [])
def jnB : Bool := (c.inPlace == P.inPlace f) && (c.unfollowed == P.unfollowed f) && (c.recurses == P.recurses f) && (c.named == P.varsNamed f)
def jnC : Bool := (c.maps == (fn.params.toList ++ s.plain.varTypes P).any (P.mapsRec ·)) && (c.ifaces == (fn.params.toList ++ s.plain.varTypes P).any (P.ifacesRec ·)) && (c.mapsOut == P.mapsAmong fn.resultTypes.toList) &&
  (c.loops == (fn.params.toList ++ s.plain.varTypes P).any (P.loopsFrom ·)) && (c.wideKeys == (fn.params.toList ++ s.plain.varTypes P ++ fn.resultTypes.toList).any (P.wideKeysFrom ·)) &&
  s.vars.all (P.varReadable ·) && fn.resultTypes.all (fun t => P.readableRec t && decide (t < P.types.size)) && (c.ifacesOut == fn.resultTypes.toList.any (P.ifacesRec ·)) && (c.loopsOut == fn.resultTypes.toList.any (P.loopsFrom ·)) && (c.plainKeys == P.plainKeys) && c.shortTexts.isNone
def jnD : Bool := P.stopsHeard
def jnE : Bool := P.mayEnter
def jnF : Bool := c.lifted == P.liftsFinal
def jnG : Bool := P.make == some c.make
def jnH : Bool := (c.kinds == (if c.domain.isEmpty then [] else fn.params.toList.map fun t => match P.underlying t with | some (.int k) => some k | _ => none))
def jnI : Bool := c.pinned == c.pinnedBy
def jnJ : Bool := (c.veiled == (fn.params.toList ++ s.plain.varTypes P ++ fn.resultTypes.toList).any (P.veiledRec ·)) && c.veiledFits P fn.params.toList (fn.params.toList ++ s.plain.varTypes P ++ fn.resultTypes.toList)
end
theorem joined_of {P : Program} {f : FuncId} {fn : Func} {s : ChangeSpec} {c : OpenClaim} (hA : jnA P fn s c = true) (hB : jnB P f c = true) (hC : jnC P fn s c = true) (hD : jnD P = true) (hE : jnE P = true) (hF : jnF P c = true) (hG : jnG P c = true) (hH : jnH P fn c = true) (hI : jnI c = true) (hJ : jnJ P fn s c = true) : joinedFacts P f fn s c = true := by
  unfold jnA at hA
  unfold jnB at hB
  unfold jnC at hC
  unfold jnD at hD
  unfold jnE at hE
  unfold jnF at hF
  unfold jnG at hG
  unfold jnH at hH
  unfold jnI at hI
  unfold jnJ at hJ
  simp only [Bool.and_eq_true] at hA hB hC hJ
  unfold joinedFacts
  simp only [Bool.and_eq_true]
  obtain ⟨⟨⟨⟨⟨⟨⟨⟨a1, a2⟩, a3⟩, a4⟩, a5⟩, a6⟩, a7⟩, a8⟩, a9⟩ := hA
  obtain ⟨⟨⟨b1, b2⟩, b3⟩, b4⟩ := hB
  obtain ⟨⟨⟨⟨⟨⟨⟨⟨⟨⟨c1, c2⟩, c3⟩, c4⟩, c5⟩, c6⟩, c7⟩, c8⟩, c9⟩, c10⟩, c11⟩ := hC
  obtain ⟨d1, d2⟩ := hJ
  exact ⟨⟨⟨⟨⟨⟨⟨⟨⟨⟨⟨⟨⟨⟨⟨⟨⟨⟨⟨⟨⟨⟨⟨⟨⟨⟨⟨⟨⟨⟨⟨a1, a2⟩, a3⟩, a4⟩, a5⟩, a6⟩, a7⟩, a8⟩, a9⟩, b1⟩, b2⟩, b3⟩, b4⟩, c1⟩, c2⟩, c3⟩, c4⟩, c5⟩, c6⟩, c7⟩, c8⟩, c9⟩, c10⟩, c11⟩, hD⟩, hE⟩, hF⟩, hG⟩, hH⟩, hI⟩, d1⟩, d2⟩
end Go.Proofs.Ytdaecknfahgddaa
namespace Go.Proofs.Ytdaecknfahgddaa
open Go.ChangeShapes Go.WideShapes Go.ChangeAt Go.RowKit Go.Deep
set_option linter.unusedVariables false
set_option maxRecDepth 100000
theorem knob : ownKnob Try.prog.godebug = none := by kernel_rfl
theorem laidOut : laidOutB Try.prog = true := by kernel_rfl
section
variable {H : Type} {enc : TypeId × Value → H} {P : Program} {w : World} {base : Nat} {spare : Nat → Bool} {held : Bool}
/-- A slice, by its elements. -/
theorem open_sl {α : Type} (T : Ty α) (good : α → Prop) {t e : TypeId} (ht : P.underlying t = some (.slice e)) (hC : P.cellsOf e = T.size)
    (hel : ∀ (n : Nat) cs y, DataW.trod enc P w base spare held n e cs = some y → ∃ a, T.R w cs a ∧ good a) {fuel : Nat} {cs : List Value} {x : DataW H × List MemPlace} (h : DataW.trod enc P w base spare held fuel t cs = some x) :
    ∃ A c l, cs = [.slice A l.length c] ∧ SlR T w (.slice A l.length c) l ∧ l.length ≤ 9223372036854775807 ∧ ∀ a ∈ l, good a := by
  rcases open_slice ht h with ⟨h0, _⟩ | ⟨a, len, cap, m, n, D, Pl, hcs, hb, hl, hm, hmm, hx, hi⟩
  · exact ⟨none, 0, [], h0, ⟨none, 0, [], rfl, Nat.le_refl _, rfl, Rd.nil, fun i cs a hi => by simp at hi⟩, by simp, by simp⟩
  · have hlm : len ≤ m := by rw [hmm]; split <;> omega
    have hall : ∀ i : Fin len, ∃ (cs : List Value) (x : α), T.R w cs x ∧ good x ∧ cs.length = T.size ∧ ∀ j, j < T.size → w.cell? ((a.add (i * T.size)).add j) = cs[j]? := fun i => by
      obtain ⟨cs', h1, h2⟩ := hi i (by omega)
      obtain ⟨x, h3, h4⟩ := hel _ _ _ h2
      obtain ⟨_, h5, h6⟩ := World.cells?_some h1
      rw [hC] at h5 h6
      exact ⟨cs', x, h3, h4, h5, h6⟩
    obtain ⟨f, hf⟩ := Classical.axiomOfChoice hall
    obtain ⟨g, hg⟩ := Classical.axiomOfChoice hf
    have hlen : (List.ofFn g).length = len := List.length_ofFn
    refine ⟨some a, cap, List.ofFn g, by rw [hlen]; exact hcs, ⟨some a, cap, List.ofFn f, rfl, by rw [hlen]; exact hl, by simp, ?_, ?_⟩, by rw [hlen]; simp only [maxLen] at hm; omega, ?_⟩
    · intro hpos
      have hp : 0 < len := by
        rcases Nat.eq_zero_or_pos len with h0 | h0
        · subst h0; simp at hpos
        · exact h0
      have hsz := T.pos
      have hc0 := (hg ⟨0, hp⟩).2.2.2 0 hsz
      simp only [Nat.zero_mul] at hc0
      have hspot : a.spot = none := by
        have hsome : (w.cell? a).isSome = true := by
          have h9 : w.cell? a = (f ⟨0, hp⟩)[0]? := by
            have : (a.add 0).add 0 = a := by simp [Addr.add]
            rw [← this]; exact hc0
          rw [h9, List.getElem?_eq_getElem (by rw [(hg ⟨0, hp⟩).2.2.1]; exact hsz)]
          rfl
        unfold World.cell? at hsome
        split at hsome
        · split at hsome
          · simp at hsome
          · rename_i hs; simpa using hs
        · simp at hsome
      obtain ⟨ab, ao, as'⟩ := a
      simp only at hspot
      subst hspot
      refine ⟨ab, ao, rfl, fun j u hu => ?_⟩
      have hfl : ∀ (i : Nat) cs, (List.ofFn f)[i]? = some cs → cs.length = T.size := fun i cs hi => by
        obtain ⟨hlt, rfl⟩ := List.getElem?_eq_some_iff.1 hi
        rw [List.getElem_ofFn]
        exact (hg _).2.2.1
      have hj : j < len * T.size := by
        have := (List.getElem?_eq_some_iff.1 hu).1
        rw [flatten_len hfl, List.length_ofFn] at this
        exact this
      have hq : j / T.size < len := Nat.div_lt_of_lt_mul (by rw [Nat.mul_comm]; exact hj)
      have hr := Nat.mod_lt j hsz
      have ej : j / T.size * T.size + j % T.size = j := by rw [Nat.mul_comm]; exact Nat.div_add_mod j T.size
      have h1 := (hg ⟨j / T.size, hq⟩).2.2.2 (j % T.size) hr
      have h2 := flatten_at hfl (j / T.size) (f ⟨j / T.size, hq⟩) (by rw [List.getElem?_ofFn, dif_pos hq]) (j % T.size) hr
      rw [ej] at h2
      rw [Addr.add_lit, Addr.add_lit] at h1
      simp only [Nat.add_assoc] at h1
      rw [ej] at h1
      rw [h1, ← h2]
      exact hu
    · intro i cs x hi hx
      have hlt : i < len := by
        have := (List.getElem?_eq_some_iff.1 hi).1
        simpa using this
      rw [List.getElem?_ofFn, dif_pos hlt] at hi hx
      injection hi with hi
      injection hx with hx
      subst hi hx
      exact (hg _).1
    · intro x hx
      obtain ⟨i, hi, rfl⟩ := List.getElem_of_mem hx
      rw [List.getElem_ofFn]
      exact (hg _).2.1
end
section
variable {H : Type} {enc : TypeId × Value → H} {w : World} {base : Nat} {spare : Nat → Bool} {held : Bool}
end
end Go.Proofs.Ytdaecknfahgddaa
namespace Go.Proofs.Ytdaecknfahgddaa
open Go.ChangeShapes Go.WideShapes Go.ChangeAt Go.RowKit Go.Deep
set_option linter.unusedVariables false
set_option maxRecDepth 100000
section
variable {H : Type} {enc : TypeId × Value → H} {w : World} {base : Nat} {spare : Nat → Bool} {held : Bool}
theorem byte_of (n : Nat) (cs : List Value) (y : DataW H × List MemPlace) (h : DataW.trod enc Try.prog w base spare held n 5 cs = some y) : ∃ a : UInt8, byteT.R w cs a ∧ True := by
  obtain ⟨a, e, _, wf⟩ := DataW.trod_int Try.underlying5 h
  have hb := bounds_u8 wf
  refine ⟨UInt8.ofNat a.toNat, ?_, trivial⟩
  show cs = [.int .u8 ((UInt8.ofNat a.toNat).toNat : Int)]
  rw [e, UInt8.toNat_ofNat', Nat.mod_eq_of_lt (by omega), Int.toNat_of_nonneg hb.1]
end
end Go.Proofs.Ytdaecknfahgddaa
namespace Go.Proofs.Ytdaecknfahgddaa
open Go.ChangeShapes Go.WideShapes Go.ChangeAt Go.RowKit Go.Deep
set_option linter.unusedVariables false
set_option maxRecDepth 100000
section
variable {H : Type} {enc : TypeId × Value → H} {w : World} {base : Nat} {spare : Nat → Bool} {held : Bool}
theorem open_byteS {r : Reach} {b0 : Nat} {v : Value} {d : DataW H} {p : List MemPlace} (hv : Value.okWide Try.prog w r b0 22 v) (h : DataW.Trod enc Try.prog w base spare held 22 v d p) :
    ∃ l, SlR byteT w v l ∧ l.length ≤ 9223372036854775807 := by
  obtain ⟨a0, len, cap, rfl⟩ := okWide_slice Try.underlying22 hv
  obtain ⟨fuel, hf⟩ := h
  obtain ⟨A, c, l, e, hR, hn, hg⟩ := open_sl byteT (fun _ => True) Try.underlying22 (by kernel_rfl) byte_of hf
  simp [Value.cells] at e
  obtain ⟨rfl, rfl, rfl⟩ := e
  exact ⟨l, hR, hn⟩
end
end Go.Proofs.Ytdaecknfahgddaa
