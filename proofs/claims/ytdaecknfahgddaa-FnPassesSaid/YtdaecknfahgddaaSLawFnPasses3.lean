/- What LawFnPasses needs of the texts below it, part 3: contracts of functions, plain lemmas. (Put together by slim.py.) -/
import Derived.Test.YtdaecknfahgddaaSLawFnPasses2
namespace Go.Proofs.Ytdaecknfahgddaa
open Go.RowKit
set_option linter.unusedVariables false
set_option maxRecDepth 20000
section
variable {P : Program} {n : Nat} {ops : Array Oper} {Q : Exit → Act → World → Prop} {L : Frm} {w : World} {l : List Oper} {T : IT} {d : Nat} {ty : TypeId} {pos : String} {af : Array Edge}
theorem p_lss {x y : Operand} {t t' : TypeId} {kd : IntKind} {a b : Int} (hx : ev L x = some (.int kd a)) (hy : ev L y = some (.int kd b)) (k : WPre P n ops Q l T ((d, .bool (decide (a < b))) :: L) w) (hn : Nat.blt d n = true) : WPre P n ops Q (⟨some d, .binOp .lss t x y t', ty, pos, af, none⟩ :: l) T L w :=
  p_read (fun e ha _ _ _ w' => by simp [execOp, ha.ev hx, ha.ev hy, eqGuard, binOp, Op.intCmp]) k hn
theorem p_fldx {g o o' off : Nat} {s i : Nat} {xo : Operand} (hf : fieldB P s i = some off) (hx : ev L xo = some (.pointer (some ⟨g, o, none⟩))) (ho : o + off = o')
    (kk : WPre P n ops Q l T ((d, .pointer (some ⟨g, o', none⟩)) :: L) w) (hn : Nat.blt d n = true) : WPre P n ops Q (⟨some d, .fieldAddr s xo i, ty, pos, af, none⟩ :: l) T L w := by
  subst ho
  refine p_read (fun a ha _ _ _ w' => ?_) kk hn
  unfold fieldB at hf
  split at hf
  · rename_i fs hu
    split at hf
    · rename_i fd hfd
      split at hf
      · rename_i inf hinf
        split at hf
        · cases hf
        · rename_i hne
          cases hf
          simp [execOp, ha.ev hx, Instr.fieldAt, run_underlying hu, hfd, Instr.sureAddr, fieldPlace, sizeOf, typeInfo, hinf, hne, Addr.add_lit]
      · cases hf
    · cases hf
  · cases hf
end
theorem b_topo0 (w : World) : (Instr.build 27 #[]).run Try.prog w = .ok (.agg #[.slice none 0 0, .slice none 0 0]) w := by kernel_rfl
theorem rl_asn_0 {x : ASd} : ∀ (w : World) cs, asnT.R w cs x → cs[0]? = some (I x.isd) := fun w cs h => by rw [asn_form h]; rfl
theorem so_asn_0 {b : Nat} {x : ASd} {k : Int} : ∀ (w : World) cs f, asnT.O b w cs x f → asnT.O b w (cs.set 0 (I k)) { x with isd := k } f := fun w cs f h => ⟨by rw [asn_form (w := w) h.1]; rfl, h.2⟩
theorem rl_asn_2 {x : ASd} : ∀ (w : World) cs, asnT.R w cs x → cs[2]? = some (I x.key) := fun w cs h => by rw [asn_form h]; rfl
theorem so_asn_2 {b : Nat} {x : ASd} {k : Int} : ∀ (w : World) cs f, asnT.O b w cs x f → asnT.O b w (cs.set 2 (I k)) { x with key := k } f := fun w cs f h => ⟨by rw [asn_form (w := w) h.1]; rfl, h.2⟩
/-- Links as_ they grow among n realms, in at most m steps. -/
inductive Grown (n : Nat) : Nat → List Lnk → Prop
  | nil : Grown n 0 []
  | add {m : Nat} {L : List Lnk} (a c k : Int) : Grown n m L → 0 ≤ a → a < c → c < n → 1 ≤ k → k ≤ 3 → Grown n (m + 1) (addL L a c k)
theorem Grown.len {n m : Nat} {L : List Lnk} (h : Grown n m L) : L.length ≤ m := by
  induction h with
  | nil => simp
  | add a c k h _ _ _ _ _ ih => have := addL_len ‹_› a c k; omega
/-- A realm as_ it is drawn. -/
def AsK (x : ASd) : Prop := 0 ≤ x.isd ∧ x.isd ≤ 1 ∧ 1 ≤ x.key ∧ x.key ≤ 8000100
set_option maxHeartbeats 8000000 in
theorem spec_l5Draw {b n c : Nat} {w : World} {v : Value} {os : List Ow} (S : Sep b w (curO v n c 109 :: os)) (K : CodeK b w v n) : Calls Try.prog 94 #[.pointer (some ⟨c, 0, none⟩)] w fun e w' =>
    ∃ (va vl : Value) (A : List ASd) (L : List Lnk), e = .returned (.agg #[va, vl]) ∧ ((1 ≤ A.length ∧ A.length ≤ 8 ∧ ∀ x ∈ A, AsK x) ∧ ∃ m L0, m ≤ 60 ∧ Grown A.length m L0 ∧ L.Sublist L0) ∧ Sep b w' (slO asnT 121 va A :: slO linkT 78 vl L :: curO v n c 109 :: os) ∧ Below b w w' := by
  have X0 := Below.refl w.heap.size w
  refine enter Try.func94 rfl Try.ntmps94 rfl ?_
  have B := Below.refl b w
  have Hb := S.base
  refine w_seq ?_
  refine w_region ?_
  refine t_alloc S z_topo rfl ?_ rfl rfl
  intro g2 w1 x2 S
  have B := bx Hb B x2
  refine t_done ?_
  refine x_seq ?_
  refine w_seq ?_
  refine w_region ?_
  refine t_build (fun w => b_topo0 w) rfl ?_ rfl
  refine t_alloc S z_topo rfl ?_ rfl rfl
  intro g3 w3 x4 S
  have B := bx Hb B x4
  refine t_stn S sb_topo rfl rfl rfl rfl (by simp [Value.oneCell']) ?_
  intro w5 b6 S
  have B := B.trans b6
  refine t_done ?_
  refine x_seq ?_
  refine w_seq ?_
  refine w_region ?_
  refine t_move rfl ?_ rfl
  have S := S.f2
  refine t_callf Try.call64 rfl (spec_l1Below 3 S (K.below B)) ?_ rfl
  rintro e w7 ⟨y16, rfl, hf16, S, x8⟩
  refine ⟨_, rfl, ?_⟩
  have B := B.trans x8
  refine t_add rfl rfl (by omega) ?_ rfl
  refine t_assign rfl ?_ rfl
  refine t_done ?_
  refine x_seq ?_
  refine w_seq ?_
  refine w_region ?_
  refine t_move rfl ?_ rfl
  refine t_callf Try.call64 rfl (spec_l1Below 6 S (K.below B)) ?_ rfl
  rintro e w9 ⟨y19, rfl, hf19, S, x10⟩
  refine ⟨_, rfl, ?_⟩
  have B := B.trans x10
  refine t_assign rfl ?_ rfl
  refine t_done ?_
  refine x_seq ?_
  refine w_seq ?_
  refine w_seq ?_
  refine w_region ?_
  refine t_assign rfl ?_ rfl
  refine t_done ?_
  refine x_seq ?_
  refine w_block ?_
  have S := Sep.addNil (T := linkT) (e := 78) S
  have S := Sep.addNil (T := asnT) (e := 121) S
  have S := S.f2.f4.f3.f3.f4
  refine w_loop (X := Nat × List ASd × Value) (fun x wq => (fun k A va => (k : Int) ≤ 1 + y16 + y19 ∧ A.length = k ∧ (∀ x ∈ A, AsK x) ∧ Below b w wq ∧ Sep b wq (bxO g3 27 #[va, .slice none 0 0] :: slO asnT 121 va A :: slO linkT 78 (.slice none 0 0) [] :: bxO g2 27 #[.slice none 0 0, .slice none 0 0] :: curO v n c 109 :: os)) x.1 x.2.1 x.2.2) (fun x => (fun k A va => [(6, I ((k : Int))), (0, .pointer (some ⟨c, 0, none⟩)), (2, .pointer (some ⟨g2, 0, none⟩)), (3, .pointer (some ⟨g3, 0, none⟩)), (4, I (1 + y16)), (5, I y19)]) x.1 x.2.1 x.2.2) (fun x => (fun k A va => (1 + y16 + y19 - k).toNat) x.1 x.2.1 x.2.2) (0, [], .slice none 0 0) ?_ ⟨rfl, rfl, rfl, rfl, rfl, rfl, trivial⟩ ?_
  · exact ⟨by omega, rfl, fun x hx => by simp at hx, B, S⟩
  rintro ⟨k, A, va⟩ w11 hI
  try dsimp only at hI ⊢
  obtain ⟨hk, hA, hK, B, S⟩ := hI
  refine w_seq ?_
  refine w_seq ?_
  refine w_region ?_
  refine t_move rfl ?_ rfl
  refine t_move rfl ?_ rfl
  refine t_move rfl ?_ rfl
  refine t_add rfl rfl (by omega) ?_ rfl
  refine t_lss rfl rfl ?_ rfl
  refine t_done ?_
  refine x_seq ?_
  refine w_if rfl ?_ ?_
  · intro hlt
    refine w_skip ?_
    refine x_seq ?_
    refine w_seq ?_
    refine w_block ?_
    refine w_drawP [0, 2, 4, 5, 6, 7, 11] (.alt (.st .fin 1 (.st .fin 3 (.st .fin 8 (.st .fin 9 (.st .fin 10 (.st .fin 12 (.st .fin 13 (.st .fin 14 (.st .fin 15 (.st .fin 16 (.st .fin 17 .done))))))))))) (.st .fin 3 (.alt (.st .fin 1 (.st .fin 8 (.st .fin 9 (.st .fin 10 (.st .fin 12 (.st .fin 13 (.st .fin 14 (.st .fin 15 (.st .fin 16 (.st .fin 17 .done)))))))))) (.st .fin 8 (.alt (.st .fin 1 (.st .fin 9 (.st .fin 10 (.st .fin 12 (.st .fin 13 (.st .fin 14 (.st .fin 15 (.st .fin 16 (.st .fin 17 .done))))))))) (.st .fin 9 (.alt (.st .fin 1 (.st .fin 10 (.st .fin 12 (.st .fin 13 (.st .fin 14 (.st .fin 15 (.st .fin 16 (.st .fin 17 .done)))))))) (.st .fin 10 (.alt (.st .fin 1 (.st .fin 12 (.st .fin 13 (.st .fin 14 (.st .fin 15 (.st .fin 16 (.st .fin 17 .done))))))) (.st .fin 12 (.alt (.st .fin 1 (.st .fin 13 (.st .fin 14 (.st .fin 15 (.st .fin 16 (.st .fin 17 .done)))))) (.st .fin 13 (.alt (.st .fin 1 (.st .fin 14 (.st .fin 15 (.st .fin 16 (.st .fin 17 .done))))) (.st .fin 14 (.st .fin 1 (.st .fin 15 (.st .fin 16 (.st .fin 17 .done)))))))))))))))))) mixed (by kernel_rfl) ?_
    intro w12 x13
    have B := bx Hb B x13
    have S := S.below x13
    refine p_fldx fb_topo_0 rfl rfl ?_ rfl
    refine p_move rfl ?_ rfl
    refine p_move rfl ?_ rfl
    refine p_move rfl ?_ rfl
    refine p_lss rfl rfl ?_ rfl
    refine p_move rfl ?_ rfl
    refine p_move rfl ?_ rfl
    refine p_done ?_
    have hnew : ∀ y z : Int, ∀ q : Bool, 0 ≤ y ∧ (y < 2 ∨ y = 0) → 0 ≤ z ∧ (z < 1000000 ∨ z = 0) → ∀ x ∈ A ++ [(⟨y, q, 1 + z * 8 + k⟩ : ASd)], AsK x := by
      intro y z q hy hz x hx
      rw [List.mem_append, List.mem_singleton] at hx
      rcases hx with hx | hx
      · exact hK x hx
      · subst hx
        exact ⟨hy.1, by show y ≤ 1; omega, by show 1 ≤ 1 + z * 8 + (k : Int); omega, by show 1 + z * 8 + (k : Int) ≤ 8000100; omega⟩
    have hlen : ∀ x : ASd, ((A ++ [x]).length : Int) = ((k + 1 : Nat) : Int) := fun x => by rw [List.length_append, List.length_singleton]; omega
    refine t_alt ?_ ?_
    · refine t_bx1 S.box ab_s_asn rfl rfl ?_ rfl
      have S := S.f4
      refine t_callf Try.call64 rfl (spec_l1Below 2 S (K.below B)) ?_ rfl
      rintro e w14 ⟨y30, rfl, hf30, S, x15⟩
      refine ⟨_, rfl, ?_⟩
      have B := B.trans x15
      refine t_callf Try.call64 rfl (spec_l1Below 1000000 S (K.below B)) ?_ rfl
      rintro e w16 ⟨y35, rfl, hf35, S, x17⟩
      refine ⟨_, rfl, ?_⟩
      have B := B.trans x17
      refine t_mul rfl rfl (by omega) ?_ rfl
      refine t_add rfl rfl (by omega) ?_ rfl
      refine t_add rfl rfl (by omega) ?_ rfl
      refine t_build (fun w => b_asn _ _ _ w) rfl ?_ rfl
      refine t_lit (T := asnT) (l := [(⟨y30, decide ((k : Int) < (1 + y16)), (1 + (y35 * 8)) + (k : Int)⟩ : ASd)]) (css := [[I y30, .bool (decide ((k : Int) < (1 + y16))), I ((1 + (y35 * 8)) + (k : Int))]]) asn_flat S (fun w => bs_asn1 _ _ _ w) rfl rfl rfl rfl (by simp [maxLen]) (litR_one fun _ => rfl) ?_ rfl rfl
      intro u41 w18 x19 S
      have B := bx Hb B x19
      have hR := S.sl
      have S := S.f3
      refine t_cat asn_flat e_asn S hR rfl rfl rfl (by first | omega | (simp [-List.length_flatMap]; omega)) (by (simp [maxLen, -List.length_flatMap]; try omega)) ?_ rfl
      intro v42 w20 x21 S
      have B := B.trans x21
      clear hR
      have S := S.f1
      have S := S.tail
      refine t_fldx fb_topo_0 rfl rfl ?_ rfl
      obtain ⟨Av42, cv42, rfl, _⟩ := S.sl.form
      have S := S.f2
      refine t_st1 S sb_s_asn rfl rfl rfl rfl rfl ?_
      intro w22 b23 S
      have B := B.trans b23
      refine t_done' ?_
      refine x_block_normal ?_
      refine x_seq ?_
      refine w_region ?_
      refine t_move rfl ?_ rfl
      refine t_add rfl rfl (by omega) ?_ rfl
      refine t_assign rfl ?_ rfl
      refine t_done ?_
      have S := S.f2
      have S := S.f4
      have S := S.f4
      have S := S.f4
      have S := S.f4
      refine x_round (X := Nat × List ASd × Value) (I := (fun x wq => (fun k A va => (k : Int) ≤ 1 + y16 + y19 ∧ A.length = k ∧ (∀ x ∈ A, AsK x) ∧ Below b w wq ∧ Sep b wq (bxO g3 27 #[va, .slice none 0 0] :: slO asnT 121 va A :: slO linkT 78 (.slice none 0 0) [] :: bxO g2 27 #[.slice none 0 0, .slice none 0 0] :: curO v n c 109 :: os)) x.1 x.2.1 x.2.2)) (F := (fun x => (fun k A va => [(6, I ((k : Int))), (0, .pointer (some ⟨c, 0, none⟩)), (2, .pointer (some ⟨g2, 0, none⟩)), (3, .pointer (some ⟨g3, 0, none⟩)), (4, I (1 + y16)), (5, I y19)]) x.1 x.2.1 x.2.2)) (μ := (fun x => (fun k A va => (1 + y16 + y19 - k).toNat) x.1 x.2.1 x.2.2)) (k + 1, A ++ [(⟨y30, decide ((k : Int) < 1 + y16), 1 + y35 * 8 + (k : Int)⟩ : ASd)], .slice Av42 (A ++ ([(⟨y30, decide ((k : Int) < (1 + y16)), (1 + (y35 * 8)) + (k : Int)⟩ : ASd)])).length cv42) ?_ (by exact ⟨rfl, rfl, rfl, rfl, rfl, rfl, trivial⟩) (by (try dsimp only); omega)
      try dsimp only
      exact ⟨by omega, hlen _, hnew _ _ _ hf30 hf35, B, S⟩
    · have S := S.f4
      refine t_callf Try.call64 rfl (spec_l1Below 2 S (K.below B)) ?_ rfl
      rintro e w24 ⟨y30, rfl, hf30, S, x25⟩
      refine ⟨_, rfl, ?_⟩
      have B := B.trans x25
      refine t_alt ?_ ?_
      · refine t_bx1 S.tail.box ab_s_asn rfl rfl ?_ rfl
        refine t_callf Try.call64 rfl (spec_l1Below 1000000 S (K.below B)) ?_ rfl
        rintro e w26 ⟨y35, rfl, hf35, S, x27⟩
        refine ⟨_, rfl, ?_⟩
        have B := B.trans x27
        refine t_mul rfl rfl (by omega) ?_ rfl
        refine t_add rfl rfl (by omega) ?_ rfl
        refine t_add rfl rfl (by omega) ?_ rfl
        refine t_build (fun w => b_asn _ _ _ w) rfl ?_ rfl
        refine t_lit (T := asnT) (l := [(⟨y30, decide ((k : Int) < (1 + y16)), (1 + (y35 * 8)) + (k : Int)⟩ : ASd)]) (css := [[I y30, .bool (decide ((k : Int) < (1 + y16))), I ((1 + (y35 * 8)) + (k : Int))]]) asn_flat S (fun w => bs_asn1 _ _ _ w) rfl rfl rfl rfl (by simp [maxLen]) (litR_one fun _ => rfl) ?_ rfl rfl
        intro u41 w28 x29 S
        have B := bx Hb B x29
        have hR := S.sl
        have S := S.f3
        refine t_cat asn_flat e_asn S hR rfl rfl rfl (by first | omega | (simp [-List.length_flatMap]; omega)) (by (simp [maxLen, -List.length_flatMap]; try omega)) ?_ rfl
        intro v42 w30 x31 S
        have B := B.trans x31
        clear hR
        have S := S.f1
        have S := S.tail
        refine t_fldx fb_topo_0 rfl rfl ?_ rfl
        obtain ⟨Av42, cv42, rfl, _⟩ := S.sl.form
        have S := S.f2
        refine t_st1 S sb_s_asn rfl rfl rfl rfl rfl ?_
        intro w32 b33 S
        have B := B.trans b33
        refine t_done' ?_
        refine x_block_normal ?_
        refine x_seq ?_
        refine w_region ?_
        refine t_move rfl ?_ rfl
        refine t_add rfl rfl (by omega) ?_ rfl
        refine t_assign rfl ?_ rfl
        refine t_done ?_
        have S := S.f2
        have S := S.f4
        have S := S.f4
        have S := S.f4
        have S := S.f4
        refine x_round (X := Nat × List ASd × Value) (I := (fun x wq => (fun k A va => (k : Int) ≤ 1 + y16 + y19 ∧ A.length = k ∧ (∀ x ∈ A, AsK x) ∧ Below b w wq ∧ Sep b wq (bxO g3 27 #[va, .slice none 0 0] :: slO asnT 121 va A :: slO linkT 78 (.slice none 0 0) [] :: bxO g2 27 #[.slice none 0 0, .slice none 0 0] :: curO v n c 109 :: os)) x.1 x.2.1 x.2.2)) (F := (fun x => (fun k A va => [(6, I ((k : Int))), (0, .pointer (some ⟨c, 0, none⟩)), (2, .pointer (some ⟨g2, 0, none⟩)), (3, .pointer (some ⟨g3, 0, none⟩)), (4, I (1 + y16)), (5, I y19)]) x.1 x.2.1 x.2.2)) (μ := (fun x => (fun k A va => (1 + y16 + y19 - k).toNat) x.1 x.2.1 x.2.2)) (k + 1, A ++ [(⟨y30, decide ((k : Int) < 1 + y16), 1 + y35 * 8 + (k : Int)⟩ : ASd)], .slice Av42 (A ++ ([(⟨y30, decide ((k : Int) < (1 + y16)), (1 + (y35 * 8)) + (k : Int)⟩ : ASd)])).length cv42) ?_ (by exact ⟨rfl, rfl, rfl, rfl, rfl, rfl, trivial⟩) (by (try dsimp only); omega)
        try dsimp only
        exact ⟨by omega, hlen _, hnew _ _ _ hf30 hf35, B, S⟩
      · refine t_callf Try.call64 rfl (spec_l1Below 1000000 S (K.below B)) ?_ rfl
        rintro e w34 ⟨y35, rfl, hf35, S, x35⟩
        refine ⟨_, rfl, ?_⟩
        have B := B.trans x35
        refine t_alt ?_ ?_
        · refine t_bx1 S.tail.box ab_s_asn rfl rfl ?_ rfl
          refine t_mul rfl rfl (by omega) ?_ rfl
          refine t_add rfl rfl (by omega) ?_ rfl
          refine t_add rfl rfl (by omega) ?_ rfl
          refine t_build (fun w => b_asn _ _ _ w) rfl ?_ rfl
          refine t_lit (T := asnT) (l := [(⟨y30, decide ((k : Int) < (1 + y16)), (1 + (y35 * 8)) + (k : Int)⟩ : ASd)]) (css := [[I y30, .bool (decide ((k : Int) < (1 + y16))), I ((1 + (y35 * 8)) + (k : Int))]]) asn_flat S (fun w => bs_asn1 _ _ _ w) rfl rfl rfl rfl (by simp [maxLen]) (litR_one fun _ => rfl) ?_ rfl rfl
          intro u41 w36 x37 S
          have B := bx Hb B x37
          have hR := S.sl
          have S := S.f3
          refine t_cat asn_flat e_asn S hR rfl rfl rfl (by first | omega | (simp [-List.length_flatMap]; omega)) (by (simp [maxLen, -List.length_flatMap]; try omega)) ?_ rfl
          intro v42 w38 x39 S
          have B := B.trans x39
          clear hR
          have S := S.f1
          have S := S.tail
          refine t_fldx fb_topo_0 rfl rfl ?_ rfl
          obtain ⟨Av42, cv42, rfl, _⟩ := S.sl.form
          have S := S.f2
          refine t_st1 S sb_s_asn rfl rfl rfl rfl rfl ?_
          intro w40 b41 S
          have B := B.trans b41
          refine t_done' ?_
          refine x_block_normal ?_
          refine x_seq ?_
          refine w_region ?_
          refine t_move rfl ?_ rfl
          refine t_add rfl rfl (by omega) ?_ rfl
          refine t_assign rfl ?_ rfl
          refine t_done ?_
          have S := S.f2
          have S := S.f4
          have S := S.f4
          have S := S.f4
          have S := S.f4
          refine x_round (X := Nat × List ASd × Value) (I := (fun x wq => (fun k A va => (k : Int) ≤ 1 + y16 + y19 ∧ A.length = k ∧ (∀ x ∈ A, AsK x) ∧ Below b w wq ∧ Sep b wq (bxO g3 27 #[va, .slice none 0 0] :: slO asnT 121 va A :: slO linkT 78 (.slice none 0 0) [] :: bxO g2 27 #[.slice none 0 0, .slice none 0 0] :: curO v n c 109 :: os)) x.1 x.2.1 x.2.2)) (F := (fun x => (fun k A va => [(6, I ((k : Int))), (0, .pointer (some ⟨c, 0, none⟩)), (2, .pointer (some ⟨g2, 0, none⟩)), (3, .pointer (some ⟨g3, 0, none⟩)), (4, I (1 + y16)), (5, I y19)]) x.1 x.2.1 x.2.2)) (μ := (fun x => (fun k A va => (1 + y16 + y19 - k).toNat) x.1 x.2.1 x.2.2)) (k + 1, A ++ [(⟨y30, decide ((k : Int) < 1 + y16), 1 + y35 * 8 + (k : Int)⟩ : ASd)], .slice Av42 (A ++ ([(⟨y30, decide ((k : Int) < (1 + y16)), (1 + (y35 * 8)) + (k : Int)⟩ : ASd)])).length cv42) ?_ (by exact ⟨rfl, rfl, rfl, rfl, rfl, rfl, trivial⟩) (by (try dsimp only); omega)
          try dsimp only
          exact ⟨by omega, hlen _, hnew _ _ _ hf30 hf35, B, S⟩
        · refine t_mul rfl rfl (by omega) ?_ rfl
          refine t_alt ?_ ?_
          · refine t_bx1 S.tail.box ab_s_asn rfl rfl ?_ rfl
            refine t_add rfl rfl (by omega) ?_ rfl
            refine t_add rfl rfl (by omega) ?_ rfl
            refine t_build (fun w => b_asn _ _ _ w) rfl ?_ rfl
            refine t_lit (T := asnT) (l := [(⟨y30, decide ((k : Int) < (1 + y16)), (1 + (y35 * 8)) + (k : Int)⟩ : ASd)]) (css := [[I y30, .bool (decide ((k : Int) < (1 + y16))), I ((1 + (y35 * 8)) + (k : Int))]]) asn_flat S (fun w => bs_asn1 _ _ _ w) rfl rfl rfl rfl (by simp [maxLen]) (litR_one fun _ => rfl) ?_ rfl rfl
            intro u41 w42 x43 S
            have B := bx Hb B x43
            have hR := S.sl
            have S := S.f3
            refine t_cat asn_flat e_asn S hR rfl rfl rfl (by first | omega | (simp [-List.length_flatMap]; omega)) (by (simp [maxLen, -List.length_flatMap]; try omega)) ?_ rfl
            intro v42 w44 x45 S
            have B := B.trans x45
            clear hR
            have S := S.f1
            have S := S.tail
            refine t_fldx fb_topo_0 rfl rfl ?_ rfl
            obtain ⟨Av42, cv42, rfl, _⟩ := S.sl.form
            have S := S.f2
            refine t_st1 S sb_s_asn rfl rfl rfl rfl rfl ?_
            intro w46 b47 S
            have B := B.trans b47
            refine t_done' ?_
            refine x_block_normal ?_
            refine x_seq ?_
            refine w_region ?_
            refine t_move rfl ?_ rfl
            refine t_add rfl rfl (by omega) ?_ rfl
            refine t_assign rfl ?_ rfl
            refine t_done ?_
            have S := S.f2
            have S := S.f4
            have S := S.f4
            have S := S.f4
            have S := S.f4
            refine x_round (X := Nat × List ASd × Value) (I := (fun x wq => (fun k A va => (k : Int) ≤ 1 + y16 + y19 ∧ A.length = k ∧ (∀ x ∈ A, AsK x) ∧ Below b w wq ∧ Sep b wq (bxO g3 27 #[va, .slice none 0 0] :: slO asnT 121 va A :: slO linkT 78 (.slice none 0 0) [] :: bxO g2 27 #[.slice none 0 0, .slice none 0 0] :: curO v n c 109 :: os)) x.1 x.2.1 x.2.2)) (F := (fun x => (fun k A va => [(6, I ((k : Int))), (0, .pointer (some ⟨c, 0, none⟩)), (2, .pointer (some ⟨g2, 0, none⟩)), (3, .pointer (some ⟨g3, 0, none⟩)), (4, I (1 + y16)), (5, I y19)]) x.1 x.2.1 x.2.2)) (μ := (fun x => (fun k A va => (1 + y16 + y19 - k).toNat) x.1 x.2.1 x.2.2)) (k + 1, A ++ [(⟨y30, decide ((k : Int) < 1 + y16), 1 + y35 * 8 + (k : Int)⟩ : ASd)], .slice Av42 (A ++ ([(⟨y30, decide ((k : Int) < (1 + y16)), (1 + (y35 * 8)) + (k : Int)⟩ : ASd)])).length cv42) ?_ (by exact ⟨rfl, rfl, rfl, rfl, rfl, rfl, trivial⟩) (by (try dsimp only); omega)
            try dsimp only
            exact ⟨by omega, hlen _, hnew _ _ _ hf30 hf35, B, S⟩
          · refine t_add rfl rfl (by omega) ?_ rfl
            refine t_alt ?_ ?_
            · refine t_bx1 S.tail.box ab_s_asn rfl rfl ?_ rfl
              refine t_add rfl rfl (by omega) ?_ rfl
              refine t_build (fun w => b_asn _ _ _ w) rfl ?_ rfl
              refine t_lit (T := asnT) (l := [(⟨y30, decide ((k : Int) < (1 + y16)), (1 + (y35 * 8)) + (k : Int)⟩ : ASd)]) (css := [[I y30, .bool (decide ((k : Int) < (1 + y16))), I ((1 + (y35 * 8)) + (k : Int))]]) asn_flat S (fun w => bs_asn1 _ _ _ w) rfl rfl rfl rfl (by simp [maxLen]) (litR_one fun _ => rfl) ?_ rfl rfl
              intro u41 w48 x49 S
              have B := bx Hb B x49
              have hR := S.sl
              have S := S.f3
              refine t_cat asn_flat e_asn S hR rfl rfl rfl (by first | omega | (simp [-List.length_flatMap]; omega)) (by (simp [maxLen, -List.length_flatMap]; try omega)) ?_ rfl
              intro v42 w50 x51 S
              have B := B.trans x51
              clear hR
              have S := S.f1
              have S := S.tail
              refine t_fldx fb_topo_0 rfl rfl ?_ rfl
              obtain ⟨Av42, cv42, rfl, _⟩ := S.sl.form
              have S := S.f2
              refine t_st1 S sb_s_asn rfl rfl rfl rfl rfl ?_
              intro w52 b53 S
              have B := B.trans b53
              refine t_done' ?_
              refine x_block_normal ?_
              refine x_seq ?_
              refine w_region ?_
              refine t_move rfl ?_ rfl
              refine t_add rfl rfl (by omega) ?_ rfl
              refine t_assign rfl ?_ rfl
              refine t_done ?_
              have S := S.f2
              have S := S.f4
              have S := S.f4
              have S := S.f4
              have S := S.f4
              refine x_round (X := Nat × List ASd × Value) (I := (fun x wq => (fun k A va => (k : Int) ≤ 1 + y16 + y19 ∧ A.length = k ∧ (∀ x ∈ A, AsK x) ∧ Below b w wq ∧ Sep b wq (bxO g3 27 #[va, .slice none 0 0] :: slO asnT 121 va A :: slO linkT 78 (.slice none 0 0) [] :: bxO g2 27 #[.slice none 0 0, .slice none 0 0] :: curO v n c 109 :: os)) x.1 x.2.1 x.2.2)) (F := (fun x => (fun k A va => [(6, I ((k : Int))), (0, .pointer (some ⟨c, 0, none⟩)), (2, .pointer (some ⟨g2, 0, none⟩)), (3, .pointer (some ⟨g3, 0, none⟩)), (4, I (1 + y16)), (5, I y19)]) x.1 x.2.1 x.2.2)) (μ := (fun x => (fun k A va => (1 + y16 + y19 - k).toNat) x.1 x.2.1 x.2.2)) (k + 1, A ++ [(⟨y30, decide ((k : Int) < 1 + y16), 1 + y35 * 8 + (k : Int)⟩ : ASd)], .slice Av42 (A ++ ([(⟨y30, decide ((k : Int) < (1 + y16)), (1 + (y35 * 8)) + (k : Int)⟩ : ASd)])).length cv42) ?_ (by exact ⟨rfl, rfl, rfl, rfl, rfl, rfl, trivial⟩) (by (try dsimp only); omega)
              try dsimp only
              exact ⟨by omega, hlen _, hnew _ _ _ hf30 hf35, B, S⟩
            · refine t_add rfl rfl (by omega) ?_ rfl
              refine t_alt ?_ ?_
              · refine t_bx1 S.tail.box ab_s_asn rfl rfl ?_ rfl
                refine t_build (fun w => b_asn _ _ _ w) rfl ?_ rfl
                refine t_lit (T := asnT) (l := [(⟨y30, decide ((k : Int) < (1 + y16)), (1 + (y35 * 8)) + (k : Int)⟩ : ASd)]) (css := [[I y30, .bool (decide ((k : Int) < (1 + y16))), I ((1 + (y35 * 8)) + (k : Int))]]) asn_flat S (fun w => bs_asn1 _ _ _ w) rfl rfl rfl rfl (by simp [maxLen]) (litR_one fun _ => rfl) ?_ rfl rfl
                intro u41 w54 x55 S
                have B := bx Hb B x55
                have hR := S.sl
                have S := S.f3
                refine t_cat asn_flat e_asn S hR rfl rfl rfl (by first | omega | (simp [-List.length_flatMap]; omega)) (by (simp [maxLen, -List.length_flatMap]; try omega)) ?_ rfl
                intro v42 w56 x57 S
                have B := B.trans x57
                clear hR
                have S := S.f1
                have S := S.tail
                refine t_fldx fb_topo_0 rfl rfl ?_ rfl
                obtain ⟨Av42, cv42, rfl, _⟩ := S.sl.form
                have S := S.f2
                refine t_st1 S sb_s_asn rfl rfl rfl rfl rfl ?_
                intro w58 b59 S
                have B := B.trans b59
                refine t_done' ?_
                refine x_block_normal ?_
                refine x_seq ?_
                refine w_region ?_
                refine t_move rfl ?_ rfl
                refine t_add rfl rfl (by omega) ?_ rfl
                refine t_assign rfl ?_ rfl
                refine t_done ?_
                have S := S.f2
                have S := S.f4
                have S := S.f4
                have S := S.f4
                have S := S.f4
                refine x_round (X := Nat × List ASd × Value) (I := (fun x wq => (fun k A va => (k : Int) ≤ 1 + y16 + y19 ∧ A.length = k ∧ (∀ x ∈ A, AsK x) ∧ Below b w wq ∧ Sep b wq (bxO g3 27 #[va, .slice none 0 0] :: slO asnT 121 va A :: slO linkT 78 (.slice none 0 0) [] :: bxO g2 27 #[.slice none 0 0, .slice none 0 0] :: curO v n c 109 :: os)) x.1 x.2.1 x.2.2)) (F := (fun x => (fun k A va => [(6, I ((k : Int))), (0, .pointer (some ⟨c, 0, none⟩)), (2, .pointer (some ⟨g2, 0, none⟩)), (3, .pointer (some ⟨g3, 0, none⟩)), (4, I (1 + y16)), (5, I y19)]) x.1 x.2.1 x.2.2)) (μ := (fun x => (fun k A va => (1 + y16 + y19 - k).toNat) x.1 x.2.1 x.2.2)) (k + 1, A ++ [(⟨y30, decide ((k : Int) < 1 + y16), 1 + y35 * 8 + (k : Int)⟩ : ASd)], .slice Av42 (A ++ ([(⟨y30, decide ((k : Int) < (1 + y16)), (1 + (y35 * 8)) + (k : Int)⟩ : ASd)])).length cv42) ?_ (by exact ⟨rfl, rfl, rfl, rfl, rfl, rfl, trivial⟩) (by (try dsimp only); omega)
                try dsimp only
                exact ⟨by omega, hlen _, hnew _ _ _ hf30 hf35, B, S⟩
              · refine t_build (fun w => b_asn _ _ _ w) rfl ?_ rfl
                refine t_alt ?_ ?_
                · refine t_bx1 S.tail.box ab_s_asn rfl rfl ?_ rfl
                  refine t_lit (T := asnT) (l := [(⟨y30, decide ((k : Int) < (1 + y16)), (1 + (y35 * 8)) + (k : Int)⟩ : ASd)]) (css := [[I y30, .bool (decide ((k : Int) < (1 + y16))), I ((1 + (y35 * 8)) + (k : Int))]]) asn_flat S (fun w => bs_asn1 _ _ _ w) rfl rfl rfl rfl (by simp [maxLen]) (litR_one fun _ => rfl) ?_ rfl rfl
                  intro u41 w60 x61 S
                  have B := bx Hb B x61
                  have hR := S.sl
                  have S := S.f3
                  refine t_cat asn_flat e_asn S hR rfl rfl rfl (by first | omega | (simp [-List.length_flatMap]; omega)) (by (simp [maxLen, -List.length_flatMap]; try omega)) ?_ rfl
                  intro v42 w62 x63 S
                  have B := B.trans x63
                  clear hR
                  have S := S.f1
                  have S := S.tail
                  refine t_fldx fb_topo_0 rfl rfl ?_ rfl
                  obtain ⟨Av42, cv42, rfl, _⟩ := S.sl.form
                  have S := S.f2
                  refine t_st1 S sb_s_asn rfl rfl rfl rfl rfl ?_
                  intro w64 b65 S
                  have B := B.trans b65
                  refine t_done' ?_
                  refine x_block_normal ?_
                  refine x_seq ?_
                  refine w_region ?_
                  refine t_move rfl ?_ rfl
                  refine t_add rfl rfl (by omega) ?_ rfl
                  refine t_assign rfl ?_ rfl
                  refine t_done ?_
                  have S := S.f2
                  have S := S.f4
                  have S := S.f4
                  have S := S.f4
                  have S := S.f4
                  refine x_round (X := Nat × List ASd × Value) (I := (fun x wq => (fun k A va => (k : Int) ≤ 1 + y16 + y19 ∧ A.length = k ∧ (∀ x ∈ A, AsK x) ∧ Below b w wq ∧ Sep b wq (bxO g3 27 #[va, .slice none 0 0] :: slO asnT 121 va A :: slO linkT 78 (.slice none 0 0) [] :: bxO g2 27 #[.slice none 0 0, .slice none 0 0] :: curO v n c 109 :: os)) x.1 x.2.1 x.2.2)) (F := (fun x => (fun k A va => [(6, I ((k : Int))), (0, .pointer (some ⟨c, 0, none⟩)), (2, .pointer (some ⟨g2, 0, none⟩)), (3, .pointer (some ⟨g3, 0, none⟩)), (4, I (1 + y16)), (5, I y19)]) x.1 x.2.1 x.2.2)) (μ := (fun x => (fun k A va => (1 + y16 + y19 - k).toNat) x.1 x.2.1 x.2.2)) (k + 1, A ++ [(⟨y30, decide ((k : Int) < 1 + y16), 1 + y35 * 8 + (k : Int)⟩ : ASd)], .slice Av42 (A ++ ([(⟨y30, decide ((k : Int) < (1 + y16)), (1 + (y35 * 8)) + (k : Int)⟩ : ASd)])).length cv42) ?_ (by exact ⟨rfl, rfl, rfl, rfl, rfl, rfl, trivial⟩) (by (try dsimp only); omega)
                  try dsimp only
                  exact ⟨by omega, hlen _, hnew _ _ _ hf30 hf35, B, S⟩
                · refine t_lit (T := asnT) (l := [(⟨y30, decide ((k : Int) < (1 + y16)), (1 + (y35 * 8)) + (k : Int)⟩ : ASd)]) (css := [[I y30, .bool (decide ((k : Int) < (1 + y16))), I ((1 + (y35 * 8)) + (k : Int))]]) asn_flat S (fun w => bs_asn1 _ _ _ w) rfl rfl rfl rfl (by simp [maxLen]) (litR_one fun _ => rfl) ?_ rfl rfl
                  intro u41 w66 x67 S
                  have B := bx Hb B x67
                  refine t_bx1 S.tail.tail.box ab_s_asn rfl rfl ?_ rfl
                  have hR := S.sl
                  have S := S.f3
                  refine t_cat asn_flat e_asn S hR rfl rfl rfl (by first | omega | (simp [-List.length_flatMap]; omega)) (by (simp [maxLen, -List.length_flatMap]; try omega)) ?_ rfl
                  intro v42 w68 x69 S
                  have B := B.trans x69
                  clear hR
                  have S := S.f1
                  have S := S.tail
                  refine t_fldx fb_topo_0 rfl rfl ?_ rfl
                  obtain ⟨Av42, cv42, rfl, _⟩ := S.sl.form
                  have S := S.f2
                  refine t_st1 S sb_s_asn rfl rfl rfl rfl rfl ?_
                  intro w70 b71 S
                  have B := B.trans b71
                  refine t_done' ?_
                  refine x_block_normal ?_
                  refine x_seq ?_
                  refine w_region ?_
                  refine t_move rfl ?_ rfl
                  refine t_add rfl rfl (by omega) ?_ rfl
                  refine t_assign rfl ?_ rfl
                  refine t_done ?_
                  have S := S.f2
                  have S := S.f4
                  have S := S.f4
                  have S := S.f4
                  have S := S.f4
                  refine x_round (X := Nat × List ASd × Value) (I := (fun x wq => (fun k A va => (k : Int) ≤ 1 + y16 + y19 ∧ A.length = k ∧ (∀ x ∈ A, AsK x) ∧ Below b w wq ∧ Sep b wq (bxO g3 27 #[va, .slice none 0 0] :: slO asnT 121 va A :: slO linkT 78 (.slice none 0 0) [] :: bxO g2 27 #[.slice none 0 0, .slice none 0 0] :: curO v n c 109 :: os)) x.1 x.2.1 x.2.2)) (F := (fun x => (fun k A va => [(6, I ((k : Int))), (0, .pointer (some ⟨c, 0, none⟩)), (2, .pointer (some ⟨g2, 0, none⟩)), (3, .pointer (some ⟨g3, 0, none⟩)), (4, I (1 + y16)), (5, I y19)]) x.1 x.2.1 x.2.2)) (μ := (fun x => (fun k A va => (1 + y16 + y19 - k).toNat) x.1 x.2.1 x.2.2)) (k + 1, A ++ [(⟨y30, decide ((k : Int) < 1 + y16), 1 + y35 * 8 + (k : Int)⟩ : ASd)], .slice Av42 (A ++ ([(⟨y30, decide ((k : Int) < (1 + y16)), (1 + (y35 * 8)) + (k : Int)⟩ : ASd)])).length cv42) ?_ (by exact ⟨rfl, rfl, rfl, rfl, rfl, rfl, trivial⟩) (by (try dsimp only); omega)
                  try dsimp only
                  exact ⟨by omega, hlen _, hnew _ _ _ hf30 hf35, B, S⟩
  · intro hge
    refine w_exit ?_
    refine x_then_exit ?_
    refine x_then_exit ?_
    refine x_block_exit ?_
    refine x_seq ?_
    refine w_seq ?_
    refine w_seq ?_
    refine w_region ?_
    refine t_assign rfl ?_ rfl
    refine t_done ?_
    refine x_seq ?_
    refine w_block ?_
    have hN : (A.length : Int) = 1 + y16 + y19 := by omega
    clear hge hk
    refine w_loop (X := Nat × List Lnk × Value) (fun x wq => (fun k L vl => 1 ≤ k ∧ (k : Int) ≤ 1 + y16 ∧ (∃ m : Nat, m ≤ 2 * k ∧ Grown A.length m L) ∧ Below b w wq ∧ Sep b wq (bxO g3 27 #[va, vl] :: slO asnT 121 va A :: slO linkT 78 vl L :: bxO g2 27 #[.slice none 0 0, .slice none 0 0] :: curO v n c 109 :: os)) x.1 x.2.1 x.2.2) (fun x => (fun k L vl => [(7, I ((k : Int))), (0, .pointer (some ⟨c, 0, none⟩)), (2, .pointer (some ⟨g2, 0, none⟩)), (3, .pointer (some ⟨g3, 0, none⟩)), (4, I (1 + y16))]) x.1 x.2.1 x.2.2) (fun x => (fun k L vl => (1 + y16 - k).toNat) x.1 x.2.1 x.2.2) (1, [], .slice none 0 0) ?_ ⟨rfl, rfl, rfl, rfl, rfl, trivial⟩ ?_
    · exact ⟨by omega, by omega, ⟨0, by omega, .nil⟩, B, S⟩
    rintro ⟨k, L, vl⟩ w72 hI
    try dsimp only at hI ⊢
    obtain ⟨hk1, hk, ⟨m, hm, hG⟩, B, S⟩ := hI
    have hL := hG.len
    refine w_seq ?_
    refine w_seq ?_
    refine w_region ?_
    refine t_move rfl ?_ rfl
    refine t_move rfl ?_ rfl
    refine t_lss rfl rfl ?_ rfl
    refine t_done ?_
    refine x_seq ?_
    refine w_if rfl ?_ ?_
    · intro hlt
      refine w_skip ?_
      refine x_seq ?_
      refine w_seq ?_
      refine w_block ?_
      refine w_seq ?_
      refine w_region ?_
      refine t_move rfl ?_ rfl
      refine t_move rfl ?_ rfl
      have S := S.f4
      refine t_callf Try.call64 rfl (spec_l1Below (k : Int) S (K.below B)) ?_ rfl
      rintro e w73 ⟨y51, rfl, hf51, S, x74⟩
      refine ⟨_, rfl, ?_⟩
      have B := B.trans x74
      refine t_move rfl ?_ rfl
      have S := S.f3
      have S := S.f3
      have S := S.f3
      refine t_callf Try.call120 rfl (spec_l5Add y51 (k : Int) 1 S (by omega)) ?_ rfl
      rintro e w75 ⟨v53, rfl, S, x76⟩
      refine ⟨_, rfl, ?_⟩
      have B := B.trans x76
      refine t_done ?_
      refine x_seq ?_
      refine w_seq ?_
      refine w_region ?_
      refine t_move rfl ?_ rfl
      have S := S.f3
      refine t_callf Try.call116 rfl (spec_l1Once 2 S (K.below B)) ?_ rfl
      rintro e w77 ⟨y55, rfl, hf55, S, x78⟩
      refine ⟨_, rfl, ?_⟩
      have B := B.trans x78
      refine t_done ?_
      refine x_seq ?_
      have hG2 := hG.add y51 k 1 (by omega) (by omega) (by omega) (by omega) (by omega)
      have hL2 := hG2.len
      refine w_if rfl ?_ ?_
      · intro hone
        refine w_region ?_
        refine t_move rfl ?_ rfl
        refine t_move rfl ?_ rfl
        refine t_callf Try.call64 rfl (spec_l1Below (k : Int) S (K.below B)) ?_ rfl
        rintro e w79 ⟨y58, rfl, hf58, S, x80⟩
        refine ⟨_, rfl, ?_⟩
        have B := B.trans x80
        refine t_move rfl ?_ rfl
        have S := S.f3
        have S := S.f3
        have S := S.f3
        refine t_callf Try.call120 rfl (spec_l5Add y58 (k : Int) 1 S (by omega)) ?_ rfl
        rintro e w81 ⟨v60, rfl, S, x82⟩
        refine ⟨_, rfl, ?_⟩
        have B := B.trans x82
        refine t_done ?_
        refine x_block_normal ?_
        refine x_seq ?_
        refine w_region ?_
        refine t_move rfl ?_ rfl
        refine t_add rfl rfl (by omega) ?_ rfl
        refine t_assign rfl ?_ rfl
        refine t_done ?_
        have hG3 := hG2.add y58 k 1 (by omega) (by omega) (by omega) (by omega) (by omega)
        have S := S.f3
        have S := S.f4
        have S := S.f4
        have S := S.f4
        have S := S.f4
        refine x_round (X := Nat × List Lnk × Value) (I := (fun x wq => (fun k L vl => 1 ≤ k ∧ (k : Int) ≤ 1 + y16 ∧ (∃ m : Nat, m ≤ 2 * k ∧ Grown A.length m L) ∧ Below b w wq ∧ Sep b wq (bxO g3 27 #[va, vl] :: slO asnT 121 va A :: slO linkT 78 vl L :: bxO g2 27 #[.slice none 0 0, .slice none 0 0] :: curO v n c 109 :: os)) x.1 x.2.1 x.2.2)) (F := (fun x => (fun k L vl => [(7, I ((k : Int))), (0, .pointer (some ⟨c, 0, none⟩)), (2, .pointer (some ⟨g2, 0, none⟩)), (3, .pointer (some ⟨g3, 0, none⟩)), (4, I (1 + y16))]) x.1 x.2.1 x.2.2)) (μ := (fun x => (fun k L vl => (1 + y16 - k).toNat) x.1 x.2.1 x.2.2)) (k + 1, addL (addL L y51 (k : Int) 1) y58 (k : Int) 1, v60) ?_ (by exact ⟨rfl, rfl, rfl, rfl, rfl, trivial⟩) (by (try dsimp only); omega)
        try dsimp only
        exact ⟨by omega, by omega, ⟨_, by omega, hG3⟩, B, S⟩
      · intro hone
        refine w_skip ?_
        refine x_block_normal ?_
        refine x_seq ?_
        refine w_region ?_
        refine t_move rfl ?_ rfl
        refine t_add rfl rfl (by omega) ?_ rfl
        refine t_assign rfl ?_ rfl
        refine t_done ?_
        have S := S.f4
        have S := S.f4
        have S := S.f4
        have S := S.f4
        refine x_round (X := Nat × List Lnk × Value) (I := (fun x wq => (fun k L vl => 1 ≤ k ∧ (k : Int) ≤ 1 + y16 ∧ (∃ m : Nat, m ≤ 2 * k ∧ Grown A.length m L) ∧ Below b w wq ∧ Sep b wq (bxO g3 27 #[va, vl] :: slO asnT 121 va A :: slO linkT 78 vl L :: bxO g2 27 #[.slice none 0 0, .slice none 0 0] :: curO v n c 109 :: os)) x.1 x.2.1 x.2.2)) (F := (fun x => (fun k L vl => [(7, I ((k : Int))), (0, .pointer (some ⟨c, 0, none⟩)), (2, .pointer (some ⟨g2, 0, none⟩)), (3, .pointer (some ⟨g3, 0, none⟩)), (4, I (1 + y16))]) x.1 x.2.1 x.2.2)) (μ := (fun x => (fun k L vl => (1 + y16 - k).toNat) x.1 x.2.1 x.2.2)) (k + 1, addL L y51 (k : Int) 1, v53) ?_ (by exact ⟨rfl, rfl, rfl, rfl, rfl, trivial⟩) (by (try dsimp only); omega)
        try dsimp only
        exact ⟨by omega, by omega, ⟨_, by omega, hG2⟩, B, S⟩
    · intro hge
      refine w_exit ?_
      refine x_then_exit ?_
      refine x_then_exit ?_
      refine x_block_exit ?_
      refine x_seq ?_
      refine w_seq ?_
      refine w_seq ?_
      refine w_region ?_
      refine t_move rfl ?_ rfl
      refine t_assign rfl ?_ rfl
      refine t_done ?_
      refine x_seq ?_
      refine w_block ?_
      obtain ⟨N, hNN⟩ : ∃ N, N = A.length := ⟨_, rfl⟩
      rw [← hNN] at hG hN
      have hA := hNN.symm
      clear hNN
      refine w_loop (X := Int × List ASd × Value × List Lnk × Value) (fun x wq => (fun k A va L vl => 1 ≤ k ∧ 1 + y16 ≤ k ∧ k ≤ N ∧ A.length = N ∧ (∀ x ∈ A, AsK x) ∧ (∃ m : Nat, (m : Int) ≤ 6 + 3 * k ∧ Grown N m L) ∧ Below b w wq ∧ Sep b wq (bxO g3 27 #[va, vl] :: slO asnT 121 va A :: slO linkT 78 vl L :: bxO g2 27 #[.slice none 0 0, .slice none 0 0] :: curO v n c 109 :: os)) x.1 x.2.1 x.2.2.1 x.2.2.2.1 x.2.2.2.2) (fun x => (fun k A va L vl => [(8, I k), (0, .pointer (some ⟨c, 0, none⟩)), (2, .pointer (some ⟨g2, 0, none⟩)), (3, .pointer (some ⟨g3, 0, none⟩)), (4, I (1 + y16))]) x.1 x.2.1 x.2.2.1 x.2.2.2.1 x.2.2.2.2) (fun x => (fun k A va L vl => ((N : Int) - k).toNat) x.1 x.2.1 x.2.2.1 x.2.2.2.1 x.2.2.2.2) (1 + y16, A, va, L, vl) ?_ ⟨rfl, rfl, rfl, rfl, rfl, trivial⟩ ?_
      · exact ⟨by omega, by omega, by omega, hA, hK, ⟨m, by omega, hG⟩, B, S⟩
      rintro ⟨k, A, va, L, vl⟩ w83 hI
      try dsimp only at hI ⊢
      obtain ⟨hk1, hk2, hk, hA, hK, ⟨m, hm, hG⟩, B, S⟩ := hI
      refine w_seq ?_
      refine w_seq ?_
      refine w_region ?_
      refine t_move rfl ?_ rfl
      refine t_fldx fb_topo_0 rfl rfl ?_ rfl
      refine t_bx1 S.box ab_s_asn rfl rfl ?_ rfl
      refine t_len e_asn (S.tail.sl) rfl rfl ?_ rfl
      refine t_lss rfl rfl ?_ rfl
      refine t_done ?_
      refine x_seq ?_
      refine w_if rfl ?_ ?_
      · intro hlt
        refine w_skip ?_
        refine x_seq ?_
        refine w_seq ?_
        refine w_block ?_
        refine w_seq ?_
        refine w_seq ?_
        refine w_region ?_
        refine t_move rfl ?_ rfl
        have S := S.f4
        refine t_callf Try.call64 rfl (spec_l1Below 2 S (K.below B)) ?_ rfl
        rintro e w84 ⟨y70, rfl, hf70, S, x85⟩
        refine ⟨_, rfl, ?_⟩
        have B := B.trans x85
        refine t_add rfl rfl (by omega) ?_ rfl
        refine t_assign rfl ?_ rfl
        refine t_done ?_
        refine x_seq ?_
        refine w_block ?_
        refine w_loop (X := Int × List ASd × Value × List Lnk × Value) (fun x wq => (fun j A2 va2 L2 vl2 => 0 ≤ j ∧ j ≤ 2 ∧ A2.length = N ∧ (∀ x ∈ A2, AsK x) ∧ (∃ m : Nat, (m : Int) ≤ 6 + 3 * k + (2 - j) ∧ Grown N m L2) ∧ Below b w wq ∧ Sep b wq (bxO g3 27 #[va2, vl2] :: slO asnT 121 va2 A2 :: slO linkT 78 vl2 L2 :: bxO g2 27 #[.slice none 0 0, .slice none 0 0] :: curO v n c 109 :: os)) x.1 x.2.1 x.2.2.1 x.2.2.2.1 x.2.2.2.2) (fun x => (fun j A2 va2 L2 vl2 => [(9, I j), (8, I k), (0, .pointer (some ⟨c, 0, none⟩)), (2, .pointer (some ⟨g2, 0, none⟩)), (3, .pointer (some ⟨g3, 0, none⟩)), (4, I (1 + y16))]) x.1 x.2.1 x.2.2.1 x.2.2.2.1 x.2.2.2.2) (fun x => (fun j A2 va2 L2 vl2 => j.toNat) x.1 x.2.1 x.2.2.1 x.2.2.2.1 x.2.2.2.2) (1 + y70, A, va, L, vl) ?_ ⟨rfl, rfl, rfl, rfl, rfl, rfl, trivial⟩ ?_
        · exact ⟨by omega, by omega, hA, hK, ⟨m, by omega, hG⟩, B, S.f4.f4.f4.f4⟩
        rintro ⟨j, A2, va2, L2, vl2⟩ w86 hI
        try dsimp only at hI ⊢
        obtain ⟨hj0, hj2, hA2, hK2, ⟨m2, hm2, hG2⟩, B, S⟩ := hI
        have hL2 := hG2.len
        refine w_seq ?_
        refine w_seq ?_
        refine w_region ?_
        refine t_move rfl ?_ rfl
        refine t_gtr rfl rfl ?_ rfl
        refine t_done ?_
        refine x_seq ?_
        refine w_if rfl ?_ ?_
        · intro hj
          have S := S.f1
          obtain ⟨Gva2, Cva2, rfl⟩ := S.addr (by omega)
          refine w_skip ?_
          refine x_seq ?_
          refine w_seq ?_
          refine w_block ?_
          refine w_seq ?_
          refine w_region ?_
          refine t_move rfl ?_ rfl
          refine t_move rfl ?_ rfl
          have S := S.f4
          refine t_callf Try.call64 rfl (spec_l1Below k S (K.below B)) ?_ rfl
          rintro e w87 ⟨y78, rfl, hf78, S, x88⟩
          refine ⟨_, rfl, ?_⟩
          have B := B.trans x88
          refine t_assign rfl ?_ rfl
          refine t_done ?_
          refine x_seq ?_
          refine w_seq ?_
          refine w_seq ?_
          refine w_region ?_
          refine t_move rfl ?_ rfl
          refine t_callf Try.call116 rfl (spec_l1Once 5 S (K.below B)) ?_ rfl
          rintro e w89 ⟨y80, rfl, hf80, S, x90⟩
          refine ⟨_, rfl, ?_⟩
          have B := B.trans x90
          refine t_not rfl ?_ rfl
          refine t_done ?_
          refine x_seq ?_
          obtain ⟨ea, hea⟩ := getx (l := A2) (k := y78.toNat) (by omega)
          obtain ⟨eb, heb⟩ := getx (l := A2) (k := k.toNat) (by omega)
          have hadd := hG2.add y78 k 2 (by omega) (by omega) (by omega) (by omega) (by omega)
          refine w_if rfl ?_ ?_
          · intro ho
            refine w_draw (.st .take 0 (.st .take 1 (.st .take 2 (.st .take 3 (.st .take 4 (.st .take 5 (.st .take 6 (.st .take 7 (.st .take 8 (.st .take 9 (.st .take 10 (.st .fin 11 .done)))))))))))) mixed (by kernel_rfl) ?_
            intro w91 x92
            have B := bx Hb B x92
            have S := S.below x92
            refine t_fldx fb_topo_0 rfl rfl ?_ rfl
            refine t_bx1 S.tail.tail.box ab_s_asn rfl rfl ?_ rfl
            refine t_move rfl ?_ rfl
            refine t_fldx fb_topo_0 rfl rfl ?_ rfl
            refine t_bx1 S.tail.tail.box ab_s_asn rfl rfl ?_ rfl
            refine t_move rfl ?_ rfl
            refine t_idxx e_asn (k := y78.toNat) rfl rfl (by first | rfl | omega) (by omega) rfl ?_ rfl
            refine t_fldx fb_asn_0 rfl rfl ?_ rfl
            have S := S.f1
            refine t_ldS (T := asnT) (j := 0) S ab_int rfl hea rfl rl_asn_0 ?_ rfl
            refine t_idxx e_asn (k := k.toNat) rfl rfl (by first | rfl | omega) (by omega) rfl ?_ rfl
            refine t_fldx fb_asn_0 rfl rfl ?_ rfl
            refine t_stS (T := asnT) (j := 0) (x' := { eb with isd := ea.isd }) S (by first | rfl | ((try simp only [List.length_set]); first | omega | simp)) sb_int rfl rfl heb rfl (by decide) rfl rfl so_asn_0 ?_
            intro w93 b94 S
            have B := B.trans b94
            have hq95 := set_at (y := { eb with isd := ea.isd }) heb
            refine t_done' ?_
            refine x_seq ?_
            refine w_seq ?_
            refine w_draw (.st .take 0 (.st .take 1 (.st .take 2 (.st .take 3 (.st .take 4 (.st .take 5 (.st .take 6 (.st .take 7 (.st .take 8 (.st .take 9 (.st .take 10 (.st .take 11 (.st .take 12 .done))))))))))))) mixed (by kernel_rfl) ?_
            intro w96 x97
            have B := bx Hb B x97
            have S := S.below x97
            refine t_fldx fb_topo_0 rfl rfl ?_ rfl
            refine t_bx1 S.tail.tail.box ab_s_asn rfl rfl ?_ rfl
            refine t_move rfl ?_ rfl
            refine t_idxx e_asn (k := y78.toNat) rfl rfl (by first | rfl | omega) (by omega) rfl ?_ rfl
            refine t_fldx fb_asn_0 rfl rfl ?_ rfl
            have hea2 : (A2.set k.toNat { eb with isd := ea.isd })[y78.toNat]? = some ea := by rw [List.getElem?_set_ne (by omega)]; exact hea
            have hKs : ∀ x ∈ A2.set k.toNat { eb with isd := ea.isd }, AsK x := by
              intro x hx
              rcases List.mem_or_eq_of_mem_set hx with hx | rfl
              · exact hK2 x hx
              · have q1 := hK2 ea (List.mem_of_getElem? hea)
                have q2 := hK2 eb (List.mem_of_getElem? heb)
                exact ⟨q1.1, q1.2.1, q2.2.2.1, q2.2.2.2⟩
            refine t_ldS (T := asnT) (j := 0) S ab_int rfl hea2 rfl rl_asn_0 ?_ rfl
            refine t_fldx fb_topo_0 rfl rfl ?_ rfl
            refine t_bx1 S.tail.tail.box ab_s_asn rfl rfl ?_ rfl
            refine t_move rfl ?_ rfl
            refine t_idxx e_asn (k := k.toNat) rfl rfl (by first | rfl | omega) (by omega) rfl ?_ rfl
            refine t_fldx fb_asn_0 rfl rfl ?_ rfl
            refine t_ldS (T := asnT) (j := 0) S ab_int rfl hq95 rfl rl_asn_0 ?_ rfl
            refine t_eql rfl rfl ?_ rfl
            refine t_done' ?_
            refine x_seq ?_
            refine w_if rfl ?_ ?_
            · intro hi
              refine w_region ?_
              refine t_move rfl ?_ rfl
              refine t_move rfl ?_ rfl
              have S := S.f3
              have S := S.f1
              have S := S.f3
              refine t_callf Try.call120 rfl (spec_l5Add y78 k 2 S (by omega)) ?_ rfl
              rintro e w98 ⟨v108, rfl, S, x99⟩
              refine ⟨_, rfl, ?_⟩
              have B := B.trans x99
              refine t_done ?_
              refine x_block_normal ?_
              refine x_seq ?_
              refine w_region ?_
              refine t_move rfl ?_ rfl
              refine t_sub rfl rfl (by omega) ?_ rfl
              refine t_assign rfl ?_ rfl
              refine t_done ?_
              have S := S.f3
              have S := S.f4
              have S := S.f4
              have S := S.f4
              have S := S.f4
              refine x_round (X := Int × List ASd × Value × List Lnk × Value) (I := (fun x wq => (fun j A2 va2 L2 vl2 => 0 ≤ j ∧ j ≤ 2 ∧ A2.length = N ∧ (∀ x ∈ A2, AsK x) ∧ (∃ m : Nat, (m : Int) ≤ 6 + 3 * k + (2 - j) ∧ Grown N m L2) ∧ Below b w wq ∧ Sep b wq (bxO g3 27 #[va2, vl2] :: slO asnT 121 va2 A2 :: slO linkT 78 vl2 L2 :: bxO g2 27 #[.slice none 0 0, .slice none 0 0] :: curO v n c 109 :: os)) x.1 x.2.1 x.2.2.1 x.2.2.2.1 x.2.2.2.2)) (F := (fun x => (fun j A2 va2 L2 vl2 => [(9, I j), (8, I k), (0, .pointer (some ⟨c, 0, none⟩)), (2, .pointer (some ⟨g2, 0, none⟩)), (3, .pointer (some ⟨g3, 0, none⟩)), (4, I (1 + y16))]) x.1 x.2.1 x.2.2.1 x.2.2.2.1 x.2.2.2.2)) (μ := (fun x => (fun j A2 va2 L2 vl2 => j.toNat) x.1 x.2.1 x.2.2.1 x.2.2.2.1 x.2.2.2.2)) (j - 1, A2.set k.toNat { eb with isd := ea.isd }, (.slice (some ⟨Gva2, 0, none⟩) A2.length Cva2), addL L2 y78 k 2, v108) ?_ (by exact ⟨rfl, rfl, rfl, rfl, rfl, rfl, trivial⟩) (by (try dsimp only); omega)
              try dsimp only
              exact ⟨by omega, by omega, by rw [List.length_set]; exact hA2, hKs, ⟨_, by omega, hadd⟩, B, S⟩
            · intro hi
              refine w_skip ?_
              refine x_block_normal ?_
              refine x_seq ?_
              refine w_region ?_
              refine t_move rfl ?_ rfl
              refine t_sub rfl rfl (by omega) ?_ rfl
              refine t_assign rfl ?_ rfl
              refine t_done ?_
              have S := S.f1
              have S := S.f4
              have S := S.f4
              have S := S.f3
              have S := S.f4
              refine x_round (X := Int × List ASd × Value × List Lnk × Value) (I := (fun x wq => (fun j A2 va2 L2 vl2 => 0 ≤ j ∧ j ≤ 2 ∧ A2.length = N ∧ (∀ x ∈ A2, AsK x) ∧ (∃ m : Nat, (m : Int) ≤ 6 + 3 * k + (2 - j) ∧ Grown N m L2) ∧ Below b w wq ∧ Sep b wq (bxO g3 27 #[va2, vl2] :: slO asnT 121 va2 A2 :: slO linkT 78 vl2 L2 :: bxO g2 27 #[.slice none 0 0, .slice none 0 0] :: curO v n c 109 :: os)) x.1 x.2.1 x.2.2.1 x.2.2.2.1 x.2.2.2.2)) (F := (fun x => (fun j A2 va2 L2 vl2 => [(9, I j), (8, I k), (0, .pointer (some ⟨c, 0, none⟩)), (2, .pointer (some ⟨g2, 0, none⟩)), (3, .pointer (some ⟨g3, 0, none⟩)), (4, I (1 + y16))]) x.1 x.2.1 x.2.2.1 x.2.2.2.1 x.2.2.2.2)) (μ := (fun x => (fun j A2 va2 L2 vl2 => j.toNat) x.1 x.2.1 x.2.2.1 x.2.2.2.1 x.2.2.2.2)) (j - 1, A2.set k.toNat { eb with isd := ea.isd }, (.slice (some ⟨Gva2, 0, none⟩) A2.length Cva2), L2, vl2) ?_ (by exact ⟨rfl, rfl, rfl, rfl, rfl, rfl, trivial⟩) (by (try dsimp only); omega)
              try dsimp only
              exact ⟨by omega, by omega, by rw [List.length_set]; exact hA2, hKs, ⟨m2, by omega, hG2⟩, B, S⟩
          · intro ho
            refine w_skip ?_
            refine x_seq ?_
            refine w_seq ?_
            refine w_draw (.st .take 0 (.st .take 1 (.st .take 2 (.st .take 3 (.st .take 4 (.st .take 5 (.st .take 6 (.st .take 7 (.st .take 8 (.st .take 9 (.st .take 10 (.st .take 11 (.st .take 12 .done))))))))))))) mixed (by kernel_rfl) ?_
            intro w100 x101
            have B := bx Hb B x101
            have S := S.below x101
            refine t_fldx fb_topo_0 rfl rfl ?_ rfl
            refine t_bx1 S.tail.tail.box ab_s_asn rfl rfl ?_ rfl
            refine t_move rfl ?_ rfl
            refine t_idxx e_asn (k := y78.toNat) rfl rfl (by first | rfl | omega) (by omega) rfl ?_ rfl
            refine t_fldx fb_asn_0 rfl rfl ?_ rfl
            have S := S.f1
            refine t_ldS (T := asnT) (j := 0) S ab_int rfl hea rfl rl_asn_0 ?_ rfl
            refine t_fldx fb_topo_0 rfl rfl ?_ rfl
            refine t_bx1 S.tail.tail.box ab_s_asn rfl rfl ?_ rfl
            refine t_move rfl ?_ rfl
            refine t_idxx e_asn (k := k.toNat) rfl rfl (by first | rfl | omega) (by omega) rfl ?_ rfl
            refine t_fldx fb_asn_0 rfl rfl ?_ rfl
            refine t_ldS (T := asnT) (j := 0) S ab_int rfl heb rfl rl_asn_0 ?_ rfl
            refine t_eql rfl rfl ?_ rfl
            refine t_done' ?_
            refine x_seq ?_
            refine w_if rfl ?_ ?_
            · intro hi
              refine w_region ?_
              refine t_move rfl ?_ rfl
              refine t_move rfl ?_ rfl
              have S := S.f3
              have S := S.f1
              have S := S.f3
              refine t_callf Try.call120 rfl (spec_l5Add y78 k 2 S (by omega)) ?_ rfl
              rintro e w102 ⟨v108, rfl, S, x103⟩
              refine ⟨_, rfl, ?_⟩
              have B := B.trans x103
              refine t_done ?_
              refine x_block_normal ?_
              refine x_seq ?_
              refine w_region ?_
              refine t_move rfl ?_ rfl
              refine t_sub rfl rfl (by omega) ?_ rfl
              refine t_assign rfl ?_ rfl
              refine t_done ?_
              have S := S.f3
              have S := S.f4
              have S := S.f4
              have S := S.f4
              have S := S.f4
              refine x_round (X := Int × List ASd × Value × List Lnk × Value) (I := (fun x wq => (fun j A2 va2 L2 vl2 => 0 ≤ j ∧ j ≤ 2 ∧ A2.length = N ∧ (∀ x ∈ A2, AsK x) ∧ (∃ m : Nat, (m : Int) ≤ 6 + 3 * k + (2 - j) ∧ Grown N m L2) ∧ Below b w wq ∧ Sep b wq (bxO g3 27 #[va2, vl2] :: slO asnT 121 va2 A2 :: slO linkT 78 vl2 L2 :: bxO g2 27 #[.slice none 0 0, .slice none 0 0] :: curO v n c 109 :: os)) x.1 x.2.1 x.2.2.1 x.2.2.2.1 x.2.2.2.2)) (F := (fun x => (fun j A2 va2 L2 vl2 => [(9, I j), (8, I k), (0, .pointer (some ⟨c, 0, none⟩)), (2, .pointer (some ⟨g2, 0, none⟩)), (3, .pointer (some ⟨g3, 0, none⟩)), (4, I (1 + y16))]) x.1 x.2.1 x.2.2.1 x.2.2.2.1 x.2.2.2.2)) (μ := (fun x => (fun j A2 va2 L2 vl2 => j.toNat) x.1 x.2.1 x.2.2.1 x.2.2.2.1 x.2.2.2.2)) (j - 1, A2, (.slice (some ⟨Gva2, 0, none⟩) A2.length Cva2), addL L2 y78 k 2, v108) ?_ (by exact ⟨rfl, rfl, rfl, rfl, rfl, rfl, trivial⟩) (by (try dsimp only); omega)
              try dsimp only
              exact ⟨by omega, by omega, hA2, hK2, ⟨_, by omega, hadd⟩, B, S⟩
            · intro hi
              refine w_skip ?_
              refine x_block_normal ?_
              refine x_seq ?_
              refine w_region ?_
              refine t_move rfl ?_ rfl
              refine t_sub rfl rfl (by omega) ?_ rfl
              refine t_assign rfl ?_ rfl
              refine t_done ?_
              have S := S.f1
              have S := S.f4
              have S := S.f4
              have S := S.f3
              have S := S.f4
              refine x_round (X := Int × List ASd × Value × List Lnk × Value) (I := (fun x wq => (fun j A2 va2 L2 vl2 => 0 ≤ j ∧ j ≤ 2 ∧ A2.length = N ∧ (∀ x ∈ A2, AsK x) ∧ (∃ m : Nat, (m : Int) ≤ 6 + 3 * k + (2 - j) ∧ Grown N m L2) ∧ Below b w wq ∧ Sep b wq (bxO g3 27 #[va2, vl2] :: slO asnT 121 va2 A2 :: slO linkT 78 vl2 L2 :: bxO g2 27 #[.slice none 0 0, .slice none 0 0] :: curO v n c 109 :: os)) x.1 x.2.1 x.2.2.1 x.2.2.2.1 x.2.2.2.2)) (F := (fun x => (fun j A2 va2 L2 vl2 => [(9, I j), (8, I k), (0, .pointer (some ⟨c, 0, none⟩)), (2, .pointer (some ⟨g2, 0, none⟩)), (3, .pointer (some ⟨g3, 0, none⟩)), (4, I (1 + y16))]) x.1 x.2.1 x.2.2.1 x.2.2.2.1 x.2.2.2.2)) (μ := (fun x => (fun j A2 va2 L2 vl2 => j.toNat) x.1 x.2.1 x.2.2.1 x.2.2.2.1 x.2.2.2.2)) (j - 1, A2, (.slice (some ⟨Gva2, 0, none⟩) A2.length Cva2), L2, vl2) ?_ (by exact ⟨rfl, rfl, rfl, rfl, rfl, rfl, trivial⟩) (by (try dsimp only); omega)
              try dsimp only
              exact ⟨by omega, by omega, hA2, hK2, ⟨m2, by omega, hG2⟩, B, S⟩
        · intro hj
          refine w_exit ?_
          refine x_then_exit ?_
          refine x_then_exit ?_
          refine x_block_exit ?_
          refine x_seq ?_
          refine w_seq ?_
          refine w_region ?_
          refine t_move rfl ?_ rfl
          refine t_move rfl ?_ rfl
          refine t_move rfl ?_ rfl
          refine t_move rfl ?_ rfl
          refine t_sub rfl rfl (by omega) ?_ rfl
          refine t_add rfl rfl (by omega) ?_ rfl
          have S := S.f4
          refine t_callf Try.call64 rfl (spec_l1Below ((k - (1 + y16)) + 1) S (K.below B)) ?_ rfl
          rintro e w104 ⟨y115, rfl, hf115, S, x105⟩
          refine ⟨_, rfl, ?_⟩
          have B := B.trans x105
          refine t_add rfl rfl (by omega) ?_ rfl
          refine t_assign rfl ?_ rfl
          refine t_done ?_
          refine x_seq ?_
          refine w_seq ?_
          refine w_region ?_
          refine t_move rfl ?_ rfl
          refine t_move rfl ?_ rfl
          refine t_lss rfl rfl ?_ rfl
          refine t_move rfl ?_ rfl
          have hadd : (1 + y16) + y115 < k → Grown N (m2 + 1) (addL L2 ((1 + y16) + y115) k 3) := fun h => hG2.add _ k 3 (by omega) h (by omega) (by omega) (by omega)
          refine t_partp (t := 120) rfl ?_ ?_
          · intro h1
            refine t_on rfl rfl ?_
            refine t_move rfl ?_ rfl
            refine t_on rfl rfl ?_
            refine t_callf Try.call116 rfl (spec_l1Once 3 S (K.below B)) ?_ rfl
            rintro e w106 ⟨y122, rfl, hf122, S, x107⟩
            refine ⟨_, rfl, ?_⟩
            have B := B.trans x107
            refine t_pickt rfl rfl ?_ rfl
            refine t_done ?_
            refine x_seq ?_
            refine w_if rfl ?_ ?_
            · intro h2
              refine w_region ?_
              refine t_move rfl ?_ rfl
              refine t_move rfl ?_ rfl
              have S := S.f3
              have S := S.f3
              have S := S.f3
              refine t_callf Try.call120 rfl (spec_l5Add ((1 + y16) + y115) k 3 S (by omega)) ?_ rfl
              rintro e w108 ⟨v126, rfl, S, x109⟩
              refine ⟨_, rfl, ?_⟩
              have B := B.trans x109
              refine t_done ?_
              refine x_block_normal ?_
              refine x_seq ?_
              refine w_region ?_
              refine t_move rfl ?_ rfl
              refine t_add rfl rfl (by omega) ?_ rfl
              refine t_assign rfl ?_ rfl
              refine t_done ?_
              have S := S.f3
              have S := S.f4
              have S := S.f4
              have S := S.f4
              have S := S.f4
              refine x_round (X := Int × List ASd × Value × List Lnk × Value) (I := (fun x wq => (fun k A va L vl => 1 ≤ k ∧ 1 + y16 ≤ k ∧ k ≤ N ∧ A.length = N ∧ (∀ x ∈ A, AsK x) ∧ (∃ m : Nat, (m : Int) ≤ 6 + 3 * k ∧ Grown N m L) ∧ Below b w wq ∧ Sep b wq (bxO g3 27 #[va, vl] :: slO asnT 121 va A :: slO linkT 78 vl L :: bxO g2 27 #[.slice none 0 0, .slice none 0 0] :: curO v n c 109 :: os)) x.1 x.2.1 x.2.2.1 x.2.2.2.1 x.2.2.2.2)) (F := (fun x => (fun k A va L vl => [(8, I k), (0, .pointer (some ⟨c, 0, none⟩)), (2, .pointer (some ⟨g2, 0, none⟩)), (3, .pointer (some ⟨g3, 0, none⟩)), (4, I (1 + y16))]) x.1 x.2.1 x.2.2.1 x.2.2.2.1 x.2.2.2.2)) (μ := (fun x => (fun k A va L vl => ((N : Int) - k).toNat) x.1 x.2.1 x.2.2.1 x.2.2.2.1 x.2.2.2.2)) (k + 1, A2, va2, addL L2 ((1 + y16) + y115) k 3, v126) ?_ (by exact ⟨rfl, rfl, rfl, rfl, rfl, trivial⟩) (by (try dsimp only); omega)
              try dsimp only
              exact ⟨by omega, by omega, by omega, hA2, hK2, ⟨_, by omega, hadd h1⟩, B, S⟩
            · intro h2
              refine w_skip ?_
              refine x_block_normal ?_
              refine x_seq ?_
              refine w_region ?_
              refine t_move rfl ?_ rfl
              refine t_add rfl rfl (by omega) ?_ rfl
              refine t_assign rfl ?_ rfl
              refine t_done ?_
              have S := S.f4
              have S := S.f4
              have S := S.f4
              have S := S.f4
              refine x_round (X := Int × List ASd × Value × List Lnk × Value) (I := (fun x wq => (fun k A va L vl => 1 ≤ k ∧ 1 + y16 ≤ k ∧ k ≤ N ∧ A.length = N ∧ (∀ x ∈ A, AsK x) ∧ (∃ m : Nat, (m : Int) ≤ 6 + 3 * k ∧ Grown N m L) ∧ Below b w wq ∧ Sep b wq (bxO g3 27 #[va, vl] :: slO asnT 121 va A :: slO linkT 78 vl L :: bxO g2 27 #[.slice none 0 0, .slice none 0 0] :: curO v n c 109 :: os)) x.1 x.2.1 x.2.2.1 x.2.2.2.1 x.2.2.2.2)) (F := (fun x => (fun k A va L vl => [(8, I k), (0, .pointer (some ⟨c, 0, none⟩)), (2, .pointer (some ⟨g2, 0, none⟩)), (3, .pointer (some ⟨g3, 0, none⟩)), (4, I (1 + y16))]) x.1 x.2.1 x.2.2.1 x.2.2.2.1 x.2.2.2.2)) (μ := (fun x => (fun k A va L vl => ((N : Int) - k).toNat) x.1 x.2.1 x.2.2.1 x.2.2.2.1 x.2.2.2.2)) (k + 1, A2, va2, L2, vl2) ?_ (by exact ⟨rfl, rfl, rfl, rfl, rfl, trivial⟩) (by (try dsimp only); omega)
              try dsimp only
              exact ⟨by omega, by omega, by omega, hA2, hK2, ⟨m2, by omega, hG2⟩, B, S⟩
          · intro h1
            refine t_off rfl rfl rfl ?_ rfl
            refine t_off rfl rfl rfl ?_ rfl
            refine t_pickf rfl rfl ?_ rfl
            refine t_done ?_
            refine x_seq ?_
            refine w_no rfl ?_
            refine w_skip ?_
            refine x_block_normal ?_
            refine x_seq ?_
            refine w_region ?_
            refine t_move rfl ?_ rfl
            refine t_add rfl rfl (by omega) ?_ rfl
            refine t_assign rfl ?_ rfl
            refine t_done ?_
            have S := S.f4
            have S := S.f4
            have S := S.f4
            have S := S.f4
            refine x_round (X := Int × List ASd × Value × List Lnk × Value) (I := (fun x wq => (fun k A va L vl => 1 ≤ k ∧ 1 + y16 ≤ k ∧ k ≤ N ∧ A.length = N ∧ (∀ x ∈ A, AsK x) ∧ (∃ m : Nat, (m : Int) ≤ 6 + 3 * k ∧ Grown N m L) ∧ Below b w wq ∧ Sep b wq (bxO g3 27 #[va, vl] :: slO asnT 121 va A :: slO linkT 78 vl L :: bxO g2 27 #[.slice none 0 0, .slice none 0 0] :: curO v n c 109 :: os)) x.1 x.2.1 x.2.2.1 x.2.2.2.1 x.2.2.2.2)) (F := (fun x => (fun k A va L vl => [(8, I k), (0, .pointer (some ⟨c, 0, none⟩)), (2, .pointer (some ⟨g2, 0, none⟩)), (3, .pointer (some ⟨g3, 0, none⟩)), (4, I (1 + y16))]) x.1 x.2.1 x.2.2.1 x.2.2.2.1 x.2.2.2.2)) (μ := (fun x => (fun k A va L vl => ((N : Int) - k).toNat) x.1 x.2.1 x.2.2.1 x.2.2.2.1 x.2.2.2.2)) (k + 1, A2, va2, L2, vl2) ?_ (by exact ⟨rfl, rfl, rfl, rfl, rfl, trivial⟩) (by (try dsimp only); omega)
            try dsimp only
            exact ⟨by omega, by omega, by omega, hA2, hK2, ⟨m2, by omega, hG2⟩, B, S⟩
      · intro hge3
        refine w_exit ?_
        refine x_then_exit ?_
        refine x_then_exit ?_
        refine x_block_exit ?_
        refine x_seq ?_
        refine w_seq ?_
        refine w_region ?_
        refine t_lit (T := linkT) (css := []) (l := []) link_flat S bs_link0 rfl rfl rfl rfl (Nat.zero_le _) litR_nil ?_ rfl rfl
        intro u127 w110 x111 S
        have B := bx Hb B x111
        refine t_assign rfl ?_ rfl
        refine t_done ?_
        refine x_seq ?_
        refine w_seq ?_
        refine w_seq ?_
        refine w_region ?_
        refine t_assign rfl ?_ rfl
        refine t_done ?_
        refine x_seq ?_
        refine w_block ?_
        have hL := hG.len
        refine w_loop (X := Nat × List Lnk × Value) (fun x wq => (fun k2 L2 vl2 => k2 ≤ L.length ∧ L2.Sublist (L.take k2) ∧ Below b w wq ∧ Sep b wq (slO linkT 78 vl2 L2 :: bxO g3 27 #[va, vl] :: slO asnT 121 va A :: slO linkT 78 vl L :: bxO g2 27 #[.slice none 0 0, .slice none 0 0] :: curO v n c 109 :: os)) x.1 x.2.1 x.2.2) (fun x => (fun k2 L2 vl2 => [(13, I ((k2 : Int))), (12, vl2), (2, .pointer (some ⟨g2, 0, none⟩)), (3, .pointer (some ⟨g3, 0, none⟩))]) x.1 x.2.1 x.2.2) (fun x => (fun k2 L2 vl2 => L.length - k2) x.1 x.2.1 x.2.2) (0, [], _) ?_ ⟨rfl, rfl, rfl, rfl, trivial⟩ ?_
        · exact ⟨by omega, by simp, B, S⟩
        rintro ⟨k2, L2, vl2⟩ w112 hI
        try dsimp only at hI ⊢
        obtain ⟨hk5, hsub, B, S⟩ := hI
        have hl2 := hsub.length_le
        rw [List.length_take] at hl2
        refine w_seq ?_
        refine w_seq ?_
        refine w_region ?_
        refine t_move rfl ?_ rfl
        refine t_fldx fb_topo_1 rfl rfl ?_ rfl
        refine t_bx1 S.tail.box ab_s_link rfl rfl ?_ rfl
        refine t_len e_link (S.tail.tail.tail.sl) rfl rfl ?_ rfl
        refine t_lss rfl rfl ?_ rfl
        refine t_done ?_
        refine x_seq ?_
        refine w_if rfl ?_ ?_
        · intro hlt5
          refine w_skip ?_
          refine x_seq ?_
          refine w_seq ?_
          refine w_block ?_
          refine w_seq ?_
          refine w_draw (.st .take 0 (.st .take 1 (.st .take 2 (.st .take 3 (.st .take 4 (.st .take 5 (.st .run 6 .done))))))) mixed (by kernel_rfl) ?_
          intro w113 x114
          have B := bx Hb B x114
          have S := S.below x114
          refine t_bxn S.tail.box ab_topo sb_topo rfl rfl ?_ rfl
          refine t_fldx fb_topo_1 rfl rfl ?_ rfl
          refine t_bx1 S.tail.box ab_s_link rfl rfl ?_ rfl
          refine t_move rfl ?_ rfl
          obtain ⟨e139, he139⟩ : ∃ e, (L)[k2]? = some e := getx (by omega)
          refine t_idx e_link (k := k2) (S.tail.tail.tail.sl) he139 (Below.refl _ _) rfl rfl (by first | rfl | omega) ?_ rfl
          intro p139 hp139
          refine t_lda (by assumption) ab_link sb_link (Below.refl _ _) rfl ?_ rfl
          intro v140 hv140
          obtain rfl := link_va hv140
          refine t_call Try.call121 rfl (spec_l5LinkOk A L _ _ _ _ (topo_mkv (S.tail.tail.sl) (S.tail.tail.tail.sl)) (by first | assumption | exact VA.below (by assumption) B) (by simp only [sz_topo]; omega)) ?_ rfl rfl
          rintro e w115 ⟨y141, rfl, x116⟩
          refine ⟨_, rfl, x116, ?_⟩
          have B := bx Hb B x116
          have S := S.below x116
          replace hp139 := hp139.below x116
          refine t_done' ?_
          refine x_seq ?_
          have hsub2 : L2.Sublist (L.take (k2 + 1)) := hsub.trans (List.take_sublist_take_left (by omega))
          refine w_ifb rfl ?_ ?_
          · intro hb
            refine w_region ?_
            refine t_move rfl ?_ rfl
            refine t_fldx fb_topo_1 rfl rfl ?_ rfl
            refine t_bx1 S.tail.box ab_s_link rfl rfl ?_ rfl
            refine t_move rfl ?_ rfl
            refine t_idx e_link (k := k2) (S.tail.tail.tail.sl) he139 (Below.refl _ _) rfl rfl (by first | rfl | omega) ?_ rfl
            intro p146 hp146
            refine t_lda (by assumption) ab_link sb_link (Below.refl _ _) rfl ?_ rfl
            intro v147 hv147
            obtain rfl := link_va hv147
            refine t_lit (T := linkT) (l := [(e139 : Lnk)]) (css := [[I e139.a, I e139.ai, I e139.b, I e139.bi, I e139.kind]]) link_flat S (fun w => bs_link1 _ _ _ _ _ w) rfl rfl rfl rfl (by simp [maxLen]) (litR_one fun _ => rfl) ?_ rfl rfl
            intro u148 w117 x118 S
            have B := bx Hb B x118
            have hR := S.sl
            have S := S.f1
            refine t_cat link_flat e_link S hR rfl rfl rfl (by first | omega | (simp [-List.length_flatMap]; omega)) (by (simp [maxLen, -List.length_flatMap]; try omega)) ?_ rfl
            intro v149 w119 x120 S
            have B := B.trans x120
            clear hR
            have S := S.f1
            have S := S.tail
            refine t_assign rfl ?_ rfl
            refine t_done ?_
            refine x_block_normal ?_
            refine x_seq ?_
            refine w_region ?_
            refine t_move rfl ?_ rfl
            refine t_add rfl rfl (by omega) ?_ rfl
            refine t_assign rfl ?_ rfl
            refine t_done ?_
            refine x_round (X := Nat × List Lnk × Value) (I := (fun x wq => (fun k2 L2 vl2 => k2 ≤ L.length ∧ L2.Sublist (L.take k2) ∧ Below b w wq ∧ Sep b wq (slO linkT 78 vl2 L2 :: bxO g3 27 #[va, vl] :: slO asnT 121 va A :: slO linkT 78 vl L :: bxO g2 27 #[.slice none 0 0, .slice none 0 0] :: curO v n c 109 :: os)) x.1 x.2.1 x.2.2)) (F := (fun x => (fun k2 L2 vl2 => [(13, I ((k2 : Int))), (12, vl2), (2, .pointer (some ⟨g2, 0, none⟩)), (3, .pointer (some ⟨g3, 0, none⟩))]) x.1 x.2.1 x.2.2)) (μ := (fun x => (fun k2 L2 vl2 => L.length - k2) x.1 x.2.1 x.2.2)) (k2 + 1, L2 ++ [e139], v149) ?_ (by exact ⟨rfl, rfl, rfl, rfl, trivial⟩) (by (try dsimp only); omega)
            try dsimp only
            refine ⟨by omega, ?_, B, S⟩
            rw [take_succ he139]
            exact hsub.append (List.Sublist.refl _)
          · intro hb
            refine w_skip ?_
            refine x_block_normal ?_
            refine x_seq ?_
            refine w_region ?_
            refine t_move rfl ?_ rfl
            refine t_add rfl rfl (by omega) ?_ rfl
            refine t_assign rfl ?_ rfl
            refine t_done ?_
            refine x_round (X := Nat × List Lnk × Value) (I := (fun x wq => (fun k2 L2 vl2 => k2 ≤ L.length ∧ L2.Sublist (L.take k2) ∧ Below b w wq ∧ Sep b wq (slO linkT 78 vl2 L2 :: bxO g3 27 #[va, vl] :: slO asnT 121 va A :: slO linkT 78 vl L :: bxO g2 27 #[.slice none 0 0, .slice none 0 0] :: curO v n c 109 :: os)) x.1 x.2.1 x.2.2)) (F := (fun x => (fun k2 L2 vl2 => [(13, I ((k2 : Int))), (12, vl2), (2, .pointer (some ⟨g2, 0, none⟩)), (3, .pointer (some ⟨g3, 0, none⟩))]) x.1 x.2.1 x.2.2)) (μ := (fun x => (fun k2 L2 vl2 => L.length - k2) x.1 x.2.1 x.2.2)) (k2 + 1, L2, vl2) ?_ (by exact ⟨rfl, rfl, rfl, rfl, trivial⟩) (by (try dsimp only); omega)
            try dsimp only
            exact ⟨by omega, hsub2, B, S⟩
        · intro hge5
          refine w_exit ?_
          refine x_then_exit ?_
          refine x_then_exit ?_
          refine x_block_exit ?_
          refine x_seq ?_
          refine w_seq ?_
          refine w_region ?_
          refine t_move rfl ?_ rfl
          refine t_fldx fb_topo_1 rfl rfl ?_ rfl
          obtain ⟨Avl2, cvl2, rfl, _⟩ := S.sl.form
          have S := S.f1
          refine t_st1 S sb_s_link rfl rfl rfl rfl rfl ?_
          intro w121 b122 S
          have B := B.trans b122
          refine t_done ?_
          refine x_seq ?_
          refine w_seq ?_
          refine w_region ?_
          refine t_bxn S.box ab_topo sb_topo rfl rfl ?_ rfl
          have S := S.f4
          refine t_stn S sb_topo rfl rfl rfl rfl (by intro zz hu; have hu : zz ∈ ([va, .slice Avl2 L2.length cvl2] : List Value) := hu; simp only [List.mem_cons, List.not_mem_nil, or_false] at hu; rcases hu with rfl | rfl <;> first | rfl | exact (SlR.cells (by first | assumption | exact S.tail.sl | exact S.tail.tail.sl | exact S.tail.tail.tail.sl | exact S.tail.tail.tail.tail.sl | exact S.tail.tail.tail.tail.tail.sl | exact S.tail.tail.tail.tail.tail.tail.sl | exact S.tail.tail.tail.tail.tail.tail.tail.sl | exact S.tail.tail.tail.tail.tail.tail.tail.tail.sl)).2) ?_
          intro w123 b124 S
          have B := B.trans b124
          refine t_done ?_
          refine x_seq ?_
          refine w_ret ?_
          refine x_retc rfl rfl S.box ab_topo sb_topo rfl ?_
          exact ⟨va, _, A, L2, rfl, ⟨⟨by omega, by omega, hK⟩, m, L, by omega, by rw [hA]; exact hG, by rw [List.take_of_length_le (by omega)] at hsub; exact hsub⟩, S.tail.tail.f2.tail.f1, B⟩
end Go.Proofs.Ytdaecknfahgddaa
