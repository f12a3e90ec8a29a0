/- What LawFnSteps needs of the texts below it, part 2: contracts of functions, plain lemmas. (Put together by slim.py.) -/
import Derived.Test.YtdaecknfahgddaaSLawFnSteps1
namespace Go.Proofs.Ytdaecknfahgddaa
open Go.RowKit
set_option linter.unusedVariables false
set_option maxRecDepth 20000
theorem SlR.takeV {α : Type} {T : Ty α} {w : World} {A : Option Addr} {c k n' : Nat} {l : List α} (h : SlR T w (.slice A n' c) l) (hk : k ≤ l.length) : SlR T w (.slice A k c) (l.take k) := by
  obtain ⟨A', c', css, e, h1, h2, h3, h4⟩ := h
  cases e
  have hall : ∀ (i : Nat) cs, css[i]? = some cs → cs.length = T.size := fun i cs hi => by
    have hlt : i < l.length := by rw [← h2]; exact (List.getElem?_eq_some_iff.1 hi).1
    exact T.len _ _ _ (h4 i cs _ hi (List.getElem?_eq_getElem hlt))
  have hlen : (l.take k).length = k := by rw [List.length_take]; omega
  refine ⟨A, c, css.take k, by rw [hlen], by omega, by rw [hlen, List.length_take]; omega, fun hp => ?_, fun i cs x hi hx => ?_⟩
  · rw [flatten_take hall] at hp ⊢
    have hp' : 0 < css.flatten.length := by rw [List.length_take] at hp; omega
    obtain ⟨g, o, rfl, hg⟩ := h3 hp'
    refine ⟨g, o, rfl, fun j u hu => hg j u ?_⟩
    rw [List.getElem?_take] at hu
    split at hu
    · exact hu
    · cases hu
  · rw [List.getElem?_take] at hi hx
    split at hi
    · rename_i hik
      rw [if_pos hik] at hx
      exact h4 i cs x hi hx
    · cases hi
/-- append of plain elements onto an empty literal: only new memory. -/
theorem t_cat0 {P : Program} {n : Nat} {ops : Array Oper} {Q : Exit → Act → World → Prop} {L : Frm} {w : World} {r : IT} {d : Nat} {ty : TypeId} {pos : String} {af : Array Edge} {b : Nat} {os : List Ow}
    {α : Type} {T : Ty α} (hT : ∀ base w cs a, T.R w cs a → T.O base w cs a []) {t e : TypeId} {bytes : Nat} (et : ElemT P t e T.size bytes) {s x : Operand} {ar : Array TypeId} {A0 : Option Addr} {u : Value} {l' : List α} (S : Sep b w (slO T e (.slice A0 0 0) ([] : List α) :: os)) (hR : SlR T w u l') (hs : ev L s = some (.slice A0 0 0)) (hx : ev L x = some u) (har : ar = #[t, t])
    (hby : l'.length * bytes ≤ 140737488355328) (h63 : l'.length ≤ maxLen)
    (k : ∀ v' w', Ext w w' → Sep b w' (slO T e v' ([] ++ l') :: os) → WT P n ops Q r ((d, v') :: L) w') (hn : Nat.blt d n = true) : WT P n ops Q (.st .run ⟨some d, .call ⟨.builtin .append, #[s, x], ar⟩, ty, pos, af, none⟩ r) L w := by
  obtain ⟨A, c, css, rfl, h1, h2, h3, h4⟩ := hR
  have hO : (elsO T css l').P w.heap.size w [] := by
    refine ⟨l'.map fun _ => [], h2, by simp, fun i cs a f hi ha hf => ?_, by simp, List.nodup_nil⟩
    simp at hf
    obtain ⟨_, _, rfl⟩ := hf
    exact hT _ _ _ _ (h4 i cs a hi ha)
  exact t_mv0 et ((S.add (o := elsO T css l') (fp := []) (Below.refl _ _) hO).f1) h3 rfl hs hx har hby h63 k hn
/-- A number in its place among ascending ones, once. -/
def putL : List Int → Int → List Int
  | [], n => [n]
  | a :: t, n => if a < n then a :: putL t n else if a = n then a :: t else n :: a :: t
theorem putL_len (l : List Int) (n : Int) : (putL l n).length ≤ l.length + 1 := by
  induction l with
  | nil => simp [putL]
  | cons a t ih =>
    unfold putL
    split
    · simp; exact ih
    · split <;> simp
theorem mem_putL {l : List Int} {n x : Int} : x ∈ putL l n ↔ x = n ∨ x ∈ l := by
  induction l with
  | nil => simp [putL]
  | cons a t ih =>
    unfold putL
    split
    · simp [ih]; constructor
      · rintro (h | h | h) <;> simp [h]
      · rintro (h | h | h) <;> simp [h]
    · split
      · rename_i h; subst h; simp
      · simp
theorem spec_l5Put {b : Nat} {w : World} {u : Value} {l : List Int} {os : List Ow} (n : Int) (S : Sep b w (slO intT 3 u l :: os)) (hz : l.length ≤ 16777216) : Calls Try.prog 136 #[u, I n] w fun e w' => ∃ v, e = .returned v ∧ Sep b w' (slO intT 3 v (putL l n) :: os) ∧ Below b w w' := by
  have X0 := Below.refl w.heap.size w
  refine enter Try.func136 rfl Try.ntmps136 rfl ?_
  have B := Below.refl b w
  have Hb := S.base
  refine w_seq ?_
  refine w_region ?_
  refine t_assign rfl ?_ rfl
  refine t_done ?_
  refine x_seq ?_
  refine w_seq ?_
  refine w_region ?_
  refine t_assign rfl ?_ rfl
  refine t_done ?_
  refine x_seq ?_
  refine w_seq ?_
  refine w_block ?_
  refine w_loop (X := Nat) (fun k wq => k ≤ l.length ∧ putL l n = l.take k ++ putL (l.drop k) n ∧ Below b w wq ∧ Sep b wq (slO intT 3 u l :: os)) (fun k => [(5, I ((k : Int))), (0, u), (1, I n), (4, .slice none 0 0)]) (fun k => l.length - k) (0) ?_ ⟨rfl, rfl, rfl, rfl, trivial⟩ ?_
  · exact ⟨by omega, by simp, B, S⟩
  rintro k w17 hI
  try dsimp only at hI ⊢
  obtain ⟨hk, hp, B, S⟩ := hI
  refine w_seq ?_
  refine w_seq ?_
  refine w_region ?_
  refine t_move rfl ?_ rfl
  refine t_move rfl ?_ rfl
  refine t_len e_int (S.sl) rfl rfl ?_ rfl
  refine t_lss rfl rfl ?_ rfl
  refine t_move rfl ?_ rfl
  have done : k = l.length → putL l n = l.take k ++ [n] ++ l.drop k := fun e => by
    rw [hp, List.drop_eq_nil_of_le (by omega)]; simp [putL]
  refine t_partp (t := 10) rfl ?_ ?_
  · intro h1
    refine t_on rfl rfl ?_
    refine t_move rfl ?_ rfl
    refine t_on rfl rfl ?_
    refine t_move rfl ?_ rfl
    refine t_on rfl rfl ?_
    obtain ⟨e13, he13⟩ : ∃ e, (l)[k]? = some e := getx (by omega)
    refine t_idx e_int (k := k) (S.sl) he13 (Below.refl _ _) rfl rfl (by first | rfl | omega) ?_ rfl
    intro p13 hp13
    refine t_on rfl rfl ?_
    refine t_ldi (by assumption) ab_int (Below.refl _ _) rfl ?_ rfl
    refine t_on rfl rfl ?_
    refine t_move rfl ?_ rfl
    refine t_on rfl rfl ?_
    refine t_lss rfl rfl ?_ rfl
    refine t_pickt rfl rfl ?_ rfl
    refine t_done ?_
    refine x_seq ?_
    have hd : l.drop k = e13 :: l.drop (k + 1) := by
      rw [List.drop_eq_getElem_cons (by omega)]
      rw [List.getElem?_eq_getElem (by omega)] at he13
      cases he13; rfl
    refine w_if rfl ?_ ?_
    · intro h2
      refine w_skip ?_
      refine x_seq ?_
      refine w_block ?_
      refine w_region ?_
      refine t_move rfl ?_ rfl
      refine t_add rfl rfl (by omega) ?_ rfl
      refine t_assign rfl ?_ rfl
      refine t_done ?_
      refine x_block_normal ?_
      refine x_round (X := Nat) (I := (fun k wq => k ≤ l.length ∧ putL l n = l.take k ++ putL (l.drop k) n ∧ Below b w wq ∧ Sep b wq (slO intT 3 u l :: os))) (F := (fun k => [(5, I ((k : Int))), (0, u), (1, I n), (4, .slice none 0 0)])) (μ := (fun k => l.length - k)) (k + 1) ?_ (by exact ⟨rfl, rfl, rfl, rfl, trivial⟩) (by (try dsimp only); omega)
      try dsimp only
      refine ⟨by omega, ?_, B, S⟩
      rw [hp, hd, List.take_add_one, he13]
      simp [putL, h2]
    · intro h2
      refine w_exit ?_
      refine x_then_exit ?_
      refine x_then_exit ?_
      refine x_block_exit ?_
      refine x_seq ?_
      refine w_seq ?_
      refine w_seq ?_
      refine w_region ?_
      refine t_move rfl ?_ rfl
      refine t_move rfl ?_ rfl
      refine t_len e_int (S.sl) rfl rfl ?_ rfl
      refine t_lss rfl rfl ?_ rfl
      refine t_move rfl ?_ rfl
      refine t_partp (t := 24) rfl ?_ ?_
      · intro h3
        refine t_on rfl rfl ?_
        refine t_move rfl ?_ rfl
        refine t_on rfl rfl ?_
        refine t_move rfl ?_ rfl
        refine t_on rfl rfl ?_
        refine t_idx e_int (k := k) (S.sl) he13 (Below.refl _ _) rfl rfl (by first | rfl | omega) ?_ rfl
        intro p27 hp27
        refine t_on rfl rfl ?_
        refine t_ldi (by assumption) ab_int (Below.refl _ _) rfl ?_ rfl
        refine t_on rfl rfl ?_
        refine t_move rfl ?_ rfl
        refine t_on rfl rfl ?_
        refine t_eql rfl rfl ?_ rfl
        refine t_pickt rfl rfl ?_ rfl
        refine t_done ?_
        refine x_seq ?_
        refine w_if rfl ?_ ?_
        · intro h4
          refine w_seq ?_
          refine w_region ?_
          refine t_move rfl ?_ rfl
          refine t_assign rfl ?_ rfl
          refine t_done ?_
          refine x_seq ?_
          refine w_ret ?_
          refine x_then_ret ?_
          refine x_ret1 rfl rfl ?_
          have hq : putL l n = l := by
            rw [hp, hd, putL, if_neg h2, if_pos h4, ← hd, List.take_append_drop]
          exact ⟨_, rfl, by rw [hq]; exact S, B⟩
        · intro h4
          refine w_skip ?_
          refine x_seq ?_
          refine w_seq ?_
          refine w_drawP [1, 2, 3, 5, 8, 9, 10] (.alt (.st .run 0 (.alt (.st .run 4 (.st .run 6 (.st .fin 7 (.st .fin 11 (.st .fin 12 .done))))) (.st .run 6 (.st .run 4 (.st .fin 7 (.st .fin 11 (.st .fin 12 .done))))))) (.st .run 6 (.st .run 0 (.st .run 4 (.st .fin 7 (.st .fin 11 (.st .fin 12 .done))))))) mixed (by kernel_rfl) ?_
          intro w18 x19
          have B := bx Hb B x19
          have S := S.below x19
          replace hp13 := hp13.below x19
          replace hp27 := hp27.below x19
          refine p_move rfl ?_ rfl
          refine p_move rfl ?_ rfl
          obtain ⟨Au, cu, rfl, _⟩ := S.sl.form
          refine p_sltv e_int (k := k) rfl rfl (by first | rfl | omega) (by omega) ?_ rfl
          refine p_move rfl ?_ rfl
          refine p_move rfl ?_ rfl
          refine p_move rfl ?_ rfl
          refine p_sldv e_int (k := k) rfl rfl (by first | rfl | omega) (by omega) (by omega) ?_ rfl
          refine p_done ?_
          have hq : putL l n = ([] ++ l.take k) ++ [n] ++ l.drop k := by
            rw [hp, hd, putL, if_neg h2, if_neg h4]; simp
          have hkl : (l.take k).length = k := by rw [List.length_take]; omega
          have hkd : (l.drop k).length = l.length - k := by rw [List.length_drop]
          refine t_alt ?_ ?_
          · refine t_lit0 (T := intT) S bs_int0 rfl ?_ rfl rfl
            intro A33 w20 x21 S
            have B := bx Hb B x21
            refine t_alt ?_ ?_
            · have hR := (SlR.takeV S.tail.sl (by omega))
              refine t_cat0 int_flat e_int S hR rfl rfl rfl (by first | omega | (simp [-List.length_flatMap]; omega)) (by (simp [maxLen, -List.length_flatMap]; try omega)) ?_ rfl
              intro v37 w22 x23 S
              have B := bx Hb B x23
              clear hR
              refine t_lit (T := intT) (l := [n]) (css := ([n]).map fun a => [I a]) int_flat S (fun w => bs_int1 _ w) rfl rfl rfl rfl (by simp [maxLen]) (litR_int _) ?_ rfl rfl
              intro u39 w24 x25 S
              have B := bx Hb B x25
              have hR := S.sl
              have S := S.f1
              refine t_cat int_flat e_int S hR rfl rfl rfl (by first | omega | (simp [-List.length_flatMap]; omega)) (by (simp [maxLen, -List.length_flatMap]; try omega)) ?_ rfl
              intro v40 w26 x27 S
              have B := B.trans x27
              clear hR
              have S := S.f1
              have S := S.tail
              have hR := (SlR.drop S.tail.sl (by omega))
              refine t_cat int_flat e_int S hR rfl rfl rfl (by first | omega | (simp [-List.length_flatMap]; omega)) (by (simp [maxLen, -List.length_flatMap]; try omega)) ?_ rfl
              intro v44 w28 x29 S
              have B := B.trans x29
              clear hR
              refine t_assign rfl ?_ rfl
              refine t_done' ?_
              refine x_seq ?_
              refine w_ret ?_
              refine x_ret1 rfl rfl ?_
              exact ⟨_, rfl, by rw [hq]; exact S.f1.tail, B⟩
            · refine t_lit (T := intT) (l := [n]) (css := ([n]).map fun a => [I a]) int_flat S (fun w => bs_int1 _ w) rfl rfl rfl rfl (by simp [maxLen]) (litR_int _) ?_ rfl rfl
              intro u39 w30 x31 S
              have B := bx Hb B x31
              have hR := (SlR.takeV S.tail.tail.sl (by omega))
              have S := S.f1
              refine t_cat0 int_flat e_int S hR rfl rfl rfl (by first | omega | (simp [-List.length_flatMap]; omega)) (by (simp [maxLen, -List.length_flatMap]; try omega)) ?_ rfl
              intro v37 w32 x33 S
              have B := bx Hb B x33
              clear hR
              have hR := S.tail.sl
              refine t_cat int_flat e_int S hR rfl rfl rfl (by first | omega | (simp [-List.length_flatMap]; omega)) (by (simp [maxLen, -List.length_flatMap]; try omega)) ?_ rfl
              intro v40 w34 x35 S
              have B := B.trans x35
              clear hR
              have S := S.f1
              have S := S.tail
              have hR := (SlR.drop S.tail.sl (by omega))
              refine t_cat int_flat e_int S hR rfl rfl rfl (by first | omega | (simp [-List.length_flatMap]; omega)) (by (simp [maxLen, -List.length_flatMap]; try omega)) ?_ rfl
              intro v44 w36 x37 S
              have B := B.trans x37
              clear hR
              refine t_assign rfl ?_ rfl
              refine t_done' ?_
              refine x_seq ?_
              refine w_ret ?_
              refine x_ret1 rfl rfl ?_
              exact ⟨_, rfl, by rw [hq]; exact S.f1.tail, B⟩
          · refine t_lit (T := intT) (l := [n]) (css := ([n]).map fun a => [I a]) int_flat S (fun w => bs_int1 _ w) rfl rfl rfl rfl (by simp [maxLen]) (litR_int _) ?_ rfl rfl
            intro u39 w38 x39 S
            have B := bx Hb B x39
            refine t_lit0 (T := intT) S bs_int0 rfl ?_ rfl rfl
            intro A33 w40 x41 S
            have B := bx Hb B x41
            have hR := (SlR.takeV S.tail.tail.sl (by omega))
            refine t_cat0 int_flat e_int S hR rfl rfl rfl (by first | omega | (simp [-List.length_flatMap]; omega)) (by (simp [maxLen, -List.length_flatMap]; try omega)) ?_ rfl
            intro v37 w42 x43 S
            have B := bx Hb B x43
            clear hR
            have hR := S.tail.sl
            refine t_cat int_flat e_int S hR rfl rfl rfl (by first | omega | (simp [-List.length_flatMap]; omega)) (by (simp [maxLen, -List.length_flatMap]; try omega)) ?_ rfl
            intro v40 w44 x45 S
            have B := B.trans x45
            clear hR
            have S := S.f1
            have S := S.tail
            have hR := (SlR.drop S.tail.sl (by omega))
            refine t_cat int_flat e_int S hR rfl rfl rfl (by first | omega | (simp [-List.length_flatMap]; omega)) (by (simp [maxLen, -List.length_flatMap]; try omega)) ?_ rfl
            intro v44 w46 x47 S
            have B := B.trans x47
            clear hR
            refine t_assign rfl ?_ rfl
            refine t_done' ?_
            refine x_seq ?_
            refine w_ret ?_
            refine x_ret1 rfl rfl ?_
            exact ⟨_, rfl, by rw [hq]; exact S.f1.tail, B⟩
      · intro h3
        omega
  · intro h1
    refine t_off rfl rfl rfl ?_ rfl
    refine t_off rfl rfl rfl ?_ rfl
    refine t_off rfl rfl rfl ?_ rfl
    refine t_off rfl rfl rfl ?_ rfl
    refine t_off rfl rfl rfl ?_ rfl
    refine t_off rfl rfl rfl ?_ rfl
    refine t_pickf rfl rfl ?_ rfl
    refine t_done ?_
    refine x_seq ?_
    refine w_no rfl ?_
    refine w_exit ?_
    refine x_then_exit ?_
    refine x_then_exit ?_
    refine x_block_exit ?_
    refine x_seq ?_
    refine w_seq ?_
    refine w_seq ?_
    refine w_region ?_
    refine t_move rfl ?_ rfl
    refine t_move rfl ?_ rfl
    refine t_len e_int (S.sl) rfl rfl ?_ rfl
    refine t_lss rfl rfl ?_ rfl
    refine t_move rfl ?_ rfl
    refine t_partp (t := 24) rfl ?_ ?_
    · intro h3
      omega
    · intro h3
      refine t_off rfl rfl rfl ?_ rfl
      refine t_off rfl rfl rfl ?_ rfl
      refine t_off rfl rfl rfl ?_ rfl
      refine t_off rfl rfl rfl ?_ rfl
      refine t_off rfl rfl rfl ?_ rfl
      refine t_off rfl rfl rfl ?_ rfl
      refine t_pickf rfl rfl ?_ rfl
      refine t_done ?_
      refine x_seq ?_
      refine w_no rfl ?_
      refine w_skip ?_
      refine x_seq ?_
      refine w_seq ?_
      refine w_drawP [1, 2, 3, 5, 8, 9, 10] (.alt (.st .run 0 (.alt (.st .run 4 (.st .run 6 (.st .fin 7 (.st .fin 11 (.st .fin 12 .done))))) (.st .run 6 (.st .run 4 (.st .fin 7 (.st .fin 11 (.st .fin 12 .done))))))) (.st .run 6 (.st .run 0 (.st .run 4 (.st .fin 7 (.st .fin 11 (.st .fin 12 .done))))))) mixed (by kernel_rfl) ?_
      intro w48 x49
      have B := bx Hb B x49
      have S := S.below x49
      refine p_move rfl ?_ rfl
      refine p_move rfl ?_ rfl
      obtain ⟨Au, cu, rfl, _⟩ := S.sl.form
      refine p_sltv e_int (k := k) rfl rfl (by first | rfl | omega) (by omega) ?_ rfl
      refine p_move rfl ?_ rfl
      refine p_move rfl ?_ rfl
      refine p_move rfl ?_ rfl
      refine p_sldv e_int (k := k) rfl rfl (by first | rfl | omega) (by omega) (by omega) ?_ rfl
      refine p_done ?_
      have hq : putL l n = ([] ++ l.take k) ++ [n] ++ l.drop k := by rw [done (by omega)]; simp
      have hkl : (l.take k).length = k := by rw [List.length_take]; omega
      have hkd : (l.drop k).length = l.length - k := by rw [List.length_drop]
      refine t_alt ?_ ?_
      · refine t_lit0 (T := intT) S bs_int0 rfl ?_ rfl rfl
        intro A33 w50 x51 S
        have B := bx Hb B x51
        refine t_alt ?_ ?_
        · have hR := (SlR.takeV S.tail.sl (by omega))
          refine t_cat0 int_flat e_int S hR rfl rfl rfl (by first | omega | (simp [-List.length_flatMap]; omega)) (by (simp [maxLen, -List.length_flatMap]; try omega)) ?_ rfl
          intro v37 w52 x53 S
          have B := bx Hb B x53
          clear hR
          refine t_lit (T := intT) (l := [n]) (css := ([n]).map fun a => [I a]) int_flat S (fun w => bs_int1 _ w) rfl rfl rfl rfl (by simp [maxLen]) (litR_int _) ?_ rfl rfl
          intro u39 w54 x55 S
          have B := bx Hb B x55
          have hR := S.sl
          have S := S.f1
          refine t_cat int_flat e_int S hR rfl rfl rfl (by first | omega | (simp [-List.length_flatMap]; omega)) (by (simp [maxLen, -List.length_flatMap]; try omega)) ?_ rfl
          intro v40 w56 x57 S
          have B := B.trans x57
          clear hR
          have S := S.f1
          have S := S.tail
          have hR := (SlR.drop S.tail.sl (by omega))
          refine t_cat int_flat e_int S hR rfl rfl rfl (by first | omega | (simp [-List.length_flatMap]; omega)) (by (simp [maxLen, -List.length_flatMap]; try omega)) ?_ rfl
          intro v44 w58 x59 S
          have B := B.trans x59
          clear hR
          refine t_assign rfl ?_ rfl
          refine t_done' ?_
          refine x_seq ?_
          refine w_ret ?_
          refine x_ret1 rfl rfl ?_
          exact ⟨_, rfl, by rw [hq]; exact S.f1.tail, B⟩
        · refine t_lit (T := intT) (l := [n]) (css := ([n]).map fun a => [I a]) int_flat S (fun w => bs_int1 _ w) rfl rfl rfl rfl (by simp [maxLen]) (litR_int _) ?_ rfl rfl
          intro u39 w60 x61 S
          have B := bx Hb B x61
          have hR := (SlR.takeV S.tail.tail.sl (by omega))
          have S := S.f1
          refine t_cat0 int_flat e_int S hR rfl rfl rfl (by first | omega | (simp [-List.length_flatMap]; omega)) (by (simp [maxLen, -List.length_flatMap]; try omega)) ?_ rfl
          intro v37 w62 x63 S
          have B := bx Hb B x63
          clear hR
          have hR := S.tail.sl
          refine t_cat int_flat e_int S hR rfl rfl rfl (by first | omega | (simp [-List.length_flatMap]; omega)) (by (simp [maxLen, -List.length_flatMap]; try omega)) ?_ rfl
          intro v40 w64 x65 S
          have B := B.trans x65
          clear hR
          have S := S.f1
          have S := S.tail
          have hR := (SlR.drop S.tail.sl (by omega))
          refine t_cat int_flat e_int S hR rfl rfl rfl (by first | omega | (simp [-List.length_flatMap]; omega)) (by (simp [maxLen, -List.length_flatMap]; try omega)) ?_ rfl
          intro v44 w66 x67 S
          have B := B.trans x67
          clear hR
          refine t_assign rfl ?_ rfl
          refine t_done' ?_
          refine x_seq ?_
          refine w_ret ?_
          refine x_ret1 rfl rfl ?_
          exact ⟨_, rfl, by rw [hq]; exact S.f1.tail, B⟩
      · refine t_lit (T := intT) (l := [n]) (css := ([n]).map fun a => [I a]) int_flat S (fun w => bs_int1 _ w) rfl rfl rfl rfl (by simp [maxLen]) (litR_int _) ?_ rfl rfl
        intro u39 w68 x69 S
        have B := bx Hb B x69
        refine t_lit0 (T := intT) S bs_int0 rfl ?_ rfl rfl
        intro A33 w70 x71 S
        have B := bx Hb B x71
        have hR := (SlR.takeV S.tail.tail.sl (by omega))
        refine t_cat0 int_flat e_int S hR rfl rfl rfl (by first | omega | (simp [-List.length_flatMap]; omega)) (by (simp [maxLen, -List.length_flatMap]; try omega)) ?_ rfl
        intro v37 w72 x73 S
        have B := bx Hb B x73
        clear hR
        have hR := S.tail.sl
        refine t_cat int_flat e_int S hR rfl rfl rfl (by first | omega | (simp [-List.length_flatMap]; omega)) (by (simp [maxLen, -List.length_flatMap]; try omega)) ?_ rfl
        intro v40 w74 x75 S
        have B := B.trans x75
        clear hR
        have S := S.f1
        have S := S.tail
        have hR := (SlR.drop S.tail.sl (by omega))
        refine t_cat int_flat e_int S hR rfl rfl rfl (by first | omega | (simp [-List.length_flatMap]; omega)) (by (simp [maxLen, -List.length_flatMap]; try omega)) ?_ rfl
        intro v44 w76 x77 S
        have B := B.trans x77
        clear hR
        refine t_assign rfl ?_ rfl
        refine t_done' ?_
        refine x_seq ?_
        refine w_ret ?_
        refine x_ret1 rfl rfl ?_
        exact ⟨_, rfl, by rw [hq]; exact S.f1.tail, B⟩
/-- The doors of a realm, ascending. -/
def ifsStep (r : Int) (acc : List Int) (x : Lnk) : List Int :=
  let a := if x.a = r then putL acc x.ai else acc
  if x.b = r then putL a x.bi else a
def ifs (l : List Lnk) (r : Int) : List Int := l.foldl (ifsStep r) []
theorem ifs_succ {l : List Lnk} {k : Nat} {x : Lnk} (h : l[k]? = some x) (r : Int) : ifs (l.take (k + 1)) r = ifsStep r (ifs (l.take k) r) x := by
  unfold ifs
  rw [List.take_add_one, h, List.foldl_append]
  rfl
theorem ifsStep_len (r : Int) (acc : List Int) (x : Lnk) : (ifsStep r acc x).length ≤ acc.length + 2 := by
  unfold ifsStep
  dsimp only
  have h1 := putL_len acc x.ai
  have h2 := putL_len (putL acc x.ai) x.bi
  have h3 := putL_len acc x.bi
  split <;> split <;> omega
theorem ifs_len (l : List Lnk) (r : Int) : (ifs l r).length ≤ 2 * l.length := by
  suffices h : ∀ (l : List Lnk) acc, (l.foldl (ifsStep r) acc).length ≤ acc.length + 2 * l.length by have := h l []; simp only [List.length_nil, Nat.zero_add] at this; exact this
  intro l
  induction l with
  | nil => simp
  | cons a t ih =>
    intro acc
    have h1 := ih (ifsStep r acc a)
    have h2 := ifsStep_len r acc a
    simp only [List.foldl_cons, List.length_cons]
    omega
theorem spec_Interfaces0 (t : Topo) (v : Value) (r : Int) (w : World) (h : VA topoT w v t) (hz : t.links.length ≤ 1048576) : Calls Try.prog 132 #[v, I r] w fun e w' => ∃ v fp, e = .returned v ∧ SlO intT 3 w.heap.size w' v (ifs t.links r) fp ∧ Below w.heap.size w w' := by
  have X0 := Below.refl w.heap.size w
  refine enter Try.func132 rfl Try.ntmps132 rfl ?_
  refine w_seq ?_
  refine w_region ?_
  refine t_boxr (by assumption) rfl ?_ rfl rfl
  intro p2 w78 x79 hp2
  replace h := h.below x79
  have X0 := ext_trans X0 x79
  have S := Sep.nil w78
  have B := Below.refl w78.heap.size w78
  have Hb := Nat.le_refl w78.heap.size
  refine t_assign rfl ?_ rfl
  refine t_done ?_
  refine x_seq ?_
  refine w_seq ?_
  refine w_region ?_
  refine t_lit (T := intT) (css := []) (l := []) int_flat S bs_int0 rfl rfl rfl rfl (Nat.zero_le _) litR_nil ?_ rfl rfl
  intro u7 w80 x81 S
  have B := bx Hb B x81
  refine t_assign rfl ?_ rfl
  refine t_done ?_
  refine x_seq ?_
  refine w_seq ?_
  refine w_seq ?_
  refine w_region ?_
  refine t_assign rfl ?_ rfl
  refine t_done ?_
  refine x_seq ?_
  refine w_block ?_
  refine w_loop (X := Nat × Value) (fun x wq => (fun k q => k ≤ t.links.length ∧ Below w78.heap.size w78 wq ∧ Sep w78.heap.size wq [slO intT 3 q (ifs (t.links.take k) r)]) x.1 x.2) (fun x => (fun k q => [(6, I ((k : Int))), (5, q), (1, I r), (2, p2), (4, .slice none 0 0)]) x.1 x.2) (fun x => (fun k q => t.links.length - k) x.1 x.2) (0, _) ?_ ⟨rfl, rfl, rfl, rfl, rfl, trivial⟩ ?_
  · exact ⟨by omega, B, S⟩
  rintro ⟨k, q⟩ w82 hI
  try dsimp only at hI ⊢
  obtain ⟨hk, B, S⟩ := hI
  have hl := ifs_len (t.links.take k) r
  rw [List.length_take] at hl
  refine w_seq ?_
  refine w_seq ?_
  refine w_region ?_
  refine t_move rfl ?_ rfl
  refine t_fld ln_topo_1 (by assumption) fb_topo_1 rfl ?_ rfl
  intro p9 hp9
  refine t_lds (by assumption) ab_s_link B rfl ?_ rfl
  intro v10 hv10
  refine t_len e_link (by assumption) rfl rfl ?_ rfl
  refine t_lss rfl rfl ?_ rfl
  refine t_done ?_
  refine x_seq ?_
  refine w_if rfl ?_ ?_
  · intro hlt
    refine w_skip ?_
    refine x_seq ?_
    refine w_seq ?_
    refine w_block ?_
    refine w_seq ?_
    refine w_seq ?_
    refine w_region ?_
    refine t_fld ln_topo_1 (by assumption) fb_topo_1 rfl ?_ rfl
    intro p15 hp15
    refine t_lds (by assumption) ab_s_link B rfl ?_ rfl
    intro v16 hv16
    refine t_move rfl ?_ rfl
    obtain ⟨e18, he18⟩ : ∃ e, (t.links)[k]? = some e := getx (by omega)
    refine t_idx e_link (k := k) (by assumption) he18 B rfl rfl (by first | rfl | omega) ?_ rfl
    intro p18 hp18
    refine t_fld ln_link_0 (by assumption) fb_link_0 rfl ?_ rfl
    intro p19 hp19
    refine t_ldi (by assumption) ab_int B rfl ?_ rfl
    refine t_move rfl ?_ rfl
    refine t_eql rfl rfl ?_ rfl
    refine t_done ?_
    refine x_seq ?_
    have hs := ifs_succ he18 r
    unfold ifsStep at hs
    dsimp only at hs
    have hl2 := putL_len (ifs (t.links.take k) r) e18.ai
    refine w_if rfl ?_ ?_
    · intro h1
      refine w_region ?_
      refine t_move rfl ?_ rfl
      refine t_fld ln_topo_1 (by assumption) fb_topo_1 rfl ?_ rfl
      intro p24 hp24
      refine t_lds (by assumption) ab_s_link B rfl ?_ rfl
      intro v25 hv25
      refine t_move rfl ?_ rfl
      refine t_idx e_link (k := k) (by assumption) he18 B rfl rfl (by first | rfl | omega) ?_ rfl
      intro p27 hp27
      refine t_fld ln_link_1 (by assumption) fb_link_1 rfl ?_ rfl
      intro p28 hp28
      refine t_ldi (by assumption) ab_int B rfl ?_ rfl
      refine t_callf Try.call136 rfl (spec_l5Put e18.ai S (by omega)) ?_ rfl
      rintro e w83 ⟨v30, rfl, S, x84⟩
      refine ⟨_, rfl, ?_⟩
      have B := B.trans x84
      refine t_assign rfl ?_ rfl
      refine t_done ?_
      refine x_seq ?_
      refine w_seq ?_
      refine w_region ?_
      refine t_fld ln_topo_1 (by assumption) fb_topo_1 rfl ?_ rfl
      intro p31 hp31
      refine t_lds (by assumption) ab_s_link B rfl ?_ rfl
      intro v32 hv32
      refine t_move rfl ?_ rfl
      refine t_idx e_link (k := k) (by assumption) he18 B rfl rfl (by first | rfl | omega) ?_ rfl
      intro p34 hp34
      refine t_fld ln_link_2 (by assumption) fb_link_2 rfl ?_ rfl
      intro p35 hp35
      refine t_ldi (by assumption) ab_int B rfl ?_ rfl
      refine t_move rfl ?_ rfl
      refine t_eql rfl rfl ?_ rfl
      refine t_done ?_
      refine x_seq ?_
      refine w_if rfl ?_ ?_
      · intro h2
        refine w_region ?_
        refine t_move rfl ?_ rfl
        refine t_fld ln_topo_1 (by assumption) fb_topo_1 rfl ?_ rfl
        intro p40 hp40
        refine t_lds (by assumption) ab_s_link B rfl ?_ rfl
        intro v41 hv41
        refine t_move rfl ?_ rfl
        refine t_idx e_link (k := k) (by assumption) he18 B rfl rfl (by first | rfl | omega) ?_ rfl
        intro p43 hp43
        refine t_fld ln_link_3 (by assumption) fb_link_3 rfl ?_ rfl
        intro p44 hp44
        refine t_ldi (by assumption) ab_int B rfl ?_ rfl
        refine t_callf Try.call136 rfl (spec_l5Put e18.bi S (by omega)) ?_ rfl
        rintro e w85 ⟨v46, rfl, S, x86⟩
        refine ⟨_, rfl, ?_⟩
        have B := B.trans x86
        refine t_assign rfl ?_ rfl
        refine t_done ?_
        refine x_block_normal ?_
        refine x_seq ?_
        refine w_region ?_
        refine t_move rfl ?_ rfl
        refine t_add rfl rfl (by omega) ?_ rfl
        refine t_assign rfl ?_ rfl
        refine t_done ?_
        refine x_round (X := Nat × Value) (I := (fun x wq => (fun k q => k ≤ t.links.length ∧ Below w78.heap.size w78 wq ∧ Sep w78.heap.size wq [slO intT 3 q (ifs (t.links.take k) r)]) x.1 x.2)) (F := (fun x => (fun k q => [(6, I ((k : Int))), (5, q), (1, I r), (2, p2), (4, .slice none 0 0)]) x.1 x.2)) (μ := (fun x => (fun k q => t.links.length - k) x.1 x.2)) (k + 1, v46) ?_ (by exact ⟨rfl, rfl, rfl, rfl, rfl, trivial⟩) (by (try dsimp only); omega)
        try dsimp only
        rw [hs, if_pos h2, if_pos h1]
        exact ⟨by omega, B, S⟩
      · intro h2
        refine w_skip ?_
        refine x_block_normal ?_
        refine x_seq ?_
        refine w_region ?_
        refine t_move rfl ?_ rfl
        refine t_add rfl rfl (by omega) ?_ rfl
        refine t_assign rfl ?_ rfl
        refine t_done ?_
        refine x_round (X := Nat × Value) (I := (fun x wq => (fun k q => k ≤ t.links.length ∧ Below w78.heap.size w78 wq ∧ Sep w78.heap.size wq [slO intT 3 q (ifs (t.links.take k) r)]) x.1 x.2)) (F := (fun x => (fun k q => [(6, I ((k : Int))), (5, q), (1, I r), (2, p2), (4, .slice none 0 0)]) x.1 x.2)) (μ := (fun x => (fun k q => t.links.length - k) x.1 x.2)) (k + 1, v30) ?_ (by exact ⟨rfl, rfl, rfl, rfl, rfl, trivial⟩) (by (try dsimp only); omega)
        try dsimp only
        rw [hs, if_neg h2, if_pos h1]
        exact ⟨by omega, B, S⟩
    · intro h1
      refine w_skip ?_
      refine x_seq ?_
      refine w_seq ?_
      refine w_region ?_
      refine t_fld ln_topo_1 (by assumption) fb_topo_1 rfl ?_ rfl
      intro p31 hp31
      refine t_lds (by assumption) ab_s_link B rfl ?_ rfl
      intro v32 hv32
      refine t_move rfl ?_ rfl
      refine t_idx e_link (k := k) (by assumption) he18 B rfl rfl (by first | rfl | omega) ?_ rfl
      intro p34 hp34
      refine t_fld ln_link_2 (by assumption) fb_link_2 rfl ?_ rfl
      intro p35 hp35
      refine t_ldi (by assumption) ab_int B rfl ?_ rfl
      refine t_move rfl ?_ rfl
      refine t_eql rfl rfl ?_ rfl
      refine t_done ?_
      refine x_seq ?_
      refine w_if rfl ?_ ?_
      · intro h2
        refine w_region ?_
        refine t_move rfl ?_ rfl
        refine t_fld ln_topo_1 (by assumption) fb_topo_1 rfl ?_ rfl
        intro p40 hp40
        refine t_lds (by assumption) ab_s_link B rfl ?_ rfl
        intro v41 hv41
        refine t_move rfl ?_ rfl
        refine t_idx e_link (k := k) (by assumption) he18 B rfl rfl (by first | rfl | omega) ?_ rfl
        intro p43 hp43
        refine t_fld ln_link_3 (by assumption) fb_link_3 rfl ?_ rfl
        intro p44 hp44
        refine t_ldi (by assumption) ab_int B rfl ?_ rfl
        refine t_callf Try.call136 rfl (spec_l5Put e18.bi S (by omega)) ?_ rfl
        rintro e w87 ⟨v46, rfl, S, x88⟩
        refine ⟨_, rfl, ?_⟩
        have B := B.trans x88
        refine t_assign rfl ?_ rfl
        refine t_done ?_
        refine x_block_normal ?_
        refine x_seq ?_
        refine w_region ?_
        refine t_move rfl ?_ rfl
        refine t_add rfl rfl (by omega) ?_ rfl
        refine t_assign rfl ?_ rfl
        refine t_done ?_
        refine x_round (X := Nat × Value) (I := (fun x wq => (fun k q => k ≤ t.links.length ∧ Below w78.heap.size w78 wq ∧ Sep w78.heap.size wq [slO intT 3 q (ifs (t.links.take k) r)]) x.1 x.2)) (F := (fun x => (fun k q => [(6, I ((k : Int))), (5, q), (1, I r), (2, p2), (4, .slice none 0 0)]) x.1 x.2)) (μ := (fun x => (fun k q => t.links.length - k) x.1 x.2)) (k + 1, v46) ?_ (by exact ⟨rfl, rfl, rfl, rfl, rfl, trivial⟩) (by (try dsimp only); omega)
        try dsimp only
        rw [hs, if_pos h2, if_neg h1]
        exact ⟨by omega, B, S⟩
      · intro h2
        refine w_skip ?_
        refine x_block_normal ?_
        refine x_seq ?_
        refine w_region ?_
        refine t_move rfl ?_ rfl
        refine t_add rfl rfl (by omega) ?_ rfl
        refine t_assign rfl ?_ rfl
        refine t_done ?_
        refine x_round (X := Nat × Value) (I := (fun x wq => (fun k q => k ≤ t.links.length ∧ Below w78.heap.size w78 wq ∧ Sep w78.heap.size wq [slO intT 3 q (ifs (t.links.take k) r)]) x.1 x.2)) (F := (fun x => (fun k q => [(6, I ((k : Int))), (5, q), (1, I r), (2, p2), (4, .slice none 0 0)]) x.1 x.2)) (μ := (fun x => (fun k q => t.links.length - k) x.1 x.2)) (k + 1, q) ?_ (by exact ⟨rfl, rfl, rfl, rfl, rfl, trivial⟩) (by (try dsimp only); omega)
        try dsimp only
        rw [hs, if_neg h2, if_neg h1]
        exact ⟨by omega, B, S⟩
  · intro hge
    refine w_exit ?_
    refine x_then_exit ?_
    refine x_then_exit ?_
    refine x_block_exit ?_
    refine x_seq ?_
    refine w_seq ?_
    refine w_region ?_
    refine t_move rfl ?_ rfl
    refine t_assign rfl ?_ rfl
    refine t_done ?_
    refine x_seq ?_
    refine w_ret ?_
    refine x_ret1 rfl rfl ?_
    obtain ⟨fp, hO⟩ := (S.mono X0.size).head
    rw [List.take_of_length_le (by omega)] at hO
    exact ⟨_, fp, rfl, hO, ext_trans X0 B⟩
theorem spec_Interfaces (A : List ASd) (L : List Lnk) (v : Value) (r : Int) (w : World) (h : VA topoT w v ⟨A, L⟩) (hz : L.length ≤ 1048576) : Calls Try.prog 132 #[v, I r] w fun e w' => ∃ v fp, e = .returned v ∧ SlO intT 3 w.heap.size w' v (ifs L r) fp ∧ Below w.heap.size w w' :=
  spec_Interfaces0 ⟨A, L⟩ v r w h hz
/-- The doors of a realm of one kind. -/
def ifsK (t : Topo) (r k : Int) : List Int := (ifs t.links r).filter fun d => decide (ifKind t r d = k)
theorem filt_succ {α : Type} (p : α → Bool) {l : List α} {k : Nat} {x : α} (h : l[k]? = some x) : (l.take (k + 1)).filter p = (l.take k).filter p ++ (if p x then [x] else []) := by
  rw [List.take_add_one, h, List.filter_append]
  cases hp : p x <;> simp [hp]
theorem spec_InterfacesOfKind (t : Topo) (v : Value) (r kd : Int) (w : World) (h : VA topoT w v t) (hz : sz_topo t ≤ 500000) : Calls Try.prog 122 #[v, I r, I kd] w fun e w' => ∃ v fp, e = .returned v ∧ SlO intT 3 w.heap.size w' v (ifsK t r kd) fp ∧ Below w.heap.size w w' := by
  have hz1 : t.links.length ≤ 500000 := by have := hz; simp only [sz_topo] at this; omega
  have hl := ifs_len t.links r
  have X0 := Below.refl w.heap.size w
  refine enter Try.func122 rfl Try.ntmps122 rfl ?_
  refine w_seq ?_
  refine w_region ?_
  refine t_boxr (by assumption) rfl ?_ rfl rfl
  intro p3 w89 x90 hp3
  replace h := h.below x90
  have X0 := ext_trans X0 x90
  have S := Sep.nil w89
  have B := Below.refl w89.heap.size w89
  have Hb := Nat.le_refl w89.heap.size
  refine t_assign rfl ?_ rfl
  refine t_done ?_
  refine x_seq ?_
  refine w_seq ?_
  refine w_region ?_
  refine t_lit (T := intT) (css := []) (l := []) int_flat S bs_int0 rfl rfl rfl rfl (Nat.zero_le _) litR_nil ?_ rfl rfl
  intro u10 w91 x92 S
  have B := bx Hb B x92
  refine t_assign rfl ?_ rfl
  refine t_done ?_
  refine x_seq ?_
  refine w_seq ?_
  refine w_region ?_
  refine t_lda (by assumption) ab_topo sb_topo B rfl ?_ rfl
  intro v11 hv11
  obtain ⟨v11_0, v11_1, rfl, hv11_0, hv11_1⟩ := topo_va hv11
  refine t_move rfl ?_ rfl
  refine t_call Try.call132 rfl (spec_Interfaces t.ases t.links _ _ _ (by first | assumption | exact VA.below (by assumption) B | exact topo_mkv (by first | assumption | exact SlR.below (by assumption) B) (by first | assumption | exact SlR.below (by assumption) B)) (by (try dsimp only); omega)) ?_ rfl rfl
  rintro e w93 ⟨v13, fpv13, rfl, hOv13, x94⟩
  refine ⟨_, rfl, x94, ?_⟩
  have S := S.add (o := slO _ _ _ _) x94 hOv13
  have B := bx Hb B x94
  refine t_assign rfl ?_ rfl
  refine t_done ?_
  refine x_seq ?_
  refine w_seq ?_
  refine w_seq ?_
  refine w_region ?_
  refine t_assign rfl ?_ rfl
  refine t_done ?_
  refine x_seq ?_
  refine w_block ?_
  refine w_loop (X := Nat × Value) (fun x wq => (fun k q => k ≤ (ifs t.links r).length ∧ Below w89.heap.size w89 wq ∧ Sep w89.heap.size wq [slO intT 3 q (((ifs t.links r).take k).filter fun d => decide (ifKind t r d = kd)), slO intT 3 v13 (ifs t.links r)]) x.1 x.2) (fun x => (fun k q => [(9, I ((k : Int))), (7, q), (1, I r), (2, I kd), (3, p3), (6, .slice none 0 0), (8, v13)]) x.1 x.2) (fun x => (fun k q => (ifs t.links r).length - k) x.1 x.2) (0, _) ?_ ⟨rfl, rfl, rfl, rfl, rfl, rfl, rfl, trivial⟩ ?_
  · exact ⟨by omega, B, S.f1⟩
  rintro ⟨k, q⟩ w95 hI
  try dsimp only at hI ⊢
  obtain ⟨hk, B, S⟩ := hI
  have hl2 := List.length_filter_le (fun d => decide (ifKind t r d = kd)) ((ifs t.links r).take k)
  rw [List.length_take] at hl2
  refine w_seq ?_
  refine w_seq ?_
  refine w_region ?_
  refine t_move rfl ?_ rfl
  refine t_move rfl ?_ rfl
  refine t_len e_int (S.tail.sl) rfl rfl ?_ rfl
  refine t_lss rfl rfl ?_ rfl
  refine t_done ?_
  refine x_seq ?_
  refine w_if rfl ?_ ?_
  · intro hlt
    refine w_skip ?_
    refine x_seq ?_
    refine w_seq ?_
    refine w_block ?_
    refine w_seq ?_
    refine w_draw (.st .take 0 (.st .take 1 (.st .take 2 (.st .take 3 (.st .take 4 (.st .take 5 (.st .take 7 (.st .run 6 (.st .take 8 .done))))))))) mixed (by kernel_rfl) ?_
    intro w96 x97
    have B := bx Hb B x97
    have S := S.below x97
    refine t_lda (by assumption) ab_topo sb_topo B rfl ?_ rfl
    intro v20 hv20
    obtain ⟨v20_0, v20_1, rfl, hv20_0, hv20_1⟩ := topo_va hv20
    refine t_move rfl ?_ rfl
    refine t_move rfl ?_ rfl
    refine t_move rfl ?_ rfl
    obtain ⟨e24, he24⟩ : ∃ e, ((ifs t.links r))[k]? = some e := getx (by omega)
    refine t_idx e_int (k := k) (S.tail.sl) he24 (Below.refl _ _) rfl rfl (by first | rfl | omega) ?_ rfl
    intro p24 hp24
    refine t_ldi (by assumption) ab_int (Below.refl _ _) rfl ?_ rfl
    refine t_move rfl ?_ rfl
    refine t_callx Try.call68 rfl (va1 (by first | assumption | exact VA.below (by assumption) B | exact topo_mkv (by first | assumption | exact SlR.below (by assumption) B) (by first | assumption | exact SlR.below (by assumption) B)) fun cs h => spec_ifKind _ cs _ _ _ h (by omega)) ?_ rfl rfl
    intro w98 x99
    have B := bx Hb B x99
    have S := S.below x99
    refine t_eql rfl rfl ?_ rfl
    refine t_done' ?_
    refine x_seq ?_
    have hf := filt_succ (fun d => decide (ifKind t r d = kd)) he24
    refine w_if rfl ?_ ?_
    · intro h1
      refine w_region ?_
      refine t_move rfl ?_ rfl
      refine t_move rfl ?_ rfl
      refine t_move rfl ?_ rfl
      refine t_idx e_int (k := k) (S.tail.sl) he24 (Below.refl _ _) rfl rfl (by first | rfl | omega) ?_ rfl
      intro p32 hp32
      refine t_ldi (by assumption) ab_int (Below.refl _ _) rfl ?_ rfl
      refine t_lit (T := intT) (l := [e24]) (css := ([e24]).map fun a => [I a]) int_flat S (fun w => bs_int1 _ w) rfl rfl rfl rfl (by simp [maxLen]) (litR_int _) ?_ rfl rfl
      intro u34 w100 x101 S
      have B := bx Hb B x101
      have hR := S.sl
      have S := S.f1
      refine t_cat int_flat e_int S hR rfl rfl rfl (by first | omega | (simp [-List.length_flatMap]; omega)) (by (simp [maxLen, -List.length_flatMap]; try omega)) ?_ rfl
      intro v35 w102 x103 S
      have B := B.trans x103
      clear hR
      have S := S.f1
      have S := S.tail
      refine t_assign rfl ?_ rfl
      refine t_done ?_
      refine x_block_normal ?_
      refine x_seq ?_
      refine w_region ?_
      refine t_move rfl ?_ rfl
      refine t_add rfl rfl (by omega) ?_ rfl
      refine t_assign rfl ?_ rfl
      refine t_done ?_
      refine x_round (X := Nat × Value) (I := (fun x wq => (fun k q => k ≤ (ifs t.links r).length ∧ Below w89.heap.size w89 wq ∧ Sep w89.heap.size wq [slO intT 3 q (((ifs t.links r).take k).filter fun d => decide (ifKind t r d = kd)), slO intT 3 v13 (ifs t.links r)]) x.1 x.2)) (F := (fun x => (fun k q => [(9, I ((k : Int))), (7, q), (1, I r), (2, I kd), (3, p3), (6, .slice none 0 0), (8, v13)]) x.1 x.2)) (μ := (fun x => (fun k q => (ifs t.links r).length - k) x.1 x.2)) (k + 1, v35) ?_ (by exact ⟨rfl, rfl, rfl, rfl, rfl, rfl, rfl, trivial⟩) (by (try dsimp only); omega)
      try dsimp only
      rw [hf, if_pos (by simpa using h1)]
      exact ⟨by omega, B, S⟩
    · intro h1
      refine w_skip ?_
      refine x_block_normal ?_
      refine x_seq ?_
      refine w_region ?_
      refine t_move rfl ?_ rfl
      refine t_add rfl rfl (by omega) ?_ rfl
      refine t_assign rfl ?_ rfl
      refine t_done ?_
      refine x_round (X := Nat × Value) (I := (fun x wq => (fun k q => k ≤ (ifs t.links r).length ∧ Below w89.heap.size w89 wq ∧ Sep w89.heap.size wq [slO intT 3 q (((ifs t.links r).take k).filter fun d => decide (ifKind t r d = kd)), slO intT 3 v13 (ifs t.links r)]) x.1 x.2)) (F := (fun x => (fun k q => [(9, I ((k : Int))), (7, q), (1, I r), (2, I kd), (3, p3), (6, .slice none 0 0), (8, v13)]) x.1 x.2)) (μ := (fun x => (fun k q => (ifs t.links r).length - k) x.1 x.2)) (k + 1, q) ?_ (by exact ⟨rfl, rfl, rfl, rfl, rfl, rfl, rfl, trivial⟩) (by (try dsimp only); omega)
      try dsimp only
      rw [hf, if_neg (by simpa using h1), List.append_nil]
      exact ⟨by omega, B, S⟩
  · intro hge
    refine w_exit ?_
    refine x_then_exit ?_
    refine x_then_exit ?_
    refine x_block_exit ?_
    refine x_seq ?_
    refine w_seq ?_
    refine w_region ?_
    refine t_move rfl ?_ rfl
    refine t_assign rfl ?_ rfl
    refine t_done ?_
    refine x_seq ?_
    refine w_ret ?_
    refine x_ret1 rfl rfl ?_
    obtain ⟨fp, hO⟩ := (S.mono X0.size).head
    rw [List.take_of_length_le (by omega)] at hO
    exact ⟨_, fp, rfl, hO, ext_trans X0 B⟩
end Go.Proofs.Ytdaecknfahgddaa
namespace Go.Proofs.Ytdaecknfahgddaa
open Go.RowKit
set_option linter.unusedVariables false
set_option maxRecDepth 20000
theorem ret_bool {a b : Bool} (h : a = b) : Ending.returned (.bool a) = .returned (.bool b) := by rw [h]
/-- Sums modulo the prime, of residues alone. -/
def addM (b s : Int) : Int := if inR b 0 2147483646 && inR s 0 2147483646 then (b + s) % 2147483647 else 0
theorem spec_AddMod (b s : Int) (w : World) : Calls Try.prog 138 #[I b, I s] w fun e w' => e = .returned (I (addM b s)) ∧ w = w' := by
  have X0 := Below.refl w.heap.size w
  refine enter Try.func138 rfl Try.ntmps138 rfl ?_
  refine w_seq ?_
  refine w_region ?_
  have S := Sep.nil w
  have B := Below.refl w.heap.size w
  have Hb := Nat.le_refl w.heap.size
  refine t_assign rfl ?_ rfl
  refine t_done ?_
  refine x_seq ?_
  refine w_seq ?_
  refine w_seq ?_
  refine w_region ?_
  refine t_move rfl ?_ rfl
  refine t_calls Try.call100 rfl (spec_l3Ok _ _) ?_ rfl rfl
  refine t_notb rfl ?_ rfl
  refine t_move rfl ?_ rfl
  refine t_part (t := 8) rfl ?_ ?_
  · intro h1
    refine t_off rfl rfl rfl ?_ rfl
    refine t_off rfl rfl rfl ?_ rfl
    refine t_off rfl rfl rfl ?_ rfl
    refine t_pickt rfl rfl ?_ rfl
    refine t_done ?_
    refine x_seq ?_
    refine w_yes rfl ?_
    refine w_seq ?_
    refine w_region ?_
    refine t_assign rfl ?_ rfl
    refine t_done ?_
    refine x_seq ?_
    refine w_ret ?_
    refine x_then_ret ?_
    refine x_ret1 rfl rfl ?_
    have h1' : inR b 0 2147483646 = false := by simpa using h1
    exact ⟨by simp [addM, h1'], rfl⟩
  · intro h1
    have h1' : inR b 0 2147483646 = true := by simpa using h1
    have r1 := inR_iff.1 h1'
    refine t_on rfl rfl ?_
    refine t_move rfl ?_ rfl
    refine t_on rfl rfl ?_
    refine t_calls Try.call100 rfl (spec_l3Ok _ _) ?_ rfl rfl
    refine t_on rfl rfl ?_
    refine t_notb rfl ?_ rfl
    refine t_pickf rfl rfl ?_ rfl
    refine t_done ?_
    refine x_seq ?_
    refine w_ifb rfl ?_ ?_
    · intro h2
      refine w_seq ?_
      refine w_region ?_
      refine t_assign rfl ?_ rfl
      refine t_done ?_
      refine x_seq ?_
      refine w_ret ?_
      refine x_then_ret ?_
      refine x_ret1 rfl rfl ?_
      have h2' : inR s 0 2147483646 = false := by simpa using h2
      exact ⟨by simp [addM, h1', h2'], rfl⟩
    · intro h2
      have h2' : inR s 0 2147483646 = true := by simpa using h2
      have r2 := inR_iff.1 h2'
      refine w_skip ?_
      refine x_seq ?_
      refine w_seq ?_
      refine w_region ?_
      refine t_move rfl ?_ rfl
      refine t_move rfl ?_ rfl
      refine t_add rfl rfl (by omega) ?_ rfl
      refine t_rem rfl rfl (by omega) ?_ rfl
      refine t_assign rfl ?_ rfl
      refine t_done ?_
      refine x_seq ?_
      refine w_ret ?_
      refine x_ret1 rfl rfl ?_
      exact ⟨by simp [addM, h1', h2'], rfl⟩
end Go.Proofs.Ytdaecknfahgddaa
namespace Go.Proofs.Ytdaecknfahgddaa
open Go.RowKit
set_option linter.unusedVariables false
def isRev (k : Int) : Bool := k == 1 || k == 3
/-- The interface through which a packet enters at hop i, and through which it leaves. -/
def partIn (p : Part) (i : Nat) : Int := match p.hops[i]? with
  | none => 0
  | some h => if isRev p.kind then h.eg else h.ing
def partOut (p : Part) (i : Nat) : Int := match p.hops[i]? with
  | none => 0
  | some h => if isRev p.kind then h.ing else h.eg
theorem impl_IsReversed (k : Int) (w : World) : Calls Try.prog 109 #[I k] w fun e w' => e = .returned (.bool (isRev k)) ∧ w = w' := by
  obtain ⟨q, Hq⟩ : ∃ q, Hid (q = isRev k) := ⟨_, rfl⟩
  rw [← Hq.out]
  cases h1 : (k == 1) <;> cases h2 : (k == 3)
  all_goals
    go_enter Try.func109, Try.ntmps109
    go_wp2
    go_ret
    exact ⟨by rw [Hq.out]; simp [isRev, h1, h2], rfl⟩
theorem spec_IsReversed (k : Int) (w : World) : Calls Try.prog 126 #[I k] w fun e w' => e = .returned (.bool (isRev k)) ∧ w = w' := by
  obtain ⟨q, Hq⟩ : ∃ q, Hid (q = isRev k) := ⟨_, rfl⟩
  rw [← Hq.out]
  cases h1 : (k == 1) <;> cases h2 : (k == 3)
  all_goals
    go_enter Try.func126, Try.ntmps126
    go_wp2
    go_ret
    exact ⟨by rw [Hq.out]; simp [isRev, h1, h2], rfl⟩
theorem impl_PartIngress (p : Part) (cs : List Value) (i : Int) (w : World) (h : partT.R w cs p) (hz : p.hops.length ≤ 1048576) (h0 : 0 ≤ i) : Calls Try.prog 61 #[.agg cs.toArray, I i] w fun e w' => e = .returned (I (partIn p i.toNat)) ∧ Below w.heap.size w w' := by
  obtain ⟨A, c, rfl, ⟨h, _⟩⟩ := part_form h
  obtain ⟨y, Hy⟩ : ∃ y, Hid (y = partIn p i.toNat) := ⟨_, rfl⟩
  rw [← Hy.out]
  obtain ⟨k, rfl⟩ := Int.eq_ofNat_of_zero_le h0
  rw [Int.toNat_natCast] at Hy
  obtain ⟨n, H⟩ : ∃ n, Hid (n = p.hops.length) := ⟨_, rfl⟩
  have hn : n ≤ 1048576 := by rw [H.out]; exact hz
  clear hz h0
  rw [← H.out] at h ⊢
  by_cases hlt : k < n
  · obtain ⟨g, o, q, x, e, hg, hxk, c0, c1, c2, c3, c4⟩ := hop_at h (by rw [← H.out]; exact hlt)
    rw [← H.out] at e
    cases e
    have HY : Hid (y = if isRev p.kind then x.eg else x.ing) := by show y = _; rw [Hy.out]; unfold partIn; rw [hxk.out]
    have hin : Hid (inR (k : Int) 0 ((n : Int) - 1) = true) := inR_yes (by omega) (by omega)
    cases hr : isRev p.kind
    all_goals
      rw [hr] at HY
      go_enter Try.func61, Try.ntmps61
      go_wp2_with (first | (go_at_call 57; refine (impl_InRange _ _ _ _).mono ?_; rintro e w1 ⟨rfl, rfl⟩; rw [hin.out]) | (go_at_call 109; refine (impl_IsReversed _ _).mono ?_; rintro e w1 ⟨rfl, rfl⟩))
      go_ret
      exact ⟨by rw [HY.out]; rfl, ext_alloc1 _ _⟩
  · have HY : Hid (y = 0) := by show y = _; rw [Hy.out]; unfold partIn; rw [List.getElem?_eq_none (by rw [← H.out]; omega)]
    have hin : Hid (inR (k : Int) 0 ((n : Int) - 1) = false) := inR_hi (by omega)
    go_enter Try.func61, Try.ntmps61
    go_wp2_with (first | (go_at_call 57; refine (impl_InRange _ _ _ _).mono ?_; rintro e w1 ⟨rfl, rfl⟩; rw [hin.out]))
    go_ret
    exact ⟨by rw [HY.out]; rfl, ext_alloc1 _ _⟩
theorem impl_PartEgress (p : Part) (cs : List Value) (i : Int) (w : World) (h : partT.R w cs p) (hz : p.hops.length ≤ 1048576) (h0 : 0 ≤ i) : Calls Try.prog 60 #[.agg cs.toArray, I i] w fun e w' => e = .returned (I (partOut p i.toNat)) ∧ Below w.heap.size w w' := by
  obtain ⟨A, c, rfl, ⟨h, _⟩⟩ := part_form h
  obtain ⟨y, Hy⟩ : ∃ y, Hid (y = partOut p i.toNat) := ⟨_, rfl⟩
  rw [← Hy.out]
  obtain ⟨k, rfl⟩ := Int.eq_ofNat_of_zero_le h0
  rw [Int.toNat_natCast] at Hy
  obtain ⟨n, H⟩ : ∃ n, Hid (n = p.hops.length) := ⟨_, rfl⟩
  have hn : n ≤ 1048576 := by rw [H.out]; exact hz
  clear hz h0
  rw [← H.out] at h ⊢
  by_cases hlt : k < n
  · obtain ⟨g, o, q, x, e, hg, hxk, c0, c1, c2, c3, c4⟩ := hop_at h (by rw [← H.out]; exact hlt)
    rw [← H.out] at e
    cases e
    have HY : Hid (y = if isRev p.kind then x.ing else x.eg) := by show y = _; rw [Hy.out]; unfold partOut; rw [hxk.out]
    have hin : Hid (inR (k : Int) 0 ((n : Int) - 1) = true) := inR_yes (by omega) (by omega)
    cases hr : isRev p.kind
    all_goals
      rw [hr] at HY
      go_enter Try.func60, Try.ntmps60
      go_wp2_with (first | (go_at_call 57; refine (impl_InRange _ _ _ _).mono ?_; rintro e w1 ⟨rfl, rfl⟩; rw [hin.out]) | (go_at_call 109; refine (impl_IsReversed _ _).mono ?_; rintro e w1 ⟨rfl, rfl⟩))
      go_ret
      exact ⟨by rw [HY.out]; rfl, ext_alloc1 _ _⟩
  · have HY : Hid (y = 0) := by show y = _; rw [Hy.out]; unfold partOut; rw [List.getElem?_eq_none (by rw [← H.out]; omega)]
    have hin : Hid (inR (k : Int) 0 ((n : Int) - 1) = false) := inR_hi (by omega)
    go_enter Try.func60, Try.ntmps60
    go_wp2_with (first | (go_at_call 57; refine (impl_InRange _ _ _ _).mono ?_; rintro e w1 ⟨rfl, rfl⟩; rw [hin.out]))
    go_ret
    exact ⟨by rw [HY.out]; rfl, ext_alloc1 _ _⟩
theorem spec_PartIngress (p : Part) (cs : List Value) (i : Int) (w : World) (h : partT.R w cs p) (hz : p.hops.length ≤ 1048576) (h0 : 0 ≤ i) : Calls Try.prog 107 #[.agg cs.toArray, I i] w fun e w' => e = .returned (I (partIn p i.toNat)) ∧ Below w.heap.size w w' := by
  obtain ⟨A, c, rfl, ⟨h, _⟩⟩ := part_form h
  obtain ⟨y, Hy⟩ : ∃ y, Hid (y = partIn p i.toNat) := ⟨_, rfl⟩
  rw [← Hy.out]
  obtain ⟨k, rfl⟩ := Int.eq_ofNat_of_zero_le h0
  rw [Int.toNat_natCast] at Hy
  obtain ⟨n, H⟩ : ∃ n, Hid (n = p.hops.length) := ⟨_, rfl⟩
  have hn : n ≤ 1048576 := by rw [H.out]; exact hz
  clear hz h0
  rw [← H.out] at h ⊢
  by_cases hlt : k < n
  · obtain ⟨g, o, q, x, e, hg, hxk, c0, c1, c2, c3, c4⟩ := hop_at h (by rw [← H.out]; exact hlt)
    rw [← H.out] at e
    cases e
    have HY : Hid (y = if isRev p.kind then x.eg else x.ing) := by show y = _; rw [Hy.out]; unfold partIn; rw [hxk.out]
    have hin : Hid (inR (k : Int) 0 ((n : Int) - 1) = true) := inR_yes (by omega) (by omega)
    cases hr : isRev p.kind
    all_goals
      rw [hr] at HY
      go_enter Try.func107, Try.ntmps107
      go_wp2_with (first | (go_at_call 54; refine (spec_l1In _ _ _ _).mono ?_; rintro e w1 ⟨rfl, rfl⟩; rw [hin.out]) | (go_at_call 126; refine (spec_IsReversed _ _).mono ?_; rintro e w1 ⟨rfl, rfl⟩))
      go_ret
      exact ⟨by rw [HY.out]; rfl, ext_alloc1 _ _⟩
  · have HY : Hid (y = 0) := by show y = _; rw [Hy.out]; unfold partIn; rw [List.getElem?_eq_none (by rw [← H.out]; omega)]
    have hin : Hid (inR (k : Int) 0 ((n : Int) - 1) = false) := inR_hi (by omega)
    go_enter Try.func107, Try.ntmps107
    go_wp2_with (first | (go_at_call 54; refine (spec_l1In _ _ _ _).mono ?_; rintro e w1 ⟨rfl, rfl⟩; rw [hin.out]))
    go_ret
    exact ⟨by rw [HY.out]; rfl, ext_alloc1 _ _⟩
theorem spec_PartEgress (p : Part) (cs : List Value) (i : Int) (w : World) (h : partT.R w cs p) (hz : p.hops.length ≤ 1048576) (h0 : 0 ≤ i) : Calls Try.prog 106 #[.agg cs.toArray, I i] w fun e w' => e = .returned (I (partOut p i.toNat)) ∧ Below w.heap.size w w' := by
  obtain ⟨A, c, rfl, ⟨h, _⟩⟩ := part_form h
  obtain ⟨y, Hy⟩ : ∃ y, Hid (y = partOut p i.toNat) := ⟨_, rfl⟩
  rw [← Hy.out]
  obtain ⟨k, rfl⟩ := Int.eq_ofNat_of_zero_le h0
  rw [Int.toNat_natCast] at Hy
  obtain ⟨n, H⟩ : ∃ n, Hid (n = p.hops.length) := ⟨_, rfl⟩
  have hn : n ≤ 1048576 := by rw [H.out]; exact hz
  clear hz h0
  rw [← H.out] at h ⊢
  by_cases hlt : k < n
  · obtain ⟨g, o, q, x, e, hg, hxk, c0, c1, c2, c3, c4⟩ := hop_at h (by rw [← H.out]; exact hlt)
    rw [← H.out] at e
    cases e
    have HY : Hid (y = if isRev p.kind then x.ing else x.eg) := by show y = _; rw [Hy.out]; unfold partOut; rw [hxk.out]
    have hin : Hid (inR (k : Int) 0 ((n : Int) - 1) = true) := inR_yes (by omega) (by omega)
    cases hr : isRev p.kind
    all_goals
      rw [hr] at HY
      go_enter Try.func106, Try.ntmps106
      go_wp2_with (first | (go_at_call 54; refine (spec_l1In _ _ _ _).mono ?_; rintro e w1 ⟨rfl, rfl⟩; rw [hin.out]) | (go_at_call 126; refine (spec_IsReversed _ _).mono ?_; rintro e w1 ⟨rfl, rfl⟩))
      go_ret
      exact ⟨by rw [HY.out]; rfl, ext_alloc1 _ _⟩
  · have HY : Hid (y = 0) := by show y = _; rw [Hy.out]; unfold partOut; rw [List.getElem?_eq_none (by rw [← H.out]; omega)]
    have hin : Hid (inR (k : Int) 0 ((n : Int) - 1) = false) := inR_hi (by omega)
    go_enter Try.func106, Try.ntmps106
    go_wp2_with (first | (go_at_call 54; refine (spec_l1In _ _ _ _).mono ?_; rintro e w1 ⟨rfl, rfl⟩; rw [hin.out]))
    go_ret
    exact ⟨by rw [HY.out]; rfl, ext_alloc1 _ _⟩
end Go.Proofs.Ytdaecknfahgddaa
namespace Go.Proofs.Ytdaecknfahgddaa
open Go.RowKit
set_option linter.unusedVariables false
set_option maxRecDepth 20000
def chainAdd (b : Int) (l : List Int) : Int := l.foldl addM b
theorem chain_succ {b : Int} {l : List Int} {k : Nat} {x : Int} (h : l[k]? = some x) : chainAdd b (l.take (k + 1)) = addM (chainAdd b (l.take k)) x := by
  unfold chainAdd; rw [take_succ h, List.foldl_append]; rfl
theorem spec_ChainAdd (b : Int) (l : List Int) (v : Value) (w : World) (h : SlR intT w v l) (hz : l.length ≤ 16777216) : Calls Try.prog 134 #[I b, v] w fun e w' => e = .returned (I (chainAdd b l)) ∧ w = w' := by
  have X0 := Below.refl w.heap.size w
  refine enter Try.func134 rfl Try.ntmps134 rfl ?_
  refine w_seq ?_
  refine w_region ?_
  have S := Sep.nil w
  have B := Below.refl w.heap.size w
  have Hb := Nat.le_refl w.heap.size
  refine t_assign rfl ?_ rfl
  refine t_done ?_
  refine x_seq ?_
  refine w_seq ?_
  refine w_seq ?_
  refine w_region ?_
  refine t_assign rfl ?_ rfl
  refine t_done ?_
  refine x_seq ?_
  refine w_block ?_
  refine w_loop (X := Nat × Int) (fun x wq => (fun k c => k ≤ l.length ∧ c = chainAdd b (l.take k) ∧ w = wq) x.1 x.2) (fun x => (fun k c => [(5, I ((k : Int))), (0, I c), (1, v), (4, I 0)]) x.1 x.2) (fun x => (fun k c => l.length - k) x.1 x.2) (0, b) ?_ ⟨rfl, rfl, rfl, rfl, trivial⟩ ?_
  · exact ⟨by omega, rfl, rfl⟩
  · rintro ⟨k, c⟩ w1 hI
    try dsimp only at hI ⊢
    obtain ⟨hk, hc, rfl⟩ := hI
    refine w_seq ?_
    refine w_seq ?_
    refine w_region ?_
    refine t_move rfl ?_ rfl
    refine t_move rfl ?_ rfl
    refine t_len e_int (by assumption) rfl rfl ?_ rfl
    refine t_lss rfl rfl ?_ rfl
    refine t_done ?_
    refine x_seq ?_
    refine w_if rfl ?_ ?_
    · intro hlt
      refine w_skip ?_
      refine x_seq ?_
      refine w_seq ?_
      refine w_block ?_
      refine w_region ?_
      refine t_move rfl ?_ rfl
      refine t_move rfl ?_ rfl
      refine t_move rfl ?_ rfl
      obtain ⟨e15, he15⟩ : ∃ e, (l)[k]? = some e := getx (by omega)
      refine t_idx e_int (k := k) (by assumption) he15 B rfl rfl (by first | rfl | omega) ?_ rfl
      intro p15 hp15
      refine t_ldi (by assumption) ab_int B rfl ?_ rfl
      refine t_calls Try.call138 rfl (spec_AddMod _ _ _) ?_ rfl rfl
      refine t_assign rfl ?_ rfl
      refine t_done ?_
      refine x_block_normal ?_
      refine x_seq ?_
      refine w_region ?_
      refine t_move rfl ?_ rfl
      refine t_add rfl rfl (by omega) ?_ rfl
      refine t_assign rfl ?_ rfl
      refine t_done ?_
      refine x_round (X := Nat × Int) (I := (fun x wq => (fun k c => k ≤ l.length ∧ c = chainAdd b (l.take k) ∧ w = wq) x.1 x.2)) (F := (fun x => (fun k c => [(5, I ((k : Int))), (0, I c), (1, v), (4, I 0)]) x.1 x.2)) (μ := (fun x => (fun k c => l.length - k) x.1 x.2)) (k + 1, addM c e15) ?_ (by exact ⟨rfl, rfl, rfl, rfl, trivial⟩) (by (try dsimp only); omega)
      try dsimp only
      exact ⟨by omega, by rw [chain_succ he15, hc], rfl⟩
    · intro hge
      refine w_exit ?_
      refine x_then_exit ?_
      refine x_then_exit ?_
      refine x_block_exit ?_
      refine x_seq ?_
      refine w_seq ?_
      refine w_region ?_
      refine t_move rfl ?_ rfl
      refine t_assign rfl ?_ rfl
      refine t_done ?_
      refine x_seq ?_
      refine w_ret ?_
      refine x_ret1 rfl rfl ?_
      exact ⟨ret_int (by rw [hc, List.take_of_length_le (by omega)]), rfl⟩
theorem spec_l9Seals (s : Seg) (v : Value) (i : Int) (w : World) (h : VA segT w v s) (hz : s.hops.length ≤ 1048576) (hi : 0 ≤ i ∧ i ≤ s.hops.length) : Calls Try.prog 135 #[v, I i] w fun e w' => ∃ v fp, e = .returned v ∧ SlO intT 3 w.heap.size w' v ((s.hops.take i.toNat).map Hop.mac) fp ∧ Below w.heap.size w w' := by
  have X0 := Below.refl w.heap.size w
  refine enter Try.func135 rfl Try.ntmps135 rfl ?_
  refine w_seq ?_
  refine w_region ?_
  refine t_boxr (by assumption) rfl ?_ rfl rfl
  intro p2 w2 x3 hp2
  replace h := h.below x3
  have X0 := ext_trans X0 x3
  have S := Sep.nil w2
  have B := Below.refl w2.heap.size w2
  have Hb := Nat.le_refl w2.heap.size
  refine t_assign rfl ?_ rfl
  refine t_done ?_
  refine x_seq ?_
  refine w_seq ?_
  refine w_region ?_
  refine t_lit (T := intT) (css := []) (l := []) int_flat S bs_int0 rfl rfl rfl rfl (Nat.zero_le _) litR_nil ?_ rfl rfl
  intro u7 w4 x5 S
  have B := bx Hb B x5
  refine t_assign rfl ?_ rfl
  refine t_done ?_
  refine x_seq ?_
  refine w_seq ?_
  refine w_seq ?_
  refine w_region ?_
  refine t_assign rfl ?_ rfl
  refine t_done ?_
  refine x_seq ?_
  refine w_block ?_
  refine w_loop (X := Nat × Value) (fun x wq => (fun k v => k ≤ i.toNat ∧ Below w2.heap.size w2 wq ∧ Sep w2.heap.size wq [slO intT 3 v ((s.hops.take k).map Hop.mac)]) x.1 x.2) (fun x => (fun k v => [(6, I ((k : Int))), (5, v), (1, I i), (2, p2), (4, .slice none 0 0)]) x.1 x.2) (fun x => (fun k v => i.toNat - k) x.1 x.2) (0, u7) ?_ ⟨rfl, rfl, rfl, rfl, rfl, trivial⟩ ?_
  · exact ⟨by omega, B, S⟩
  · rintro ⟨k, v⟩ w6 hI
    try dsimp only at hI ⊢
    obtain ⟨hk, B, S⟩ := hI
    have hml : ((s.hops.take k).map Hop.mac).length = k := by rw [List.length_map, List.length_take]; omega
    refine w_seq ?_
    refine w_seq ?_
    refine w_region ?_
    refine t_move rfl ?_ rfl
    refine t_move rfl ?_ rfl
    refine t_lss rfl rfl ?_ rfl
    refine t_done ?_
    refine x_seq ?_
    refine w_if rfl ?_ ?_
    · intro hlt
      refine w_skip ?_
      refine x_seq ?_
      refine w_seq ?_
      refine w_block ?_
      refine w_region ?_
      refine t_move rfl ?_ rfl
      refine t_fld ln_seg_2 (by assumption) fb_seg_2 rfl ?_ rfl
      intro p14 hp14
      refine t_lds (by assumption) ab_s_hop B rfl ?_ rfl
      intro v15 hv15
      refine t_move rfl ?_ rfl
      obtain ⟨e17, he17⟩ : ∃ e, (s.hops)[k]? = some e := getx (by omega)
      refine t_idx e_hop (k := k) (by assumption) he17 B rfl rfl (by first | rfl | omega) ?_ rfl
      intro p17 hp17
      refine t_fld ln_hop_4 (by assumption) fb_hop_4 rfl ?_ rfl
      intro p18 hp18
      refine t_ldi (by assumption) ab_int B rfl ?_ rfl
      refine t_lit (T := intT) (l := [e17.mac]) (css := ([e17.mac]).map fun a => [I a]) int_flat S (fun w => bs_int1 _ w) rfl rfl rfl rfl (by simp [maxLen]) (litR_int _) ?_ rfl rfl
      intro u20 w7 x8 S
      have B := bx Hb B x8
      have hR := S.sl
      have S := S.f1
      refine t_cat int_flat e_int S hR rfl rfl rfl (by first | omega | (simp [-List.length_flatMap]; omega)) (by (simp [maxLen, -List.length_flatMap]; try omega)) ?_ rfl
      intro v21 w9 x10 S
      have B := B.trans x10
      clear hR
      have S := S.f1
      have S := S.tail
      refine t_assign rfl ?_ rfl
      refine t_done ?_
      refine x_block_normal ?_
      refine x_seq ?_
      refine w_region ?_
      refine t_move rfl ?_ rfl
      refine t_add rfl rfl (by omega) ?_ rfl
      refine t_assign rfl ?_ rfl
      refine t_done ?_
      refine x_round (X := Nat × Value) (I := (fun x wq => (fun k v => k ≤ i.toNat ∧ Below w2.heap.size w2 wq ∧ Sep w2.heap.size wq [slO intT 3 v ((s.hops.take k).map Hop.mac)]) x.1 x.2)) (F := (fun x => (fun k v => [(6, I ((k : Int))), (5, v), (1, I i), (2, p2), (4, .slice none 0 0)]) x.1 x.2)) (μ := (fun x => (fun k v => i.toNat - k) x.1 x.2)) (k + 1, v21) ?_ (by exact ⟨rfl, rfl, rfl, rfl, rfl, trivial⟩) (by (try dsimp only); omega)
      try dsimp only
      refine ⟨by omega, B, ?_⟩
      rw [take_succ he17, List.map_append]
      exact S
    · intro hge
      refine w_exit ?_
      refine x_then_exit ?_
      refine x_then_exit ?_
      refine x_block_exit ?_
      refine x_seq ?_
      refine w_seq ?_
      refine w_region ?_
      refine t_move rfl ?_ rfl
      refine t_assign rfl ?_ rfl
      refine t_done ?_
      refine x_seq ?_
      refine w_ret ?_
      refine x_ret1 rfl rfl ?_
      have : k = i.toNat := by omega
      subst this
      obtain ⟨fp, hO⟩ := (S.mono X0.size).head
      exact ⟨_, fp, rfl, hO, ext_trans X0 B⟩
def segBeta (s : Seg) (i : Int) : Int := if inR i 0 s.hops.length then chainAdd s.beta ((s.hops.take i.toNat).map Hop.mac) else 0
theorem spec_BetaAt (s : Seg) (v : Value) (i : Int) (w : World) (h : VA segT w v s) (hz : s.hops.length ≤ 1048576) : Calls Try.prog 125 #[v, I i] w fun e w' => e = .returned (I (segBeta s i)) ∧ Below w.heap.size w w' := by
  have hml : ((s.hops.take i.toNat).map Hop.mac).length ≤ 1048576 := by rw [List.length_map, List.length_take]; omega
  have hml2 : (s.hops.take i.toNat).length ≤ 1048576 := by rw [List.length_take]; omega
  have X0 := Below.refl w.heap.size w
  refine enter Try.func125 rfl Try.ntmps125 rfl ?_
  refine w_seq ?_
  refine w_region ?_
  refine t_boxr (by assumption) rfl ?_ rfl rfl
  intro p2 w11 x12 hp2
  replace h := h.below x12
  have X0 := ext_trans X0 x12
  have S := Sep.nil w11
  have B := Below.refl w11.heap.size w11
  have Hb := Nat.le_refl w11.heap.size
  refine t_assign rfl ?_ rfl
  refine t_done ?_
  refine x_seq ?_
  refine w_seq ?_
  refine w_seq ?_
  refine w_region ?_
  refine t_move rfl ?_ rfl
  refine t_fld ln_seg_2 (by assumption) fb_seg_2 rfl ?_ rfl
  intro p6 hp6
  refine t_lds (by assumption) ab_s_hop B rfl ?_ rfl
  intro v7 hv7
  refine t_len e_hop (by assumption) rfl rfl ?_ rfl
  refine t_calls Try.call54 rfl (spec_l1In _ _ _ _) ?_ rfl rfl
  refine t_notb rfl ?_ rfl
  refine t_done ?_
  refine x_seq ?_
  refine w_ifb rfl ?_ ?_
  · intro h1
    refine w_seq ?_
    refine w_region ?_
    refine t_assign rfl ?_ rfl
    refine t_done ?_
    refine x_seq ?_
    refine w_ret ?_
    refine x_then_ret ?_
    refine x_ret1 rfl rfl ?_
    have h1' : inR i 0 s.hops.length = false := by simpa using h1
    exact ⟨ret_int (by simp [segBeta, h1']), ext_trans X0 B⟩
  · intro h1
    have h1' : inR i 0 s.hops.length = true := by simpa using h1
    have r1 := inR_iff.1 h1'
    refine w_skip ?_
    refine x_seq ?_
    refine w_seq ?_
    refine w_draw (.st .take 0 (.st .take 1 (.st .take 2 (.st .take 3 (.st .run 4 (.st .run 5 (.st .take 6 .done))))))) mixed (by kernel_rfl) ?_
    intro w13 x14
    have B := bx Hb B x14
    have S := S.below x14
    refine t_fld ln_seg_1 (by assumption) fb_seg_1 rfl ?_ rfl
    intro p11 hp11
    refine t_ldi (by assumption) ab_int B rfl ?_ rfl
    refine t_lda (by assumption) ab_seg sb_seg B rfl ?_ rfl
    intro v13 hv13
    obtain ⟨v13_2, rfl, hv13_2⟩ := seg_va hv13
    refine t_move rfl ?_ rfl
    refine t_call Try.call135 rfl (spec_l9Seals _ _ _ _ (by first | assumption | exact VA.below (by assumption) B | exact seg_mkv (by first | assumption | exact SlR.below (by assumption) B)) (by omega) (by omega)) ?_ rfl rfl
    rintro e w15 ⟨v15, fpv15, rfl, hOv15, x16⟩
    refine ⟨_, rfl, x16, ?_⟩
    have S := S.add (o := slO _ _ _ _) x16 hOv15
    have B := bx Hb B x16
    refine t_calls Try.call134 rfl (spec_ChainAdd _ _ _ _ (S.sl) (by omega)) ?_ rfl rfl
    refine t_assign rfl ?_ rfl
    refine t_done' ?_
    refine x_seq ?_
    refine w_ret ?_
    refine x_ret1 rfl rfl ?_
    exact ⟨ret_int (by simp [segBeta, h1']), ext_trans X0 B⟩
theorem rev_snoc {l : List Hop} {i : Int} {x : Hop} (h0 : 0 ≤ i) (h : l[i.toNat]? = some x) : (l.drop (i - 1 + 1).toNat).reverse = (l.drop (i + 1).toNat).reverse ++ [x] := by
  have h2 := List.getElem?_eq_some_iff.1 h
  rw [show (i - 1 + 1).toNat = i.toNat by omega, show (i + 1).toNat = i.toNat + 1 by omega, List.drop_eq_getElem_cons h2.1, List.reverse_cons, h2.2]
def makePart (s : Seg) (kind i : Int) : Part := if inR i 0 ((s.hops.length : Int) - 1) && inR kind 1 4 then (if isRev kind then ⟨kind, s.ts, segBeta s s.hops.length, (s.hops.drop i.toNat).reverse⟩ else ⟨kind, s.ts, segBeta s i, s.hops.drop i.toNat⟩) else ⟨0, 0, 0, []⟩
theorem make_none {s : Seg} {kind i : Int} (h : (inR i 0 ((s.hops.length : Int) - 1) && inR kind 1 4) = false) : makePart s kind i = ⟨0, 0, 0, []⟩ := by unfold makePart; rw [h]; rfl
theorem make_rev {s : Seg} {kind i : Int} (h1 : inR i 0 ((s.hops.length : Int) - 1) = true) (h2 : inR kind 1 4 = true) (h3 : isRev kind = true) : makePart s kind i = ⟨kind, s.ts, segBeta s s.hops.length, (s.hops.drop i.toNat).reverse⟩ := by unfold makePart; rw [h1, h2, h3]; rfl
theorem make_fwd {s : Seg} {kind i : Int} (h1 : inR i 0 ((s.hops.length : Int) - 1) = true) (h2 : inR kind 1 4 = true) (h3 : isRev kind = false) : makePart s kind i = ⟨kind, s.ts, segBeta s i, s.hops.drop i.toNat⟩ := by unfold makePart; rw [h1, h2, h3]; rfl
theorem spec_MakePart (s : Seg) (v : Value) (kind i : Int) (w : World) (h : VA segT w v s) (hz : s.hops.length ≤ 1048576) : Calls Try.prog 97 #[v, I kind, I i] w fun e w' => ∃ cs fp, e = .returned (.agg cs.toArray) ∧ partT.O w.heap.size w' cs (makePart s kind i) fp ∧ Below w.heap.size w w' := by
  have hdl : (s.hops.drop i.toNat).length ≤ 1048576 := by rw [List.length_drop]; omega
  have X0 := Below.refl w.heap.size w
  refine enter Try.func97 rfl Try.ntmps97 rfl ?_
  refine w_seq ?_
  refine w_region ?_
  refine t_boxr (by assumption) rfl ?_ rfl rfl
  intro p3 w17 x18 hp3
  replace h := h.below x18
  have X0 := ext_trans X0 x18
  have S := Sep.nil w17
  have B := Below.refl w17.heap.size w17
  have Hb := Nat.le_refl w17.heap.size
  refine t_alloc S z_part rfl ?_ rfl rfl
  intro g6 w19 x20 S
  have B := bx Hb B x20
  refine t_done ?_
  refine x_seq ?_
  refine w_seq ?_
  refine w_seq ?_
  refine w_region ?_
  refine t_move rfl ?_ rfl
  refine t_fld ln_seg_2 (by assumption) fb_seg_2 rfl ?_ rfl
  intro p10 hp10
  refine t_lds (by assumption) ab_s_hop B rfl ?_ rfl
  intro v11 hv11
  refine t_len e_hop (by assumption) rfl rfl ?_ rfl
  refine t_sub rfl rfl (by omega) ?_ rfl
  refine t_calls Try.call54 rfl (spec_l1In _ _ _ _) ?_ rfl rfl
  refine t_notb rfl ?_ rfl
  refine t_move rfl ?_ rfl
  refine t_part (t := 16) rfl ?_ ?_
  · intro h1
    have h1' : inR i 0 ((s.hops.length : Int) - 1) = false := by simpa using h1
    rw [make_none (by rw [h1']; rfl)]
    refine t_off rfl rfl rfl ?_ rfl
    refine t_off rfl rfl rfl ?_ rfl
    refine t_off rfl rfl rfl ?_ rfl
    refine t_pickt rfl rfl ?_ rfl
    refine t_done ?_
    refine x_seq ?_
    refine w_yes rfl ?_
    refine w_seq ?_
    refine w_region ?_
    refine t_build (fun w => b_part0 w) rfl ?_ rfl
    refine t_stn S sb_part rfl rfl rfl rfl (by simp [Value.oneCell']) ?_
    intro w21 b22 S
    have B := B.trans b22
    refine t_done ?_
    refine x_seq ?_
    refine w_ret ?_
    refine x_then_ret ?_
    refine x_retc rfl rfl S.box ab_part sb_part rfl ?_
    have S := Sep.addNil (T := hopT) (e := 74) S
    have S := S.partShut (x := ⟨0, 0, 0, []⟩)
    obtain ⟨fp, hO⟩ := (S.mono X0.size).head
    exact ⟨_, fp, rfl, hO, ext_trans X0 B⟩
  intro h1
  have h1' : inR i 0 ((s.hops.length : Int) - 1) = true := by simpa using h1
  have r1 := inR_iff.1 h1'
  refine t_on rfl rfl ?_
  refine t_move rfl ?_ rfl
  refine t_on rfl rfl ?_
  refine t_calls Try.call54 rfl (spec_l1In _ _ _ _) ?_ rfl rfl
  refine t_on rfl rfl ?_
  refine t_notb rfl ?_ rfl
  refine t_pickf rfl rfl ?_ rfl
  refine t_done ?_
  refine x_seq ?_
  refine w_ifb rfl ?_ ?_
  · intro h2
    have h2' : inR kind 1 4 = false := by simpa using h2
    rw [make_none (by rw [h2']; simp)]
    refine w_seq ?_
    refine w_region ?_
    refine t_build (fun w => b_part0 w) rfl ?_ rfl
    refine t_stn S sb_part rfl rfl rfl rfl (by simp [Value.oneCell']) ?_
    intro w23 b24 S
    have B := B.trans b24
    refine t_done ?_
    refine x_seq ?_
    refine w_ret ?_
    refine x_then_ret ?_
    refine x_retc rfl rfl S.box ab_part sb_part rfl ?_
    have S := Sep.addNil (T := hopT) (e := 74) S
    have S := S.partShut (x := ⟨0, 0, 0, []⟩)
    obtain ⟨fp, hO⟩ := (S.mono X0.size).head
    exact ⟨_, fp, rfl, hO, ext_trans X0 B⟩
  intro h2
  have h2' : inR kind 1 4 = true := by simpa using h2
  refine w_skip ?_
  refine x_seq ?_
  refine w_seq ?_
  refine w_draw (.st .take 0 (.st .take 1 (.st .take 2 (.st .take 3 (.st .take 4 (.alt (.st .run 5 (.st .take 6 (.st .run 7 (.st .fin 8 .done)))) (.st .run 7 (.st .run 5 (.st .take 6 (.st .fin 8 .done)))))))))) mixed (by kernel_rfl) ?_
  intro w25 x26
  have B := bx Hb B x26
  have S := S.below x26
  refine t_move rfl ?_ rfl
  refine t_fld ln_seg_0 (by assumption) fb_seg_0 rfl ?_ rfl
  intro p23 hp23
  refine t_ldi (by assumption) ab_int B rfl ?_ rfl
  refine t_lda (by assumption) ab_seg sb_seg B rfl ?_ rfl
  intro v25 hv25
  obtain ⟨v25_2, rfl, hv25_2⟩ := seg_va hv25
  refine t_move rfl ?_ rfl
  refine t_alt ?_ ?_
  · refine t_callx Try.call125 rfl (spec_BetaAt _ _ _ _ (by first | assumption | exact VA.below (by assumption) B | exact seg_mkv (by first | assumption | exact SlR.below (by assumption) B)) (by omega)) ?_ rfl rfl
    intro w27 x28
    have B := bx Hb B x28
    have S := S.below x28
    refine t_build (fun w => b_part3 _ _ _ w) rfl ?_ rfl
    refine t_alloc S z_part rfl ?_ rfl rfl
    intro g7 w29 x30 S
    have B := bx Hb B x30
    refine t_stn S sb_part rfl rfl rfl rfl (by simp [Value.oneCell']) ?_
    intro w31 b32 S
    have B := B.trans b32
    refine t_done' ?_
    refine x_seq ?_
    refine w_seq ?_
    refine w_seq ?_
    refine w_region ?_
    refine t_move rfl ?_ rfl
    refine t_calls Try.call126 rfl (spec_IsReversed _ _) ?_ rfl rfl
    refine t_notb rfl ?_ rfl
    refine t_done ?_
    refine x_seq ?_
    refine w_ifb rfl ?_ ?_
    · intro h3
      rw [make_fwd h1' h2' (by simpa using h3)]
      refine w_seq ?_
      refine w_region ?_
      refine t_lit (T := hopT) (css := []) (l := []) hop_flat S bs_hop0 rfl rfl rfl rfl (Nat.zero_le _) litR_nil ?_ rfl rfl
      intro u32 w33 x34 S
      have B := bx Hb B x34
      refine t_fld ln_seg_2 (by assumption) fb_seg_2 rfl ?_ rfl
      intro p33 hp33
      refine t_lds (by assumption) ab_s_hop B rfl ?_ rfl
      intro v34 hv34
      refine t_move rfl ?_ rfl
      refine t_sld e_hop (k := (i.toNat)) (by assumption) rfl rfl (by first | rfl | omega) (by omega) ?_ rfl
      intro v36 hv36
      refine t_cat hop_flat e_hop S (by first | assumption | exact SlR.below (by assumption) B) rfl rfl rfl (by first | omega | (simp [-List.length_flatMap]; omega)) (by (simp [maxLen, -List.length_flatMap]; try omega)) ?_ rfl
      intro v37 w35 x36 S
      have B := B.trans x36
      refine t_fldx fb_part_3 rfl rfl ?_ rfl
      obtain ⟨Av37, cv37, rfl, _⟩ := S.sl.form
      have S := S.f1
      refine t_st1 S sb_s_hop rfl rfl rfl rfl rfl ?_
      intro w37 b38 S
      have B := B.trans b38
      refine t_done ?_
      refine x_seq ?_
      refine w_seq ?_
      refine w_region ?_
      refine t_bxn S.box ab_part sb_part rfl rfl ?_ rfl
      have S := S.f2
      refine t_stn S sb_part rfl rfl rfl rfl (by intro zz hu; have hu : zz ∈ ([I kind, I s.ts, I (segBeta s i), .slice Av37 (([]) ++ (s.hops.drop (i.toNat))).length cv37] : List Value) := hu; simp only [List.mem_cons, List.not_mem_nil, or_false] at hu; rcases hu with rfl | rfl | rfl | rfl <;> first | rfl | exact (SlR.cells (by first | assumption | exact S.tail.sl | exact S.tail.tail.sl | exact S.tail.tail.tail.sl | exact S.tail.tail.tail.tail.sl | exact S.tail.tail.tail.tail.tail.sl | exact S.tail.tail.tail.tail.tail.tail.sl | exact S.tail.tail.tail.tail.tail.tail.tail.sl | exact S.tail.tail.tail.tail.tail.tail.tail.tail.sl)).2) ?_
      intro w39 b40 S
      have B := B.trans b40
      refine t_done ?_
      refine x_seq ?_
      refine w_ret ?_
      refine x_then_ret ?_
      refine x_retc rfl rfl S.box ab_part sb_part rfl ?_
      have S := S.f2
      have S := S.partShut (x := ⟨kind, s.ts, segBeta s i, s.hops.drop i.toNat⟩)
      obtain ⟨fp, hO⟩ := (S.mono X0.size).head
      exact ⟨_, fp, rfl, hO, ext_trans X0 B⟩
    · intro h3
      rw [make_rev h1' h2' (by simpa using h3)]
      refine w_skip ?_
      refine x_seq ?_
      refine w_seq ?_
      refine w_region ?_
      refine t_lda (by assumption) ab_seg sb_seg B rfl ?_ rfl
      intro v40 hv40
      obtain ⟨v40_2, rfl, hv40_2⟩ := seg_va hv40
      refine t_fld ln_seg_2 (by assumption) fb_seg_2 rfl ?_ rfl
      intro p41 hp41
      refine t_lds (by assumption) ab_s_hop B rfl ?_ rfl
      intro v42 hv42
      refine t_len e_hop (by assumption) rfl rfl ?_ rfl
      refine t_callx Try.call125 rfl (spec_BetaAt _ _ _ _ (by first | assumption | exact VA.below (by assumption) B | exact seg_mkv (by first | assumption | exact SlR.below (by assumption) B)) (by omega)) ?_ rfl rfl
      intro w41 x42
      have B := bx Hb B x42
      have S := S.below x42
      refine t_fldx fb_part_2 rfl rfl ?_ rfl
      refine t_st1 S sb_int rfl rfl rfl rfl rfl ?_
      intro w43 b44 S
      have B := B.trans b44
      refine t_done ?_
      refine x_seq ?_
      refine w_seq ?_
      refine w_seq ?_
      refine w_region ?_
      refine t_fld ln_seg_2 (by assumption) fb_seg_2 rfl ?_ rfl
      intro p46 hp46
      refine t_lds (by assumption) ab_s_hop B rfl ?_ rfl
      intro v47 hv47
      refine t_len e_hop (by assumption) rfl rfl ?_ rfl
      refine t_sub rfl rfl (by omega) ?_ rfl
      refine t_assign rfl ?_ rfl
      refine t_done ?_
      refine x_seq ?_
      refine w_block ?_
      refine w_loop (X := Int × Value) (fun x wq => (fun j u => i - 1 ≤ j ∧ j ≤ (s.hops.length : Int) - 1 ∧ Below w17.heap.size w17 wq ∧ Sep w17.heap.size wq [bxO g7 71 #[I kind, I s.ts, I (segBeta s s.hops.length), u], slO hopT 74 u (s.hops.drop (j + 1).toNat).reverse, bxO g6 71 #[I 0, I 0, I 0, .slice none 0 0]]) x.1 x.2) (fun x => (fun j u => [(8, I j), (2, I i), (3, p3), (6, .pointer (some ⟨g6, 0, none⟩)), (7, .pointer (some ⟨g7, 0, none⟩))]) x.1 x.2) (fun x => (fun j u => (j + 1 - i).toNat) x.1 x.2) ((s.hops.length : Int) - 1, .slice none 0 0) ?_ ⟨rfl, rfl, rfl, rfl, rfl, trivial⟩ ?_
      · refine ⟨by show i - 1 ≤ (s.hops.length : Int) - 1; omega, by show (s.hops.length : Int) - 1 ≤ _; omega, B, ?_⟩
        show Sep _ _ [_, slO hopT _ _ (s.hops.drop ((s.hops.length : Int) - 1 + 1).toNat).reverse, _]
        rw [List.drop_of_length_le (by omega)]
        exact S.addNil.f1
      · rintro ⟨j, u⟩ w45 hI
        try dsimp only at hI ⊢
        obtain ⟨hk, hk2, B, S⟩ := hI
        have hml : (s.hops.drop (j + 1).toNat).reverse.length ≤ 1048576 := by rw [List.length_reverse, List.length_drop]; omega
        refine w_seq ?_
        refine w_seq ?_
        refine w_region ?_
        refine t_move rfl ?_ rfl
        refine t_move rfl ?_ rfl
        refine t_geq rfl rfl ?_ rfl
        refine t_done ?_
        refine x_seq ?_
        refine w_if rfl ?_ ?_
        · intro hlt
          refine w_skip ?_
          refine x_seq ?_
          refine w_seq ?_
          refine w_block ?_
          refine w_draw (.st .take 0 (.st .take 1 (.st .take 2 (.st .take 3 (.st .take 4 (.st .take 5 (.st .take 6 (.st .run 7 (.st .fin 8 (.st .fin 9 (.st .fin 10 .done))))))))))) mixed (by kernel_rfl) ?_
          intro w46 x47
          have B := bx Hb B x47
          have S := S.below x47
          refine t_fldx fb_part_3 rfl rfl ?_ rfl
          refine t_bx1 S.box ab_s_hop rfl rfl ?_ rfl
          refine t_fld ln_seg_2 (by assumption) fb_seg_2 rfl ?_ rfl
          intro p57 hp57
          refine t_lds (by assumption) ab_s_hop B rfl ?_ rfl
          intro v58 hv58
          refine t_move rfl ?_ rfl
          obtain ⟨e60, he60⟩ : ∃ e, (s.hops)[(j.toNat)]? = some e := getx (by omega)
          refine t_idx e_hop (k := (j.toNat)) (by assumption) he60 B rfl rfl (by first | rfl | omega) ?_ rfl
          intro p60 hp60
          refine t_lda (by assumption) ab_hop sb_hop B rfl ?_ rfl
          intro v61 hv61
          obtain rfl := hop_va hv61
          refine t_lit (T := hopT) (l := [(e60 : Hop)]) (css := [[I e60.ia, I e60.ing, I e60.eg, I e60.exp, I e60.mac]]) hop_flat S (fun w => bs_hop1 _ _ _ _ _ w) rfl rfl rfl rfl (by simp [maxLen]) (litR_one fun _ => rfl) ?_ rfl rfl
          intro u62 w48 x49 S
          have B := bx Hb B x49
          have hR := S.sl
          have S := S.f2
          refine t_cat hop_flat e_hop S hR rfl rfl rfl (by first | omega | (simp [-List.length_flatMap]; omega)) (by (simp [maxLen, -List.length_flatMap]; try omega)) ?_ rfl
          intro v63 w50 x51 S
          have B := B.trans x51
          clear hR
          have S := S.f1
          have S := S.tail
          refine t_fldx fb_part_3 rfl rfl ?_ rfl
          obtain ⟨Av63, cv63, rfl, _⟩ := S.sl.form
          have S := S.f1
          refine t_st1 S sb_s_hop rfl rfl rfl rfl rfl ?_
          intro w52 b53 S
          have B := B.trans b53
          refine t_done' ?_
          refine x_block_normal ?_
          refine x_seq ?_
          refine w_region ?_
          refine t_move rfl ?_ rfl
          refine t_sub rfl rfl (by omega) ?_ rfl
          refine t_assign rfl ?_ rfl
          refine t_done ?_
          refine x_round (X := Int × Value) (I := (fun x wq => (fun j u => i - 1 ≤ j ∧ j ≤ (s.hops.length : Int) - 1 ∧ Below w17.heap.size w17 wq ∧ Sep w17.heap.size wq [bxO g7 71 #[I kind, I s.ts, I (segBeta s s.hops.length), u], slO hopT 74 u (s.hops.drop (j + 1).toNat).reverse, bxO g6 71 #[I 0, I 0, I 0, .slice none 0 0]]) x.1 x.2)) (F := (fun x => (fun j u => [(8, I j), (2, I i), (3, p3), (6, .pointer (some ⟨g6, 0, none⟩)), (7, .pointer (some ⟨g7, 0, none⟩))]) x.1 x.2)) (μ := (fun x => (fun j u => (j + 1 - i).toNat) x.1 x.2)) (j - 1, .slice Av63 (((s.hops.drop (j + 1).toNat).reverse) ++ ([(e60 : Hop)])).length cv63) ?_ (by exact ⟨rfl, rfl, rfl, rfl, rfl, trivial⟩) (by (try dsimp only); omega)
          try dsimp only
          refine ⟨by omega, by omega, B, ?_⟩
          rw [rev_snoc (by omega) he60]
          exact S
        · intro hge
          have hj : j + 1 = i := by omega
          rw [hj] at S
          refine w_exit ?_
          refine x_then_exit ?_
          refine x_then_exit ?_
          refine x_block_exit ?_
          refine x_seq ?_
          refine w_seq ?_
          refine w_region ?_
          refine t_bxn S.box ab_part sb_part rfl rfl ?_ rfl
          have S := S.f2
          refine t_stn S sb_part rfl rfl rfl rfl (by intro zz hu; have hu : zz ∈ ([I kind, I s.ts, I ((segBeta s s.hops.length)), u] : List Value) := hu; simp only [List.mem_cons, List.not_mem_nil, or_false] at hu; rcases hu with rfl | rfl | rfl | rfl <;> first | rfl | exact (SlR.cells (by first | assumption | exact S.tail.sl | exact S.tail.tail.sl | exact S.tail.tail.tail.sl | exact S.tail.tail.tail.tail.sl | exact S.tail.tail.tail.tail.tail.sl | exact S.tail.tail.tail.tail.tail.tail.sl | exact S.tail.tail.tail.tail.tail.tail.tail.sl | exact S.tail.tail.tail.tail.tail.tail.tail.tail.sl)).2) ?_
          intro w54 b55 S
          have B := B.trans b55
          refine t_done ?_
          refine x_seq ?_
          refine w_ret ?_
          refine x_retc rfl rfl S.box ab_part sb_part rfl ?_
          have S := S.f2
          have S := S.partShut (x := ⟨kind, s.ts, segBeta s s.hops.length, (s.hops.drop i.toNat).reverse⟩)
          obtain ⟨fp, hO⟩ := (S.mono X0.size).head
          exact ⟨_, fp, rfl, hO, ext_trans X0 B⟩
  · refine t_alloc S z_part rfl ?_ rfl rfl
    intro g7 w56 x57 S
    have B := bx Hb B x57
    refine t_callx Try.call125 rfl (spec_BetaAt _ _ _ _ (by first | assumption | exact VA.below (by assumption) B | exact seg_mkv (by first | assumption | exact SlR.below (by assumption) B)) (by omega)) ?_ rfl rfl
    intro w58 x59
    have B := bx Hb B x59
    have S := S.below x59
    refine t_build (fun w => b_part3 _ _ _ w) rfl ?_ rfl
    refine t_stn S sb_part rfl rfl rfl rfl (by simp [Value.oneCell']) ?_
    intro w60 b61 S
    have B := B.trans b61
    refine t_done' ?_
    refine x_seq ?_
    refine w_seq ?_
    refine w_seq ?_
    refine w_region ?_
    refine t_move rfl ?_ rfl
    refine t_calls Try.call126 rfl (spec_IsReversed _ _) ?_ rfl rfl
    refine t_notb rfl ?_ rfl
    refine t_done ?_
    refine x_seq ?_
    refine w_ifb rfl ?_ ?_
    · intro h3
      rw [make_fwd h1' h2' (by simpa using h3)]
      refine w_seq ?_
      refine w_region ?_
      refine t_lit (T := hopT) (css := []) (l := []) hop_flat S bs_hop0 rfl rfl rfl rfl (Nat.zero_le _) litR_nil ?_ rfl rfl
      intro u32 w62 x63 S
      have B := bx Hb B x63
      refine t_fld ln_seg_2 (by assumption) fb_seg_2 rfl ?_ rfl
      intro p33 hp33
      refine t_lds (by assumption) ab_s_hop B rfl ?_ rfl
      intro v34 hv34
      refine t_move rfl ?_ rfl
      refine t_sld e_hop (k := (i.toNat)) (by assumption) rfl rfl (by first | rfl | omega) (by omega) ?_ rfl
      intro v36 hv36
      refine t_cat hop_flat e_hop S (by first | assumption | exact SlR.below (by assumption) B) rfl rfl rfl (by first | omega | (simp [-List.length_flatMap]; omega)) (by (simp [maxLen, -List.length_flatMap]; try omega)) ?_ rfl
      intro v37 w64 x65 S
      have B := B.trans x65
      refine t_fldx fb_part_3 rfl rfl ?_ rfl
      obtain ⟨Av37, cv37, rfl, _⟩ := S.sl.form
      have S := S.f1
      refine t_st1 S sb_s_hop rfl rfl rfl rfl rfl ?_
      intro w66 b67 S
      have B := B.trans b67
      refine t_done ?_
      refine x_seq ?_
      refine w_seq ?_
      refine w_region ?_
      refine t_bxn S.box ab_part sb_part rfl rfl ?_ rfl
      have S := S.f2
      refine t_stn S sb_part rfl rfl rfl rfl (by intro zz hu; have hu : zz ∈ ([I kind, I s.ts, I (segBeta s i), .slice Av37 (([]) ++ (s.hops.drop (i.toNat))).length cv37] : List Value) := hu; simp only [List.mem_cons, List.not_mem_nil, or_false] at hu; rcases hu with rfl | rfl | rfl | rfl <;> first | rfl | exact (SlR.cells (by first | assumption | exact S.tail.sl | exact S.tail.tail.sl | exact S.tail.tail.tail.sl | exact S.tail.tail.tail.tail.sl | exact S.tail.tail.tail.tail.tail.sl | exact S.tail.tail.tail.tail.tail.tail.sl | exact S.tail.tail.tail.tail.tail.tail.tail.sl | exact S.tail.tail.tail.tail.tail.tail.tail.tail.sl)).2) ?_
      intro w68 b69 S
      have B := B.trans b69
      refine t_done ?_
      refine x_seq ?_
      refine w_ret ?_
      refine x_then_ret ?_
      refine x_retc rfl rfl S.box ab_part sb_part rfl ?_
      have S := S.f2
      have S := S.partShut (x := ⟨kind, s.ts, segBeta s i, s.hops.drop i.toNat⟩)
      obtain ⟨fp, hO⟩ := (S.mono X0.size).head
      exact ⟨_, fp, rfl, hO, ext_trans X0 B⟩
    · intro h3
      rw [make_rev h1' h2' (by simpa using h3)]
      refine w_skip ?_
      refine x_seq ?_
      refine w_seq ?_
      refine w_region ?_
      refine t_lda (by assumption) ab_seg sb_seg B rfl ?_ rfl
      intro v40 hv40
      obtain ⟨v40_2, rfl, hv40_2⟩ := seg_va hv40
      refine t_fld ln_seg_2 (by assumption) fb_seg_2 rfl ?_ rfl
      intro p41 hp41
      refine t_lds (by assumption) ab_s_hop B rfl ?_ rfl
      intro v42 hv42
      refine t_len e_hop (by assumption) rfl rfl ?_ rfl
      refine t_callx Try.call125 rfl (spec_BetaAt _ _ _ _ (by first | assumption | exact VA.below (by assumption) B | exact seg_mkv (by first | assumption | exact SlR.below (by assumption) B)) (by omega)) ?_ rfl rfl
      intro w70 x71
      have B := bx Hb B x71
      have S := S.below x71
      refine t_fldx fb_part_2 rfl rfl ?_ rfl
      refine t_st1 S sb_int rfl rfl rfl rfl rfl ?_
      intro w72 b73 S
      have B := B.trans b73
      refine t_done ?_
      refine x_seq ?_
      refine w_seq ?_
      refine w_seq ?_
      refine w_region ?_
      refine t_fld ln_seg_2 (by assumption) fb_seg_2 rfl ?_ rfl
      intro p46 hp46
      refine t_lds (by assumption) ab_s_hop B rfl ?_ rfl
      intro v47 hv47
      refine t_len e_hop (by assumption) rfl rfl ?_ rfl
      refine t_sub rfl rfl (by omega) ?_ rfl
      refine t_assign rfl ?_ rfl
      refine t_done ?_
      refine x_seq ?_
      refine w_block ?_
      refine w_loop (X := Int × Value) (fun x wq => (fun j u => i - 1 ≤ j ∧ j ≤ (s.hops.length : Int) - 1 ∧ Below w17.heap.size w17 wq ∧ Sep w17.heap.size wq [bxO g7 71 #[I kind, I s.ts, I (segBeta s s.hops.length), u], slO hopT 74 u (s.hops.drop (j + 1).toNat).reverse, bxO g6 71 #[I 0, I 0, I 0, .slice none 0 0]]) x.1 x.2) (fun x => (fun j u => [(8, I j), (2, I i), (3, p3), (6, .pointer (some ⟨g6, 0, none⟩)), (7, .pointer (some ⟨g7, 0, none⟩))]) x.1 x.2) (fun x => (fun j u => (j + 1 - i).toNat) x.1 x.2) ((s.hops.length : Int) - 1, .slice none 0 0) ?_ ⟨rfl, rfl, rfl, rfl, rfl, trivial⟩ ?_
      · refine ⟨by show i - 1 ≤ (s.hops.length : Int) - 1; omega, by show (s.hops.length : Int) - 1 ≤ _; omega, B, ?_⟩
        show Sep _ _ [_, slO hopT _ _ (s.hops.drop ((s.hops.length : Int) - 1 + 1).toNat).reverse, _]
        rw [List.drop_of_length_le (by omega)]
        exact S.addNil.f1
      · rintro ⟨j, u⟩ w74 hI
        try dsimp only at hI ⊢
        obtain ⟨hk, hk2, B, S⟩ := hI
        have hml : (s.hops.drop (j + 1).toNat).reverse.length ≤ 1048576 := by rw [List.length_reverse, List.length_drop]; omega
        refine w_seq ?_
        refine w_seq ?_
        refine w_region ?_
        refine t_move rfl ?_ rfl
        refine t_move rfl ?_ rfl
        refine t_geq rfl rfl ?_ rfl
        refine t_done ?_
        refine x_seq ?_
        refine w_if rfl ?_ ?_
        · intro hlt
          refine w_skip ?_
          refine x_seq ?_
          refine w_seq ?_
          refine w_block ?_
          refine w_draw (.st .take 0 (.st .take 1 (.st .take 2 (.st .take 3 (.st .take 4 (.st .take 5 (.st .take 6 (.st .run 7 (.st .fin 8 (.st .fin 9 (.st .fin 10 .done))))))))))) mixed (by kernel_rfl) ?_
          intro w75 x76
          have B := bx Hb B x76
          have S := S.below x76
          refine t_fldx fb_part_3 rfl rfl ?_ rfl
          refine t_bx1 S.box ab_s_hop rfl rfl ?_ rfl
          refine t_fld ln_seg_2 (by assumption) fb_seg_2 rfl ?_ rfl
          intro p57 hp57
          refine t_lds (by assumption) ab_s_hop B rfl ?_ rfl
          intro v58 hv58
          refine t_move rfl ?_ rfl
          obtain ⟨e60, he60⟩ : ∃ e, (s.hops)[(j.toNat)]? = some e := getx (by omega)
          refine t_idx e_hop (k := (j.toNat)) (by assumption) he60 B rfl rfl (by first | rfl | omega) ?_ rfl
          intro p60 hp60
          refine t_lda (by assumption) ab_hop sb_hop B rfl ?_ rfl
          intro v61 hv61
          obtain rfl := hop_va hv61
          refine t_lit (T := hopT) (l := [(e60 : Hop)]) (css := [[I e60.ia, I e60.ing, I e60.eg, I e60.exp, I e60.mac]]) hop_flat S (fun w => bs_hop1 _ _ _ _ _ w) rfl rfl rfl rfl (by simp [maxLen]) (litR_one fun _ => rfl) ?_ rfl rfl
          intro u62 w77 x78 S
          have B := bx Hb B x78
          have hR := S.sl
          have S := S.f2
          refine t_cat hop_flat e_hop S hR rfl rfl rfl (by first | omega | (simp [-List.length_flatMap]; omega)) (by (simp [maxLen, -List.length_flatMap]; try omega)) ?_ rfl
          intro v63 w79 x80 S
          have B := B.trans x80
          clear hR
          have S := S.f1
          have S := S.tail
          refine t_fldx fb_part_3 rfl rfl ?_ rfl
          obtain ⟨Av63, cv63, rfl, _⟩ := S.sl.form
          have S := S.f1
          refine t_st1 S sb_s_hop rfl rfl rfl rfl rfl ?_
          intro w81 b82 S
          have B := B.trans b82
          refine t_done' ?_
          refine x_block_normal ?_
          refine x_seq ?_
          refine w_region ?_
          refine t_move rfl ?_ rfl
          refine t_sub rfl rfl (by omega) ?_ rfl
          refine t_assign rfl ?_ rfl
          refine t_done ?_
          refine x_round (X := Int × Value) (I := (fun x wq => (fun j u => i - 1 ≤ j ∧ j ≤ (s.hops.length : Int) - 1 ∧ Below w17.heap.size w17 wq ∧ Sep w17.heap.size wq [bxO g7 71 #[I kind, I s.ts, I (segBeta s s.hops.length), u], slO hopT 74 u (s.hops.drop (j + 1).toNat).reverse, bxO g6 71 #[I 0, I 0, I 0, .slice none 0 0]]) x.1 x.2)) (F := (fun x => (fun j u => [(8, I j), (2, I i), (3, p3), (6, .pointer (some ⟨g6, 0, none⟩)), (7, .pointer (some ⟨g7, 0, none⟩))]) x.1 x.2)) (μ := (fun x => (fun j u => (j + 1 - i).toNat) x.1 x.2)) (j - 1, .slice Av63 (((s.hops.drop (j + 1).toNat).reverse) ++ ([(e60 : Hop)])).length cv63) ?_ (by exact ⟨rfl, rfl, rfl, rfl, rfl, trivial⟩) (by (try dsimp only); omega)
          try dsimp only
          refine ⟨by omega, by omega, B, ?_⟩
          rw [rev_snoc (by omega) he60]
          exact S
        · intro hge
          have hj : j + 1 = i := by omega
          rw [hj] at S
          refine w_exit ?_
          refine x_then_exit ?_
          refine x_then_exit ?_
          refine x_block_exit ?_
          refine x_seq ?_
          refine w_seq ?_
          refine w_region ?_
          refine t_bxn S.box ab_part sb_part rfl rfl ?_ rfl
          have S := S.f2
          refine t_stn S sb_part rfl rfl rfl rfl (by intro zz hu; have hu : zz ∈ ([I kind, I s.ts, I ((segBeta s s.hops.length)), u] : List Value) := hu; simp only [List.mem_cons, List.not_mem_nil, or_false] at hu; rcases hu with rfl | rfl | rfl | rfl <;> first | rfl | exact (SlR.cells (by first | assumption | exact S.tail.sl | exact S.tail.tail.sl | exact S.tail.tail.tail.sl | exact S.tail.tail.tail.tail.sl | exact S.tail.tail.tail.tail.tail.sl | exact S.tail.tail.tail.tail.tail.tail.sl | exact S.tail.tail.tail.tail.tail.tail.tail.sl | exact S.tail.tail.tail.tail.tail.tail.tail.tail.sl)).2) ?_
          intro w83 b84 S
          have B := B.trans b84
          refine t_done ?_
          refine x_seq ?_
          refine w_ret ?_
          refine x_retc rfl rfl S.box ab_part sb_part rfl ?_
          have S := S.f2
          have S := S.partShut (x := ⟨kind, s.ts, segBeta s s.hops.length, (s.hops.drop i.toNat).reverse⟩)
          obtain ⟨fp, hO⟩ := (S.mono X0.size).head
          exact ⟨_, fp, rfl, hO, ext_trans X0 B⟩
end Go.Proofs.Ytdaecknfahgddaa
namespace Go.Proofs.Ytdaecknfahgddaa
open Go.RowKit
set_option linter.unusedVariables false
set_option maxRecDepth 20000
theorem sz_parts_mem {l : List Part} {x : Part} (h : x ∈ l) : l.length + sz_part x ≤ sz_parts l := by
  unfold sz_parts
  have := le_sum_of_mem (List.mem_map_of_mem (f := sz_part) h)
  omega
end Go.Proofs.Ytdaecknfahgddaa
namespace Go.Proofs.Ytdaecknfahgddaa
open Go.RowKit
set_option linter.unusedVariables false
set_option maxRecDepth 20000
/-- The last place below n where the AS is r. -/
def lastI (l : List Hop) (r : Int) : Nat → Int
  | 0 => -1
  | n + 1 => match l[n]? with
    | some x => if x.ia = r then (n : Int) else lastI l r n
    | none => lastI l r n
theorem lastI_yes {l : List Hop} {r : Int} {i : Int} {x : Hop} (h0 : 0 ≤ i) (h : l[i.toNat]? = some x) (e : x.ia = r) : lastI l r (i + 1).toNat = i := by
  rw [show (i + 1).toNat = i.toNat + 1 by omega, lastI, h]
  simp only [e, if_true]
  omega
theorem lastI_no {l : List Hop} {r : Int} {i : Int} {x : Hop} (h0 : 0 ≤ i) (h : l[i.toNat]? = some x) (e : x.ia ≠ r) : lastI l r (i + 1).toNat = lastI l r (i - 1 + 1).toNat := by
  rw [show (i + 1).toNat = i.toNat + 1 by omega, show (i - 1 + 1).toNat = i.toNat by omega, lastI, h]
  simp only [e, if_false]
theorem spec_SegmentASes (p : Seg) (v : Value) (w : World) (h : VA segT w v p) (hz : p.hops.length ≤ 1048576) : Calls Try.prog 123 #[v] w fun e w' => ∃ v fp, e = .returned v ∧ SlO intT 3 w.heap.size w' v (p.hops.map Hop.ia) fp ∧ Below w.heap.size w w' := by
  have X0 := Below.refl w.heap.size w
  refine enter Try.func123 rfl Try.ntmps123 rfl ?_
  refine w_seq ?_
  refine w_region ?_
  refine t_boxr (by assumption) rfl ?_ rfl rfl
  intro p1 w1 x2 hp1
  replace h := h.below x2
  have X0 := ext_trans X0 x2
  have S := Sep.nil w1
  have B := Below.refl w1.heap.size w1
  have Hb := Nat.le_refl w1.heap.size
  refine t_assign rfl ?_ rfl
  refine t_done ?_
  refine x_seq ?_
  refine w_seq ?_
  refine w_region ?_
  refine t_lit (T := intT) (css := []) (l := []) int_flat S bs_int0 rfl rfl rfl rfl (Nat.zero_le _) litR_nil ?_ rfl rfl
  intro u5 w3 x4 S
  have B := bx Hb B x4
  refine t_assign rfl ?_ rfl
  refine t_done ?_
  refine x_seq ?_
  refine w_seq ?_
  refine w_seq ?_
  refine w_region ?_
  refine t_assign rfl ?_ rfl
  refine t_done ?_
  refine x_seq ?_
  refine w_block ?_
  refine w_loop (X := Nat × Value) (fun x wq => (fun k v => k ≤ p.hops.length ∧ Below w1.heap.size w1 wq ∧ Sep w1.heap.size wq [slO intT 3 v ((p.hops.take k).map Hop.ia)]) x.1 x.2) (fun x => (fun k v => [(4, I ((k : Int))), (3, v), (1, p1), (2, .slice none 0 0)]) x.1 x.2) (fun x => (fun k v => p.hops.length - k) x.1 x.2) (0, u5) ?_ ⟨rfl, rfl, rfl, rfl, trivial⟩ ?_
  · exact ⟨by omega, B, S⟩
  · rintro ⟨k, v⟩ w5 hI
    try dsimp only at hI ⊢
    obtain ⟨hk, B, S⟩ := hI
    have hml : ((p.hops.take k).map Hop.ia).length = k := by rw [List.length_map, List.length_take]; omega
    refine w_seq ?_
    refine w_seq ?_
    refine w_region ?_
    refine t_move rfl ?_ rfl
    refine t_fld ln_seg_2 (by assumption) fb_seg_2 rfl ?_ rfl
    intro p7 hp7
    refine t_lds (by assumption) ab_s_hop B rfl ?_ rfl
    intro v8 hv8
    refine t_len e_hop (by assumption) rfl rfl ?_ rfl
    refine t_lss rfl rfl ?_ rfl
    refine t_done ?_
    refine x_seq ?_
    refine w_if rfl ?_ ?_
    · intro hlt
      refine w_skip ?_
      refine x_seq ?_
      refine w_seq ?_
      refine w_block ?_
      refine w_region ?_
      refine t_move rfl ?_ rfl
      refine t_fld ln_seg_2 (by assumption) fb_seg_2 rfl ?_ rfl
      intro p14 hp14
      refine t_lds (by assumption) ab_s_hop B rfl ?_ rfl
      intro v15 hv15
      refine t_move rfl ?_ rfl
      obtain ⟨e17, he17⟩ : ∃ e, (p.hops)[k]? = some e := getx (by omega)
      refine t_idx e_hop (k := k) (by assumption) he17 B rfl rfl (by first | rfl | omega) ?_ rfl
      intro p17 hp17
      refine t_fld ln_hop_0 (by assumption) fb_hop_0 rfl ?_ rfl
      intro p18 hp18
      refine t_ldi (by assumption) ab_int B rfl ?_ rfl
      refine t_lit (T := intT) (l := [e17.ia]) (css := ([e17.ia]).map fun a => [I a]) int_flat S (fun w => bs_int1 _ w) rfl rfl rfl rfl (by simp [maxLen]) (litR_int _) ?_ rfl rfl
      intro u20 w6 x7 S
      have B := bx Hb B x7
      have hR := S.sl
      have S := S.f1
      refine t_cat int_flat e_int S hR rfl rfl rfl (by first | omega | (simp [-List.length_flatMap]; omega)) (by (simp [maxLen, -List.length_flatMap]; try omega)) ?_ rfl
      intro v21 w8 x9 S
      have B := B.trans x9
      clear hR
      have S := S.f1
      have S := S.tail
      refine t_assign rfl ?_ rfl
      refine t_done ?_
      refine x_block_normal ?_
      refine x_seq ?_
      refine w_region ?_
      refine t_move rfl ?_ rfl
      refine t_add rfl rfl (by omega) ?_ rfl
      refine t_assign rfl ?_ rfl
      refine t_done ?_
      refine x_round (X := Nat × Value) (I := (fun x wq => (fun k v => k ≤ p.hops.length ∧ Below w1.heap.size w1 wq ∧ Sep w1.heap.size wq [slO intT 3 v ((p.hops.take k).map Hop.ia)]) x.1 x.2)) (F := (fun x => (fun k v => [(4, I ((k : Int))), (3, v), (1, p1), (2, .slice none 0 0)]) x.1 x.2)) (μ := (fun x => (fun k v => p.hops.length - k) x.1 x.2)) (k + 1, v21) ?_ (by exact ⟨rfl, rfl, rfl, rfl, trivial⟩) (by (try dsimp only); omega)
      try dsimp only
      refine ⟨by omega, B, ?_⟩
      rw [take_succ he17, List.map_append]
      exact S
    · intro hge
      refine w_exit ?_
      refine x_then_exit ?_
      refine x_then_exit ?_
      refine x_block_exit ?_
      refine x_seq ?_
      refine w_seq ?_
      refine w_region ?_
      refine t_move rfl ?_ rfl
      refine t_assign rfl ?_ rfl
      refine t_done ?_
      refine x_seq ?_
      refine w_ret ?_
      refine x_ret1 rfl rfl ?_
      have : k = p.hops.length := by omega
      subst this
      rw [List.take_length] at S
      obtain ⟨fp, hO⟩ := (S.mono X0.size).head
      exact ⟨_, fp, rfl, hO, ext_trans X0 B⟩
def meet (up down : Seg) : Nat → Path
  | 0 => []
  | n + 1 => match up.hops[n]? with
    | none => []
    | some x => if 0 ≤ lastI down.hops x.ia down.hops.length then [makePart up 1 n, makePart down 4 (lastI down.hops x.ia down.hops.length)] else meet up down n
def joinUD (up down : Seg) : Path := meet up down up.hops.length
theorem meet_yes {up down : Seg} {i : Int} {x : Hop} (h0 : 0 ≤ i) (h : up.hops[i.toNat]? = some x) (e : 0 ≤ lastI down.hops x.ia down.hops.length) : meet up down (i + 1).toNat = [makePart up 1 i, makePart down 4 (lastI down.hops x.ia down.hops.length)] := by
  rw [show (i + 1).toNat = i.toNat + 1 by omega, meet, h]
  simp only [e, if_true]
  rw [show (i.toNat : Int) = i by omega]
theorem meet_no {up down : Seg} {i : Int} {x : Hop} (h0 : 0 ≤ i) (h : up.hops[i.toNat]? = some x) (e : ¬ 0 ≤ lastI down.hops x.ia down.hops.length) : meet up down (i + 1).toNat = meet up down (i - 1 + 1).toNat := by
  rw [show (i + 1).toNat = i.toNat + 1 by omega, show (i - 1 + 1).toNat = i.toNat by omega, meet, h]
  simp only [e, if_false]
theorem spec_l22Meet (s t : Seg) (v u : Value) (w : World) (h : VA segT w v s) (h' : VA segT w u t) (hz : s.hops.length ≤ 1048576) (hz' : t.hops.length ≤ 1048576) : Calls Try.prog 96 #[v, u] w fun e w' => ∃ cs fp, e = .returned (.agg cs.toArray) ∧ pathT.O w.heap.size w' cs (joinUD s t) fp ∧ Below w.heap.size w w' := by
  have hml : (s.hops.map Hop.ia).length = s.hops.length := List.length_map ..
  have hml2 : (t.hops.map Hop.ia).length = t.hops.length := List.length_map ..
  have X0 := Below.refl w.heap.size w
  refine enter Try.func96 rfl Try.ntmps96 rfl ?_
  refine w_seq ?_
  refine w_region ?_
  refine t_boxr (by assumption) rfl ?_ rfl rfl
  intro p2 w10 x11 hp2
  replace h := h.below x11
  replace h' := h'.below x11
  have X0 := ext_trans X0 x11
  refine t_boxr (by assumption) rfl ?_ rfl rfl
  intro p3 w12 x13 hp3
  replace h := h.below x13
  replace h' := h'.below x13
  replace hp2 := hp2.below x13
  have X0 := ext_trans X0 x13
  have S := Sep.nil w12
  have B := Below.refl w12.heap.size w12
  have Hb := Nat.le_refl w12.heap.size
  refine t_alloc S z_path rfl ?_ rfl rfl
  intro g4 w14 x15 S
  have B := bx Hb B x15
  refine t_done ?_
  refine x_seq ?_
  refine w_seq ?_
  refine w_region ?_
  refine t_lda (by assumption) ab_seg sb_seg B rfl ?_ rfl
  intro v9 hv9
  obtain ⟨v9_2, rfl, hv9_2⟩ := seg_va hv9
  refine t_call Try.call123 rfl (spec_SegmentASes _ _ _ (by first | assumption | exact VA.below (by assumption) B | exact seg_mkv (by first | assumption | exact SlR.below (by assumption) B)) (by omega)) ?_ rfl rfl
  rintro e w16 ⟨v10, fpv10, rfl, hOv10, x17⟩
  refine ⟨_, rfl, x17, ?_⟩
  have S := S.add (o := slO _ _ _ _) x17 hOv10
  have B := bx Hb B x17
  refine t_assign rfl ?_ rfl
  refine t_done ?_
  refine x_seq ?_
  refine w_seq ?_
  refine w_region ?_
  refine t_lda (by assumption) ab_seg sb_seg B rfl ?_ rfl
  intro v11 hv11
  obtain ⟨v11_2, rfl, hv11_2⟩ := seg_va hv11
  refine t_call Try.call123 rfl (spec_SegmentASes _ _ _ (by first | assumption | exact VA.below (by assumption) B | exact seg_mkv (by first | assumption | exact SlR.below (by assumption) B)) (by omega)) ?_ rfl rfl
  rintro e w18 ⟨v12, fpv12, rfl, hOv12, x19⟩
  refine ⟨_, rfl, x19, ?_⟩
  have S := S.add (o := slO _ _ _ _) x19 hOv12
  have B := bx Hb B x19
  refine t_assign rfl ?_ rfl
  refine t_done ?_
  refine x_seq ?_
  refine w_seq ?_
  refine w_seq ?_
  refine w_region ?_
  refine t_move rfl ?_ rfl
  refine t_len e_int (S.tail.sl) rfl rfl ?_ rfl
  refine t_sub rfl rfl (by omega) ?_ rfl
  refine t_assign rfl ?_ rfl
  refine t_done ?_
  refine x_seq ?_
  refine w_block ?_
  refine w_loop (X := Int) (fun i wq => -1 ≤ i ∧ i ≤ (s.hops.length : Int) - 1 ∧ meet s t (i + 1).toNat = joinUD s t ∧ Below w12.heap.size w12 wq ∧ Sep w12.heap.size wq [bxO g4 30 #[.slice none 0 0], slO intT 3 v10 (s.hops.map Hop.ia), slO intT 3 v12 (t.hops.map Hop.ia)]) (fun i => [(7, I i), (2, p2), (3, p3), (4, .pointer (some ⟨g4, 0, none⟩)), (5, v10), (6, v12)]) (fun i => (i + 1).toNat) (((s.hops.map Hop.ia).length : Int) - 1) ?_ ⟨rfl, rfl, rfl, rfl, rfl, rfl, trivial⟩ ?_
  · exact ⟨by omega, by omega, by rw [show (((s.hops.map Hop.ia).length : Int) - 1 + 1).toNat = s.hops.length by omega]; rfl, B, S.f1.f2⟩
  · rintro i w20 hI
    try dsimp only at hI ⊢
    obtain ⟨hk, hk2, hl, B, S⟩ := hI
    refine w_seq ?_
    refine w_seq ?_
    refine w_region ?_
    refine t_move rfl ?_ rfl
    refine t_geq rfl rfl ?_ rfl
    refine t_done ?_
    refine x_seq ?_
    refine w_if rfl ?_ ?_
    · intro hlt
      obtain ⟨x, hx⟩ : ∃ e, s.hops[i.toNat]? = some e := getx (by omega)
      have hxm : (s.hops.map Hop.ia)[i.toNat]? = some x.ia := by rw [List.getElem?_map, hx]; rfl
      refine w_skip ?_
      refine x_seq ?_
      refine w_seq ?_
      refine w_block ?_
      refine w_seq ?_
      refine w_region ?_
      refine t_move rfl ?_ rfl
      refine t_len e_int (S.tail.tail.sl) rfl rfl ?_ rfl
      refine t_sub rfl rfl (by omega) ?_ rfl
      refine t_assign rfl ?_ rfl
      refine t_done ?_
      refine x_seq ?_
      refine w_block ?_
      refine w_loop (X := Int) (fun k wq => -1 ≤ k ∧ k ≤ (t.hops.length : Int) - 1 ∧ lastI t.hops x.ia (k + 1).toNat = lastI t.hops x.ia t.hops.length ∧ Below w12.heap.size w12 wq ∧ Sep w12.heap.size wq [bxO g4 30 #[.slice none 0 0], slO intT 3 v10 (s.hops.map Hop.ia), slO intT 3 v12 (t.hops.map Hop.ia)]) (fun k => [(8, I k), (7, I i), (2, p2), (3, p3), (4, .pointer (some ⟨g4, 0, none⟩)), (5, v10), (6, v12)]) (fun k => (k + 1).toNat) (((t.hops.map Hop.ia).length : Int) - 1) ?_ ⟨rfl, rfl, rfl, rfl, rfl, rfl, rfl, trivial⟩ ?_
      · exact ⟨by omega, by omega, by rw [show (((t.hops.map Hop.ia).length : Int) - 1 + 1).toNat = t.hops.length by omega], B, S⟩
      · rintro k w21 hI
        try dsimp only at hI ⊢
        obtain ⟨hj, hj2, hm, B, S⟩ := hI
        refine w_seq ?_
        refine w_seq ?_
        refine w_region ?_
        refine t_move rfl ?_ rfl
        refine t_geq rfl rfl ?_ rfl
        refine t_done ?_
        refine x_seq ?_
        refine w_if rfl ?_ ?_
        · intro hlt2
          obtain ⟨y, hy⟩ : ∃ e, t.hops[k.toNat]? = some e := getx (by omega)
          have hym : (t.hops.map Hop.ia)[k.toNat]? = some y.ia := by rw [List.getElem?_map, hy]; rfl
          refine w_skip ?_
          refine x_seq ?_
          refine w_seq ?_
          refine w_block ?_
          refine w_seq ?_
          refine w_draw (.st .take 0 (.st .take 1 (.st .take 2 (.st .take 3 (.st .take 4 (.st .take 5 (.st .take 6 (.st .take 7 (.st .take 8 .done))))))))) mixed (by kernel_rfl) ?_
          intro w22 x23
          have B := bx Hb B x23
          have S := S.below x23
          refine t_move rfl ?_ rfl
          refine t_move rfl ?_ rfl
          refine t_idx e_int (k := (i.toNat)) (S.tail.sl) hxm (Below.refl _ _) rfl rfl (by first | rfl | omega) ?_ rfl
          intro p29 hp29
          refine t_ldi (by assumption) ab_int (Below.refl _ _) rfl ?_ rfl
          refine t_move rfl ?_ rfl
          refine t_move rfl ?_ rfl
          refine t_idx e_int (k := (k.toNat)) (S.tail.tail.sl) hym (Below.refl _ _) rfl rfl (by first | rfl | omega) ?_ rfl
          intro p33 hp33
          refine t_ldi (by assumption) ab_int (Below.refl _ _) rfl ?_ rfl
          refine t_eql rfl rfl ?_ rfl
          refine t_done' ?_
          refine x_seq ?_
          refine w_if rfl ?_ ?_
          · intro he
            have hL : lastI t.hops x.ia t.hops.length = k := by rw [← hm, lastI_yes (by omega) hy he.symm]
            have hM := meet_yes (down := t) (by omega) hx (by omega)
            rw [hL] at hM
            rw [← hl, hM]
            refine w_seq ?_
            refine w_draw (.st .take 0 (.st .take 1 (.st .take 3 (.st .take 4 (.st .run 2 (.st .run 5 (.st .run 6 (.st .take 7 (.st .fin 8 .done))))))))) mixed (by kernel_rfl) ?_
            intro w24 x25
            have B := bx Hb B x25
            have S := S.below x25
            refine t_lda (by assumption) ab_seg sb_seg B rfl ?_ rfl
            intro v36 hv36
            obtain ⟨v36_2, rfl, hv36_2⟩ := seg_va hv36
            refine t_move rfl ?_ rfl
            refine t_lda (by assumption) ab_seg sb_seg B rfl ?_ rfl
            intro v39 hv39
            obtain ⟨v39_2, rfl, hv39_2⟩ := seg_va hv39
            refine t_move rfl ?_ rfl
            refine t_call Try.call97 rfl (spec_MakePart _ _ _ _ _ (by first | assumption | exact VA.below (by assumption) B | exact seg_mkv (by first | assumption | exact SlR.below (by assumption) B)) (by omega)) ?_ rfl rfl
            rintro e w26 ⟨cs38, fp38, rfl, hO38, x27⟩
            refine ⟨_, rfl, x27, ?_⟩
            have S := S.add (o := tyO partT _ _) x27 hO38
            have B := bx Hb B x27
            obtain ⟨u38_3, heq, S2⟩ := S.partOpen
            subst heq
            have S := S2
            clear S2
            refine t_call Try.call97 rfl (spec_MakePart _ _ _ _ _ (by first | assumption | exact VA.below (by assumption) B | exact seg_mkv (by first | assumption | exact SlR.below (by assumption) B)) (by omega)) ?_ rfl rfl
            rintro e w28 ⟨cs41, fp41, rfl, hO41, x29⟩
            refine ⟨_, rfl, x29, ?_⟩
            have S := S.add (o := tyO partT _ _) x29 hO41
            have B := bx Hb B x29
            obtain ⟨u41_3, heq, S2⟩ := S.partOpen
            subst heq
            have S := S2
            clear S2
            have S := S.partShut (x := makePart t 4 k)
            have S := S.f1
            have S := S.partShut (x := makePart s 1 i)
            refine t_lit2 S (fun w => bs_part2 _ _ _ _ _ _ _ _ w) rfl rfl ?_ rfl rfl
            intro u42 w30 x31 S
            have B := bx Hb B x31
            obtain ⟨Au42, cu42, rfl, _⟩ := S.sl.form
            refine t_build (fun w => b_path _ _ _ w) rfl ?_ rfl
            have S := S.f1
            refine t_stn S sb_path rfl rfl rfl rfl (by intro zz hu; have hu : zz ∈ ([.slice Au42 ([makePart s 1 i, makePart t 4 k]).length cu42] : List Value) := hu; simp only [List.mem_cons, List.not_mem_nil, or_false] at hu; rcases hu with rfl <;> first | rfl | exact (SlR.cells (by first | assumption | exact S.tail.sl | exact S.tail.tail.sl | exact S.tail.tail.tail.sl | exact S.tail.tail.tail.tail.sl | exact S.tail.tail.tail.tail.tail.sl | exact S.tail.tail.tail.tail.tail.tail.sl | exact S.tail.tail.tail.tail.tail.tail.tail.sl | exact S.tail.tail.tail.tail.tail.tail.tail.tail.sl)).2) ?_
            intro w32 b33 S
            have B := B.trans b33
            refine t_done' ?_
            refine x_seq ?_
            refine w_ret ?_
            refine x_block_ret ?_
            refine x_then_ret ?_
            refine x_then_ret ?_
            refine x_block_ret ?_
            refine x_block_ret ?_
            refine x_then_ret ?_
            refine x_then_ret ?_
            refine x_block_ret ?_
            refine x_then_ret ?_
            refine x_retc rfl rfl S.box ab_path sb_path rfl ?_
            have S := S.f1
            have S := S.pathShut (x := [makePart s 1 i, makePart t 4 k])
            obtain ⟨fp, hO⟩ := (S.mono X0.size).head
            exact ⟨_, fp, rfl, hO, ext_trans X0 B⟩
          · intro he
            refine w_skip ?_
            refine x_block_normal ?_
            refine x_seq ?_
            refine w_region ?_
            refine t_move rfl ?_ rfl
            refine t_sub rfl rfl (by omega) ?_ rfl
            refine t_assign rfl ?_ rfl
            refine t_done ?_
            refine x_round (X := Int) (I := (fun k wq => -1 ≤ k ∧ k ≤ (t.hops.length : Int) - 1 ∧ lastI t.hops x.ia (k + 1).toNat = lastI t.hops x.ia t.hops.length ∧ Below w12.heap.size w12 wq ∧ Sep w12.heap.size wq [bxO g4 30 #[.slice none 0 0], slO intT 3 v10 (s.hops.map Hop.ia), slO intT 3 v12 (t.hops.map Hop.ia)])) (F := (fun k => [(8, I k), (7, I i), (2, p2), (3, p3), (4, .pointer (some ⟨g4, 0, none⟩)), (5, v10), (6, v12)])) (μ := (fun k => (k + 1).toNat)) (k - 1) ?_ (by exact ⟨rfl, rfl, rfl, rfl, rfl, rfl, rfl, trivial⟩) (by (try dsimp only); omega)
            try dsimp only
            exact ⟨by omega, by omega, by rw [← lastI_no (by omega) hy (fun e => he e.symm)]; exact hm, B, S⟩
        · intro hge2
          refine w_exit ?_
          refine x_then_exit ?_
          refine x_then_exit ?_
          refine x_block_exit ?_
          refine x_block_normal ?_
          refine x_seq ?_
          refine w_region ?_
          refine t_move rfl ?_ rfl
          refine t_sub rfl rfl (by omega) ?_ rfl
          refine t_assign rfl ?_ rfl
          refine t_done ?_
          refine x_round (X := Int) (I := (fun i wq => -1 ≤ i ∧ i ≤ (s.hops.length : Int) - 1 ∧ meet s t (i + 1).toNat = joinUD s t ∧ Below w12.heap.size w12 wq ∧ Sep w12.heap.size wq [bxO g4 30 #[.slice none 0 0], slO intT 3 v10 (s.hops.map Hop.ia), slO intT 3 v12 (t.hops.map Hop.ia)])) (F := (fun i => [(7, I i), (2, p2), (3, p3), (4, .pointer (some ⟨g4, 0, none⟩)), (5, v10), (6, v12)])) (μ := (fun i => (i + 1).toNat)) (i - 1) ?_ (by exact ⟨rfl, rfl, rfl, rfl, rfl, rfl, trivial⟩) (by (try dsimp only); omega)
          try dsimp only
          have : k = -1 := by omega
          subst this
          have hL : lastI t.hops x.ia t.hops.length = -1 := by rw [← hm]; rfl
          exact ⟨by omega, by omega, by rw [← meet_no (by omega) hx (by omega)]; exact hl, B, S⟩
    · intro hge
      refine w_exit ?_
      refine x_then_exit ?_
      refine x_then_exit ?_
      refine x_block_exit ?_
      refine x_seq ?_
      refine w_seq ?_
      refine w_region ?_
      refine t_build (fun w => b_path0 w) rfl ?_ rfl
      refine t_stn S sb_path rfl rfl rfl rfl (by simp [Value.oneCell']) ?_
      intro w34 b35 S
      have B := B.trans b35
      refine t_done ?_
      refine x_seq ?_
      refine w_ret ?_
      refine x_retc rfl rfl S.box ab_path sb_path rfl ?_
      have : i = -1 := by omega
      subst this
      have S := Sep.addNil (T := partT) (e := 71) S
      have S := S.pathShut (x := [])
      obtain ⟨fp, hO⟩ := (S.mono X0.size).head
      exact ⟨_, fp, rfl, by rw [← hl]; exact hO, ext_trans X0 B⟩
theorem make_len (s : Seg) (k i : Int) : (makePart s k i).hops.length ≤ s.hops.length := by
  unfold makePart
  split
  · split
    · show ((s.hops.drop i.toNat).reverse).length ≤ _; rw [List.length_reverse, List.length_drop]; omega
    · show (s.hops.drop i.toNat).length ≤ _; rw [List.length_drop]; omega
  · exact Nat.zero_le _
end Go.Proofs.Ytdaecknfahgddaa
namespace Go.Proofs.Ytdaecknfahgddaa
open Go.RowKit
set_option linter.unusedVariables false
set_option maxRecDepth 20000
section
variable {P : Program} {n : Nat} {ops : Array Oper} {Q : Exit → Act → World → Prop} {L : Frm} {w : World} {m : Md} {r : IT} {d : Nat} {ty : TypeId} {pos : String} {af : Array Edge}
theorem x_ret0 {fn : Func} {R : Ending → World → Prop} (hr : fn.results = #[]) (h : R (.returned (.tuple #[])) w) : WX n (bodyPost P fn R) .ret L w := by
  intro a ha
  exact bodyPost_ret (by simp [results, hr]) ha.defers h
end
end Go.Proofs.Ytdaecknfahgddaa
namespace Go.Proofs.Ytdaecknfahgddaa
open Go.RowKit
set_option linter.unusedVariables false
set_option maxRecDepth 20000
def computeMac (key : Int) (l : List Int) : Int := digest ([key] ++ l ++ [key])
def hopMac (key ts beta : Int) (h : Hop) : Int := computeMac key [ts, beta, h.ia, h.ing, h.eg, h.exp]
theorem spec_ComputeMAC (key : Int) (l : List Int) (v : Value) (w : World) (h : SlR intT w v l) (hn : l.length ≤ 1048576) : Calls Try.prog 137 #[I key, v] w fun e w' => e = .returned (I (computeMac key l)) ∧ Below w.heap.size w w' := by
  have X0 := Below.refl w.heap.size w
  refine enter Try.func137 rfl Try.ntmps137 rfl ?_
  refine w_seq ?_
  refine w_region ?_
  have S := Sep.nil w
  have B := Below.refl w.heap.size w
  have Hb := Nat.le_refl w.heap.size
  refine t_assign rfl ?_ rfl
  refine t_done ?_
  refine x_seq ?_
  refine w_seq ?_
  refine w_region ?_
  refine t_move rfl ?_ rfl
  refine t_lit (T := intT) (l := [key]) (css := ([key]).map fun a => [I a]) int_flat S (fun w => bs_int1 _ w) rfl rfl rfl rfl (by simp [maxLen]) (litR_int _) ?_ rfl rfl
  intro u6 w1 x2 S
  have B := bx Hb B x2
  refine t_move rfl ?_ rfl
  refine t_cat int_flat e_int S (by first | assumption | exact SlR.below (by assumption) B) rfl rfl rfl (by first | omega | (simp [-List.length_flatMap]; omega)) (by (simp [maxLen, -List.length_flatMap]; try omega)) ?_ rfl
  intro v8 w3 x4 S
  have B := B.trans x4
  refine t_move rfl ?_ rfl
  refine t_lit (T := intT) (l := [key]) (css := ([key]).map fun a => [I a]) int_flat S (fun w => bs_int1 _ w) rfl rfl rfl rfl (by simp [maxLen]) (litR_int _) ?_ rfl rfl
  intro u10 w5 x6 S
  have B := bx Hb B x6
  have hR := S.sl
  have S := S.f1
  refine t_cat int_flat e_int S hR rfl rfl rfl (by first | omega | (simp [-List.length_flatMap]; omega)) (by (simp [maxLen, -List.length_flatMap]; try omega)) ?_ rfl
  intro v11 w7 x8 S
  have B := B.trans x8
  clear hR
  have S := S.f1
  have S := S.tail
  refine t_calls Try.call139 rfl (spec_Digest _ _ _ (S.sl) (by simp; omega)) ?_ rfl rfl
  refine t_assign rfl ?_ rfl
  refine t_done ?_
  refine x_seq ?_
  refine w_ret ?_
  refine x_ret1 rfl rfl ?_
  exact ⟨rfl, ext_trans X0 B⟩
theorem spec_HopMAC (key ts beta : Int) (x : Hop) (w : World) : Calls Try.prog 133 #[I key, I ts, I beta, .agg #[I x.ia, I x.ing, I x.eg, I x.exp, I x.mac]] w fun e w' => e = .returned (I (hopMac key ts beta x)) ∧ Below w.heap.size w w' := by
  have h := hop_mkv w x
  have X0 := Below.refl w.heap.size w
  refine enter Try.func133 rfl Try.ntmps133 rfl ?_
  refine w_seq ?_
  refine w_region ?_
  refine t_boxr (by assumption) rfl ?_ rfl rfl
  intro p7 w9 x10 hp7
  replace h := h.below x10
  have X0 := ext_trans X0 x10
  have S := Sep.nil w9
  have B := Below.refl w9.heap.size w9
  have Hb := Nat.le_refl w9.heap.size
  refine t_assign rfl ?_ rfl
  refine t_done ?_
  refine x_seq ?_
  refine w_seq ?_
  refine w_region ?_
  refine t_move rfl ?_ rfl
  refine t_move rfl ?_ rfl
  refine t_move rfl ?_ rfl
  refine t_fld ln_hop_0 (by assumption) fb_hop_0 rfl ?_ rfl
  intro p12 hp12
  refine t_ldi (by assumption) ab_int B rfl ?_ rfl
  refine t_fld ln_hop_1 (by assumption) fb_hop_1 rfl ?_ rfl
  intro p14 hp14
  refine t_ldi (by assumption) ab_int B rfl ?_ rfl
  refine t_fld ln_hop_2 (by assumption) fb_hop_2 rfl ?_ rfl
  intro p16 hp16
  refine t_ldi (by assumption) ab_int B rfl ?_ rfl
  refine t_fld ln_hop_3 (by assumption) fb_hop_3 rfl ?_ rfl
  intro p18 hp18
  refine t_ldi (by assumption) ab_int B rfl ?_ rfl
  refine t_lit (T := intT) (l := [ts, beta, x.ia, x.ing, x.eg, x.exp]) (css := ([ts, beta, x.ia, x.ing, x.eg, x.exp]).map fun a => [I a]) int_flat S (fun w => bs_int6 _ _ _ _ _ _ w) rfl rfl rfl rfl (by simp [maxLen]) (litR_int _) ?_ rfl rfl
  intro u20 w11 x12 S
  have B := bx Hb B x12
  refine t_callx Try.call137 rfl (spec_ComputeMAC _ _ _ _ (S.sl) (by simp)) ?_ rfl rfl
  intro w13 x14
  have B := bx Hb B x14
  have S := S.below x14
  refine t_assign rfl ?_ rfl
  refine t_done ?_
  refine x_seq ?_
  refine w_ret ?_
  refine x_ret1 rfl rfl ?_
  exact ⟨rfl, ext_trans X0 B⟩
end Go.Proofs.Ytdaecknfahgddaa
namespace Go.Proofs.Ytdaecknfahgddaa
open Go.RowKit
set_option linter.unusedVariables false
set_option maxRecDepth 20000
def isAS (t : Topo) (r : Int) : Bool := inR r 0 ((t.ases.length : Int) - 1)
def asKey (t : Topo) (r : Int) : Int := match t.ases[r.toNat]? with
  | some a => a.key
  | none => 0
def verifyHop (t : Topo) (ts beta : Int) (h : Hop) : Bool := validHop h && (isAS t h.ia && decide (h.mac = hopMac (asKey t h.ia) ts beta h))
theorem impl_isAS (t : Topo) (v : Value) (r : Int) (w : World) (h : VA topoT w v t) (hz : sz_topo t ≤ 1048576) : Calls Try.prog 127 #[v, I r] w fun e w' => e = .returned (.bool (isAS t r)) ∧ Below w.heap.size w w' := by
  have hz' : t.ases.length ≤ 1048576 := by unfold sz_topo at hz; omega
  have X0 := Below.refl w.heap.size w
  refine enter Try.func127 rfl Try.ntmps127 rfl ?_
  refine w_seq ?_
  refine w_region ?_
  refine t_boxr (by assumption) rfl ?_ rfl rfl
  intro p2 w1 x2 hp2
  replace h := h.below x2
  have X0 := ext_trans X0 x2
  have S := Sep.nil w1
  have B := Below.refl w1.heap.size w1
  have Hb := Nat.le_refl w1.heap.size
  refine t_assign rfl ?_ rfl
  refine t_done ?_
  refine x_seq ?_
  refine w_seq ?_
  refine w_region ?_
  refine t_move rfl ?_ rfl
  refine t_fld ln_topo_0 (by assumption) fb_topo_0 rfl ?_ rfl
  intro p6 hp6
  refine t_lds (by assumption) ab_s_asn B rfl ?_ rfl
  intro v7 hv7
  refine t_len e_asn (by assumption) rfl rfl ?_ rfl
  refine t_sub rfl rfl (by omega) ?_ rfl
  refine t_calls Try.call57 rfl (impl_InRange _ _ _ _) ?_ rfl rfl
  refine t_assign rfl ?_ rfl
  refine t_done ?_
  refine x_seq ?_
  refine w_ret ?_
  refine x_ret1 rfl rfl ?_
  exact ⟨rfl, ext_trans X0 B⟩
theorem spec_l5Realm (t : Topo) (v : Value) (r : Int) (w : World) (h : VA topoT w v t) (hz : sz_topo t ≤ 1048576) : Calls Try.prog 103 #[v, I r] w fun e w' => e = .returned (.bool (isAS t r)) ∧ Below w.heap.size w w' := by
  have hz' : t.ases.length ≤ 1048576 := by unfold sz_topo at hz; omega
  have X0 := Below.refl w.heap.size w
  refine enter Try.func103 rfl Try.ntmps103 rfl ?_
  refine w_seq ?_
  refine w_region ?_
  refine t_boxr (by assumption) rfl ?_ rfl rfl
  intro p2 w3 x4 hp2
  replace h := h.below x4
  have X0 := ext_trans X0 x4
  have S := Sep.nil w3
  have B := Below.refl w3.heap.size w3
  have Hb := Nat.le_refl w3.heap.size
  refine t_assign rfl ?_ rfl
  refine t_done ?_
  refine x_seq ?_
  refine w_seq ?_
  refine w_region ?_
  refine t_move rfl ?_ rfl
  refine t_fld ln_topo_0 (by assumption) fb_topo_0 rfl ?_ rfl
  intro p6 hp6
  refine t_lds (by assumption) ab_s_asn B rfl ?_ rfl
  intro v7 hv7
  refine t_len e_asn (by assumption) rfl rfl ?_ rfl
  refine t_sub rfl rfl (by omega) ?_ rfl
  refine t_calls Try.call54 rfl (spec_l1In _ _ _ _) ?_ rfl rfl
  refine t_assign rfl ?_ rfl
  refine t_done ?_
  refine x_seq ?_
  refine w_ret ?_
  refine x_ret1 rfl rfl ?_
  exact ⟨rfl, ext_trans X0 B⟩
end Go.Proofs.Ytdaecknfahgddaa
namespace Go.Proofs.Ytdaecknfahgddaa
open Go.RowKit
set_option linter.unusedVariables false
theorem et_step : ElemT Try.prog 34 37 3 24 := ElemT.mk' Try.underlying34 (z := .agg #[I 0, I 0, I 0]) (by kernel_rfl) rfl (by omega)
end Go.Proofs.Ytdaecknfahgddaa
namespace Go.Proofs.Ytdaecknfahgddaa
open Go.RowKit
set_option linter.unusedVariables false
def hopIa (x : Part) (j : Nat) : Int := match x.hops[j]? with
  | none => 0
  | some h => h.ia
def lastOf (l : List Stp) : Stp := (l[l.length - 1]?).getD ⟨0, 0, 0⟩
def firstOf (l : List Stp) : Stp := (l[0]?).getD ⟨0, 0, 0⟩
/-- Whether hop j of part i is the same AS as_ the last step so far. -/
def joinAt (i : Nat) (x : Part) (l : List Stp) (j : Nat) : Bool := decide (0 < i) && (decide (j = 0) && (decide (0 < l.length) && ((lastOf l).ia == hopIa x j)))
def addHop (i : Nat) (x : Part) (l : List Stp) (j : Nat) : List Stp :=
  if joinAt i x l j then l.set (l.length - 1) { lastOf l with eg := partOut x j } else l ++ [⟨hopIa x j, partIn x j, partOut x j⟩]
def hopsTo (i : Nat) (x : Part) (l : List Stp) (j : Nat) : List Stp := (List.range j).foldl (addHop i x) l
def addPart (p : Path) (l : List Stp) (i : Nat) : List Stp := match p[i]? with
  | none => l
  | some x => hopsTo i x l x.hops.length
def rawSteps (p : Path) (k : Nat) : List Stp := (List.range k).foldl (addPart p) []
def cutFirst (l : List Stp) : List Stp := l.set 0 { firstOf l with ing := 0 }
def cutLast (l : List Stp) : List Stp := l.set (l.length - 1) { lastOf l with eg := 0 }
def pathSteps (p : Path) : List Stp := cutLast (cutFirst (rawSteps p p.length))
theorem hopsTo_succ (i : Nat) (x : Part) (l : List Stp) (j : Nat) : hopsTo i x l (j + 1) = addHop i x (hopsTo i x l j) j := by
  unfold hopsTo; rw [List.range_succ, List.foldl_append]; rfl
theorem rawSteps_succ {p : Path} {k : Nat} {x : Part} (h : p[k]? = some x) : rawSteps p (k + 1) = hopsTo k x (rawSteps p k) x.hops.length := by
  unfold rawSteps; rw [List.range_succ, List.foldl_append]
  show addPart p _ k = _
  unfold addPart; rw [h]
theorem addHop_len (i : Nat) (x : Part) (l : List Stp) (j : Nat) : (addHop i x l j).length ≤ l.length + 1 := by
  unfold addHop; split <;> simp
theorem hopsTo_len (i : Nat) (x : Part) (l : List Stp) (j : Nat) : (hopsTo i x l j).length ≤ l.length + j := by
  induction j with
  | zero => simp [hopsTo]
  | succ j ih => rw [hopsTo_succ]; have := addHop_len i x (hopsTo i x l j) j; omega
theorem rawSteps_len (p : Path) (k : Nat) : (rawSteps p k).length ≤ ((p.take k).map fun x => x.hops.length).sum := by
  induction k with
  | zero => simp [rawSteps]
  | succ k ih =>
    cases h : p[k]? with
    | none =>
      have e : rawSteps p (k + 1) = rawSteps p k := by
        unfold rawSteps; rw [List.range_succ, List.foldl_append]
        show addPart p _ k = _
        unfold addPart; rw [h]
      have h2 : p.length ≤ k := List.getElem?_eq_none_iff.1 h
      rw [e, List.take_of_length_le (by omega)]
      rw [List.take_of_length_le (by omega)] at ih
      exact ih
    | some x =>
      rw [rawSteps_succ h, take_succ h, List.map_append, List.sum_append]
      have := hopsTo_len k x (rawSteps p k) x.hops.length
      simp only [List.map_cons, List.map_nil, List.sum_cons, List.sum_nil]
      omega
theorem take_hops_le (p : Path) (k : Nat) : ((p.take k).map fun x => x.hops.length).sum ≤ sz_path p := by
  have h1 : (p.map fun x => x.hops.length).sum = ((p.take k).map fun x => x.hops.length).sum + ((p.drop k).map fun x => x.hops.length).sum := by
    rw [← List.sum_append, ← List.map_append, List.take_append_drop]
  have h2 : sz_path p = List.length p + (p.map fun x => x.hops.length).sum := rfl
  omega
/-- The bound that each append needs. -/
theorem hopsTo_bound {p : Path} {k : Nat} {x : Part} (h : p[k]? = some x) {j : Nat} (hj : j ≤ x.hops.length) : (hopsTo k x (rawSteps p k) j).length ≤ sz_path p := by
  have h1 := hopsTo_len k x (rawSteps p k) j
  have h2 := rawSteps_len p k
  have h3 := take_hops_le p (k + 1)
  rw [take_succ h, List.map_append, List.sum_append] at h3
  simp only [List.map_cons, List.map_nil, List.sum_cons, List.sum_nil] at h3
  omega
theorem rawSteps_bound (p : Path) (k : Nat) : (rawSteps p k).length ≤ sz_path p := Nat.le_trans (rawSteps_len p k) (take_hops_le p k)
theorem pathSteps_len (p : Path) : (pathSteps p).length ≤ sz_path p := by
  have := rawSteps_bound p p.length
  simpa [pathSteps, cutLast, cutFirst] using this
theorem hops_le_path {p : Path} {x : Part} (h : x ∈ p) : x.hops.length ≤ sz_path p := by
  have := le_sum_of_mem (List.mem_map.2 ⟨x, h, rfl⟩ : sz_part x ∈ p.map sz_part)
  show _ ≤ List.length p + _
  have e : sz_part x = x.hops.length := rfl
  omega
theorem lastOf_at {l : List Stp} {s : Stp} (h : l[l.length - 1]? = some s) : lastOf l = s := by unfold lastOf; rw [h]; rfl
theorem firstOf_at {l : List Stp} {s : Stp} (h : l[0]? = some s) : firstOf l = s := by unfold firstOf; rw [h]; rfl
theorem hopIa_at {x : Part} {j : Nat} {y : Hop} (h : x.hops[j]? = some y) : hopIa x j = y.ia := by unfold hopIa; rw [h]
theorem addHop_join {i : Nat} {x : Part} {l : List Stp} {j : Nat} (h : joinAt i x l j = true) : addHop i x l j = l.set (l.length - 1) { lastOf l with eg := partOut x j } := by unfold addHop; rw [h]; rfl
theorem addHop_new {i : Nat} {x : Part} {l : List Stp} {j : Nat} (h : joinAt i x l j = false) : addHop i x l j = l ++ [⟨hopIa x j, partIn x j, partOut x j⟩] := by unfold addHop; rw [h]; rfl
end Go.Proofs.Ytdaecknfahgddaa
namespace Go.Proofs.Ytdaecknfahgddaa
open Go.RowKit
set_option linter.unusedVariables false
theorem step_put2 {base : Nat} {w : World} {cs : List Value} {s : Stp} {f : List Nat} (h : stepT.O base w cs s f) (v : Int) : stepT.O base w (cs.set 2 (I v)) { s with eg := v } f := by
  have e : cs = [I s.ia, I s.ing, I s.eg] := h.1
  subst e
  exact ⟨rfl, h.2⟩
theorem step_put1 {base : Nat} {w : World} {cs : List Value} {s : Stp} {f : List Nat} (h : stepT.O base w cs s f) (v : Int) : stepT.O base w (cs.set 1 (I v)) { s with ing := v } f := by
  have e : cs = [I s.ia, I s.ing, I s.eg] := h.1
  subst e
  exact ⟨rfl, h.2⟩
set_option maxRecDepth 100000 in
set_option maxHeartbeats 4000000 in
theorem impl_PathSteps (p : Path) (cs : List Value) (w : World) (h : pathT.R w cs p) (hz : sz_path p ≤ 1048576) (hl : lenOk_path p) (hg : rng_path p) :
    Calls Try.prog 10 #[.agg cs.toArray] w fun r w' => ∃ v fp, r = .returned v ∧ SlO stepT 37 w.heap.size w' v (pathSteps p) fp ∧ Below w.heap.size w w' := by
  obtain ⟨A, c, rfl, ⟨h, _⟩⟩ := path_form h
  obtain ⟨n, H⟩ : ∃ n, Hid (n = p.length) := ⟨_, rfl⟩
  have hn : n ≤ 1048576 := by rw [H.out]; have : sz_path p = List.length p + (p.map sz_part).sum := rfl; omega
  have Hz := hid hz
  clear hz hl hg
  rw [← H.out] at h ⊢
  have hb0 : Below w.heap.size w (w.alloc (.cells #[.slice A n c] 30)) := ext_alloc1 _ _
  go_enter Try.func10, Try.ntmps10
  go_wp2
  go_loopw [3, 12] (fun v i wr => ∃ k : Nat, k ≤ n ∧ i = I k ∧ Below w.heap.size w wr ∧ ∃ fp, SlO stepT 37 w.heap.size wr v (rawSteps p k) fp) (fun _ i _ => n - (intOf i).toNat)
  case atStart => exact ⟨0, by omega, rfl, hb0, [], SlO.nil⟩
  case round =>
    obtain ⟨k, hk, rfl, hb, fp, hO⟩ := hrel
    clear hb0
    obtain ⟨wo, rfl⟩ : ∃ wo : World, wo = wr := ⟨_, rfl⟩
    by_cases hlt : k < n
    · obtain ⟨g, o, q, x, B, d, e, hg, hxk, hin, hd, c0, c1, c2, c3⟩ := part_at h (by rw [← H.out]; exact hlt)
      rw [← H.out] at e
      cases e
      replace c0 := ck hb c0
      replace c1 := ck hb c1
      replace c2 := ck hb c2
      replace c3 := ck hb c3
      have hm2 : x.hops.length ≤ 1048576 := Nat.le_trans (hops_le_path (List.mem_of_getElem? hxk.out)) Hz.out
      obtain ⟨m, Hm⟩ : ∃ m, Hid (m = x.hops.length) := ⟨_, rfl⟩
      rw [← Hm.out] at hin hd hm2 c3
      have Hbd : Hid (∀ j, j ≤ m → (hopsTo k x (rawSteps p k) j).length ≤ 1048576) := fun j hj => Nat.le_trans (hopsTo_bound hxk.out (by rw [← Hm.out]; exact hj)) Hz.out
      have hsuc : Hid (rawSteps p (k + 1) = hopsTo k x (rawSteps p k) m) := by show _ = _; rw [Hm.out]; exact rawSteps_succ hxk.out
      obtain ⟨l0, Hl0⟩ : ∃ l0, Hid (l0 = rawSteps p k) := ⟨_, rfl⟩
      rw [← Hl0.out] at hO hsuc Hbd
      have hz0 : w.heap.size ≤ wo.heap.size := hb.size
      have C0 := hid c0
      have C1 := hid c1
      have C2 := hid c2
      have C3 := hid c3
      have hOa := hid (hO.alloc (.cells #[I x.kind, I x.ts, I x.beta, .slice B m d] 71))
      have hfr := hid fun hm => Nat.lt_irrefl _ (hO.size_ok wo.heap.size hm).2
      have hba := hid (ext_alloc hb (.cells #[I x.kind, I x.ts, I x.beta, .slice B m d] 71))
      go_wp2
      clear c0 c1 c2 c3 hO
      go_loopw [3, 20] (fun v i wr => ∃ j : Nat, j ≤ m ∧ i = I j ∧ Below w.heap.size w wr ∧ wo.heap.size + 1 ≤ wr.heap.size ∧ (wr.cell? ⟨wo.heap.size, 0, none⟩ = some (I x.kind) ∧ wr.cell? ⟨wo.heap.size, 1, none⟩ = some (I x.ts) ∧ wr.cell? ⟨wo.heap.size, 2, none⟩ = some (I x.beta) ∧ wr.cell? ⟨wo.heap.size, 3, none⟩ = some (.slice B m d)) ∧ ∃ fp, SlO stepT 37 w.heap.size wr v (hopsTo k x l0 j) fp ∧ wo.heap.size ∉ fp) (fun _ i _ => m - (intOf i).toNat)
      case atStart => exact ⟨0, by omega, rfl, hba.out, by simp, ⟨by simp, by simp, by simp, by simp⟩, fp, hOa.out, hfr.out⟩
      case round =>
        obtain ⟨j, hj, rfl, hbi, hs2, ⟨q0, q1, q2, q3⟩, fpi, hOi, hni⟩ := hrel
        clear hOa hfr hba
        obtain ⟨wi, rfl⟩ : ∃ wi : World, wi = wr := ⟨_, rfl⟩
        by_cases hjl : j < m
        · obtain ⟨g', o', q', y, e', hg', hyj, b0, b1, b2, b3, b4⟩ := hop_at hin (by rw [← Hm.out]; exact hjl)
          rw [← Hm.out] at e'
          cases e'
          replace b0 := ck hbi b0
          replace b1 := ck hbi b1
          replace b2 := ck hbi b2
          replace b3 := ck hbi b3
          replace b4 := ck hbi b4
          obtain ⟨li, Hli⟩ : ∃ li, Hid (li = hopsTo k x l0 j) := ⟨_, rfl⟩
          have hlen : li.length ≤ 1048576 := by rw [Hli.out]; exact Hbd.out j hj
          have Hnx : Hid (hopsTo k x l0 (j + 1) = addHop k x li j) := by show _ = _; rw [hopsTo_succ, Hli.out]
          rw [← Hli.out] at hOi
          obtain ⟨Av, cv, ev, _⟩ := hOi.form
          subst ev
          obtain ⟨wj, Hwj⟩ : ∃ wj, Hid (wj = wi.alloc (.cells #[I y.ia, I y.ing, I y.eg, I y.exp, I y.mac] 74)) := ⟨_, rfl⟩
          have Hsz : Hid (wj.heap.size = wi.heap.size + 1) := by show _ = _; rw [Hwj.out]; simp
          have hij : Below wi.heap.size wi wj := by rw [Hwj.out]; exact ext_alloc1 _ _
          have HS : Hid (∀ w', Below wj.heap.size wj w' → (w'.cell? ⟨wo.heap.size, 0, none⟩ = some (I x.kind) ∧ w'.cell? ⟨wo.heap.size, 1, none⟩ = some (I x.ts) ∧ w'.cell? ⟨wo.heap.size, 2, none⟩ = some (I x.beta) ∧ w'.cell? ⟨wo.heap.size, 3, none⟩ = some (.slice (some ⟨g', o', none⟩) m d) ∧ w'.cell? ⟨wi.heap.size, 0, none⟩ = some (I y.ia))) := fun w' hw => by
            have hx := ext_trans hij hw
            exact ⟨ck hx q0, ck hx q1, ck hx q2, ck hx q3, ck hw (by rw [Hwj.out]; simp)⟩
          have hR : ∀ w' : World, Below wj.heap.size wj w' → partT.R w' [I x.kind, I x.ts, I x.beta, .slice (some ⟨g', o', none⟩) m d] x := fun w' hw => by
            have := part_mk (d := x) (A3 := some ⟨g', o', none⟩) (cA3 := d) (w := w') (by rw [← Hm.out]; exact hin.below (ext_trans hbi (ext_trans hij hw)))
            rw [← Hm.out] at this
            exact this
          obtain ⟨vi, Hvi⟩ : ∃ vi, Hid (vi = partIn x j) := ⟨_, rfl⟩
          obtain ⟨vo, Hvo⟩ : ∃ vo, Hid (vo = partOut x j) := ⟨_, rfl⟩
          have HI : Hid (∀ w', Below wj.heap.size wj w' → Calls Try.prog 61 #[.agg #[I x.kind, I x.ts, I x.beta, .slice (some ⟨g', o', none⟩) m d], I j] w' fun e w'' => e = .returned (I vi) ∧ Below w'.heap.size w' w'') := fun w' hw => by
            have := impl_PartIngress x _ j w' (hR w' hw) (by rw [← Hm.out]; exact hm2) (by omega)
            rw [Int.toNat_natCast, ← Hvi.out] at this
            exact this
          have HE : Hid (∀ w', Below wj.heap.size wj w' → Calls Try.prog 60 #[.agg #[I x.kind, I x.ts, I x.beta, .slice (some ⟨g', o', none⟩) m d], I j] w' fun e w'' => e = .returned (I vo) ∧ Below w'.heap.size w' w'') := fun w' hw => by
            have := impl_PartEgress x _ j w' (hR w' hw) (by rw [← Hm.out]; exact hm2) (by omega)
            rw [Int.toNat_natCast, ← Hvo.out] at this
            exact this
          have hOj : Hid (SlO stepT 37 w.heap.size wj (.slice Av li.length cv) li fpi) := hOi.below hij
          have Hni := hid hni
          have Hni2 : Hid (wi.heap.size ∉ fpi) := fun hm => Nat.lt_irrefl _ (hOi.size_ok _ hm).2
          clear hR
          rcases Nat.eq_zero_or_pos k with hk0 | hk0
          · have g1 : decide (0 < k) = false := by simp; omega
            have g1' : decide ((0 : Int) < k) = false := by simp; omega
            have hJ : Hid (joinAt k x li j = false) := by show _ = _; simp [joinAt, hk0]
            clear hk0
            go_wp2
            rw [← Hwj.out]
            go_quiet (fail)
            go_wp2
            go_region_held3 (fun w' => (w'.cell? ⟨wo.heap.size, 0, none⟩ = some (I x.kind) ∧ w'.cell? ⟨wo.heap.size, 1, none⟩ = some (I x.ts) ∧ w'.cell? ⟨wo.heap.size, 2, none⟩ = some (I x.beta) ∧ w'.cell? ⟨wo.heap.size, 3, none⟩ = some (.slice (some ⟨g', o', none⟩) m d) ∧ w'.cell? ⟨wi.heap.size, 0, none⟩ = some (I y.ia)))
              (first | exact HS.out _ ((below_drewN (Below.refl _ _) _).drew) | exact HS.out _ x1 | exact HS.out _ x2 | exact HS.out _ (ext_alloc x2 _) | exact z3 | go_keep)
              (first | (go_at_call 61; refine (HI.out _ ((below_drewN (Below.refl _ _) _).drew)).mono ?_; rintro e w1 ⟨rfl, hb1⟩; have x1 := ext_trans ((below_drewN (Below.refl _ wj) _).drew) hb1) | (go_at_call 60; refine (HE.out _ x1).mono ?_; rintro e w2 ⟨rfl, hb2⟩; have x2 := ext_trans x1 hb2) | (refine step_cat step_flat (.tmp 55) (.tmp 65) et_step ((hOj.out.below x2).alloc _) (lit_one w2 37 (⟨y.ia, vi, vo⟩ : Stp) 1 w2.heap.size (Nat.le_refl _) rfl #[I y.ia, I vi, I vo] (fun _ => rfl)) (by simp; omega) (by simp [maxLen]; omega) (by have := x2.size; have := hbi.size; have := Hsz.out; simp; omega) (by rfl) (by rfl) (by rfl) (by rfl) ?_; intro v3 w3 fp3 hO3 hfp3 hkp3; have z2 := HS.out _ (ext_alloc x2 (.cells #[I y.ia, I vi, I vo] 37)); have z3 := And.intro (hkp3.ck z2.1 Hni.out) (And.intro (hkp3.ck z2.2.1 Hni.out) (And.intro (hkp3.ck z2.2.2.1 Hni.out) (And.intro (hkp3.ck z2.2.2.2.1 Hni.out) (hkp3.ck z2.2.2.2.2 Hni2.out))))))
            have y3 : Below w.heap.size w w3 := (ext_trans hbi (ext_trans hij (ext_alloc x2 _))).trans (hkp3.below (fun b hb => (hOj.out.size_ok b hb).1) (by have := x2.size; have := hbi.size; have := Hsz.out; simp; omega))
            have z4 : wo.heap.size + 1 ≤ w3.heap.size := by have := hkp3.size; have := x2.size; have := Hsz.out; simp at *; omega
            go_wp2
            go_roundw
            case rel =>
              refine ⟨j + 1, by omega, by go_num, y3, z4, ⟨z3.1, z3.2.1, z3.2.2.1, z3.2.2.2.1⟩, fp3, by rw [Hnx.out, addHop_new hJ.out, hopIa_at hyj.out, ← Hvi.out, ← Hvo.out]; exact hO3, fun hm => ?_⟩
              rcases hfp3 _ hm with hm | hm
              · exact Hni.out hm
              · have := x2.size; have := Hsz.out; simp at hm; omega
            case measure => simp [intOf]; omega
          · have g1 : decide (0 < k) = true := by simp; omega
            have g1' : decide ((0 : Int) < k) = true := by simp; omega
            rcases Nat.eq_zero_or_pos j with hj0 | hj0
            · have g2 : ((j : Int) == 0) = true := by simp; omega
              have g2' : (j == 0) = true := by simp; omega
              rcases Nat.eq_zero_or_pos li.length with hl0 | hl0
              · have g3 : decide ((1 : Int) ≤ (li.length : Int)) = false := by simp; omega
                have hJ : Hid (joinAt k x li j = false) := by show _ = _; simp [joinAt, hl0]
                clear hj0 hl0 hk0
                go_wp2
                rw [← Hwj.out]
                go_quiet (fail)
                go_wp2
                go_region_held3 (fun w' => (w'.cell? ⟨wo.heap.size, 0, none⟩ = some (I x.kind) ∧ w'.cell? ⟨wo.heap.size, 1, none⟩ = some (I x.ts) ∧ w'.cell? ⟨wo.heap.size, 2, none⟩ = some (I x.beta) ∧ w'.cell? ⟨wo.heap.size, 3, none⟩ = some (.slice (some ⟨g', o', none⟩) m d) ∧ w'.cell? ⟨wi.heap.size, 0, none⟩ = some (I y.ia)))
                  (first | exact HS.out _ ((below_drewN (Below.refl _ _) _).drew) | exact HS.out _ x1 | exact HS.out _ x2 | exact HS.out _ (ext_alloc x2 _) | exact z3 | go_keep)
                  (first | (go_at_call 61; refine (HI.out _ ((below_drewN (Below.refl _ _) _).drew)).mono ?_; rintro e w1 ⟨rfl, hb1⟩; have x1 := ext_trans ((below_drewN (Below.refl _ wj) _).drew) hb1) | (go_at_call 60; refine (HE.out _ x1).mono ?_; rintro e w2 ⟨rfl, hb2⟩; have x2 := ext_trans x1 hb2) | (refine step_cat step_flat (.tmp 55) (.tmp 65) et_step ((hOj.out.below x2).alloc _) (lit_one w2 37 (⟨y.ia, vi, vo⟩ : Stp) 1 w2.heap.size (Nat.le_refl _) rfl #[I y.ia, I vi, I vo] (fun _ => rfl)) (by simp; omega) (by simp [maxLen]; omega) (by have := x2.size; have := hbi.size; have := Hsz.out; simp; omega) (by rfl) (by rfl) (by rfl) (by rfl) ?_; intro v3 w3 fp3 hO3 hfp3 hkp3; have z2 := HS.out _ (ext_alloc x2 (.cells #[I y.ia, I vi, I vo] 37)); have z3 := And.intro (hkp3.ck z2.1 Hni.out) (And.intro (hkp3.ck z2.2.1 Hni.out) (And.intro (hkp3.ck z2.2.2.1 Hni.out) (And.intro (hkp3.ck z2.2.2.2.1 Hni.out) (hkp3.ck z2.2.2.2.2 Hni2.out))))))
                have y3 : Below w.heap.size w w3 := (ext_trans hbi (ext_trans hij (ext_alloc x2 _))).trans (hkp3.below (fun b hb => (hOj.out.size_ok b hb).1) (by have := x2.size; have := hbi.size; have := Hsz.out; simp; omega))
                have z4 : wo.heap.size + 1 ≤ w3.heap.size := by have := hkp3.size; have := x2.size; have := Hsz.out; simp at *; omega
                go_wp2
                go_roundw
                case rel =>
                  refine ⟨j + 1, by omega, by go_num, y3, z4, ⟨z3.1, z3.2.1, z3.2.2.1, z3.2.2.2.1⟩, fp3, by rw [Hnx.out, addHop_new hJ.out, hopIa_at hyj.out, ← Hvi.out, ← Hvo.out]; exact hO3, fun hm => ?_⟩
                  rcases hfp3 _ hm with hm | hm
                  · exact Hni.out hm
                  · have := x2.size; have := Hsz.out; simp at hm; omega
                case measure => simp [intOf]; omega
              · have g3 : decide ((1 : Int) ≤ (li.length : Int)) = true := by simp; omega
                obtain ⟨L, HL⟩ : ∃ L, li.length = L + 1 := ⟨li.length - 1, by omega⟩
                obtain ⟨gs, os, qs, sl, es, hgs, hsl, s0, s1, s2⟩ := step_at (k := L) hOi.read (by omega)
                have hL : lastOf li = sl := lastOf_at (by rw [HL]; exact hsl.out)
                obtain ⟨ga, ca, ea, hga, hgb, hgc, hgd, hgf⟩ := hOi.addr (by omega)
                cases ea
                cases es
                rw [Nat.zero_add] at s0 s1 s2
                have hL2 : L ≤ 1048576 := by omega
                have hL3 : L < L + 1 := Nat.lt_succ_self L
                rw [HL] at hOi hOj g3 ⊢
                replace s0 := ck hij s0
                replace s1 := ck hij s1
                replace s2 := ck hij s2
                have t0 : wj.cell? ⟨wi.heap.size, 0, none⟩ = some (I y.ia) := by rw [Hwj.out]; simp
                have HL' := hid HL
                cases g4 : (sl.ia == y.ia)
                · have hJ : Hid (joinAt k x li j = false) := by show _ = _; simp only [joinAt, hL, hopIa_at hyj.out, g4, Bool.and_false]
                  clear hj0 hk0 hl0 HL hL
                  go_wp2
                  rw [← Hwj.out]
                  go_quiet (fail)
                  go_wp2
                  go_region_held3 (fun w' => (w'.cell? ⟨wo.heap.size, 0, none⟩ = some (I x.kind) ∧ w'.cell? ⟨wo.heap.size, 1, none⟩ = some (I x.ts) ∧ w'.cell? ⟨wo.heap.size, 2, none⟩ = some (I x.beta) ∧ w'.cell? ⟨wo.heap.size, 3, none⟩ = some (.slice (some ⟨g', o', none⟩) m d) ∧ w'.cell? ⟨wi.heap.size, 0, none⟩ = some (I y.ia)))
                    (first | exact HS.out _ ((below_drewN (Below.refl _ _) _).drew) | exact HS.out _ x1 | exact HS.out _ x2 | exact HS.out _ (ext_alloc x2 _) | exact z3 | go_keep)
                    (first | (go_at_call 61; refine (HI.out _ ((below_drewN (Below.refl _ _) _).drew)).mono ?_; rintro e w1 ⟨rfl, hb1⟩; have x1 := ext_trans ((below_drewN (Below.refl _ wj) _).drew) hb1) | (go_at_call 60; refine (HE.out _ x1).mono ?_; rintro e w2 ⟨rfl, hb2⟩; have x2 := ext_trans x1 hb2) | (refine step_cat step_flat (.tmp 55) (.tmp 65) et_step ((hOj.out.below x2).alloc _) (lit_one w2 37 (⟨y.ia, vi, vo⟩ : Stp) 1 w2.heap.size (Nat.le_refl _) rfl #[I y.ia, I vi, I vo] (fun _ => rfl)) (by simp; omega) (by simp [maxLen]; omega) (by have := x2.size; have := hbi.size; have := Hsz.out; simp; omega) (by rfl) (by rfl) (by rfl) (by rfl) ?_; intro v3 w3 fp3 hO3 hfp3 hkp3; have z2 := HS.out _ (ext_alloc x2 (.cells #[I y.ia, I vi, I vo] 37)); have z3 := And.intro (hkp3.ck z2.1 Hni.out) (And.intro (hkp3.ck z2.2.1 Hni.out) (And.intro (hkp3.ck z2.2.2.1 Hni.out) (And.intro (hkp3.ck z2.2.2.2.1 Hni.out) (hkp3.ck z2.2.2.2.2 Hni2.out))))))
                  have y3 : Below w.heap.size w w3 := (ext_trans hbi (ext_trans hij (ext_alloc x2 _))).trans (hkp3.below (fun b hb => (hOj.out.size_ok b hb).1) (by have := x2.size; have := hbi.size; have := Hsz.out; simp; omega))
                  have z4 : wo.heap.size + 1 ≤ w3.heap.size := by have := hkp3.size; have := x2.size; have := Hsz.out; simp at *; omega
                  go_wp2
                  go_roundw
                  case rel =>
                    refine ⟨j + 1, by omega, by go_num, y3, z4, ⟨z3.1, z3.2.1, z3.2.2.1, z3.2.2.2.1⟩, fp3, by rw [Hnx.out, addHop_new hJ.out, hopIa_at hyj.out, ← Hvi.out, ← Hvo.out]; exact hO3, fun hm => ?_⟩
                    rcases hfp3 _ hm with hm | hm
                    · exact Hni.out hm
                    · have := x2.size; have := Hsz.out; simp at hm; omega
                  case measure => simp [intOf]; omega
                · have hJ : Hid (joinAt k x li j = true) := by show _ = _; simp only [joinAt, hL, hopIa_at hyj.out, g4]; simp; omega
                  have HLa := hid hL
                  clear hj0 hk0 hl0 HL hL
                  go_wp2
                  rw [← Hwj.out]
                  go_quiet (fail)
                  replace q0 := ck hij q0
                  replace q1 := ck hij q1
                  replace q2 := ck hij q2
                  replace q3 := ck hij q3
                  go_wp2_with (fail)
                  refine (HE.out _ (below_drewN (Below.refl _ _) _)).mono ?_
                  rintro e w1 ⟨rfl, hb1⟩
                  have x1 := ext_trans (below_drewN (Below.refl _ wj) _) hb1
                  have hO1 := hOj.out.below x1
                  obtain ⟨gb, cb, eb, _, _, _, _, hfz⟩ := hO1.addr (by rw [HL'.out]; omega)
                  rw [HL'.out] at eb
                  cases eb
                  have hfz' := hfz (L * 3 + 2)
                  obtain ⟨u2, hu2⟩ : ∃ u, w1.cell? ⟨gs, L * 3 + 2, none⟩ = some u := ⟨_, ck x1 s2⟩
                  have K2 : Kept fpi wj (w1.setCell ⟨gs, L * 3 + 2, none⟩ (I vo)) := (Kept.of_below x1 fpi).setCell hga (I vo)
                  have HK2 := hid K2
                  clear K2
                  go_wp2
                  go_roundw
                  case rel =>
                    refine ⟨j + 1, by omega, by go_num, (ext_trans hbi hij).trans (HK2.out.below (fun b hb => (hOj.out.size_ok b hb).1) (by have := hbi.size; have := Hsz.out; omega)), Nat.le_trans (by have := Hsz.out; omega) HK2.out.size, ⟨HK2.out.ck q0 Hni.out, HK2.out.ck q1 Hni.out, HK2.out.ck q2 Hni.out, HK2.out.ck q3 Hni.out⟩, fpi, ?_, Hni.out⟩
                    have := SlO.put (i := L) (j := 2) (a := sl) (a' := { sl with eg := vo }) (u := I vo) hO1 HL'.out.symm (fun _ _ _ _ _ h => h) hsl.out (by show 2 < 3; omega) (fun w cs f hh => step_put2 hh vo)
                    rw [Hnx.out, addHop_join hJ.out, HLa.out, HL'.out, ← Hvo.out]
                    exact this
                  case measure => simp [intOf]; omega
            · have g2 : ((j : Int) == 0) = false := by simp; omega
              have g2' : (j == 0) = false := by simp; omega
              have hJ : Hid (joinAt k x li j = false) := by show _ = _; simp [joinAt]; omega
              clear hj0 hk0
              go_wp2
              rw [← Hwj.out]
              go_quiet (fail)
              go_wp2
              go_region_held3 (fun w' => (w'.cell? ⟨wo.heap.size, 0, none⟩ = some (I x.kind) ∧ w'.cell? ⟨wo.heap.size, 1, none⟩ = some (I x.ts) ∧ w'.cell? ⟨wo.heap.size, 2, none⟩ = some (I x.beta) ∧ w'.cell? ⟨wo.heap.size, 3, none⟩ = some (.slice (some ⟨g', o', none⟩) m d) ∧ w'.cell? ⟨wi.heap.size, 0, none⟩ = some (I y.ia)))
                (first | exact HS.out _ ((below_drewN (Below.refl _ _) _).drew) | exact HS.out _ x1 | exact HS.out _ x2 | exact HS.out _ (ext_alloc x2 _) | exact z3 | go_keep)
                (first | (go_at_call 61; refine (HI.out _ ((below_drewN (Below.refl _ _) _).drew)).mono ?_; rintro e w1 ⟨rfl, hb1⟩; have x1 := ext_trans ((below_drewN (Below.refl _ wj) _).drew) hb1) | (go_at_call 60; refine (HE.out _ x1).mono ?_; rintro e w2 ⟨rfl, hb2⟩; have x2 := ext_trans x1 hb2) | (refine step_cat step_flat (.tmp 55) (.tmp 65) et_step ((hOj.out.below x2).alloc _) (lit_one w2 37 (⟨y.ia, vi, vo⟩ : Stp) 1 w2.heap.size (Nat.le_refl _) rfl #[I y.ia, I vi, I vo] (fun _ => rfl)) (by simp; omega) (by simp [maxLen]; omega) (by have := x2.size; have := hbi.size; have := Hsz.out; simp; omega) (by rfl) (by rfl) (by rfl) (by rfl) ?_; intro v3 w3 fp3 hO3 hfp3 hkp3; have z2 := HS.out _ (ext_alloc x2 (.cells #[I y.ia, I vi, I vo] 37)); have z3 := And.intro (hkp3.ck z2.1 Hni.out) (And.intro (hkp3.ck z2.2.1 Hni.out) (And.intro (hkp3.ck z2.2.2.1 Hni.out) (And.intro (hkp3.ck z2.2.2.2.1 Hni.out) (hkp3.ck z2.2.2.2.2 Hni2.out))))))
              have y3 : Below w.heap.size w w3 := (ext_trans hbi (ext_trans hij (ext_alloc x2 _))).trans (hkp3.below (fun b hb => (hOj.out.size_ok b hb).1) (by have := x2.size; have := hbi.size; have := Hsz.out; simp; omega))
              have z4 : wo.heap.size + 1 ≤ w3.heap.size := by have := hkp3.size; have := x2.size; have := Hsz.out; simp at *; omega
              go_wp2
              go_roundw
              case rel =>
                refine ⟨j + 1, by omega, by go_num, y3, z4, ⟨z3.1, z3.2.1, z3.2.2.1, z3.2.2.2.1⟩, fp3, by rw [Hnx.out, addHop_new hJ.out, hopIa_at hyj.out, ← Hvi.out, ← Hvo.out]; exact hO3, fun hm => ?_⟩
                rcases hfp3 _ hm with hm | hm
                · exact Hni.out hm
                · have := x2.size; have := Hsz.out; simp at hm; omega
              case measure => simp [intOf]; omega
        · have hjm : j = m := by omega
          subst hjm
          go_wp2
          go_roundw
          case rel => exact ⟨k + 1, by omega, by go_num, hbi, fpi, by rw [hsuc.out]; exact hOi⟩
          case measure => simp [intOf]; omega
    · have hkn : k = n := by omega
      subst hkn
      rw [H.out] at hO
      obtain ⟨l, Hl⟩ : ∃ l, Hid (l = rawSteps p p.length) := ⟨_, rfl⟩
      have Hps : Hid (pathSteps p = cutLast (cutFirst l)) := by show _ = _; rw [Hl.out]; rfl
      have hlen : l.length ≤ 1048576 := by rw [Hl.out]; exact Nat.le_trans (rawSteps_bound _ _) Hz.out
      rw [← Hl.out] at hO
      obtain ⟨Av, cv, ev, _⟩ := hO.form
      subst ev
      rcases Nat.eq_zero_or_pos l.length with hl0 | hl0
      · have hlz : l = [] := List.length_eq_zero_iff.1 hl0
        subst hlz
        go_wp2
        go_ret
        exact ⟨_, fp, rfl, by rw [Hps.out]; exact hO, hb⟩
      · obtain ⟨L, HL⟩ : ∃ L, l.length = L + 1 := ⟨l.length - 1, by omega⟩
        have hL2 : L ≤ 1048576 := by omega
        obtain ⟨g, ca, ea, hga, hgb, hgc, hgd, hgf⟩ := hO.addr (by omega)
        cases ea
        have f1 := hgf 1
        obtain ⟨g1, o1, q1, sf, e1, _, hsf, r0, r1, r2⟩ := step_at (k := 0) hO.read (by omega)
        cases e1
        simp only [Nat.zero_mul, Nat.zero_add, Nat.add_zero] at r0 r1 r2
        have hO1 := SlO.put (i := 0) (j := 1) (a := sf) (a' := { sf with ing := 0 }) (u := I 0) hO rfl (fun _ _ _ _ _ h => h) hsf.out (by show 1 < 3; omega) (fun w cs f hh => step_put1 hh 0)
        have e2 : l.set 0 { sf with ing := 0 } = cutFirst l := by unfold cutFirst; rw [firstOf_at hsf.out]
        rw [e2] at hO1
        have hcl : (cutFirst l).length = l.length := by unfold cutFirst; simp
        obtain ⟨g2, o2, q2, sg, e2', _, hsg, t0, t1, t2⟩ := step_at (k := L) hO1.read (by omega)
        rw [hcl] at e2'
        cases e2'
        have hO2 := SlO.put (i := L) (j := 2) (a := sg) (a' := { sg with eg := 0 }) (u := I 0) hO1 hcl.symm (fun _ _ _ _ _ h => h) hsg.out (by show 2 < 3; omega) (fun w cs f hh => step_put2 hh 0)
        have e3 : (cutFirst l).set L { sg with eg := 0 } = cutLast (cutFirst l) := by
          have hh : (cutFirst l).length - 1 = L := by omega
          unfold cutLast
          rw [lastOf_at (by rw [hh]; exact hsg.out), hh]
        rw [e3, ← Hps.out] at hO2
        obtain ⟨g3, c3, e4, _, _, _, _, hf3⟩ := hO1.addr (by omega)
        rw [hcl] at e4
        cases e4
        have f2 := hf3 (L * 3 + 2)
        have HL' := hid HL
        rw [HL] at hO hO1 hO2 ⊢
        have HO2 := hid hO2
        have hb2 := hid ((hb.setCell (p := ⟨g, 0 * stepT.size + 1, none⟩) hgb (I 0)).setCell (p := ⟨g, L * stepT.size + 2, none⟩) hgb (I 0))
        clear hl0 HL hO2 hO1 hO e2 e3 hcl
        simp only [show stepT.size = 3 from rfl, Nat.zero_mul, Nat.zero_add] at t0 t1 t2 f2 HO2 hb2
        go_wp2
        go_ret
        exact ⟨_, fp, rfl, HO2.out, hb2.out⟩
end Go.Proofs.Ytdaecknfahgddaa
namespace Go.Proofs.Ytdaecknfahgddaa
open Go.RowKit
set_option linter.unusedVariables false
theorem spec_l9Has (l : List Int) (v : Value) (x : Int) (w : World) (h : SlR intT w v l) (hn : l.length ≤ 16777216) : Calls Try.prog 104 #[v, I x] w fun e w' => e = .returned (.bool (l.contains x)) ∧ w = w' := by
  obtain ⟨A, c, rfl, _⟩ := h.form
  obtain ⟨n, H⟩ : ∃ n, Hid (n = l.length) := ⟨_, rfl⟩
  obtain ⟨r, Hr⟩ : ∃ r, Hid (r = l.contains x) := ⟨_, rfl⟩
  rw [← Hr.out]
  rw [← H.out] at h hn ⊢
  go_enter Try.func104, Try.ntmps104
  go_wp2
  go_loop [5] (fun i => ∃ k : Nat, k ≤ n ∧ i = I k ∧ (l.take k).contains x = false) (fun i => n - (intOf i).toNat)
  case atStart => exact ⟨0, by omega, rfl, rfl⟩
  case round =>
    obtain ⟨k, hk, rfl, hc⟩ := hrel
    have Hc := hid hc
    clear hc
    by_cases hlt : k < n
    · obtain ⟨g, o, q, y, e, hg, hyk, c0⟩ := int_at h (by rw [← H.out]; exact hlt)
      rw [← H.out] at e
      cases e
      cases hb : (y == x)
      · have HS : Hid ((l.take (k + 1)).contains x = false) := by
          show _ = _
          rw [take_succ hyk.out, List.contains_eq_mem, decide_eq_false_iff_not, List.mem_append, List.mem_singleton]
          have h1 := Hc.out
          rw [List.contains_eq_mem, decide_eq_false_iff_not] at h1
          have h2 : ¬ y = x := by simpa using hb
          rintro (h | h)
          · exact h1 h
          · exact h2 h.symm
        go_wp2
        go_round
        case rel => exact ⟨k + 1, by omega, by go_num, HS.out⟩
        case measure => simp [intOf]; omega
      · have HT : Hid (r = true) := by
          show _ = _
          have h2 : y = x := by simpa using hb
          rw [Hr.out, List.contains_eq_mem, decide_eq_true_eq, ← h2]
          exact List.mem_of_getElem? hyk.out
        go_wp2
        go_ret
        exact ⟨by rw [HT.out]; rfl, rfl⟩
    · have hkn : k = n := by omega
      have HT : Hid (r = false) := by
        show _ = _
        have h1 := Hc.out
        rw [List.take_of_length_le (by rw [← H.out]; omega)] at h1
        rw [Hr.out, h1]
      go_wp2
      go_ret
      exact ⟨by rw [HT.out]; rfl, rfl⟩
/-- The number of an interface. -/
def nm (a b : Int) : Int := wrap64 (wrap64 (8 * a) + b)
def stepNums (s : Stp) : List Int := (if s.ing = 0 then [] else [nm s.ia s.ing]) ++ (if s.eg = 0 then [] else [nm s.ia s.eg])
def nums (l : List Stp) : List Int := l.flatMap stepNums
theorem nums_len (l : List Stp) : (nums l).length ≤ 2 * l.length := by
  induction l with
  | nil => simp [nums]
  | cons a t ih =>
    have h1 : (stepNums a).length ≤ 2 := by unfold stepNums; split <;> split <;> simp
    have h2 : nums (a :: t) = stepNums a ++ nums t := rfl
    rw [h2, List.length_append, List.length_cons]
    omega
theorem nums_snoc {l : List Stp} {k : Nat} {s : Stp} (h : l[k]? = some s) : nums (l.take (k + 1)) = nums (l.take k) ++ stepNums s := by
  rw [take_succ h]; unfold nums; rw [List.flatMap_append]; simp
theorem nums_take_len (l : List Stp) (k : Nat) : (nums (l.take k)).length ≤ 2 * l.length := by
  have h1 := nums_len (l.take k)
  have h2 : (l.take k).length ≤ l.length := by rw [List.length_take]; omega
  omega
theorem sn00 {s : Stp} (h1 : (s.ing != 0) = false) (h2 : (s.eg != 0) = false) : stepNums s = [] := by
  have e1 : s.ing = 0 := (by simpa using h1)
  have e2 : s.eg = 0 := (by simpa using h2)
  simp [stepNums, e1, e2]
theorem sn01 {s : Stp} (h1 : (s.ing != 0) = false) (h2 : (s.eg != 0) = true) : stepNums s = [nm s.ia s.eg] := by
  have e1 : s.ing = 0 := (by simpa using h1)
  have e2 : ¬ s.eg = 0 := (by simpa using h2)
  simp [stepNums, e1, e2]
theorem sn10 {s : Stp} (h1 : (s.ing != 0) = true) (h2 : (s.eg != 0) = false) : stepNums s = [nm s.ia s.ing] := by
  have e1 : ¬ s.ing = 0 := (by simpa using h1)
  have e2 : s.eg = 0 := (by simpa using h2)
  simp [stepNums, e1, e2]
theorem sn11 {s : Stp} (h1 : (s.ing != 0) = true) (h2 : (s.eg != 0) = true) : stepNums s = [nm s.ia s.ing] ++ [nm s.ia s.eg] := by
  have e1 : ¬ s.ing = 0 := (by simpa using h1)
  have e2 : ¬ s.eg = 0 := (by simpa using h2)
  simp [stepNums, e1, e2]
theorem one_int (w : World) (a : Int) : intT.R w [I a] a := rfl
set_option maxRecDepth 100000 in
set_option maxHeartbeats 4000000 in
theorem impl_numbered (l : List Stp) (v : Value) (w : World) (h : SlR stepT w v l) (hn : l.length ≤ 1048576) :
    Calls Try.prog 63 #[v] w fun r w' => ∃ v' fp, r = .returned v' ∧ SlO intT 3 w.heap.size w' v' (nums l) fp ∧ Below w.heap.size w w' := by
  obtain ⟨A, c, rfl, _⟩ := h.form
  obtain ⟨n, H⟩ : ∃ n, Hid (n = l.length) := ⟨_, rfl⟩
  rw [← H.out] at h hn ⊢
  go_enter Try.func63, Try.ntmps63
  go_wp2
  go_loopw [3, 8] (fun v i wr => ∃ k : Nat, k ≤ n ∧ i = I k ∧ Below w.heap.size w wr ∧ ∃ fp, SlO intT 3 w.heap.size wr v (nums (l.take k)) fp) (fun _ i _ => n - (intOf i).toNat)
  case atStart => exact ⟨0, by omega, rfl, Below.refl _ _, [], SlO.nil⟩
  case round =>
    obtain ⟨k, hk, rfl, hb, fp, hO⟩ := hrel
    by_cases hlt : k < n
    · obtain ⟨g, o, q, s, e, hg, hsk, c0, c1, c2⟩ := step_at (h.below hb) (by rw [← H.out]; exact hlt)
      rw [← H.out] at e
      cases e
      have hl : (nums (l.take k)).length ≤ 2097152 := by have := nums_take_len l k; have := H.out; omega
      have HN : Hid (nums (l.take (k + 1)) = nums (l.take k) ++ stepNums s) := nums_snoc hsk.out
      obtain ⟨li, Hli⟩ : ∃ li, Hid (li = nums (l.take k)) := ⟨_, rfl⟩
      rw [← Hli.out] at hO hl HN
      obtain ⟨Av, cv, ev, _⟩ := hO.form
      subst ev
      have hlo := hid fun b hb => (hO.size_ok b hb)
      have hws := hb.size
      obtain ⟨a1, Ha1⟩ : ∃ a, Hid (a = nm s.ia s.ing) := ⟨_, rfl⟩
      obtain ⟨a2, Ha2⟩ : ∃ a, Hid (a = nm s.ia s.eg) := ⟨_, rfl⟩
      cases g1 : (s.ing != 0) <;> cases g2 : (s.eg != 0)
      · have HQ : Hid (stepNums s = []) := sn00 g1 g2
        go_wp2
        go_roundw
        case rel => exact ⟨k + 1, by omega, by go_num, ext_alloc hb _, fp, by rw [HN.out, HQ.out, List.append_nil]; exact hO.alloc _⟩
        case measure => simp [intOf]; omega
      · have HQ : Hid (stepNums s = [a2]) := by show _ = _; rw [Ha2.out]; exact sn01 g1 g2
        go_wp2_with ((at_builtin; refine wpList_cat int_flat (.tmp 27) (.tmp 34) et_int (SlO.alloc (SlO.alloc hO _) _) (lit_read (wr.alloc _) 3 I one_int [nm s.ia s.eg] 1 (Nat.le_refl _) (wr.heap.size + 1) 1 (by simp) rfl _ rfl) ?_ ?_ ?_ rfl rfl rfl rfl ?_))
        · simp; omega
        · simp [maxLen]; omega
        · simp; omega
        · intro v1 w1 fp1 hO1 hfp1 hkp1
          have x1 : Below w.heap.size w w1 := (ext_alloc (ext_alloc hb _) _).trans (hkp1.below (fun b hb => (hlo.out b hb).1) (by simp; omega))
          go_wp2
          go_roundw
          case rel => exact ⟨k + 1, by omega, by go_num, x1, fp1, by rw [HN.out, HQ.out, Ha2.out]; exact hO1⟩
          case measure => simp [intOf]; omega
      · have HQ : Hid (stepNums s = [a1]) := by show _ = _; rw [Ha1.out]; exact sn10 g1 g2
        go_wp2_with ((at_builtin; refine wpList_cat int_flat (.tmp 15) (.tmp 22) et_int (SlO.alloc (SlO.alloc hO _) _) (lit_read (wr.alloc _) 3 I one_int [nm s.ia s.ing] 1 (Nat.le_refl _) (wr.heap.size + 1) 1 (by simp) rfl _ rfl) ?_ ?_ ?_ rfl rfl rfl rfl ?_))
        · simp; omega
        · simp [maxLen]; omega
        · simp; omega
        · intro v1 w1 fp1 hO1 hfp1 hkp1
          have x1 : Below w.heap.size w w1 := (ext_alloc (ext_alloc hb _) _).trans (hkp1.below (fun b hb => (hlo.out b hb).1) (by simp; omega))
          have b2 : w1.cell? ⟨wr.heap.size, 2, none⟩ = some (I s.eg) := hkp1.ck (ck (ext_alloc1 _ _) (by simp)) (fun hm => by have := (hlo.out _ hm).2; omega)
          go_wp2
          go_roundw
          case rel => exact ⟨k + 1, by omega, by go_num, x1, fp1, by rw [HN.out, HQ.out, Ha1.out]; exact hO1⟩
          case measure => simp [intOf]; omega
      · have HQ : Hid (stepNums s = [a1] ++ [a2]) := by show _ = _; rw [Ha1.out, Ha2.out]; exact sn11 g1 g2
        go_wp2_with ((at_builtin; refine wpList_cat int_flat (.tmp 15) (.tmp 22) et_int (SlO.alloc (SlO.alloc hO _) _) (lit_read (wr.alloc _) 3 I one_int [nm s.ia s.ing] 1 (Nat.le_refl _) (wr.heap.size + 1) 1 (by simp) rfl _ rfl) ?_ ?_ ?_ rfl rfl rfl rfl ?_))
        · simp; omega
        · simp [maxLen]; omega
        · simp; omega
        · intro v1 w1 fp1 hO1 hfp1 hkp1
          have x1 : Below w.heap.size w w1 := (ext_alloc (ext_alloc hb _) _).trans (hkp1.below (fun b hb => (hlo.out b hb).1) (by simp; omega))
          have b0 : w1.cell? ⟨wr.heap.size, 0, none⟩ = some (I s.ia) := hkp1.ck (ck (ext_alloc1 _ _) (by simp)) (fun hm => by have := (hlo.out _ hm).2; omega)
          have b2 : w1.cell? ⟨wr.heap.size, 2, none⟩ = some (I s.eg) := hkp1.ck (ck (ext_alloc1 _ _) (by simp)) (fun hm => by have := (hlo.out _ hm).2; omega)
          have hx := x1.size
          have hlo1 := hid fun b hb => (hO1.size_ok b hb)
          have hl1 : (li ++ [nm s.ia s.ing]).length ≤ 2097153 := by simp; omega
          go_wp2_with ((at_builtin; refine wpList_cat int_flat (.tmp 27) (.tmp 34) et_int (SlO.alloc hO1 _) (lit_read w1 3 I one_int [nm s.ia s.eg] 1 (Nat.le_refl _) w1.heap.size 1 rfl rfl _ rfl) ?_ ?_ ?_ rfl rfl rfl rfl ?_))
          · simp at hl1 ⊢; omega
          · simp [maxLen] at hl1 ⊢; omega
          · simp; omega
          · intro v2 w2 fp2 hO2 hfp2 hkp2
            have x2 : Below w.heap.size w w2 := (ext_alloc x1 _).trans (hkp2.below (fun b hb => (hlo1.out b hb).1) (by simp; omega))
            go_wp2
            go_roundw
            case rel => exact ⟨k + 1, by omega, by go_num, x2, fp2, by rw [HN.out, HQ.out, Ha1.out, Ha2.out]; exact hO2⟩
            case measure => simp [intOf]; omega
    · have hkn : k = n := by omega
      subst hkn
      rw [H.out, List.take_length] at hO
      go_wp2
      go_ret
      exact ⟨_, fp, rfl, hO, hb⟩
set_option maxRecDepth 100000 in
theorem impl_InterfacesUsed (p : Path) (cs : List Value) (w : World) (h : pathT.R w cs p) (hz : sz_path p ≤ 1048576) (hl : lenOk_path p) (hg : rng_path p) :
    Calls Try.prog 13 #[.agg cs.toArray] w fun r w' => ∃ v fp, r = .returned v ∧ SlO intT 3 w.heap.size w' v (nums (pathSteps p)) fp ∧ Below w.heap.size w w' := by
  have h0 := h
  obtain ⟨A, c, rfl, _⟩ := path_form h
  have hsl := Nat.le_trans (pathSteps_len p) hz
  have HC := hid fun w' (hw : Below w.heap.size w w') => impl_PathSteps p _ w' (pathT.kp h0 hw) hz hl hg
  clear hz hl hg h h0
  have hb0 : Below w.heap.size w (w.alloc (.cells #[.slice A (List.length p) c] 30)) := ext_alloc1 _ _
  go_enter Try.func13, Try.ntmps13
  go_wp2_with (fail)
  refine (HC.out _ hb0).mono ?_
  rintro e w1 ⟨v1, fp1, rfl, hO1, hb1⟩
  go_wp2_with (fail)
  refine (impl_numbered _ _ _ hO1.read hsl).mono ?_
  rintro e w2 ⟨v2, fp2, rfl, hO2, hb2⟩
  have x1 := ext_trans hb0 hb1
  have hs := x1.size
  go_wp2_with (fail)
  go_ret
  exact ⟨_, fp2, rfl, hO2.mono hs, ext_trans x1 hb2⟩
end Go.Proofs.Ytdaecknfahgddaa
namespace Go.Proofs.Ytdaecknfahgddaa
open Go.RowKit
set_option linter.unusedVariables false
set_option maxRecDepth 20000
theorem idx_lt (l : List Lnk) (r d : Int) : idxI (findL l r d) < l.length := by
  unfold idxI findL
  split
  · omega
  · rename_i i h
    have := (List.findIdx?_eq_some_iff_getElem.1 h).1
    omega
theorem idx_nat {l : List Lnk} {r d : Int} (h : ¬ idxI (findL l r d) < 0) : findL l r d = some (idxI (findL l r d)).toNat := by
  cases hf : findL l r d with
  | none => rw [hf] at h; simp [idxI] at h
  | some i => simp [idxI]
theorem idx_none {l : List Lnk} {r d : Int} (h : idxI (findL l r d) < 0) : findL l r d = none := by
  cases hf : findL l r d with
  | none => rfl
  | some i => rw [hf] at h; simp [idxI] at h; omega
theorem remote_none {t : Topo} {r d : Int} (h : idxI (findL t.links r d) < 0) : remote t r d = (-1, 0) := by
  unfold remote; rw [idx_none h]; rfl
theorem remote_some {t : Topo} {r d : Int} {x : Lnk} (h : ¬ idxI (findL t.links r d) < 0) (hx : t.links[(idxI (findL t.links r d)).toNat]? = some x) : remote t r d = if x.a = r ∧ x.ai = d then (x.b, x.bi) else (x.a, x.ai) := by
  unfold remote
  rw [show (findL t.links r d).bind (t.links[·]?) = some x by rw [idx_nat h]; exact hx]
theorem ret_two {a b : Int} {q : Int × Int} (h : q = (a, b)) : Ending.returned (.tuple #[I a, I b]) = .returned (.tuple #[I q.1, I q.2]) := by rw [h]
theorem impl_RemoteEnd (t : Topo) (v : Value) (r d : Int) (w : World) (h : VA topoT w v t) (hz : sz_topo t ≤ 1048576) : Calls Try.prog 11 #[v, I r, I d] w fun e w' => e = .returned (.tuple #[I (remote t r d).1, I (remote t r d).2]) ∧ Below w.heap.size w w' := by
  have hlt := idx_lt t.links r d
  have X0 := Below.refl w.heap.size w
  refine enter Try.func11 rfl Try.ntmps11 rfl ?_
  refine w_seq ?_
  refine w_region ?_
  refine t_boxr (by assumption) rfl ?_ rfl rfl
  intro p3 w1 x2 hp3
  replace h := h.below x2
  have X0 := ext_trans X0 x2
  have S := Sep.nil w1
  have B := Below.refl w1.heap.size w1
  have Hb := Nat.le_refl w1.heap.size
  refine t_assign rfl ?_ rfl
  refine t_assign rfl ?_ rfl
  refine t_done ?_
  refine x_seq ?_
  refine w_seq ?_
  refine w_region ?_
  refine t_lda (by assumption) ab_topo sb_topo B rfl ?_ rfl
  intro v10 hv10
  obtain ⟨v10_0, v10_1, rfl, hv10_0, hv10_1⟩ := topo_va hv10
  refine t_move rfl ?_ rfl
  refine t_move rfl ?_ rfl
  refine t_callx Try.call62 rfl (va1 (by first | assumption | exact VA.below (by assumption) B | exact topo_mkv (by first | assumption | exact SlR.below (by assumption) B) (by first | assumption | exact SlR.below (by assumption) B)) fun cs h => impl_LinkIndex _ cs _ _ _ h (by omega)) ?_ rfl rfl
  intro w3 x4
  have B := bx Hb B x4
  have S := S.below x4
  refine t_assign rfl ?_ rfl
  refine t_done ?_
  refine x_seq ?_
  refine w_seq ?_
  refine w_seq ?_
  refine w_region ?_
  refine t_move rfl ?_ rfl
  refine t_lss rfl rfl ?_ rfl
  refine t_done ?_
  refine x_seq ?_
  refine w_if rfl ?_ ?_
  · intro h1
    refine w_seq ?_
    refine w_region ?_
    refine t_assign rfl ?_ rfl
    refine t_assign rfl ?_ rfl
    refine t_done ?_
    refine x_seq ?_
    refine w_ret ?_
    refine x_then_ret ?_
    refine x_ret2 rfl rfl rfl ?_
    exact ⟨ret_two (remote_none h1), ext_trans X0 B⟩
  · intro h1
    refine w_skip ?_
    refine x_seq ?_
    refine w_seq ?_
    refine w_region ?_
    refine t_fld ln_topo_1 (by assumption) fb_topo_1 rfl ?_ rfl
    intro p16 hp16
    refine t_lds (by assumption) ab_s_link B rfl ?_ rfl
    intro v17 hv17
    refine t_move rfl ?_ rfl
    obtain ⟨e19, he19⟩ : ∃ e, (t.links)[(idxI (findL t.links r d)).toNat]? = some e := getx (by omega)
    refine t_idx e_link (k := (idxI (findL t.links r d)).toNat) (by assumption) he19 B rfl rfl (by first | rfl | omega) ?_ rfl
    intro p19 hp19
    refine t_lda (by assumption) ab_link sb_link B rfl ?_ rfl
    intro v20 hv20
    obtain rfl := link_va hv20
    refine t_alloc S z_link rfl ?_ rfl rfl
    intro g9 w5 x6 S
    have B := bx Hb B x6
    refine t_stn S sb_link rfl rfl rfl rfl (by simp [Value.oneCell']) ?_
    intro w7 b8 S
    have B := B.trans b8
    refine t_done ?_
    refine x_seq ?_
    refine w_seq ?_
    refine w_seq ?_
    refine w_region ?_
    refine t_fldx fb_link_0 rfl rfl ?_ rfl
    refine t_bx1 S.box ab_int rfl rfl ?_ rfl
    refine t_move rfl ?_ rfl
    refine t_eql rfl rfl ?_ rfl
    refine t_move rfl ?_ rfl
    have hR := remote_some h1 he19
    refine t_partp (t := 25) rfl ?_ ?_
    · intro h2
      refine t_on rfl rfl ?_
      refine t_fldx fb_link_1 rfl rfl ?_ rfl
      refine t_on rfl rfl ?_
      refine t_bx1 S.box ab_int rfl rfl ?_ rfl
      refine t_on rfl rfl ?_
      refine t_move rfl ?_ rfl
      refine t_on rfl rfl ?_
      refine t_eql rfl rfl ?_ rfl
      refine t_pickt rfl rfl ?_ rfl
      refine t_done ?_
      refine x_seq ?_
      refine w_if rfl ?_ ?_
      · intro h3
        refine w_seq ?_
        refine w_draw (.st .take 0 (.st .take 1 (.st .take 2 (.st .take 3 (.st .take 4 (.st .take 5 .done)))))) mixed (by kernel_rfl) ?_
        intro w9 x10
        have B := bx Hb B x10
        have S := S.below x10
        refine t_fldx fb_link_2 rfl rfl ?_ rfl
        refine t_bx1 S.box ab_int rfl rfl ?_ rfl
        refine t_fldx fb_link_3 rfl rfl ?_ rfl
        refine t_bx1 S.box ab_int rfl rfl ?_ rfl
        refine t_assign rfl ?_ rfl
        refine t_assign rfl ?_ rfl
        refine t_done' ?_
        refine x_seq ?_
        refine w_ret ?_
        refine x_then_ret ?_
        refine x_ret2 rfl rfl rfl ?_
        exact ⟨ret_two (by rw [hR, if_pos ⟨h2, h3⟩]), ext_trans X0 B⟩
      · intro h3
        refine w_skip ?_
        refine x_seq ?_
        refine w_seq ?_
        refine w_draw (.st .take 0 (.st .take 1 (.st .take 2 (.st .take 3 (.st .take 4 (.st .take 5 .done)))))) mixed (by kernel_rfl) ?_
        intro w11 x12
        have B := bx Hb B x12
        have S := S.below x12
        refine t_fldx fb_link_0 rfl rfl ?_ rfl
        refine t_bx1 S.box ab_int rfl rfl ?_ rfl
        refine t_fldx fb_link_1 rfl rfl ?_ rfl
        refine t_bx1 S.box ab_int rfl rfl ?_ rfl
        refine t_assign rfl ?_ rfl
        refine t_assign rfl ?_ rfl
        refine t_done' ?_
        refine x_seq ?_
        refine w_ret ?_
        refine x_ret2 rfl rfl rfl ?_
        exact ⟨ret_two (by rw [hR, if_neg fun q => h3 q.2]), ext_trans X0 B⟩
    · intro h2
      refine t_off rfl rfl rfl ?_ rfl
      refine t_off rfl rfl rfl ?_ rfl
      refine t_off rfl rfl rfl ?_ rfl
      refine t_off rfl rfl rfl ?_ rfl
      refine t_pickf rfl rfl ?_ rfl
      refine t_done ?_
      refine x_seq ?_
      refine w_no rfl ?_
      refine w_skip ?_
      refine x_seq ?_
      refine w_seq ?_
      refine w_draw (.st .take 0 (.st .take 1 (.st .take 2 (.st .take 3 (.st .take 4 (.st .take 5 .done)))))) mixed (by kernel_rfl) ?_
      intro w13 x14
      have B := bx Hb B x14
      have S := S.below x14
      refine t_fldx fb_link_0 rfl rfl ?_ rfl
      refine t_bx1 S.box ab_int rfl rfl ?_ rfl
      refine t_fldx fb_link_1 rfl rfl ?_ rfl
      refine t_bx1 S.box ab_int rfl rfl ?_ rfl
      refine t_assign rfl ?_ rfl
      refine t_assign rfl ?_ rfl
      refine t_done' ?_
      refine x_seq ?_
      refine w_ret ?_
      refine x_ret2 rfl rfl rfl ?_
      exact ⟨ret_two (by rw [hR, if_neg fun q => h2 q.1]), ext_trans X0 B⟩
theorem spec_RemoteEnd (t : Topo) (v : Value) (r d : Int) (w : World) (h : VA topoT w v t) (hz : sz_topo t ≤ 1048576) : Calls Try.prog 105 #[v, I r, I d] w fun e w' => e = .returned (.tuple #[I (remote t r d).1, I (remote t r d).2]) ∧ Below w.heap.size w w' := by
  have hlt := idx_lt t.links r d
  have X0 := Below.refl w.heap.size w
  refine enter Try.func105 rfl Try.ntmps105 rfl ?_
  refine w_seq ?_
  refine w_region ?_
  refine t_boxr (by assumption) rfl ?_ rfl rfl
  intro p3 w15 x16 hp3
  replace h := h.below x16
  have X0 := ext_trans X0 x16
  have S := Sep.nil w15
  have B := Below.refl w15.heap.size w15
  have Hb := Nat.le_refl w15.heap.size
  refine t_assign rfl ?_ rfl
  refine t_assign rfl ?_ rfl
  refine t_done ?_
  refine x_seq ?_
  refine w_seq ?_
  refine w_region ?_
  refine t_lda (by assumption) ab_topo sb_topo B rfl ?_ rfl
  intro v10 hv10
  obtain ⟨v10_0, v10_1, rfl, hv10_0, hv10_1⟩ := topo_va hv10
  refine t_move rfl ?_ rfl
  refine t_move rfl ?_ rfl
  refine t_callx Try.call112 rfl (va1 (by first | assumption | exact VA.below (by assumption) B | exact topo_mkv (by first | assumption | exact SlR.below (by assumption) B) (by first | assumption | exact SlR.below (by assumption) B)) fun cs h => spec_LinkIndex _ cs _ _ _ h (by omega)) ?_ rfl rfl
  intro w17 x18
  have B := bx Hb B x18
  have S := S.below x18
  refine t_assign rfl ?_ rfl
  refine t_done ?_
  refine x_seq ?_
  refine w_seq ?_
  refine w_seq ?_
  refine w_region ?_
  refine t_move rfl ?_ rfl
  refine t_lss rfl rfl ?_ rfl
  refine t_done ?_
  refine x_seq ?_
  refine w_if rfl ?_ ?_
  · intro h1
    refine w_seq ?_
    refine w_region ?_
    refine t_assign rfl ?_ rfl
    refine t_assign rfl ?_ rfl
    refine t_done ?_
    refine x_seq ?_
    refine w_ret ?_
    refine x_then_ret ?_
    refine x_ret2 rfl rfl rfl ?_
    exact ⟨ret_two (remote_none h1), ext_trans X0 B⟩
  · intro h1
    refine w_skip ?_
    refine x_seq ?_
    refine w_seq ?_
    refine w_region ?_
    refine t_fld ln_topo_1 (by assumption) fb_topo_1 rfl ?_ rfl
    intro p16 hp16
    refine t_lds (by assumption) ab_s_link B rfl ?_ rfl
    intro v17 hv17
    refine t_move rfl ?_ rfl
    obtain ⟨e19, he19⟩ : ∃ e, (t.links)[(idxI (findL t.links r d)).toNat]? = some e := getx (by omega)
    refine t_idx e_link (k := (idxI (findL t.links r d)).toNat) (by assumption) he19 B rfl rfl (by first | rfl | omega) ?_ rfl
    intro p19 hp19
    refine t_lda (by assumption) ab_link sb_link B rfl ?_ rfl
    intro v20 hv20
    obtain rfl := link_va hv20
    refine t_alloc S z_link rfl ?_ rfl rfl
    intro g9 w19 x20 S
    have B := bx Hb B x20
    refine t_stn S sb_link rfl rfl rfl rfl (by simp [Value.oneCell']) ?_
    intro w21 b22 S
    have B := B.trans b22
    refine t_done ?_
    refine x_seq ?_
    refine w_seq ?_
    refine w_seq ?_
    refine w_region ?_
    refine t_fldx fb_link_0 rfl rfl ?_ rfl
    refine t_bx1 S.box ab_int rfl rfl ?_ rfl
    refine t_move rfl ?_ rfl
    refine t_eql rfl rfl ?_ rfl
    refine t_move rfl ?_ rfl
    have hR := remote_some h1 he19
    refine t_partp (t := 25) rfl ?_ ?_
    · intro h2
      refine t_on rfl rfl ?_
      refine t_fldx fb_link_1 rfl rfl ?_ rfl
      refine t_on rfl rfl ?_
      refine t_bx1 S.box ab_int rfl rfl ?_ rfl
      refine t_on rfl rfl ?_
      refine t_move rfl ?_ rfl
      refine t_on rfl rfl ?_
      refine t_eql rfl rfl ?_ rfl
      refine t_pickt rfl rfl ?_ rfl
      refine t_done ?_
      refine x_seq ?_
      refine w_if rfl ?_ ?_
      · intro h3
        refine w_seq ?_
        refine w_draw (.st .take 0 (.st .take 1 (.st .take 2 (.st .take 3 (.st .take 4 (.st .take 5 .done)))))) mixed (by kernel_rfl) ?_
        intro w23 x24
        have B := bx Hb B x24
        have S := S.below x24
        refine t_fldx fb_link_2 rfl rfl ?_ rfl
        refine t_bx1 S.box ab_int rfl rfl ?_ rfl
        refine t_fldx fb_link_3 rfl rfl ?_ rfl
        refine t_bx1 S.box ab_int rfl rfl ?_ rfl
        refine t_assign rfl ?_ rfl
        refine t_assign rfl ?_ rfl
        refine t_done' ?_
        refine x_seq ?_
        refine w_ret ?_
        refine x_then_ret ?_
        refine x_ret2 rfl rfl rfl ?_
        exact ⟨ret_two (by rw [hR, if_pos ⟨h2, h3⟩]), ext_trans X0 B⟩
      · intro h3
        refine w_skip ?_
        refine x_seq ?_
        refine w_seq ?_
        refine w_draw (.st .take 0 (.st .take 1 (.st .take 2 (.st .take 3 (.st .take 4 (.st .take 5 .done)))))) mixed (by kernel_rfl) ?_
        intro w25 x26
        have B := bx Hb B x26
        have S := S.below x26
        refine t_fldx fb_link_0 rfl rfl ?_ rfl
        refine t_bx1 S.box ab_int rfl rfl ?_ rfl
        refine t_fldx fb_link_1 rfl rfl ?_ rfl
        refine t_bx1 S.box ab_int rfl rfl ?_ rfl
        refine t_assign rfl ?_ rfl
        refine t_assign rfl ?_ rfl
        refine t_done' ?_
        refine x_seq ?_
        refine w_ret ?_
        refine x_ret2 rfl rfl rfl ?_
        exact ⟨ret_two (by rw [hR, if_neg fun q => h3 q.2]), ext_trans X0 B⟩
    · intro h2
      refine t_off rfl rfl rfl ?_ rfl
      refine t_off rfl rfl rfl ?_ rfl
      refine t_off rfl rfl rfl ?_ rfl
      refine t_off rfl rfl rfl ?_ rfl
      refine t_pickf rfl rfl ?_ rfl
      refine t_done ?_
      refine x_seq ?_
      refine w_no rfl ?_
      refine w_skip ?_
      refine x_seq ?_
      refine w_seq ?_
      refine w_draw (.st .take 0 (.st .take 1 (.st .take 2 (.st .take 3 (.st .take 4 (.st .take 5 .done)))))) mixed (by kernel_rfl) ?_
      intro w27 x28
      have B := bx Hb B x28
      have S := S.below x28
      refine t_fldx fb_link_0 rfl rfl ?_ rfl
      refine t_bx1 S.box ab_int rfl rfl ?_ rfl
      refine t_fldx fb_link_1 rfl rfl ?_ rfl
      refine t_bx1 S.box ab_int rfl rfl ?_ rfl
      refine t_assign rfl ?_ rfl
      refine t_assign rfl ?_ rfl
      refine t_done' ?_
      refine x_seq ?_
      refine w_ret ?_
      refine x_ret2 rfl rfl rfl ?_
      exact ⟨ret_two (by rw [hR, if_neg fun q => h2 q.1]), ext_trans X0 B⟩
theorem all_ok {f : Nat → Bool} {n : Nat} (h : ∀ j, j < n → f j = true) : (List.range n).all f = true := by
  rw [List.all_eq_true]; intro x hx; exact h x (List.mem_range.1 hx)
theorem all_no {f : Nat → Bool} {n k : Nat} (hk : k < n) (h : f k = false) : (List.range n).all f = false := by
  rw [List.all_eq_false]; exact ⟨k, List.mem_range.2 hk, by simp [h]⟩
theorem upto_succ {f : Nat → Bool} {k : Nat} (h : ∀ j, j < k → f j = true) (hk : f k = true) : ∀ j, j < k + 1 → f j = true := by
  intro j hj
  rcases Nat.lt_or_ge j k with q | q
  · exact h j q
  · have : j = k := by omega
    subst this; exact hk
def hopGood (t : Topo) (l : List Hop) (k : Nat) : Bool := match l[k]? with
  | none => true
  | some x => validHop x && isAS t x.ia && !((l.take k).map Hop.ia).contains x.ia
def hopsOk (t : Topo) (l : List Hop) : Bool := inR l.length 1 8 && (List.range l.length).all (hopGood t l)
def stepGood (t : Topo) (p : Part) (k : Nat) : Bool := match p.hops[k]?, p.hops[k + 1]? with
  | some x, some y => decide (partOut p k ≠ 0) && decide ((remote t x.ia (partOut p k)).1 = y.ia) && decide ((remote t x.ia (partOut p k)).2 = partIn p (k + 1))
  | _, _ => true
def validPart (t : Topo) (p : Part) : Bool := hopsOk t p.hops && inR p.kind 1 4 && inR p.ts 0 1000000 && inR p.beta 0 2147483646 && (List.range (p.hops.length - 1)).all (stepGood t p)
theorem hopGood_eq {t : Topo} {l : List Hop} {k : Nat} {x : Hop} (h : l[k]? = some x) : hopGood t l k = (validHop x && isAS t x.ia && !((l.take k).map Hop.ia).contains x.ia) := by unfold hopGood; rw [h]
theorem stepGood_eq {t : Topo} {p : Part} {k : Nat} {x y : Hop} (h : p.hops[k]? = some x) (h' : p.hops[k + 1]? = some y) : stepGood t p k = (decide (partOut p k ≠ 0) && decide ((remote t x.ia (partOut p k)).1 = y.ia) && decide ((remote t x.ia (partOut p k)).2 = partIn p (k + 1))) := by unfold stepGood; rw [h, h']
theorem has_take {l : List Hop} {k j : Nat} {x : Hop} {n : Int} (h : (l.take k)[j]? = some x) (e : x.ia = n) : ((l.take k).map Hop.ia).contains n = true := by
  rw [List.contains_iff_mem, List.mem_map]; exact ⟨x, List.mem_of_getElem? h, e⟩
theorem hasnt_take {l : List Hop} {n : Int} (h : ∀ (j : Nat) x, l[j]? = some x → x.ia ≠ n) : (l.map Hop.ia).contains n = false := by
  rw [Bool.eq_false_iff]; intro hc
  rw [List.contains_iff_mem, List.mem_map] at hc
  obtain ⟨x, hx, e⟩ := hc
  obtain ⟨j, hj⟩ := List.getElem?_of_mem hx
  exact h j x hj e
theorem impl_hopsOk (t : Topo) (v : Value) (l : List Hop) (u : Value) (w : World) (h : VA topoT w v t) (hl : SlR hopT w u l) (hz : sz_topo t ≤ 1048576) (hz' : l.length ≤ 1048576) : Calls Try.prog 108 #[v, u] w fun e w' => e = .returned (.bool (hopsOk t l)) ∧ Below w.heap.size w w' := by
  have X0 := Below.refl w.heap.size w
  refine enter Try.func108 rfl Try.ntmps108 rfl ?_
  refine w_seq ?_
  refine w_region ?_
  refine t_boxr (by assumption) rfl ?_ rfl rfl
  intro p2 w29 x30 hp2
  replace h := h.below x30
  replace hl := hl.below x30
  have X0 := ext_trans X0 x30
  have S := Sep.nil w29
  have B := Below.refl w29.heap.size w29
  have Hb := Nat.le_refl w29.heap.size
  refine t_assign rfl ?_ rfl
  refine t_done ?_
  refine x_seq ?_
  refine w_seq ?_
  refine w_seq ?_
  refine w_region ?_
  refine t_move rfl ?_ rfl
  refine t_len e_hop (by assumption) rfl rfl ?_ rfl
  refine t_calls Try.call57 rfl (impl_InRange _ _ _ _) ?_ rfl rfl
  refine t_notb rfl ?_ rfl
  refine t_done ?_
  refine x_seq ?_
  refine w_ifb rfl ?_ ?_
  · intro h1
    refine w_seq ?_
    refine w_region ?_
    refine t_assign rfl ?_ rfl
    refine t_done ?_
    refine x_seq ?_
    refine w_ret ?_
    refine x_then_ret ?_
    refine x_ret1 rfl rfl ?_
    exact ⟨ret_bool (by simp only [hopsOk]; simp at h1; simp [h1]), ext_trans X0 B⟩
  · intro h1
    have h1' : inR l.length 1 8 = true := by simpa using h1
    refine w_skip ?_
    refine x_seq ?_
    refine w_seq ?_
    refine w_seq ?_
    refine w_region ?_
    refine t_move rfl ?_ rfl
    refine t_len e_hop (by assumption) rfl rfl ?_ rfl
    refine t_move rfl ?_ rfl
    refine t_done ?_
    refine x_seq ?_
    refine w_block ?_
    refine w_loop (X := Nat) (fun k wq => k ≤ l.length ∧ (∀ j, j < k → hopGood t l j = true) ∧ Below w29.heap.size w29 wq ∧ Sep w29.heap.size wq []) (fun k => [(15, I ((k : Int))), (1, u), (2, p2), (13, u), (14, I ((l.length : Int)))]) (fun k => l.length - k) (0) ?_ ⟨rfl, rfl, rfl, rfl, rfl, trivial⟩ ?_
    · exact ⟨by omega, by omega, B, S⟩
    · rintro k w31 hI
      try dsimp only at hI ⊢
      obtain ⟨hk, ha, B, S⟩ := hI
      refine w_seq ?_
      refine w_region ?_
      refine t_lss rfl rfl ?_ rfl
      refine t_done ?_
      refine x_seq ?_
      refine w_seq ?_
      refine w_if rfl ?_ ?_
      · intro hlt
        have hlt' : k < l.length := by omega
        refine w_skip ?_
        refine x_seq ?_
        refine w_seq ?_
        refine w_block ?_
        refine w_seq ?_
        refine w_region ?_
        refine t_move rfl ?_ rfl
        obtain ⟨e18, he18⟩ : ∃ e, (l)[k]? = some e := getx (by omega)
        refine t_idx e_hop (k := k) (by assumption) he18 B rfl rfl (by first | rfl | omega) ?_ rfl
        intro p18 hp18
        refine t_lda (by assumption) ab_hop sb_hop B rfl ?_ rfl
        intro v19 hv19
        obtain rfl := hop_va hv19
        refine t_alloc S z_hop rfl ?_ rfl rfl
        intro g6 w32 x33 S
        have B := bx Hb B x33
        refine t_assign rfl ?_ rfl
        refine t_stn S sb_hop rfl rfl rfl rfl (by simp [Value.oneCell']) ?_
        intro w34 b35 S
        have B := B.trans b35
        refine t_done ?_
        refine x_seq ?_
        refine w_seq ?_
        refine w_seq ?_
        refine w_region ?_
        refine t_bxn S.box ab_hop sb_hop rfl rfl ?_ rfl
        refine t_callx Try.call114 rfl (impl_ValidHop e18 _) ?_ rfl rfl
        intro w36 x37
        have B := bx Hb B x37
        have S := S.below x37
        refine t_notb rfl ?_ rfl
        refine t_move rfl ?_ rfl
        have hG := hopGood_eq (t := t) he18
        refine t_part (t := 23) rfl ?_ ?_
        · intro h2
          have h2' : validHop e18 = false := by simpa using h2
          refine t_off rfl rfl rfl ?_ rfl
          refine t_off rfl rfl rfl ?_ rfl
          refine t_off rfl rfl rfl ?_ rfl
          refine t_off rfl rfl rfl ?_ rfl
          refine t_off rfl rfl rfl ?_ rfl
          refine t_pickt rfl rfl ?_ rfl
          refine t_done ?_
          refine x_seq ?_
          refine w_yes rfl ?_
          refine w_seq ?_
          refine w_region ?_
          refine t_assign rfl ?_ rfl
          refine t_done ?_
          refine x_seq ?_
          refine w_ret ?_
          refine x_then_ret ?_
          refine x_block_ret ?_
          refine x_then_ret ?_
          refine x_then_ret ?_
          refine x_block_ret ?_
          refine x_then_ret ?_
          refine x_ret1 rfl rfl ?_
          exact ⟨ret_bool (by rw [hopsOk, all_no hlt' (by rw [hG, h2']; rfl)]; simp), ext_trans X0 B⟩
        · intro h2
          have h2' : validHop e18 = true := by simpa using h2
          refine t_on rfl rfl ?_
          refine t_lda (by assumption) ab_topo sb_topo B rfl ?_ rfl
          intro v24 hv24
          obtain ⟨v24_0, v24_1, rfl, hv24_0, hv24_1⟩ := topo_va hv24
          refine t_on rfl rfl ?_
          refine t_fldx fb_hop_0 rfl rfl ?_ rfl
          refine t_on rfl rfl ?_
          refine t_bx1 S.box ab_int rfl rfl ?_ rfl
          refine t_on rfl rfl ?_
          refine t_callx Try.call127 rfl (impl_isAS _ _ _ _ (by first | assumption | exact VA.below (by assumption) B | exact topo_mkv (by first | assumption | exact SlR.below (by assumption) B) (by first | assumption | exact SlR.below (by assumption) B)) (by omega)) ?_ rfl rfl
          intro w38 x39
          have B := bx Hb B x39
          have S := S.below x39
          refine t_on rfl rfl ?_
          refine t_notb rfl ?_ rfl
          refine t_pickf rfl rfl ?_ rfl
          refine t_done ?_
          refine x_seq ?_
          refine w_ifb rfl ?_ ?_
          · intro h3
            have h3' : isAS t e18.ia = false := by simpa using h3
            refine w_seq ?_
            refine w_region ?_
            refine t_assign rfl ?_ rfl
            refine t_done ?_
            refine x_seq ?_
            refine w_ret ?_
            refine x_then_ret ?_
            refine x_block_ret ?_
            refine x_then_ret ?_
            refine x_then_ret ?_
            refine x_block_ret ?_
            refine x_then_ret ?_
            refine x_ret1 rfl rfl ?_
            exact ⟨ret_bool (by rw [hopsOk, all_no hlt' (by rw [hG, h3']; simp)]; simp), ext_trans X0 B⟩
          · intro h3
            have h3' : isAS t e18.ia = true := by simpa using h3
            have hln : (l.take k).length = k := by rw [List.length_take]; omega
            refine w_skip ?_
            refine x_seq ?_
            refine w_seq ?_
            refine w_region ?_
            refine t_move rfl ?_ rfl
            refine t_move rfl ?_ rfl
            refine t_slt e_hop (k := k) (by assumption) rfl rfl (by first | rfl | omega) (by omega) ?_ rfl
            intro v32 hv32
            refine t_len e_hop (by assumption) rfl rfl ?_ rfl
            refine t_move rfl ?_ rfl
            refine t_done ?_
            refine x_seq ?_
            refine w_block ?_
            refine w_loop (X := Nat) (fun j wq => j ≤ k ∧ (∀ i y, i < j → (l.take k)[i]? = some y → y.ia ≠ e18.ia) ∧ Below w29.heap.size w29 wq ∧ Sep w29.heap.size wq [bxO g6 74 #[I e18.ia, I e18.ing, I e18.eg, I e18.exp, I e18.mac]]) (fun j => [(34, I ((j : Int))), (15, I ((k : Int))), (1, u), (2, p2), (13, u), (14, I ((l.length : Int))), (6, .pointer (some ⟨g6, 0, none⟩)), (32, v32), (33, I (((l.take k).length : Int)))]) (fun j => k - j) (0) ?_ ⟨rfl, rfl, rfl, rfl, rfl, rfl, rfl, rfl, rfl, trivial⟩ ?_
            · exact ⟨by omega, by omega, B, S⟩
            · rintro j w40 hI
              try dsimp only at hI ⊢
              obtain ⟨hj, hb, B, S⟩ := hI
              refine w_seq ?_
              refine w_region ?_
              refine t_lss rfl rfl ?_ rfl
              refine t_done ?_
              refine x_seq ?_
              refine w_seq ?_
              refine w_if rfl ?_ ?_
              · intro hlt2
                refine w_skip ?_
                refine x_seq ?_
                refine w_seq ?_
                refine w_block ?_
                refine w_seq ?_
                refine w_region ?_
                obtain ⟨e36, he36⟩ : ∃ e, (l.take k)[j]? = some e := getx (by omega)
                refine t_idx e_hop (k := j) (by assumption) he36 B rfl rfl (by first | rfl | omega) ?_ rfl
                intro p36 hp36
                refine t_lda (by assumption) ab_hop sb_hop B rfl ?_ rfl
                intro v37 hv37
                obtain rfl := hop_va hv37
                refine t_alloc S z_hop rfl ?_ rfl rfl
                intro g8 w41 x42 S
                have B := bx Hb B x42
                refine t_stn S sb_hop rfl rfl rfl rfl (by simp [Value.oneCell']) ?_
                intro w43 b44 S
                have B := B.trans b44
                refine t_done ?_
                refine x_seq ?_
                refine w_seq ?_
                refine w_region ?_
                refine t_fldx fb_hop_0 rfl rfl ?_ rfl
                refine t_bx1 S.box ab_int rfl rfl ?_ rfl
                refine t_fldx fb_hop_0 rfl rfl ?_ rfl
                refine t_bx1 S.tail.box ab_int rfl rfl ?_ rfl
                refine t_eql rfl rfl ?_ rfl
                refine t_done ?_
                refine x_seq ?_
                refine w_if rfl ?_ ?_
                · intro h4
                  refine w_seq ?_
                  refine w_region ?_
                  refine t_assign rfl ?_ rfl
                  refine t_done ?_
                  refine x_seq ?_
                  refine w_ret ?_
                  refine x_block_ret ?_
                  refine x_then_ret ?_
                  refine x_then_ret ?_
                  refine x_block_ret ?_
                  refine x_block_ret ?_
                  refine x_then_ret ?_
                  refine x_then_ret ?_
                  refine x_block_ret ?_
                  refine x_then_ret ?_
                  refine x_ret1 rfl rfl ?_
                  exact ⟨ret_bool (by rw [hopsOk, all_no hlt' (by rw [hG, has_take he36 h4]; simp)]; simp), ext_trans X0 B⟩
                · intro h4
                  refine w_skip ?_
                  refine x_block_normal ?_
                  refine x_seq ?_
                  refine w_region ?_
                  refine t_add rfl rfl (by omega) ?_ rfl
                  refine t_move rfl ?_ rfl
                  refine t_done ?_
                  have S := S.tail
                  refine x_round (X := Nat) (I := (fun j wq => j ≤ k ∧ (∀ i y, i < j → (l.take k)[i]? = some y → y.ia ≠ e18.ia) ∧ Below w29.heap.size w29 wq ∧ Sep w29.heap.size wq [bxO g6 74 #[I e18.ia, I e18.ing, I e18.eg, I e18.exp, I e18.mac]])) (F := (fun j => [(34, I ((j : Int))), (15, I ((k : Int))), (1, u), (2, p2), (13, u), (14, I ((l.length : Int))), (6, .pointer (some ⟨g6, 0, none⟩)), (32, v32), (33, I (((l.take k).length : Int)))])) (μ := (fun j => k - j)) (j + 1) ?_ (by exact ⟨rfl, rfl, rfl, rfl, rfl, rfl, rfl, rfl, rfl, trivial⟩) (by (try dsimp only); omega)
                  try dsimp only
                  refine ⟨by omega, fun i y hi hy => ?_, B, S⟩
                  rcases Nat.lt_or_ge i j with q | q
                  · exact hb i y q hy
                  · have : i = j := by omega
                    subst this
                    rw [he36] at hy
                    cases hy
                    exact h4
              · intro hge2
                refine w_exit ?_
                refine x_then_exit ?_
                refine x_then_exit ?_
                refine x_block_exit ?_
                refine x_block_normal ?_
                refine x_seq ?_
                refine w_region ?_
                refine t_add rfl rfl (by omega) ?_ rfl
                refine t_move rfl ?_ rfl
                refine t_done ?_
                have S := S.tail
                refine x_round (X := Nat) (I := (fun k wq => k ≤ l.length ∧ (∀ j, j < k → hopGood t l j = true) ∧ Below w29.heap.size w29 wq ∧ Sep w29.heap.size wq [])) (F := (fun k => [(15, I ((k : Int))), (1, u), (2, p2), (13, u), (14, I ((l.length : Int)))])) (μ := (fun k => l.length - k)) (k + 1) ?_ (by exact ⟨rfl, rfl, rfl, rfl, rfl, trivial⟩) (by (try dsimp only); omega)
                try dsimp only
                refine ⟨by omega, upto_succ ha ?_, B, S⟩
                rw [hG, h2', h3', hasnt_take fun i y hy => hb i y (by have := (List.getElem?_eq_some_iff.1 hy).1; omega) hy]
                rfl
      · intro hge
        refine w_exit ?_
        refine x_then_exit ?_
        refine x_then_exit ?_
        refine x_block_exit ?_
        refine x_seq ?_
        refine w_seq ?_
        refine w_region ?_
        refine t_assign rfl ?_ rfl
        refine t_done ?_
        refine x_seq ?_
        refine w_ret ?_
        refine x_ret1 rfl rfl ?_
        exact ⟨ret_bool (by rw [hopsOk, h1', all_ok fun j hj => ha j (by omega)]; rfl), ext_trans X0 B⟩
theorem impl_ValidPart (t : Topo) (v : Value) (p : Part) (u : Value) (w : World) (h : VA topoT w v t) (hp : VA partT w u p) (hz : sz_topo t ≤ 1048576) (hz' : p.hops.length ≤ 1048576) : Calls Try.prog 58 #[v, u] w fun e w' => e = .returned (.bool (validPart t p)) ∧ Below w.heap.size w w' := by
  have X0 := Below.refl w.heap.size w
  refine enter Try.func58 rfl Try.ntmps58 rfl ?_
  refine w_seq ?_
  refine w_region ?_
  refine t_boxr (by assumption) rfl ?_ rfl rfl
  intro p2 w45 x46 hp2
  replace h := h.below x46
  replace hp := hp.below x46
  have X0 := ext_trans X0 x46
  refine t_boxr (by assumption) rfl ?_ rfl rfl
  intro p3 w47 x48 hp3
  replace h := h.below x48
  replace hp := hp.below x48
  replace hp2 := hp2.below x48
  have X0 := ext_trans X0 x48
  have S := Sep.nil w47
  have B := Below.refl w47.heap.size w47
  have Hb := Nat.le_refl w47.heap.size
  refine t_assign rfl ?_ rfl
  refine t_done ?_
  refine x_seq ?_
  refine w_seq ?_
  refine w_seq ?_
  refine w_region ?_
  refine t_fld ln_part_0 (by assumption) fb_part_0 rfl ?_ rfl
  intro p9 hp9
  refine t_ldi (by assumption) ab_int B rfl ?_ rfl
  refine t_calls Try.call57 rfl (impl_InRange _ _ _ _) ?_ rfl rfl
  refine t_notb rfl ?_ rfl
  refine t_move rfl ?_ rfl
  refine t_part (t := 13) rfl ?_ ?_
  · intro h1
    refine t_off rfl rfl rfl ?_ rfl
    refine t_off rfl rfl rfl ?_ rfl
    refine t_off rfl rfl rfl ?_ rfl
    refine t_off rfl rfl rfl ?_ rfl
    refine t_off rfl rfl rfl ?_ rfl
    refine t_pickt rfl rfl ?_ rfl
    refine t_move rfl ?_ rfl
    refine t_off rfl rfl rfl ?_ rfl
    refine t_off rfl rfl rfl ?_ rfl
    refine t_off rfl rfl rfl ?_ rfl
    refine t_off rfl rfl rfl ?_ rfl
    refine t_pickt rfl rfl ?_ rfl
    refine t_move rfl ?_ rfl
    refine t_off rfl rfl rfl ?_ rfl
    refine t_off rfl rfl rfl ?_ rfl
    refine t_off rfl rfl rfl ?_ rfl
    refine t_off rfl rfl rfl ?_ rfl
    refine t_pickt rfl rfl ?_ rfl
    refine t_done ?_
    refine x_seq ?_
    refine w_yes rfl ?_
    refine w_seq ?_
    refine w_region ?_
    refine t_assign rfl ?_ rfl
    refine t_done ?_
    refine x_seq ?_
    refine w_ret ?_
    refine x_then_ret ?_
    refine x_ret1 rfl rfl ?_
    exact ⟨ret_bool (by simp at h1; simp [validPart, h1]), ext_trans X0 B⟩
  intro h1
  refine t_on rfl rfl ?_
  refine t_lda (by assumption) ab_topo sb_topo B rfl ?_ rfl
  intro v14 hv14
  obtain ⟨v14_0, v14_1, rfl, hv14_0, hv14_1⟩ := topo_va hv14
  refine t_on rfl rfl ?_
  refine t_fld ln_part_3 (by assumption) fb_part_3 rfl ?_ rfl
  intro p15 hp15
  refine t_on rfl rfl ?_
  refine t_lds (by assumption) ab_s_hop B rfl ?_ rfl
  intro v16 hv16
  refine t_on rfl rfl ?_
  refine t_callx Try.call108 rfl (impl_hopsOk _ _ _ _ _ (by first | assumption | exact VA.below (by assumption) B | exact topo_mkv (by first | assumption | exact SlR.below (by assumption) B) (by first | assumption | exact SlR.below (by assumption) B)) (by first | assumption | exact SlR.below (by assumption) B) (by omega) (by omega)) ?_ rfl rfl
  intro w49 x50
  have B := bx Hb B x50
  have S := S.below x50
  refine t_on rfl rfl ?_
  refine t_notb rfl ?_ rfl
  refine t_pickf rfl rfl ?_ rfl
  refine t_move rfl ?_ rfl
  refine t_part (t := 20) rfl ?_ ?_
  · intro h2
    refine t_off rfl rfl rfl ?_ rfl
    refine t_off rfl rfl rfl ?_ rfl
    refine t_off rfl rfl rfl ?_ rfl
    refine t_off rfl rfl rfl ?_ rfl
    refine t_pickt rfl rfl ?_ rfl
    refine t_move rfl ?_ rfl
    refine t_off rfl rfl rfl ?_ rfl
    refine t_off rfl rfl rfl ?_ rfl
    refine t_off rfl rfl rfl ?_ rfl
    refine t_off rfl rfl rfl ?_ rfl
    refine t_pickt rfl rfl ?_ rfl
    refine t_done ?_
    refine x_seq ?_
    refine w_yes rfl ?_
    refine w_seq ?_
    refine w_region ?_
    refine t_assign rfl ?_ rfl
    refine t_done ?_
    refine x_seq ?_
    refine w_ret ?_
    refine x_then_ret ?_
    refine x_ret1 rfl rfl ?_
    exact ⟨ret_bool (by simp at h2; simp [validPart, h2]), ext_trans X0 B⟩
  intro h2
  refine t_on rfl rfl ?_
  refine t_fld ln_part_1 (by assumption) fb_part_1 rfl ?_ rfl
  intro p21 hp21
  refine t_on rfl rfl ?_
  refine t_ldi (by assumption) ab_int B rfl ?_ rfl
  refine t_on rfl rfl ?_
  refine t_calls Try.call57 rfl (impl_InRange _ _ _ _) ?_ rfl rfl
  refine t_on rfl rfl ?_
  refine t_notb rfl ?_ rfl
  refine t_pickf rfl rfl ?_ rfl
  refine t_move rfl ?_ rfl
  refine t_part (t := 26) rfl ?_ ?_
  · intro h3
    refine t_off rfl rfl rfl ?_ rfl
    refine t_off rfl rfl rfl ?_ rfl
    refine t_off rfl rfl rfl ?_ rfl
    refine t_off rfl rfl rfl ?_ rfl
    refine t_pickt rfl rfl ?_ rfl
    refine t_done ?_
    refine x_seq ?_
    refine w_yes rfl ?_
    refine w_seq ?_
    refine w_region ?_
    refine t_assign rfl ?_ rfl
    refine t_done ?_
    refine x_seq ?_
    refine w_ret ?_
    refine x_then_ret ?_
    refine x_ret1 rfl rfl ?_
    exact ⟨ret_bool (by simp at h3; simp [validPart, h3]), ext_trans X0 B⟩
  intro h3
  refine t_on rfl rfl ?_
  refine t_fld ln_part_2 (by assumption) fb_part_2 rfl ?_ rfl
  intro p27 hp27
  refine t_on rfl rfl ?_
  refine t_ldi (by assumption) ab_int B rfl ?_ rfl
  refine t_on rfl rfl ?_
  refine t_calls Try.call91 rfl (impl_isResidue _ _) ?_ rfl rfl
  refine t_on rfl rfl ?_
  refine t_notb rfl ?_ rfl
  refine t_pickf rfl rfl ?_ rfl
  refine t_done ?_
  refine x_seq ?_
  refine w_ifb rfl ?_ ?_
  · intro h4
    refine w_seq ?_
    refine w_region ?_
    refine t_assign rfl ?_ rfl
    refine t_done ?_
    refine x_seq ?_
    refine w_ret ?_
    refine x_then_ret ?_
    refine x_ret1 rfl rfl ?_
    exact ⟨ret_bool (by simp at h4; simp [validPart, h4]), ext_trans X0 B⟩
  intro h4
  have hV : validPart t p = (List.range (p.hops.length - 1)).all (stepGood t p) := by simp at h1 h2 h3 h4; simp [validPart, h1, h2, h3, h4]
  rw [hV]
  refine w_skip ?_
  refine x_seq ?_
  refine w_seq ?_
  refine w_seq ?_
  refine w_region ?_
  refine t_assign rfl ?_ rfl
  refine t_done ?_
  refine x_seq ?_
  refine w_block ?_
  refine w_loop (X := Nat) (fun k wq => k ≤ p.hops.length ∧ (∀ j, j < k → stepGood t p j = true) ∧ Below w47.heap.size w47 wq ∧ Sep w47.heap.size wq []) (fun k => [(5, I ((k : Int))), (2, p2), (3, p3)]) (fun k => p.hops.length - k) (0) ?_ ⟨rfl, rfl, rfl, trivial⟩ ?_
  · exact ⟨by omega, by omega, B, S⟩
  · rintro k w51 hI
    try dsimp only at hI ⊢
    obtain ⟨hk, ha, B, S⟩ := hI
    refine w_seq ?_
    refine w_seq ?_
    refine w_region ?_
    refine t_move rfl ?_ rfl
    refine t_fld ln_part_3 (by assumption) fb_part_3 rfl ?_ rfl
    intro p33 hp33
    refine t_lds (by assumption) ab_s_hop B rfl ?_ rfl
    intro v34 hv34
    refine t_len e_hop (by assumption) rfl rfl ?_ rfl
    refine t_sub rfl rfl (by omega) ?_ rfl
    refine t_lss rfl rfl ?_ rfl
    refine t_done ?_
    refine x_seq ?_
    refine w_if rfl ?_ ?_
    · intro hlt
      have hlt' : k < p.hops.length - 1 := by omega
      have hk1 : ((k : Int) + 1).toNat = k + 1 := by omega
      obtain ⟨e63, he63⟩ : ∃ e, p.hops[k + 1]? = some e := getx (by omega)
      refine w_skip ?_
      refine x_seq ?_
      refine w_seq ?_
      refine w_block ?_
      refine w_seq ?_
      refine w_region ?_
      refine t_lda (by assumption) ab_part sb_part B rfl ?_ rfl
      intro v40 hv40
      obtain ⟨v40_3, rfl, hv40_3⟩ := part_va hv40
      refine t_move rfl ?_ rfl
      refine t_callx Try.call60 rfl (va1 (by first | assumption | exact VA.below (by assumption) B | exact part_mkv (by first | assumption | exact SlR.below (by assumption) B)) fun cs h => impl_PartEgress _ cs _ _ h (by omega) (by omega)) ?_ rfl rfl
      intro w52 x53
      have B := bx Hb B x53
      have S := S.below x53
      refine t_assign rfl ?_ rfl
      refine t_done ?_
      refine x_seq ?_
      refine w_seq ?_
      refine w_draw (.st .take 0 (.st .take 1 (.st .take 2 (.st .take 3 (.st .take 4 (.st .take 5 (.st .take 6 (.st .take 7 (.st .run 8 (.st .take 9 (.st .take 10 (.st .take 11 (.st .take 12 (.st .take 13 .done)))))))))))))) mixed (by kernel_rfl) ?_
      intro w54 x55
      have B := bx Hb B x55
      have S := S.below x55
      refine t_lda (by assumption) ab_topo sb_topo B rfl ?_ rfl
      intro v44 hv44
      obtain ⟨v44_0, v44_1, rfl, hv44_0, hv44_1⟩ := topo_va hv44
      refine t_fld ln_part_3 (by assumption) fb_part_3 rfl ?_ rfl
      intro p45 hp45
      refine t_lds (by assumption) ab_s_hop B rfl ?_ rfl
      intro v46 hv46
      refine t_move rfl ?_ rfl
      obtain ⟨e48, he48⟩ : ∃ e, (p.hops)[k]? = some e := getx (by omega)
      refine t_idx e_hop (k := k) (by assumption) he48 B rfl rfl (by first | rfl | omega) ?_ rfl
      intro p48 hp48
      refine t_fld ln_hop_0 (by assumption) fb_hop_0 rfl ?_ rfl
      intro p49 hp49
      refine t_ldi (by assumption) ab_int B rfl ?_ rfl
      refine t_move rfl ?_ rfl
      refine t_callx Try.call11 rfl (impl_RemoteEnd _ _ _ _ _ (by first | assumption | exact VA.below (by assumption) B | exact topo_mkv (by first | assumption | exact SlR.below (by assumption) B) (by first | assumption | exact SlR.below (by assumption) B)) (by omega)) ?_ rfl rfl
      intro w56 x57
      have B := bx Hb B x57
      have S := S.below x57
      refine t_move rfl ?_ rfl
      refine t_extract rfl rfl ?_ rfl
      refine t_extract rfl rfl ?_ rfl
      refine t_assign rfl ?_ rfl
      refine t_assign rfl ?_ rfl
      refine t_done' ?_
      refine x_seq ?_
      refine w_seq ?_
      refine w_region ?_
      refine t_move rfl ?_ rfl
      refine t_eql rfl rfl ?_ rfl
      refine t_move rfl ?_ rfl
      have hG := stepGood_eq (t := t) he48 he63
      refine t_partp (t := 57) rfl ?_ ?_
      · intro h5
        refine t_off rfl rfl rfl ?_ rfl
        refine t_off rfl rfl rfl ?_ rfl
        refine t_off rfl rfl rfl ?_ rfl
        refine t_off rfl rfl rfl ?_ rfl
        refine t_off rfl rfl rfl ?_ rfl
        refine t_off rfl rfl rfl ?_ rfl
        refine t_off rfl rfl rfl ?_ rfl
        refine t_off rfl rfl rfl ?_ rfl
        refine t_off rfl rfl rfl ?_ rfl
        refine t_pickt rfl rfl ?_ rfl
        refine t_move rfl ?_ rfl
        refine t_off rfl rfl rfl ?_ rfl
        refine t_off rfl rfl rfl ?_ rfl
        refine t_off rfl rfl rfl ?_ rfl
        refine t_off rfl rfl rfl ?_ rfl
        refine t_off rfl rfl rfl ?_ rfl
        refine t_off rfl rfl rfl ?_ rfl
        refine t_pickt rfl rfl ?_ rfl
        refine t_done ?_
        refine x_seq ?_
        refine w_yes rfl ?_
        refine w_seq ?_
        refine w_region ?_
        refine t_assign rfl ?_ rfl
        refine t_done ?_
        refine x_seq ?_
        refine w_ret ?_
        refine x_block_ret ?_
        refine x_then_ret ?_
        refine x_then_ret ?_
        refine x_block_ret ?_
        refine x_then_ret ?_
        refine x_ret1 rfl rfl ?_
        exact ⟨ret_bool (all_no hlt' (by rw [hG]; simp at h5; simp [h5])).symm, ext_trans X0 B⟩
      intro h5
      refine t_on rfl rfl ?_
      refine t_move rfl ?_ rfl
      refine t_on rfl rfl ?_
      refine t_fld ln_part_3 (by assumption) fb_part_3 rfl ?_ rfl
      intro p59 hp59
      refine t_on rfl rfl ?_
      refine t_lds (by assumption) ab_s_hop B rfl ?_ rfl
      intro v60 hv60
      refine t_on rfl rfl ?_
      refine t_move rfl ?_ rfl
      refine t_on rfl rfl ?_
      refine t_add rfl rfl (by omega) ?_ rfl
      refine t_on rfl rfl ?_
      refine t_idx e_hop (k := (k + 1)) (by assumption) he63 B rfl rfl (by first | rfl | omega) ?_ rfl
      intro p63 hp63
      refine t_on rfl rfl ?_
      refine t_fld ln_hop_0 (by assumption) fb_hop_0 rfl ?_ rfl
      intro p64 hp64
      refine t_on rfl rfl ?_
      refine t_ldi (by assumption) ab_int B rfl ?_ rfl
      refine t_on rfl rfl ?_
      refine t_neq rfl rfl ?_ rfl
      refine t_pickf rfl rfl ?_ rfl
      refine t_move rfl ?_ rfl
      refine t_partp (t := 68) rfl ?_ ?_
      · intro h6
        refine t_off rfl rfl rfl ?_ rfl
        refine t_off rfl rfl rfl ?_ rfl
        refine t_off rfl rfl rfl ?_ rfl
        refine t_off rfl rfl rfl ?_ rfl
        refine t_off rfl rfl rfl ?_ rfl
        refine t_off rfl rfl rfl ?_ rfl
        refine t_pickt rfl rfl ?_ rfl
        refine t_done ?_
        refine x_seq ?_
        refine w_yes rfl ?_
        refine w_seq ?_
        refine w_region ?_
        refine t_assign rfl ?_ rfl
        refine t_done ?_
        refine x_seq ?_
        refine w_ret ?_
        refine x_block_ret ?_
        refine x_then_ret ?_
        refine x_then_ret ?_
        refine x_block_ret ?_
        refine x_then_ret ?_
        refine x_ret1 rfl rfl ?_
        exact ⟨ret_bool (all_no hlt' (by rw [hG]; simp at h6; simp [h6])).symm, ext_trans X0 B⟩
      intro h6
      refine t_on rfl rfl ?_
      refine t_move rfl ?_ rfl
      refine t_on rfl rfl ?_
      refine t_lda (by assumption) ab_part sb_part B rfl ?_ rfl
      intro v70 hv70
      obtain ⟨v70_3, rfl, hv70_3⟩ := part_va hv70
      refine t_on rfl rfl ?_
      refine t_move rfl ?_ rfl
      refine t_on rfl rfl ?_
      refine t_add rfl rfl (by omega) ?_ rfl
      refine t_on rfl rfl ?_
      refine t_callx Try.call61 rfl (va1 (by first | assumption | exact VA.below (by assumption) B | exact part_mkv (by first | assumption | exact SlR.below (by assumption) B)) fun cs h => impl_PartIngress _ cs _ _ h (by omega) (by omega)) ?_ rfl rfl
      intro w58 x59
      have B := bx Hb B x59
      have S := S.below x59
      refine t_on rfl rfl ?_
      refine t_neq rfl rfl ?_ rfl
      refine t_pickf rfl rfl ?_ rfl
      refine t_done ?_
      refine x_seq ?_
      refine w_if rfl ?_ ?_
      · intro h7
        refine w_seq ?_
        refine w_region ?_
        refine t_assign rfl ?_ rfl
        refine t_done ?_
        refine x_seq ?_
        refine w_ret ?_
        refine x_block_ret ?_
        refine x_then_ret ?_
        refine x_then_ret ?_
        refine x_block_ret ?_
        refine x_then_ret ?_
        refine x_ret1 rfl rfl ?_
        exact ⟨ret_bool (all_no hlt' (by rw [hG]; rw [hk1] at h7; simp at h7; simp [h7])).symm, ext_trans X0 B⟩
      intro h7
      refine w_skip ?_
      refine x_block_normal ?_
      refine x_seq ?_
      refine w_region ?_
      refine t_move rfl ?_ rfl
      refine t_add rfl rfl (by omega) ?_ rfl
      refine t_assign rfl ?_ rfl
      refine t_done ?_
      refine x_round (X := Nat) (I := (fun k wq => k ≤ p.hops.length ∧ (∀ j, j < k → stepGood t p j = true) ∧ Below w47.heap.size w47 wq ∧ Sep w47.heap.size wq [])) (F := (fun k => [(5, I ((k : Int))), (2, p2), (3, p3)])) (μ := (fun k => p.hops.length - k)) (k + 1) ?_ (by exact ⟨rfl, rfl, rfl, trivial⟩) (by (try dsimp only); omega)
      try dsimp only
      refine ⟨by omega, upto_succ ha ?_, B, S⟩
      rw [hk1] at h7
      rw [hG]
      simp at h5 h6 h7
      simp [h5, h6, h7]
    · intro hge
      refine w_exit ?_
      refine x_then_exit ?_
      refine x_then_exit ?_
      refine x_block_exit ?_
      refine x_seq ?_
      refine w_seq ?_
      refine w_region ?_
      refine t_assign rfl ?_ rfl
      refine t_done ?_
      refine x_seq ?_
      refine w_ret ?_
      refine x_ret1 rfl rfl ?_
      exact ⟨ret_bool (all_ok fun j hj => ha j (by omega)).symm, ext_trans X0 B⟩
theorem spec_l21Realms (p : Part) (v : Value) (w : World) (h : VA partT w v p) (hz : p.hops.length ≤ 1048576) : Calls Try.prog 101 #[v] w fun e w' => ∃ v fp, e = .returned v ∧ SlO intT 3 w.heap.size w' v (p.hops.map Hop.ia) fp ∧ Below w.heap.size w w' := by
  have X0 := Below.refl w.heap.size w
  refine enter Try.func101 rfl Try.ntmps101 rfl ?_
  refine w_seq ?_
  refine w_region ?_
  refine t_boxr (by assumption) rfl ?_ rfl rfl
  intro p1 w60 x61 hp1
  replace h := h.below x61
  have X0 := ext_trans X0 x61
  have S := Sep.nil w60
  have B := Below.refl w60.heap.size w60
  have Hb := Nat.le_refl w60.heap.size
  refine t_assign rfl ?_ rfl
  refine t_done ?_
  refine x_seq ?_
  refine w_seq ?_
  refine w_region ?_
  refine t_lit (T := intT) (css := []) (l := []) int_flat S bs_int0 rfl rfl rfl rfl (Nat.zero_le _) litR_nil ?_ rfl rfl
  intro u5 w62 x63 S
  have B := bx Hb B x63
  refine t_assign rfl ?_ rfl
  refine t_done ?_
  refine x_seq ?_
  refine w_seq ?_
  refine w_seq ?_
  refine w_region ?_
  refine t_assign rfl ?_ rfl
  refine t_done ?_
  refine x_seq ?_
  refine w_block ?_
  refine w_loop (X := Nat × Value) (fun x wq => (fun k v => k ≤ p.hops.length ∧ Below w60.heap.size w60 wq ∧ Sep w60.heap.size wq [slO intT 3 v ((p.hops.take k).map Hop.ia)]) x.1 x.2) (fun x => (fun k v => [(4, I ((k : Int))), (3, v), (1, p1), (2, .slice none 0 0)]) x.1 x.2) (fun x => (fun k v => p.hops.length - k) x.1 x.2) (0, u5) ?_ ⟨rfl, rfl, rfl, rfl, trivial⟩ ?_
  · exact ⟨by omega, B, S⟩
  · rintro ⟨k, v⟩ w64 hI
    try dsimp only at hI ⊢
    obtain ⟨hk, B, S⟩ := hI
    have hml : ((p.hops.take k).map Hop.ia).length = k := by rw [List.length_map, List.length_take]; omega
    refine w_seq ?_
    refine w_seq ?_
    refine w_region ?_
    refine t_move rfl ?_ rfl
    refine t_fld ln_part_3 (by assumption) fb_part_3 rfl ?_ rfl
    intro p7 hp7
    refine t_lds (by assumption) ab_s_hop B rfl ?_ rfl
    intro v8 hv8
    refine t_len e_hop (by assumption) rfl rfl ?_ rfl
    refine t_lss rfl rfl ?_ rfl
    refine t_done ?_
    refine x_seq ?_
    refine w_if rfl ?_ ?_
    · intro hlt
      refine w_skip ?_
      refine x_seq ?_
      refine w_seq ?_
      refine w_block ?_
      refine w_region ?_
      refine t_move rfl ?_ rfl
      refine t_fld ln_part_3 (by assumption) fb_part_3 rfl ?_ rfl
      intro p14 hp14
      refine t_lds (by assumption) ab_s_hop B rfl ?_ rfl
      intro v15 hv15
      refine t_move rfl ?_ rfl
      obtain ⟨e17, he17⟩ : ∃ e, (p.hops)[k]? = some e := getx (by omega)
      refine t_idx e_hop (k := k) (by assumption) he17 B rfl rfl (by first | rfl | omega) ?_ rfl
      intro p17 hp17
      refine t_fld ln_hop_0 (by assumption) fb_hop_0 rfl ?_ rfl
      intro p18 hp18
      refine t_ldi (by assumption) ab_int B rfl ?_ rfl
      refine t_lit (T := intT) (l := [e17.ia]) (css := ([e17.ia]).map fun a => [I a]) int_flat S (fun w => bs_int1 _ w) rfl rfl rfl rfl (by simp [maxLen]) (litR_int _) ?_ rfl rfl
      intro u20 w65 x66 S
      have B := bx Hb B x66
      have hR := S.sl
      have S := S.f1
      refine t_cat int_flat e_int S hR rfl rfl rfl (by first | omega | (simp [-List.length_flatMap]; omega)) (by (simp [maxLen, -List.length_flatMap]; try omega)) ?_ rfl
      intro v21 w67 x68 S
      have B := B.trans x68
      clear hR
      have S := S.f1
      have S := S.tail
      refine t_assign rfl ?_ rfl
      refine t_done ?_
      refine x_block_normal ?_
      refine x_seq ?_
      refine w_region ?_
      refine t_move rfl ?_ rfl
      refine t_add rfl rfl (by omega) ?_ rfl
      refine t_assign rfl ?_ rfl
      refine t_done ?_
      refine x_round (X := Nat × Value) (I := (fun x wq => (fun k v => k ≤ p.hops.length ∧ Below w60.heap.size w60 wq ∧ Sep w60.heap.size wq [slO intT 3 v ((p.hops.take k).map Hop.ia)]) x.1 x.2)) (F := (fun x => (fun k v => [(4, I ((k : Int))), (3, v), (1, p1), (2, .slice none 0 0)]) x.1 x.2)) (μ := (fun x => (fun k v => p.hops.length - k) x.1 x.2)) (k + 1, v21) ?_ (by exact ⟨rfl, rfl, rfl, rfl, trivial⟩) (by (try dsimp only); omega)
      try dsimp only
      refine ⟨by omega, B, ?_⟩
      rw [take_succ he17, List.map_append]
      exact S
    · intro hge
      refine w_exit ?_
      refine x_then_exit ?_
      refine x_then_exit ?_
      refine x_block_exit ?_
      refine x_seq ?_
      refine w_seq ?_
      refine w_region ?_
      refine t_move rfl ?_ rfl
      refine t_assign rfl ?_ rfl
      refine t_done ?_
      refine x_seq ?_
      refine w_ret ?_
      refine x_ret1 rfl rfl ?_
      have : k = p.hops.length := by omega
      subst this
      rw [List.take_length] at S
      obtain ⟨fp, hO⟩ := (S.mono X0.size).head
      exact ⟨_, fp, rfl, hO, ext_trans X0 B⟩
theorem spec_ValidPart (t : Topo) (v : Value) (p : Part) (u : Value) (w : World) (h : VA topoT w v t) (hp : VA partT w u p) (hz : sz_topo t ≤ 1048576) (hz' : p.hops.length ≤ 1048576) : Calls Try.prog 55 #[v, u] w fun e w' => e = .returned (.bool (validPart t p)) ∧ Below w.heap.size w w' := by
  have hml : (p.hops.map Hop.ia).length = p.hops.length := List.length_map ..
  have X0 := Below.refl w.heap.size w
  refine enter Try.func55 rfl Try.ntmps55 rfl ?_
  refine w_seq ?_
  refine w_region ?_
  refine t_boxr (by assumption) rfl ?_ rfl rfl
  intro p2 w69 x70 hp2
  replace h := h.below x70
  replace hp := hp.below x70
  have X0 := ext_trans X0 x70
  refine t_boxr (by assumption) rfl ?_ rfl rfl
  intro p3 w71 x72 hp3
  replace h := h.below x72
  replace hp := hp.below x72
  replace hp2 := hp2.below x72
  have X0 := ext_trans X0 x72
  have S := Sep.nil w71
  have B := Below.refl w71.heap.size w71
  have Hb := Nat.le_refl w71.heap.size
  refine t_assign rfl ?_ rfl
  refine t_done ?_
  refine x_seq ?_
  refine w_seq ?_
  refine w_seq ?_
  refine w_region ?_
  refine t_fld ln_part_3 (by assumption) fb_part_3 rfl ?_ rfl
  intro p9 hp9
  refine t_lds (by assumption) ab_s_hop B rfl ?_ rfl
  intro v10 hv10
  refine t_len e_hop (by assumption) rfl rfl ?_ rfl
  refine t_calls Try.call54 rfl (spec_l1In _ _ _ _) ?_ rfl rfl
  refine t_notb rfl ?_ rfl
  refine t_move rfl ?_ rfl
  refine t_part (t := 14) rfl ?_ ?_
  · intro h1
    refine t_off rfl rfl rfl ?_ rfl
    refine t_off rfl rfl rfl ?_ rfl
    refine t_off rfl rfl rfl ?_ rfl
    refine t_off rfl rfl rfl ?_ rfl
    refine t_pickt rfl rfl ?_ rfl
    refine t_move rfl ?_ rfl
    refine t_off rfl rfl rfl ?_ rfl
    refine t_off rfl rfl rfl ?_ rfl
    refine t_off rfl rfl rfl ?_ rfl
    refine t_off rfl rfl rfl ?_ rfl
    refine t_pickt rfl rfl ?_ rfl
    refine t_move rfl ?_ rfl
    refine t_off rfl rfl rfl ?_ rfl
    refine t_off rfl rfl rfl ?_ rfl
    refine t_off rfl rfl rfl ?_ rfl
    refine t_off rfl rfl rfl ?_ rfl
    refine t_pickt rfl rfl ?_ rfl
    refine t_done ?_
    refine x_seq ?_
    refine w_yes rfl ?_
    refine w_seq ?_
    refine w_region ?_
    refine t_assign rfl ?_ rfl
    refine t_done ?_
    refine x_seq ?_
    refine w_ret ?_
    refine x_then_ret ?_
    refine x_ret1 rfl rfl ?_
    exact ⟨ret_bool (by simp at h1; simp [validPart, hopsOk, h1]), ext_trans X0 B⟩
  intro h1
  refine t_on rfl rfl ?_
  refine t_fld ln_part_0 (by assumption) fb_part_0 rfl ?_ rfl
  intro p15 hp15
  refine t_on rfl rfl ?_
  refine t_ldi (by assumption) ab_int B rfl ?_ rfl
  refine t_on rfl rfl ?_
  refine t_calls Try.call54 rfl (spec_l1In _ _ _ _) ?_ rfl rfl
  refine t_on rfl rfl ?_
  refine t_notb rfl ?_ rfl
  refine t_pickf rfl rfl ?_ rfl
  refine t_move rfl ?_ rfl
  refine t_part (t := 20) rfl ?_ ?_
  · intro h2
    refine t_off rfl rfl rfl ?_ rfl
    refine t_off rfl rfl rfl ?_ rfl
    refine t_off rfl rfl rfl ?_ rfl
    refine t_off rfl rfl rfl ?_ rfl
    refine t_pickt rfl rfl ?_ rfl
    refine t_move rfl ?_ rfl
    refine t_off rfl rfl rfl ?_ rfl
    refine t_off rfl rfl rfl ?_ rfl
    refine t_off rfl rfl rfl ?_ rfl
    refine t_off rfl rfl rfl ?_ rfl
    refine t_pickt rfl rfl ?_ rfl
    refine t_done ?_
    refine x_seq ?_
    refine w_yes rfl ?_
    refine w_seq ?_
    refine w_region ?_
    refine t_assign rfl ?_ rfl
    refine t_done ?_
    refine x_seq ?_
    refine w_ret ?_
    refine x_then_ret ?_
    refine x_ret1 rfl rfl ?_
    exact ⟨ret_bool (by simp at h2; simp [validPart, h2]), ext_trans X0 B⟩
  intro h2
  refine t_on rfl rfl ?_
  refine t_fld ln_part_1 (by assumption) fb_part_1 rfl ?_ rfl
  intro p21 hp21
  refine t_on rfl rfl ?_
  refine t_ldi (by assumption) ab_int B rfl ?_ rfl
  refine t_on rfl rfl ?_
  refine t_calls Try.call54 rfl (spec_l1In _ _ _ _) ?_ rfl rfl
  refine t_on rfl rfl ?_
  refine t_notb rfl ?_ rfl
  refine t_pickf rfl rfl ?_ rfl
  refine t_move rfl ?_ rfl
  refine t_part (t := 26) rfl ?_ ?_
  · intro h3
    refine t_off rfl rfl rfl ?_ rfl
    refine t_off rfl rfl rfl ?_ rfl
    refine t_off rfl rfl rfl ?_ rfl
    refine t_off rfl rfl rfl ?_ rfl
    refine t_pickt rfl rfl ?_ rfl
    refine t_done ?_
    refine x_seq ?_
    refine w_yes rfl ?_
    refine w_seq ?_
    refine w_region ?_
    refine t_assign rfl ?_ rfl
    refine t_done ?_
    refine x_seq ?_
    refine w_ret ?_
    refine x_then_ret ?_
    refine x_ret1 rfl rfl ?_
    exact ⟨ret_bool (by simp at h3; simp [validPart, h3]), ext_trans X0 B⟩
  intro h3
  refine t_on rfl rfl ?_
  refine t_fld ln_part_2 (by assumption) fb_part_2 rfl ?_ rfl
  intro p27 hp27
  refine t_on rfl rfl ?_
  refine t_ldi (by assumption) ab_int B rfl ?_ rfl
  refine t_on rfl rfl ?_
  refine t_calls Try.call100 rfl (spec_l3Ok _ _) ?_ rfl rfl
  refine t_on rfl rfl ?_
  refine t_notb rfl ?_ rfl
  refine t_pickf rfl rfl ?_ rfl
  refine t_done ?_
  refine x_seq ?_
  refine w_ifb rfl ?_ ?_
  · intro h4
    refine w_seq ?_
    refine w_region ?_
    refine t_assign rfl ?_ rfl
    refine t_done ?_
    refine x_seq ?_
    refine w_ret ?_
    refine x_then_ret ?_
    refine x_ret1 rfl rfl ?_
    exact ⟨ret_bool (by simp at h4; simp [validPart, h4]), ext_trans X0 B⟩
  intro h4
  have hV : validPart t p = ((List.range p.hops.length).all (hopGood t p.hops) && (List.range (p.hops.length - 1)).all (stepGood t p)) := by simp at h1 h2 h3 h4; simp [validPart, hopsOk, h1, h2, h3, h4]
  rw [hV]
  refine w_skip ?_
  refine x_seq ?_
  refine w_seq ?_
  refine w_region ?_
  refine t_lda (by assumption) ab_part sb_part B rfl ?_ rfl
  intro v32 hv32
  obtain ⟨v32_3, rfl, hv32_3⟩ := part_va hv32
  refine t_call Try.call101 rfl (spec_l21Realms _ _ _ (by first | assumption | exact VA.below (by assumption) B | exact part_mkv (by first | assumption | exact SlR.below (by assumption) B)) (by omega)) ?_ rfl rfl
  rintro e w73 ⟨v33, fpv33, rfl, hOv33, x74⟩
  refine ⟨_, rfl, x74, ?_⟩
  have S := S.add (o := slO _ _ _ _) x74 hOv33
  have B := bx Hb B x74
  refine t_assign rfl ?_ rfl
  refine t_done ?_
  refine x_seq ?_
  refine w_seq ?_
  refine w_seq ?_
  refine w_region ?_
  refine t_assign rfl ?_ rfl
  refine t_done ?_
  refine x_seq ?_
  refine w_block ?_
  refine w_loop (X := Nat) (fun k wq => k ≤ p.hops.length ∧ (∀ j, j < k → hopGood t p.hops j = true) ∧ (∀ j, j < k - 1 → stepGood t p j = true) ∧ Below w71.heap.size w71 wq ∧ Sep w71.heap.size wq [slO intT 3 v33 (p.hops.map Hop.ia)]) (fun k => [(6, I ((k : Int))), (2, p2), (3, p3), (5, v33)]) (fun k => p.hops.length - k) (0) ?_ ⟨rfl, rfl, rfl, rfl, trivial⟩ ?_
  · exact ⟨by omega, by omega, by omega, B, S⟩
  · rintro k w75 hI
    try dsimp only at hI ⊢
    obtain ⟨hk, ha, hb, B, S⟩ := hI
    refine w_seq ?_
    refine w_seq ?_
    refine w_region ?_
    refine t_move rfl ?_ rfl
    refine t_fld ln_part_3 (by assumption) fb_part_3 rfl ?_ rfl
    intro p35 hp35
    refine t_lds (by assumption) ab_s_hop B rfl ?_ rfl
    intro v36 hv36
    refine t_len e_hop (by assumption) rfl rfl ?_ rfl
    refine t_lss rfl rfl ?_ rfl
    refine t_done ?_
    refine x_seq ?_
    refine w_if rfl ?_ ?_
    · intro hlt
      have hlt' : k < p.hops.length := by omega
      obtain ⟨e44, he44⟩ : ∃ e, p.hops[k]? = some e := getx (by omega)
      have hm44 : (p.hops.map Hop.ia)[k]? = some e44.ia := by rw [List.getElem?_map, he44]; rfl
      have htl : ((p.hops.map Hop.ia).take k).length ≤ 16777216 := by rw [List.length_take, hml]; omega
      refine w_skip ?_
      refine x_seq ?_
      refine w_seq ?_
      refine w_block ?_
      refine w_seq ?_
      refine w_seq ?_
      refine w_draw (.st .take 0 (.st .take 1 (.st .take 2 (.st .take 3 (.st .take 4 (.st .run 5 (.st .take 6 (.st .take 7 (.st .take 8 (.st .take 9 (.st .take 10 (.st .take 11 (.st .take 12 (.st .run 13 (.st .take 14 (.st .take 15 (.st .take 16 (.st .take 17 (.st .take 18 (.st .take 19 (.st .take 20 (.st .take 21 (.st .take 22 (.st .take 23 (.st .run 24 (.st .take 25 .done)))))))))))))))))))))))))) mixed (by kernel_rfl) ?_
      intro w76 x77
      have B := bx Hb B x77
      have S := S.below x77
      refine t_fld ln_part_3 (by assumption) fb_part_3 rfl ?_ rfl
      intro p41 hp41
      refine t_lds (by assumption) ab_s_hop B rfl ?_ rfl
      intro v42 hv42
      refine t_move rfl ?_ rfl
      refine t_idx e_hop (k := k) (by assumption) he44 B rfl rfl (by first | rfl | omega) ?_ rfl
      intro p44 hp44
      refine t_lda (by assumption) ab_hop sb_hop B rfl ?_ rfl
      intro v45 hv45
      obtain rfl := hop_va hv45
      refine t_callx Try.call102 rfl (spec_ValidHop e44 _) ?_ rfl rfl
      intro w78 x79
      have B := bx Hb B x79
      have S := S.below x79
      refine t_notb rfl ?_ rfl
      refine t_move rfl ?_ rfl
      have hG := hopGood_eq (t := t) he44
      rw [List.map_take] at hG
      refine t_part (t := 48) rfl ?_ ?_
      · intro h5
        refine t_off rfl rfl rfl ?_ rfl
        refine t_off rfl rfl rfl ?_ rfl
        refine t_off rfl rfl rfl ?_ rfl
        refine t_off rfl rfl rfl ?_ rfl
        refine t_off rfl rfl rfl ?_ rfl
        refine t_off rfl rfl rfl ?_ rfl
        refine t_off rfl rfl rfl ?_ rfl
        refine t_pickt rfl rfl ?_ rfl
        refine t_move rfl ?_ rfl
        refine t_off rfl rfl rfl ?_ rfl
        refine t_off rfl rfl rfl ?_ rfl
        refine t_off rfl rfl rfl ?_ rfl
        refine t_off rfl rfl rfl ?_ rfl
        refine t_off rfl rfl rfl ?_ rfl
        refine t_off rfl rfl rfl ?_ rfl
        refine t_off rfl rfl rfl ?_ rfl
        refine t_off rfl rfl rfl ?_ rfl
        refine t_pickt rfl rfl ?_ rfl
        refine t_done' ?_
        refine x_seq ?_
        refine w_yes rfl ?_
        refine w_seq ?_
        refine w_region ?_
        refine t_assign rfl ?_ rfl
        refine t_done ?_
        refine x_seq ?_
        refine w_ret ?_
        refine x_then_ret ?_
        refine x_block_ret ?_
        refine x_then_ret ?_
        refine x_then_ret ?_
        refine x_block_ret ?_
        refine x_then_ret ?_
        refine x_ret1 rfl rfl ?_
        exact ⟨ret_bool (by rw [all_no hlt' (by rw [hG]; simp at h5; simp [h5])]; rfl), ext_trans X0 B⟩
      intro h5
      refine t_on rfl rfl ?_
      refine t_lda (by assumption) ab_topo sb_topo B rfl ?_ rfl
      intro v49 hv49
      obtain ⟨v49_0, v49_1, rfl, hv49_0, hv49_1⟩ := topo_va hv49
      refine t_on rfl rfl ?_
      refine t_move rfl ?_ rfl
      refine t_on rfl rfl ?_
      refine t_move rfl ?_ rfl
      refine t_on rfl rfl ?_
      refine t_idx e_int (k := k) (S.sl) hm44 (Below.refl _ _) rfl rfl (by first | rfl | omega) ?_ rfl
      intro p52 hp52
      refine t_on rfl rfl ?_
      refine t_ldi (by assumption) ab_int (Below.refl _ _) rfl ?_ rfl
      refine t_on rfl rfl ?_
      refine t_callx Try.call103 rfl (spec_l5Realm _ _ _ _ (by first | assumption | exact VA.below (by assumption) B | exact topo_mkv (by first | assumption | exact SlR.below (by assumption) B) (by first | assumption | exact SlR.below (by assumption) B)) (by omega)) ?_ rfl rfl
      intro w80 x81
      have B := bx Hb B x81
      have S := S.below x81
      refine t_on rfl rfl ?_
      refine t_notb rfl ?_ rfl
      refine t_pickf rfl rfl ?_ rfl
      refine t_move rfl ?_ rfl
      refine t_part (t := 57) rfl ?_ ?_
      · intro h6
        refine t_off rfl rfl rfl ?_ rfl
        refine t_off rfl rfl rfl ?_ rfl
        refine t_off rfl rfl rfl ?_ rfl
        refine t_off rfl rfl rfl ?_ rfl
        refine t_off rfl rfl rfl ?_ rfl
        refine t_off rfl rfl rfl ?_ rfl
        refine t_off rfl rfl rfl ?_ rfl
        refine t_off rfl rfl rfl ?_ rfl
        refine t_pickt rfl rfl ?_ rfl
        refine t_done' ?_
        refine x_seq ?_
        refine w_yes rfl ?_
        refine w_seq ?_
        refine w_region ?_
        refine t_assign rfl ?_ rfl
        refine t_done ?_
        refine x_seq ?_
        refine w_ret ?_
        refine x_then_ret ?_
        refine x_block_ret ?_
        refine x_then_ret ?_
        refine x_then_ret ?_
        refine x_block_ret ?_
        refine x_then_ret ?_
        refine x_ret1 rfl rfl ?_
        exact ⟨ret_bool (by rw [all_no hlt' (by rw [hG]; simp at h6; simp [h6])]; rfl), ext_trans X0 B⟩
      intro h6
      refine t_on rfl rfl ?_
      refine t_move rfl ?_ rfl
      refine t_on rfl rfl ?_
      refine t_move rfl ?_ rfl
      refine t_on rfl rfl ?_
      refine t_slt e_int (k := k) (S.sl) rfl rfl (by first | rfl | omega) (by omega) ?_ rfl
      intro v60 hv60
      refine t_on rfl rfl ?_
      refine t_move rfl ?_ rfl
      refine t_on rfl rfl ?_
      refine t_move rfl ?_ rfl
      refine t_on rfl rfl ?_
      refine t_idx e_int (k := k) (S.sl) hm44 (Below.refl _ _) rfl rfl (by first | rfl | omega) ?_ rfl
      intro p63 hp63
      refine t_on rfl rfl ?_
      refine t_ldi (by assumption) ab_int (Below.refl _ _) rfl ?_ rfl
      refine t_on rfl rfl ?_
      refine t_calls Try.call104 rfl (spec_l9Has _ _ _ _ (by first | assumption | exact SlR.below (by assumption) B) (by (try rw [List.length_take]); (try rw [List.length_map]); omega)) ?_ rfl rfl
      refine t_pickf rfl rfl ?_ rfl
      refine t_done' ?_
      refine x_seq ?_
      refine w_ifb rfl ?_ ?_
      · intro h7
        refine w_seq ?_
        refine w_region ?_
        refine t_assign rfl ?_ rfl
        refine t_done ?_
        refine x_seq ?_
        refine w_ret ?_
        refine x_then_ret ?_
        refine x_block_ret ?_
        refine x_then_ret ?_
        refine x_then_ret ?_
        refine x_block_ret ?_
        refine x_then_ret ?_
        refine x_ret1 rfl rfl ?_
        exact ⟨ret_bool (by rw [all_no hlt' (by rw [hG, h7]; simp)]; rfl), ext_trans X0 B⟩
      intro h7
      have hgood : hopGood t p.hops k = true := by rw [hG, h7]; simp at h5 h6; simp [h5, h6]
      refine w_skip ?_
      refine x_seq ?_
      refine w_seq ?_
      refine w_region ?_
      refine t_move rfl ?_ rfl
      refine t_gtr rfl rfl ?_ rfl
      refine t_done ?_
      refine x_seq ?_
      refine w_if rfl ?_ ?_
      · intro h8
        have hk1 : ((k : Int) - 1).toNat = k - 1 := by omega
        have hk2 : ((k : Int)).toNat = k := by omega
        have hk3 : k - 1 + 1 = k := by omega
        obtain ⟨e74, he74⟩ : ∃ e, p.hops[k - 1]? = some e := getx (by omega)
        have hm74 : (p.hops.map Hop.ia)[k - 1]? = some e74.ia := by rw [List.getElem?_map, he74]; rfl
        refine w_seq ?_
        refine w_draw (.st .take 0 (.st .take 1 (.st .take 2 (.st .take 3 (.st .take 4 (.st .take 5 (.st .take 6 (.st .take 7 (.st .take 8 (.st .run 9 (.st .run 10 (.st .take 11 (.st .take 12 (.st .take 13 (.st .take 14 (.st .take 15 .done)))))))))))))))) mixed (by kernel_rfl) ?_
        intro w82 x83
        have B := bx Hb B x83
        have S := S.below x83
        refine t_lda (by assumption) ab_topo sb_topo B rfl ?_ rfl
        intro v70 hv70
        obtain ⟨v70_0, v70_1, rfl, hv70_0, hv70_1⟩ := topo_va hv70
        refine t_move rfl ?_ rfl
        refine t_move rfl ?_ rfl
        refine t_sub rfl rfl (by omega) ?_ rfl
        refine t_idx e_int (k := (k - 1)) (S.sl) hm74 (Below.refl _ _) rfl rfl (by first | rfl | omega) ?_ rfl
        intro p74 hp74
        refine t_ldi (by assumption) ab_int (Below.refl _ _) rfl ?_ rfl
        refine t_lda (by assumption) ab_part sb_part B rfl ?_ rfl
        intro v76 hv76
        obtain ⟨v76_3, rfl, hv76_3⟩ := part_va hv76
        refine t_move rfl ?_ rfl
        refine t_sub rfl rfl (by omega) ?_ rfl
        refine t_callx Try.call106 rfl (va1 (by first | assumption | exact VA.below (by assumption) B | exact part_mkv (by first | assumption | exact SlR.below (by assumption) B)) fun cs h => spec_PartEgress _ cs _ _ h (by omega) (by omega)) ?_ rfl rfl
        intro w84 x85
        have B := bx Hb B x85
        have S := S.below x85
        refine t_callx Try.call105 rfl (spec_RemoteEnd _ _ _ _ _ (by first | assumption | exact VA.below (by assumption) B | exact topo_mkv (by first | assumption | exact SlR.below (by assumption) B) (by first | assumption | exact SlR.below (by assumption) B)) (by omega)) ?_ rfl rfl
        intro w86 x87
        have B := bx Hb B x87
        have S := S.below x87
        refine t_move rfl ?_ rfl
        refine t_extract rfl rfl ?_ rfl
        refine t_extract rfl rfl ?_ rfl
        refine t_assign rfl ?_ rfl
        refine t_assign rfl ?_ rfl
        refine t_done' ?_
        refine x_seq ?_
        refine w_seq ?_
        refine w_region ?_
        refine t_lda (by assumption) ab_part sb_part B rfl ?_ rfl
        intro v83 hv83
        obtain ⟨v83_3, rfl, hv83_3⟩ := part_va hv83
        refine t_move rfl ?_ rfl
        refine t_sub rfl rfl (by omega) ?_ rfl
        refine t_callx Try.call106 rfl (va1 (by first | assumption | exact VA.below (by assumption) B | exact part_mkv (by first | assumption | exact SlR.below (by assumption) B)) fun cs h => spec_PartEgress _ cs _ _ h (by omega) (by omega)) ?_ rfl rfl
        intro w88 x89
        have B := bx Hb B x89
        have S := S.below x89
        refine t_eql rfl rfl ?_ rfl
        refine t_move rfl ?_ rfl
        have hQ := stepGood_eq (t := t) he74 (by rw [hk3]; exact he44)
        have hlt3 : k - 1 < p.hops.length - 1 := by omega
        rw [hk3] at hQ
        rw [hk1]
        refine t_partp (t := 88) rfl ?_ ?_
        · intro h9
          refine t_off rfl rfl rfl ?_ rfl
          refine t_off rfl rfl rfl ?_ rfl
          refine t_off rfl rfl rfl ?_ rfl
          refine t_off rfl rfl rfl ?_ rfl
          refine t_off rfl rfl rfl ?_ rfl
          refine t_off rfl rfl rfl ?_ rfl
          refine t_pickt rfl rfl ?_ rfl
          refine t_move rfl ?_ rfl
          refine t_off rfl rfl rfl ?_ rfl
          refine t_off rfl rfl rfl ?_ rfl
          refine t_off rfl rfl rfl ?_ rfl
          refine t_off rfl rfl rfl ?_ rfl
          refine t_off rfl rfl rfl ?_ rfl
          refine t_pickt rfl rfl ?_ rfl
          refine t_done ?_
          refine x_seq ?_
          refine w_yes rfl ?_
          refine w_seq ?_
          refine w_region ?_
          refine t_assign rfl ?_ rfl
          refine t_done ?_
          refine x_seq ?_
          refine w_ret ?_
          refine x_block_ret ?_
          refine x_then_ret ?_
          refine x_then_ret ?_
          refine x_block_ret ?_
          refine x_then_ret ?_
          refine x_ret1 rfl rfl ?_
          exact ⟨ret_bool (by rw [all_no hlt3 (by rw [hQ]; simp [h9])]; simp), ext_trans X0 B⟩
        intro h9
        refine t_on rfl rfl ?_
        refine t_move rfl ?_ rfl
        refine t_on rfl rfl ?_
        refine t_move rfl ?_ rfl
        refine t_on rfl rfl ?_
        refine t_move rfl ?_ rfl
        refine t_on rfl rfl ?_
        refine t_idx e_int (k := k) (S.sl) hm44 (Below.refl _ _) rfl rfl (by first | rfl | omega) ?_ rfl
        intro p92 hp92
        refine t_on rfl rfl ?_
        refine t_ldi (by assumption) ab_int (Below.refl _ _) rfl ?_ rfl
        refine t_on rfl rfl ?_
        refine t_neq rfl rfl ?_ rfl
        refine t_pickf rfl rfl ?_ rfl
        refine t_move rfl ?_ rfl
        refine t_partp (t := 96) rfl ?_ ?_
        · intro h10
          refine t_off rfl rfl rfl ?_ rfl
          refine t_off rfl rfl rfl ?_ rfl
          refine t_off rfl rfl rfl ?_ rfl
          refine t_off rfl rfl rfl ?_ rfl
          refine t_off rfl rfl rfl ?_ rfl
          refine t_pickt rfl rfl ?_ rfl
          refine t_done ?_
          refine x_seq ?_
          refine w_yes rfl ?_
          refine w_seq ?_
          refine w_region ?_
          refine t_assign rfl ?_ rfl
          refine t_done ?_
          refine x_seq ?_
          refine w_ret ?_
          refine x_block_ret ?_
          refine x_then_ret ?_
          refine x_then_ret ?_
          refine x_block_ret ?_
          refine x_then_ret ?_
          refine x_ret1 rfl rfl ?_
          exact ⟨ret_bool (by rw [all_no hlt3 (by rw [hQ]; simp at h10; simp [h10])]; simp), ext_trans X0 B⟩
        intro h10
        refine t_on rfl rfl ?_
        refine t_move rfl ?_ rfl
        refine t_on rfl rfl ?_
        refine t_lda (by assumption) ab_part sb_part B rfl ?_ rfl
        intro v98 hv98
        obtain ⟨v98_3, rfl, hv98_3⟩ := part_va hv98
        refine t_on rfl rfl ?_
        refine t_move rfl ?_ rfl
        refine t_on rfl rfl ?_
        refine t_callx Try.call107 rfl (va1 (by first | assumption | exact VA.below (by assumption) B | exact part_mkv (by first | assumption | exact SlR.below (by assumption) B)) fun cs h => spec_PartIngress _ cs _ _ h (by omega) (by omega)) ?_ rfl rfl
        intro w90 x91
        have B := bx Hb B x91
        have S := S.below x91
        refine t_on rfl rfl ?_
        refine t_neq rfl rfl ?_ rfl
        refine t_pickf rfl rfl ?_ rfl
        refine t_done ?_
        refine x_seq ?_
        refine w_if rfl ?_ ?_
        · intro h11
          refine w_seq ?_
          refine w_region ?_
          refine t_assign rfl ?_ rfl
          refine t_done ?_
          refine x_seq ?_
          refine w_ret ?_
          refine x_block_ret ?_
          refine x_then_ret ?_
          refine x_then_ret ?_
          refine x_block_ret ?_
          refine x_then_ret ?_
          refine x_ret1 rfl rfl ?_
          exact ⟨ret_bool (by rw [all_no hlt3 (by rw [hQ]; rw [hk2] at h11; simp at h11; simp [h11])]; simp), ext_trans X0 B⟩
        intro h11
        refine w_skip ?_
        refine x_block_normal ?_
        refine x_seq ?_
        refine w_region ?_
        refine t_move rfl ?_ rfl
        refine t_add rfl rfl (by omega) ?_ rfl
        refine t_assign rfl ?_ rfl
        refine t_done ?_
        refine x_round (X := Nat) (I := (fun k wq => k ≤ p.hops.length ∧ (∀ j, j < k → hopGood t p.hops j = true) ∧ (∀ j, j < k - 1 → stepGood t p j = true) ∧ Below w71.heap.size w71 wq ∧ Sep w71.heap.size wq [slO intT 3 v33 (p.hops.map Hop.ia)])) (F := (fun k => [(6, I ((k : Int))), (2, p2), (3, p3), (5, v33)])) (μ := (fun k => p.hops.length - k)) (k + 1) ?_ (by exact ⟨rfl, rfl, rfl, rfl, trivial⟩) (by (try dsimp only); omega)
        try dsimp only
        refine ⟨by omega, upto_succ ha hgood, ?_, B, S⟩
        intro j hj
        refine upto_succ (k := k - 1) hb ?_ j (by omega)
        rw [hk2] at h11
        rw [hQ]
        simp at h10 h11
        simp [h9, h10, h11]
      · intro h8
        refine w_skip ?_
        refine x_block_normal ?_
        refine x_seq ?_
        refine w_region ?_
        refine t_move rfl ?_ rfl
        refine t_add rfl rfl (by omega) ?_ rfl
        refine t_assign rfl ?_ rfl
        refine t_done ?_
        refine x_round (X := Nat) (I := (fun k wq => k ≤ p.hops.length ∧ (∀ j, j < k → hopGood t p.hops j = true) ∧ (∀ j, j < k - 1 → stepGood t p j = true) ∧ Below w71.heap.size w71 wq ∧ Sep w71.heap.size wq [slO intT 3 v33 (p.hops.map Hop.ia)])) (F := (fun k => [(6, I ((k : Int))), (2, p2), (3, p3), (5, v33)])) (μ := (fun k => p.hops.length - k)) (k + 1) ?_ (by exact ⟨rfl, rfl, rfl, rfl, trivial⟩) (by (try dsimp only); omega)
        try dsimp only
        exact ⟨by omega, upto_succ ha hgood, by intro j hj; omega, B, S⟩
    · intro hge
      refine w_exit ?_
      refine x_then_exit ?_
      refine x_then_exit ?_
      refine x_block_exit ?_
      refine x_seq ?_
      refine w_seq ?_
      refine w_region ?_
      refine t_assign rfl ?_ rfl
      refine t_done ?_
      refine x_seq ?_
      refine w_ret ?_
      refine x_ret1 rfl rfl ?_
      exact ⟨ret_bool (by rw [all_ok fun j hj => ha j (by omega), all_ok fun j hj => hb j (by omega)]; rfl), ext_trans X0 B⟩
end Go.Proofs.Ytdaecknfahgddaa
namespace Go.Proofs.Ytdaecknfahgddaa
open Go.RowKit
set_option linter.unusedVariables false
set_option maxRecDepth 20000
theorem b_link (a b c d e : Int) (w : World) : (Instr.build 78 #[(0, I a), (1, I b), (2, I c), (3, I d), (4, I e)]).run Try.prog w = .ok (.agg #[I a, I b, I c, I d, I e]) w := by kernel_rfl
theorem b_asn (a : Int) (b : Bool) (c : Int) (w : World) : (Instr.build 121 #[(0, I a), (1, .bool b), (2, I c)]).run Try.prog w = .ok (.agg #[I a, .bool b, I c]) w := by kernel_rfl
theorem bs_link0 (w : World) : (Instr.buildSlice 25 0 #[]).run Try.prog w = .ok (.slice (some ⟨w.heap.size, 0, none⟩) 0 0) (w.alloc (.cells #[] 78)) := by kernel_rfl
theorem bs_link1 (c0 c1 c2 c3 c4 : Value) (w : World) : (Instr.buildSlice 25 1 #[(0, .agg #[c0, c1, c2, c3, c4])]).run Try.prog w = .ok (.slice (some ⟨w.heap.size, 0, none⟩) 1 1) (w.alloc (.cells #[c0, c1, c2, c3, c4] 78)) := by kernel_rfl
theorem bs_asn1 (c0 c1 c2 : Value) (w : World) : (Instr.buildSlice 24 1 #[(0, .agg #[c0, c1, c2])]).run Try.prog w = .ok (.slice (some ⟨w.heap.size, 0, none⟩) 1 1) (w.alloc (.cells #[c0, c1, c2] 121)) := by kernel_rfl
/-- A link more between two realms, where each has a door left. -/
def addL (L : List Lnk) (a c k : Int) : List Lnk :=
  if ((ifs L a).length : Int) + 1 ≤ 6 ∧ ((ifs L c).length : Int) + 1 ≤ 6 then L ++ [⟨a, (ifs L a).length + 1, c, (ifs L c).length + 1, k⟩] else L
theorem addL_len (L : List Lnk) (a c k : Int) : (addL L a c k).length ≤ L.length + 1 := by
  unfold addL; split <;> simp
theorem spec_l5Add {b g : Nat} {w : World} {va vl : Value} {A : List ASd} {L : List Lnk} {os : List Ow} (a c k : Int) (S : Sep b w (bxO g 27 #[va, vl] :: slO asnT 121 va A :: slO linkT 78 vl L :: os)) (hz : L.length ≤ 1000) :
    Calls Try.prog 120 #[.pointer (some ⟨g, 0, none⟩), I a, I c, I k] w fun e w' => ∃ v, e = .returned (.tuple #[]) ∧ Sep b w' (bxO g 27 #[va, v] :: slO asnT 121 va A :: slO linkT 78 v (addL L a c k) :: os) ∧ Below b w w' := by
  have l1 := ifs_len L a
  have l2 := ifs_len L c
  have X0 := Below.refl w.heap.size w
  refine enter Try.func120 rfl Try.ntmps120 rfl ?_
  have B := Below.refl b w
  have Hb := S.base
  refine w_seq ?_
  refine w_region ?_
  refine t_move rfl ?_ rfl
  refine t_nilc rfl ?_ rfl
  refine t_bxn S.box ab_topo sb_topo rfl rfl ?_ rfl
  refine t_move rfl ?_ rfl
  refine t_call Try.call132 rfl (spec_Interfaces A L _ _ _ (topo_mkv (S.tail.sl) (S.tail.tail.sl)) (by (try dsimp only); omega)) ?_ rfl rfl
  rintro e w1 ⟨v14, fpv14, rfl, hOv14, x2⟩
  refine ⟨_, rfl, x2, ?_⟩
  have S := S.add (o := slO _ _ _ _) x2 hOv14
  have B := bx Hb B x2
  refine t_len e_int (S.sl) rfl rfl ?_ rfl
  refine t_add rfl rfl (by omega) ?_ rfl
  refine t_assign rfl ?_ rfl
  refine t_done ?_
  refine x_seq ?_
  refine w_seq ?_
  refine w_region ?_
  refine t_move rfl ?_ rfl
  refine t_nilc rfl ?_ rfl
  refine t_bxn S.tail.box ab_topo sb_topo rfl rfl ?_ rfl
  refine t_move rfl ?_ rfl
  refine t_call Try.call132 rfl (spec_Interfaces A L _ _ _ (topo_mkv (S.tail.tail.sl) (S.tail.tail.tail.sl)) (by (try dsimp only); omega)) ?_ rfl rfl
  rintro e w3 ⟨v21, fpv21, rfl, hOv21, x4⟩
  refine ⟨_, rfl, x4, ?_⟩
  have S := S.add (o := slO _ _ _ _) x4 hOv21
  have B := bx Hb B x4
  refine t_len e_int (S.sl) rfl rfl ?_ rfl
  refine t_add rfl rfl (by omega) ?_ rfl
  refine t_assign rfl ?_ rfl
  refine t_done ?_
  refine x_seq ?_
  refine w_seq ?_
  refine w_region ?_
  refine t_move rfl ?_ rfl
  refine t_leq rfl rfl ?_ rfl
  refine t_move rfl ?_ rfl
  refine t_partp (t := 26) rfl ?_ ?_
  · intro h1
    refine t_on rfl rfl ?_
    refine t_move rfl ?_ rfl
    refine t_on rfl rfl ?_
    refine t_leq rfl rfl ?_ rfl
    refine t_pickt rfl rfl ?_ rfl
    refine t_done ?_
    refine x_seq ?_
    refine w_if rfl ?_ ?_
    · intro h2
      refine w_region ?_
      refine t_move rfl ?_ rfl
      refine t_move rfl ?_ rfl
      refine t_nilc rfl ?_ rfl
      refine t_fldx fb_topo_1 rfl rfl ?_ rfl
      refine t_bx1 S.tail.tail.box ab_s_link rfl rfl ?_ rfl
      refine t_move rfl ?_ rfl
      refine t_move rfl ?_ rfl
      refine t_move rfl ?_ rfl
      refine t_move rfl ?_ rfl
      refine t_move rfl ?_ rfl
      refine t_build (fun w => b_link _ _ _ _ _ w) rfl ?_ rfl
      refine t_lit (T := linkT) (l := [(⟨a, ((((ifs L a)).length : Int)) + 1, c, ((((ifs L c)).length : Int)) + 1, k⟩ : Lnk)]) (css := [[I a, I (((((ifs L a)).length : Int)) + 1), I c, I (((((ifs L c)).length : Int)) + 1), I k]]) link_flat S (fun w => bs_link1 _ _ _ _ _ w) rfl rfl rfl rfl (by simp [maxLen]) (litR_one fun _ => rfl) ?_ rfl rfl
      intro u41 w5 x6 S
      have B := bx Hb B x6
      have hR := S.sl
      have S := S.f5
      refine t_cat link_flat e_link S hR rfl rfl rfl (by first | omega | (simp [-List.length_flatMap]; omega)) (by (simp [maxLen, -List.length_flatMap]; try omega)) ?_ rfl
      intro v42 w7 x8 S
      have B := B.trans x8
      clear hR
      have S := S.f1
      have S := S.tail
      refine t_nilc rfl ?_ rfl
      refine t_fldx fb_topo_1 rfl rfl ?_ rfl
      obtain ⟨Av42, cv42, rfl, _⟩ := S.sl.form
      have S := S.f3
      refine t_st1 S sb_s_link rfl rfl rfl rfl rfl ?_
      intro w9 b10 S
      have B := B.trans b10
      refine t_done ?_
      refine x_end1 ?_
      refine x_ret0 rfl ?_
      have hq : addL L a c k = L ++ [⟨a, (ifs L a).length + 1, c, (ifs L c).length + 1, k⟩] := by rw [addL, if_pos ⟨h1, h2⟩]
      exact ⟨_, rfl, by rw [hq]; exact S.f2.tail.f2.tail.f2.f1, B⟩
    · intro h2
      refine w_skip ?_
      refine x_end1 ?_
      refine x_ret0 rfl ?_
      have hq : addL L a c k = L := by rw [addL, if_neg fun z => h2 z.2]
      exact ⟨_, rfl, by rw [hq]; exact S.tail.tail, B⟩
  · intro h1
    refine t_off rfl rfl rfl ?_ rfl
    refine t_off rfl rfl rfl ?_ rfl
    refine t_pickf rfl rfl ?_ rfl
    refine t_done ?_
    refine x_seq ?_
    refine w_no rfl ?_
    refine w_skip ?_
    refine x_end1 ?_
    refine x_ret0 rfl ?_
    have hq : addL L a c k = L := by rw [addL, if_neg fun z => h1 z.1]
    exact ⟨_, rfl, by rw [hq]; exact S.tail.tail, B⟩
theorem as_rng {A : List ASd} {L : List Lnk} {r : Int} (h : ¬ (!(isAS (⟨A, L⟩ : Topo) r)) = true) : 0 ≤ r ∧ r < A.length := by
  have h' : inR r 0 ((A.length : Int) - 1) = true := by simpa [isAS] using h
  have := inR_iff.1 h'
  omega
theorem spec_l5LinkOk (A : List ASd) (L : List Lnk) (v u : Value) (x : Lnk) (w : World) (h : VA topoT w v ⟨A, L⟩) (h2 : VA linkT w u x) (hz : sz_topo (⟨A, L⟩ : Topo) ≤ 1000000) : Calls Try.prog 121 #[v, u] w fun e w' => ∃ y : Bool, e = .returned (.bool y) ∧ Below w.heap.size w w' := by
  have X0 := Below.refl w.heap.size w
  refine enter Try.func121 rfl Try.ntmps121 rfl ?_
  refine w_seq ?_
  refine w_region ?_
  refine t_boxr (by assumption) rfl ?_ rfl rfl
  intro p2 w11 x12 hp2
  replace h := h.below x12
  replace h2 := h2.below x12
  have X0 := ext_trans X0 x12
  refine t_boxr (by assumption) rfl ?_ rfl rfl
  intro p3 w13 x14 hp3
  replace h := h.below x14
  replace h2 := h2.below x14
  replace hp2 := hp2.below x14
  have X0 := ext_trans X0 x14
  have S := Sep.nil w13
  have B := Below.refl w13.heap.size w13
  have Hb := Nat.le_refl w13.heap.size
  refine t_assign rfl ?_ rfl
  refine t_done ?_
  refine x_seq ?_
  refine w_seq ?_
  refine w_seq ?_
  refine w_region ?_
  refine t_lda (by assumption) ab_topo sb_topo B rfl ?_ rfl
  intro v7 hv7
  obtain ⟨v7_0, v7_1, rfl, hv7_0, hv7_1⟩ := topo_va hv7
  refine t_fld ln_link_0 (by assumption) fb_link_0 rfl ?_ rfl
  intro p8 hp8
  refine t_ldi (by assumption) ab_int B rfl ?_ rfl
  refine t_callx Try.call103 rfl (spec_l5Realm _ _ _ _ (by first | assumption | exact VA.below (by assumption) B | exact topo_mkv (by first | assumption | exact SlR.below (by assumption) B) (by first | assumption | exact SlR.below (by assumption) B)) (by omega)) ?_ rfl rfl
  intro w15 x16
  have B := bx Hb B x16
  have S := S.below x16
  refine t_notb rfl ?_ rfl
  refine t_move rfl ?_ rfl
  refine t_part (t := 12) rfl ?_ ?_
  · intro hp1
    refine t_off rfl rfl rfl ?_ rfl
    refine t_off rfl rfl rfl ?_ rfl
    refine t_off rfl rfl rfl ?_ rfl
    refine t_off rfl rfl rfl ?_ rfl
    refine t_off rfl rfl rfl ?_ rfl
    refine t_pickt rfl rfl ?_ rfl
    refine t_move rfl ?_ rfl
    refine t_off rfl rfl rfl ?_ rfl
    refine t_off rfl rfl rfl ?_ rfl
    refine t_off rfl rfl rfl ?_ rfl
    refine t_off rfl rfl rfl ?_ rfl
    refine t_off rfl rfl rfl ?_ rfl
    refine t_pickt rfl rfl ?_ rfl
    refine t_move rfl ?_ rfl
    refine t_off rfl rfl rfl ?_ rfl
    refine t_off rfl rfl rfl ?_ rfl
    refine t_off rfl rfl rfl ?_ rfl
    refine t_off rfl rfl rfl ?_ rfl
    refine t_pickt rfl rfl ?_ rfl
    refine t_move rfl ?_ rfl
    refine t_off rfl rfl rfl ?_ rfl
    refine t_off rfl rfl rfl ?_ rfl
    refine t_off rfl rfl rfl ?_ rfl
    refine t_off rfl rfl rfl ?_ rfl
    refine t_pickt rfl rfl ?_ rfl
    refine t_done ?_
    refine x_seq ?_
    refine w_yes rfl ?_
    refine w_seq ?_
    refine w_region ?_
    refine t_assign rfl ?_ rfl
    refine t_done ?_
    refine x_seq ?_
    refine w_ret ?_
    refine x_then_ret ?_
    refine x_ret1 rfl rfl ?_
    exact ⟨_, rfl, ext_trans X0 B⟩
  · intro hp1
    refine t_on rfl rfl ?_
    refine t_lda (by assumption) ab_topo sb_topo B rfl ?_ rfl
    intro v13 hv13
    obtain ⟨v13_0, v13_1, rfl, hv13_0, hv13_1⟩ := topo_va hv13
    refine t_on rfl rfl ?_
    refine t_fld ln_link_2 (by assumption) fb_link_2 rfl ?_ rfl
    intro p14 hp14
    refine t_on rfl rfl ?_
    refine t_ldi (by assumption) ab_int B rfl ?_ rfl
    refine t_on rfl rfl ?_
    refine t_callx Try.call103 rfl (spec_l5Realm _ _ _ _ (by first | assumption | exact VA.below (by assumption) B | exact topo_mkv (by first | assumption | exact SlR.below (by assumption) B) (by first | assumption | exact SlR.below (by assumption) B)) (by omega)) ?_ rfl rfl
    intro w17 x18
    have B := bx Hb B x18
    have S := S.below x18
    refine t_on rfl rfl ?_
    refine t_notb rfl ?_ rfl
    refine t_pickf rfl rfl ?_ rfl
    refine t_move rfl ?_ rfl
    refine t_part (t := 19) rfl ?_ ?_
    · intro hp2
      refine t_off rfl rfl rfl ?_ rfl
      refine t_off rfl rfl rfl ?_ rfl
      refine t_off rfl rfl rfl ?_ rfl
      refine t_off rfl rfl rfl ?_ rfl
      refine t_off rfl rfl rfl ?_ rfl
      refine t_pickt rfl rfl ?_ rfl
      refine t_move rfl ?_ rfl
      refine t_off rfl rfl rfl ?_ rfl
      refine t_off rfl rfl rfl ?_ rfl
      refine t_off rfl rfl rfl ?_ rfl
      refine t_off rfl rfl rfl ?_ rfl
      refine t_pickt rfl rfl ?_ rfl
      refine t_move rfl ?_ rfl
      refine t_off rfl rfl rfl ?_ rfl
      refine t_off rfl rfl rfl ?_ rfl
      refine t_off rfl rfl rfl ?_ rfl
      refine t_off rfl rfl rfl ?_ rfl
      refine t_pickt rfl rfl ?_ rfl
      refine t_done ?_
      refine x_seq ?_
      refine w_yes rfl ?_
      refine w_seq ?_
      refine w_region ?_
      refine t_assign rfl ?_ rfl
      refine t_done ?_
      refine x_seq ?_
      refine w_ret ?_
      refine x_then_ret ?_
      refine x_ret1 rfl rfl ?_
      exact ⟨_, rfl, ext_trans X0 B⟩
    · intro hp2
      have r1 : 0 ≤ x.a ∧ x.a < ((⟨A, L⟩ : Topo).ases.length : Int) := as_rng (L := L) (by simpa using hp1)
      have r2 : 0 ≤ x.b ∧ x.b < ((⟨A, L⟩ : Topo).ases.length : Int) := as_rng (L := L) (by simpa using hp2)
      refine t_on rfl rfl ?_
      refine t_fld ln_link_0 (by assumption) fb_link_0 rfl ?_ rfl
      intro p20 hp20
      refine t_on rfl rfl ?_
      refine t_ldi (by assumption) ab_int B rfl ?_ rfl
      refine t_on rfl rfl ?_
      refine t_fld ln_link_2 (by assumption) fb_link_2 rfl ?_ rfl
      intro p22 hp22
      refine t_on rfl rfl ?_
      refine t_ldi (by assumption) ab_int B rfl ?_ rfl
      refine t_on rfl rfl ?_
      refine t_geq rfl rfl ?_ rfl
      refine t_pickf rfl rfl ?_ rfl
      refine t_move rfl ?_ rfl
      refine t_partp (t := 26) rfl ?_ ?_
      · intro hc1
        refine t_off rfl rfl rfl ?_ rfl
        refine t_off rfl rfl rfl ?_ rfl
        refine t_off rfl rfl rfl ?_ rfl
        refine t_off rfl rfl rfl ?_ rfl
        refine t_pickt rfl rfl ?_ rfl
        refine t_move rfl ?_ rfl
        refine t_off rfl rfl rfl ?_ rfl
        refine t_off rfl rfl rfl ?_ rfl
        refine t_off rfl rfl rfl ?_ rfl
        refine t_off rfl rfl rfl ?_ rfl
        refine t_pickt rfl rfl ?_ rfl
        refine t_done ?_
        refine x_seq ?_
        refine w_yes rfl ?_
        refine w_seq ?_
        refine w_region ?_
        refine t_assign rfl ?_ rfl
        refine t_done ?_
        refine x_seq ?_
        refine w_ret ?_
        refine x_then_ret ?_
        refine x_ret1 rfl rfl ?_
        exact ⟨_, rfl, ext_trans X0 B⟩
      · intro hc2
        refine t_on rfl rfl ?_
        refine t_fld ln_link_1 (by assumption) fb_link_1 rfl ?_ rfl
        intro p27 hp27
        refine t_on rfl rfl ?_
        refine t_ldi (by assumption) ab_int B rfl ?_ rfl
        refine t_on rfl rfl ?_
        refine t_calls Try.call54 rfl (spec_l1In _ _ _ _) ?_ rfl rfl
        refine t_on rfl rfl ?_
        refine t_notb rfl ?_ rfl
        refine t_pickf rfl rfl ?_ rfl
        refine t_move rfl ?_ rfl
        refine t_part (t := 32) rfl ?_ ?_
        · intro hc3
          refine t_off rfl rfl rfl ?_ rfl
          refine t_off rfl rfl rfl ?_ rfl
          refine t_off rfl rfl rfl ?_ rfl
          refine t_off rfl rfl rfl ?_ rfl
          refine t_pickt rfl rfl ?_ rfl
          refine t_done ?_
          refine x_seq ?_
          refine w_yes rfl ?_
          refine w_seq ?_
          refine w_region ?_
          refine t_assign rfl ?_ rfl
          refine t_done ?_
          refine x_seq ?_
          refine w_ret ?_
          refine x_then_ret ?_
          refine x_ret1 rfl rfl ?_
          exact ⟨_, rfl, ext_trans X0 B⟩
        · intro hc4
          refine t_on rfl rfl ?_
          refine t_fld ln_link_3 (by assumption) fb_link_3 rfl ?_ rfl
          intro p33 hp33
          refine t_on rfl rfl ?_
          refine t_ldi (by assumption) ab_int B rfl ?_ rfl
          refine t_on rfl rfl ?_
          refine t_calls Try.call54 rfl (spec_l1In _ _ _ _) ?_ rfl rfl
          refine t_on rfl rfl ?_
          refine t_notb rfl ?_ rfl
          refine t_pickf rfl rfl ?_ rfl
          refine t_done ?_
          refine x_seq ?_
          refine w_ifb rfl ?_ ?_
          · intro hc5
            refine w_seq ?_
            refine w_region ?_
            refine t_assign rfl ?_ rfl
            refine t_done ?_
            refine x_seq ?_
            refine w_ret ?_
            refine x_then_ret ?_
            refine x_ret1 rfl rfl ?_
            exact ⟨_, rfl, ext_trans X0 B⟩
          · intro hc6
            refine w_skip ?_
            refine x_seq ?_
            refine w_seq ?_
            refine w_region ?_
            refine t_fld ln_topo_0 (by assumption) fb_topo_0 rfl ?_ rfl
            intro p38 hp38
            refine t_lds (by assumption) ab_s_asn B rfl ?_ rfl
            intro v39 hv39
            refine t_fld ln_link_0 (by assumption) fb_link_0 rfl ?_ rfl
            intro p40 hp40
            refine t_ldi (by assumption) ab_int B rfl ?_ rfl
            obtain ⟨e42, he42⟩ : ∃ e, ((⟨A, L⟩ : Topo).ases)[x.a.toNat]? = some e := getx (by omega)
            refine t_idx e_asn (k := x.a.toNat) (by assumption) he42 B rfl rfl (by first | rfl | omega) ?_ rfl
            intro p42 hp42
            refine t_lda (by assumption) ab_asn sb_asn B rfl ?_ rfl
            intro v43 hv43
            obtain rfl := asn_va hv43
            refine t_alloc S z_asn rfl ?_ rfl rfl
            intro g5 w19 x20 S
            have B := bx Hb B x20
            refine t_stn S sb_asn rfl rfl rfl rfl (by simp [Value.oneCell']) ?_
            intro w21 b22 S
            have B := B.trans b22
            refine t_done ?_
            refine x_seq ?_
            refine w_seq ?_
            refine w_region ?_
            refine t_fld ln_topo_0 (by assumption) fb_topo_0 rfl ?_ rfl
            intro p44 hp44
            refine t_lds (by assumption) ab_s_asn B rfl ?_ rfl
            intro v45 hv45
            refine t_fld ln_link_2 (by assumption) fb_link_2 rfl ?_ rfl
            intro p46 hp46
            refine t_ldi (by assumption) ab_int B rfl ?_ rfl
            obtain ⟨e48, he48⟩ : ∃ e, ((⟨A, L⟩ : Topo).ases)[x.b.toNat]? = some e := getx (by omega)
            refine t_idx e_asn (k := x.b.toNat) (by assumption) he48 B rfl rfl (by first | rfl | omega) ?_ rfl
            intro p48 hp48
            refine t_lda (by assumption) ab_asn sb_asn B rfl ?_ rfl
            intro v49 hv49
            obtain rfl := asn_va hv49
            refine t_alloc S z_asn rfl ?_ rfl rfl
            intro g6 w23 x24 S
            have B := bx Hb B x24
            refine t_stn S sb_asn rfl rfl rfl rfl (by simp [Value.oneCell']) ?_
            intro w25 b26 S
            have B := B.trans b26
            refine t_done ?_
            refine x_seq ?_
            refine w_seq ?_
            refine w_seq ?_
            refine w_region ?_
            refine t_fld ln_link_4 (by assumption) fb_link_4 rfl ?_ rfl
            intro p50 hp50
            refine t_ldi (by assumption) ab_int B rfl ?_ rfl
            refine t_done ?_
            refine x_seq ?_
            refine w_block ?_
            refine w_seq ?_
            refine w_region ?_
            refine t_eql rfl rfl ?_ rfl
            refine t_assign rfl ?_ rfl
            refine t_done ?_
            refine x_seq ?_
            refine w_if rfl ?_ ?_
            · intro hc7
              refine w_seq ?_
              refine w_region ?_
              refine t_fldx fb_asn_1 rfl rfl ?_ rfl
              refine t_bx1 S.tail.box ab_bool rfl rfl ?_ rfl
              refine t_move rfl ?_ rfl
              refine t_part (t := 56) rfl ?_ ?_
              · intro hc8
                refine t_on rfl rfl ?_
                refine t_fldx fb_asn_1 rfl rfl ?_ rfl
                refine t_on rfl rfl ?_
                refine t_bx1 S.box ab_bool rfl rfl ?_ rfl
                refine t_pickt rfl rfl ?_ rfl
                refine t_assign rfl ?_ rfl
                refine t_done ?_
                refine x_seq ?_
                refine w_ret ?_
                refine x_block_ret ?_
                refine x_then_ret ?_
                refine x_ret1 rfl rfl ?_
                exact ⟨_, rfl, ext_trans X0 B⟩
              · intro hc9
                refine t_off rfl rfl rfl ?_ rfl
                refine t_off rfl rfl rfl ?_ rfl
                refine t_pickf rfl rfl ?_ rfl
                refine t_assign rfl ?_ rfl
                refine t_done ?_
                refine x_seq ?_
                refine w_ret ?_
                refine x_block_ret ?_
                refine x_then_ret ?_
                refine x_ret1 rfl rfl ?_
                exact ⟨_, rfl, ext_trans X0 B⟩
            · intro hc10
              refine w_seq ?_
              refine w_region ?_
              refine t_eql rfl rfl ?_ rfl
              refine t_assign rfl ?_ rfl
              refine t_done ?_
              refine x_seq ?_
              refine w_if rfl ?_ ?_
              · intro hc11
                refine w_seq ?_
                refine w_region ?_
                refine t_fldx fb_asn_0 rfl rfl ?_ rfl
                refine t_bx1 S.tail.box ab_int rfl rfl ?_ rfl
                refine t_fldx fb_asn_0 rfl rfl ?_ rfl
                refine t_bx1 S.box ab_int rfl rfl ?_ rfl
                refine t_eql rfl rfl ?_ rfl
                refine t_move rfl ?_ rfl
                refine t_partp (t := 67) rfl ?_ ?_
                · intro hc12
                  refine t_on rfl rfl ?_
                  refine t_fldx fb_asn_1 rfl rfl ?_ rfl
                  refine t_on rfl rfl ?_
                  refine t_bx1 S.box ab_bool rfl rfl ?_ rfl
                  refine t_on rfl rfl ?_
                  refine t_notb rfl ?_ rfl
                  refine t_pickt rfl rfl ?_ rfl
                  refine t_assign rfl ?_ rfl
                  refine t_done ?_
                  refine x_seq ?_
                  refine w_ret ?_
                  refine x_block_ret ?_
                  refine x_then_ret ?_
                  refine x_ret1 rfl rfl ?_
                  exact ⟨_, rfl, ext_trans X0 B⟩
                · intro hc13
                  refine t_off rfl rfl rfl ?_ rfl
                  refine t_off rfl rfl rfl ?_ rfl
                  refine t_off rfl rfl rfl ?_ rfl
                  refine t_pickf rfl rfl ?_ rfl
                  refine t_assign rfl ?_ rfl
                  refine t_done ?_
                  refine x_seq ?_
                  refine w_ret ?_
                  refine x_block_ret ?_
                  refine x_then_ret ?_
                  refine x_ret1 rfl rfl ?_
                  exact ⟨_, rfl, ext_trans X0 B⟩
              · intro hc14
                refine w_skip ?_
                refine x_block_normal ?_
                refine x_seq ?_
                refine w_seq ?_
                refine w_region ?_
                refine t_fld ln_link_4 (by assumption) fb_link_4 rfl ?_ rfl
                intro p72 hp72
                refine t_ldi (by assumption) ab_int B rfl ?_ rfl
                refine t_eql rfl rfl ?_ rfl
                refine t_move rfl ?_ rfl
                refine t_partp (t := 75) rfl ?_ ?_
                · intro hc15
                  refine t_on rfl rfl ?_
                  refine t_fldx fb_asn_1 rfl rfl ?_ rfl
                  refine t_on rfl rfl ?_
                  refine t_bx1 S.tail.box ab_bool rfl rfl ?_ rfl
                  refine t_on rfl rfl ?_
                  refine t_notb rfl ?_ rfl
                  refine t_pickt rfl rfl ?_ rfl
                  refine t_move rfl ?_ rfl
                  refine t_part (t := 80) rfl ?_ ?_
                  · intro hc16
                    refine t_on rfl rfl ?_
                    refine t_fldx fb_asn_1 rfl rfl ?_ rfl
                    refine t_on rfl rfl ?_
                    refine t_bx1 S.box ab_bool rfl rfl ?_ rfl
                    refine t_on rfl rfl ?_
                    refine t_notb rfl ?_ rfl
                    refine t_pickt rfl rfl ?_ rfl
                    refine t_assign rfl ?_ rfl
                    refine t_done ?_
                    refine x_seq ?_
                    refine w_ret ?_
                    refine x_ret1 rfl rfl ?_
                    exact ⟨_, rfl, ext_trans X0 B⟩
                  · intro hc17
                    refine t_off rfl rfl rfl ?_ rfl
                    refine t_off rfl rfl rfl ?_ rfl
                    refine t_off rfl rfl rfl ?_ rfl
                    refine t_pickf rfl rfl ?_ rfl
                    refine t_assign rfl ?_ rfl
                    refine t_done ?_
                    refine x_seq ?_
                    refine w_ret ?_
                    refine x_ret1 rfl rfl ?_
                    exact ⟨_, rfl, ext_trans X0 B⟩
                · intro hc18
                  refine t_off rfl rfl rfl ?_ rfl
                  refine t_off rfl rfl rfl ?_ rfl
                  refine t_off rfl rfl rfl ?_ rfl
                  refine t_pickf rfl rfl ?_ rfl
                  refine t_move rfl ?_ rfl
                  refine t_off rfl rfl rfl ?_ rfl
                  refine t_off rfl rfl rfl ?_ rfl
                  refine t_off rfl rfl rfl ?_ rfl
                  refine t_pickf rfl rfl ?_ rfl
                  refine t_assign rfl ?_ rfl
                  refine t_done ?_
                  refine x_seq ?_
                  refine w_ret ?_
                  refine x_ret1 rfl rfl ?_
                  exact ⟨_, rfl, ext_trans X0 B⟩
end Go.Proofs.Ytdaecknfahgddaa
