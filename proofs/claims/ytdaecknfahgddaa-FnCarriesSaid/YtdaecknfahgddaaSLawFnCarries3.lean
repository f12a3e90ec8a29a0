/- What LawFnCarries needs of the texts below it, part 3: contracts of functions, plain lemmas. (Put together by slim.py.) -/
import Derived.Test.YtdaecknfahgddaaSLawFnCarries2
namespace Go.Proofs.Ytdaecknfahgddaa
open Go.RowKit
set_option linter.unusedVariables false
set_option maxRecDepth 20000
theorem mulb {a b A B : Int} (ha : 0 ≤ a) (hA : a ≤ A) (hb : 0 ≤ b) (hB : b ≤ B) : 0 ≤ a * b ∧ a * b ≤ A * B :=
  ⟨Int.mul_nonneg ha hb, Int.mul_le_mul hA hB hb (by omega)⟩
theorem spec_l3Word {b n c : Nat} {w : World} {v : Value} {os : List Ow} (S : Sep b w (curO v n c 109 :: os)) (K : CodeK b w v n) : Calls Try.prog 129 #[.pointer (some ⟨c, 0, none⟩)] w fun e w' => ∃ x : Int, e = .returned (I x) ∧ (-1 ≤ x ∧ x ≤ 2147483648) ∧ Sep b w' (curO v n c 109 :: os) ∧ Below b w w' := by
  have X0 := Below.refl w.heap.size w
  refine enter Try.func129 rfl Try.ntmps129 rfl ?_
  have B := Below.refl b w
  have Hb := S.base
  refine w_seq ?_
  refine w_region ?_
  refine t_assign rfl ?_ rfl
  refine t_done ?_
  refine x_seq ?_
  refine w_seq ?_
  refine w_seq ?_
  refine w_region ?_
  refine t_move rfl ?_ rfl
  refine t_callf Try.call116 rfl (spec_l1Once 10 S (K.below B)) ?_ rfl
  rintro e w1 ⟨y4, rfl, hf4, S, x2⟩
  refine ⟨_, rfl, ?_⟩
  have B := B.trans x2
  refine t_done ?_
  refine x_seq ?_
  refine w_if rfl ?_ ?_
  · intro hc
    refine w_seq ?_
    refine w_region ?_
    refine t_move rfl ?_ rfl
    refine t_lit (T := intT) (l := [(-1), 2147483647, 2147483648]) (css := ([(-1), 2147483647, 2147483648]).map fun a => [I a]) int_flat S (fun w => bs_int3 _ _ _ w) rfl rfl rfl rfl (by simp [maxLen]) (litR_int _) ?_ rfl rfl
    intro u6 w3 x4 S
    have B := bx Hb B x4
    have S := S.f1
    refine t_callf Try.call79 rfl (spec_l1Int S (K.below B) (by simp)) ?_ rfl
    rintro e w5 ⟨y7, rfl, hf7, S, x6⟩
    refine ⟨_, rfl, ?_⟩
    have B := B.trans x6
    refine t_assign rfl ?_ rfl
    refine t_done ?_
    refine x_seq ?_
    refine w_ret ?_
    refine x_then_ret ?_
    refine x_ret1 rfl rfl ?_
    have hz : -1 ≤ y7 ∧ y7 ≤ 2147483648 := by simp at hf7; omega
    exact ⟨_, rfl, hz, S.f1.tail, B⟩
  · intro hc
    refine w_skip ?_
    refine x_seq ?_
    refine w_seq ?_
    refine w_seq ?_
    refine w_region ?_
    refine t_move rfl ?_ rfl
    refine t_callf Try.call116 rfl (spec_l1Once 4 S (K.below B)) ?_ rfl
    rintro e w7 ⟨y9, rfl, hf9, S, x8⟩
    refine ⟨_, rfl, ?_⟩
    have B := B.trans x8
    refine t_done ?_
    refine x_seq ?_
    refine w_if rfl ?_ ?_
    · intro hc2
      refine w_seq ?_
      refine w_region ?_
      refine t_move rfl ?_ rfl
      refine t_lit (T := intT) (l := [0, 1, 2147483646]) (css := ([0, 1, 2147483646]).map fun a => [I a]) int_flat S (fun w => bs_int3 _ _ _ w) rfl rfl rfl rfl (by simp [maxLen]) (litR_int _) ?_ rfl rfl
      intro u11 w9 x10 S
      have B := bx Hb B x10
      have S := S.f1
      refine t_callf Try.call79 rfl (spec_l1Int S (K.below B) (by simp)) ?_ rfl
      rintro e w11 ⟨y12, rfl, hf12, S, x12⟩
      refine ⟨_, rfl, ?_⟩
      have B := B.trans x12
      refine t_assign rfl ?_ rfl
      refine t_done ?_
      refine x_seq ?_
      refine w_ret ?_
      refine x_then_ret ?_
      refine x_ret1 rfl rfl ?_
      have hz : -1 ≤ y12 ∧ y12 ≤ 2147483648 := by simp at hf12; omega
      exact ⟨_, rfl, hz, S.f1.tail, B⟩
    · intro hc2
      refine w_skip ?_
      refine x_seq ?_
      refine w_seq ?_
      refine w_region ?_
      refine t_move rfl ?_ rfl
      refine t_callf Try.call64 rfl (spec_l1Below 1000000 S (K.below B)) ?_ rfl
      rintro e w13 ⟨y14, rfl, hf14, S, x14⟩
      refine ⟨_, rfl, ?_⟩
      have B := B.trans x14
      refine t_move rfl ?_ rfl
      refine t_callf Try.call64 rfl (spec_l1Below 2000 S (K.below B)) ?_ rfl
      rintro e w15 ⟨y16, rfl, hf16, S, x16⟩
      refine ⟨_, rfl, ?_⟩
      have B := B.trans x16
      refine t_mulw rfl rfl ?_ rfl
      refine t_assign rfl ?_ rfl
      refine t_done ?_
      refine x_seq ?_
      refine w_ret ?_
      refine x_ret1 rfl rfl ?_
      have hm := mulb (a := y14) (b := y16) (A := 1000000) (B := 2000) (by omega) (by omega) (by omega) (by omega)
      rw [wr64 (by omega)]
      exact ⟨_, rfl, by omega, S, B⟩
theorem SlR.takeV {α : Type} {T : Ty α} {w : World} {A : Option Addr} {c k n' : Nat} {l : List α} (h : SlR T w (.slice A n' c) l) (hk : k ≤ l.length) : SlR T w (.slice A k c) (l.take k) := by
  obtain ⟨A', c', css, e, h1, h2, h3, h4⟩ := h
  cases e
  have hall : ∀ (i : Nat) cs, css[i]? = some cs → cs.length = T.size := fun i cs hi => by
    have hlt : i < l.length := by rw [← h2]; exact (List.getElem?_eq_some_iff.1 hi).1
    exact T.len _ _ _ (h4 i cs _ hi (List.getElem?_eq_getElem hlt))
  have hlen : (l.take k).length = k := by rw [List.length_take]; omega
  refine ⟨A, c, css.take k, by rw [hlen], by omega, by rw [hlen, List.length_take]; omega, fun hp => ?_, fun i cs x hi hx => ?_⟩
  · rw [flatten_take hall] at hp ⊢
    have hp' : 0 < css.flatten.length := by rw [List.length_take] at hp; omega
    obtain ⟨g, o, rfl, hg⟩ := h3 hp'
    refine ⟨g, o, rfl, fun j u hu => hg j u ?_⟩
    rw [List.getElem?_take] at hu
    split at hu
    · exact hu
    · cases hu
  · rw [List.getElem?_take] at hi hx
    split at hi
    · rename_i hik
      rw [if_pos hik] at hx
      exact h4 i cs x hi hx
    · cases hi
/-- append of plain elements onto an empty literal: only new memory. -/
theorem t_cat0 {P : Program} {n : Nat} {ops : Array Oper} {Q : Exit → Act → World → Prop} {L : Frm} {w : World} {r : IT} {d : Nat} {ty : TypeId} {pos : String} {af : Array Edge} {b : Nat} {os : List Ow}
    {α : Type} {T : Ty α} (hT : ∀ base w cs a, T.R w cs a → T.O base w cs a []) {t e : TypeId} {bytes : Nat} (et : ElemT P t e T.size bytes) {s x : Operand} {ar : Array TypeId} {A0 : Option Addr} {u : Value} {l' : List α} (S : Sep b w (slO T e (.slice A0 0 0) ([] : List α) :: os)) (hR : SlR T w u l') (hs : ev L s = some (.slice A0 0 0)) (hx : ev L x = some u) (har : ar = #[t, t])
    (hby : l'.length * bytes ≤ 140737488355328) (h63 : l'.length ≤ maxLen)
    (k : ∀ v' w', Ext w w' → Sep b w' (slO T e v' ([] ++ l') :: os) → WT P n ops Q r ((d, v') :: L) w') (hn : Nat.blt d n = true) : WT P n ops Q (.st .run ⟨some d, .call ⟨.builtin .append, #[s, x], ar⟩, ty, pos, af, none⟩ r) L w := by
  obtain ⟨A, c, css, rfl, h1, h2, h3, h4⟩ := hR
  have hO : (elsO T css l').P w.heap.size w [] := by
    refine ⟨l'.map fun _ => [], h2, by simp, fun i cs a f hi ha hf => ?_, by simp, List.nodup_nil⟩
    simp at hf
    obtain ⟨_, _, rfl⟩ := hf
    exact hT _ _ _ _ (h4 i cs a hi ha)
  exact t_mv0 et ((S.add (o := elsO T css l') (fp := []) (Below.refl _ _) hO).f1) h3 rfl hs hx har hby h63 k hn
/-- A number in its place among ascending ones, once. -/
def putL : List Int → Int → List Int
  | [], n => [n]
  | a :: t, n => if a < n then a :: putL t n else if a = n then a :: t else n :: a :: t
theorem putL_len (l : List Int) (n : Int) : (putL l n).length ≤ l.length + 1 := by
  induction l with
  | nil => simp [putL]
  | cons a t ih =>
    unfold putL
    split
    · simp; exact ih
    · split <;> simp
theorem mem_putL {l : List Int} {n x : Int} : x ∈ putL l n ↔ x = n ∨ x ∈ l := by
  induction l with
  | nil => simp [putL]
  | cons a t ih =>
    unfold putL
    split
    · simp [ih]; constructor
      · rintro (h | h | h) <;> simp [h]
      · rintro (h | h | h) <;> simp [h]
    · split
      · rename_i h; subst h; simp
      · simp
theorem spec_l5Put {b : Nat} {w : World} {u : Value} {l : List Int} {os : List Ow} (n : Int) (S : Sep b w (slO intT 3 u l :: os)) (hz : l.length ≤ 16777216) : Calls Try.prog 136 #[u, I n] w fun e w' => ∃ v, e = .returned v ∧ Sep b w' (slO intT 3 v (putL l n) :: os) ∧ Below b w w' := by
  have X0 := Below.refl w.heap.size w
  refine enter Try.func136 rfl Try.ntmps136 rfl ?_
  have B := Below.refl b w
  have Hb := S.base
  refine w_seq ?_
  refine w_region ?_
  refine t_assign rfl ?_ rfl
  refine t_done ?_
  refine x_seq ?_
  refine w_seq ?_
  refine w_region ?_
  refine t_assign rfl ?_ rfl
  refine t_done ?_
  refine x_seq ?_
  refine w_seq ?_
  refine w_block ?_
  refine w_loop (X := Nat) (fun k wq => k ≤ l.length ∧ putL l n = l.take k ++ putL (l.drop k) n ∧ Below b w wq ∧ Sep b wq (slO intT 3 u l :: os)) (fun k => [(5, I ((k : Int))), (0, u), (1, I n), (4, .slice none 0 0)]) (fun k => l.length - k) (0) ?_ ⟨rfl, rfl, rfl, rfl, trivial⟩ ?_
  · exact ⟨by omega, by simp, B, S⟩
  rintro k w17 hI
  try dsimp only at hI ⊢
  obtain ⟨hk, hp, B, S⟩ := hI
  refine w_seq ?_
  refine w_seq ?_
  refine w_region ?_
  refine t_move rfl ?_ rfl
  refine t_move rfl ?_ rfl
  refine t_len e_int (S.sl) rfl rfl ?_ rfl
  refine t_lss rfl rfl ?_ rfl
  refine t_move rfl ?_ rfl
  have done : k = l.length → putL l n = l.take k ++ [n] ++ l.drop k := fun e => by
    rw [hp, List.drop_eq_nil_of_le (by omega)]; simp [putL]
  refine t_partp (t := 10) rfl ?_ ?_
  · intro h1
    refine t_on rfl rfl ?_
    refine t_move rfl ?_ rfl
    refine t_on rfl rfl ?_
    refine t_move rfl ?_ rfl
    refine t_on rfl rfl ?_
    obtain ⟨e13, he13⟩ : ∃ e, (l)[k]? = some e := getx (by omega)
    refine t_idx e_int (k := k) (S.sl) he13 (Below.refl _ _) rfl rfl (by first | rfl | omega) ?_ rfl
    intro p13 hp13
    refine t_on rfl rfl ?_
    refine t_ldi (by assumption) ab_int (Below.refl _ _) rfl ?_ rfl
    refine t_on rfl rfl ?_
    refine t_move rfl ?_ rfl
    refine t_on rfl rfl ?_
    refine t_lss rfl rfl ?_ rfl
    refine t_pickt rfl rfl ?_ rfl
    refine t_done ?_
    refine x_seq ?_
    have hd : l.drop k = e13 :: l.drop (k + 1) := by
      rw [List.drop_eq_getElem_cons (by omega)]
      rw [List.getElem?_eq_getElem (by omega)] at he13
      cases he13; rfl
    refine w_if rfl ?_ ?_
    · intro h2
      refine w_skip ?_
      refine x_seq ?_
      refine w_block ?_
      refine w_region ?_
      refine t_move rfl ?_ rfl
      refine t_add rfl rfl (by omega) ?_ rfl
      refine t_assign rfl ?_ rfl
      refine t_done ?_
      refine x_block_normal ?_
      refine x_round (X := Nat) (I := (fun k wq => k ≤ l.length ∧ putL l n = l.take k ++ putL (l.drop k) n ∧ Below b w wq ∧ Sep b wq (slO intT 3 u l :: os))) (F := (fun k => [(5, I ((k : Int))), (0, u), (1, I n), (4, .slice none 0 0)])) (μ := (fun k => l.length - k)) (k + 1) ?_ (by exact ⟨rfl, rfl, rfl, rfl, trivial⟩) (by (try dsimp only); omega)
      try dsimp only
      refine ⟨by omega, ?_, B, S⟩
      rw [hp, hd, List.take_add_one, he13]
      simp [putL, h2]
    · intro h2
      refine w_exit ?_
      refine x_then_exit ?_
      refine x_then_exit ?_
      refine x_block_exit ?_
      refine x_seq ?_
      refine w_seq ?_
      refine w_seq ?_
      refine w_region ?_
      refine t_move rfl ?_ rfl
      refine t_move rfl ?_ rfl
      refine t_len e_int (S.sl) rfl rfl ?_ rfl
      refine t_lss rfl rfl ?_ rfl
      refine t_move rfl ?_ rfl
      refine t_partp (t := 24) rfl ?_ ?_
      · intro h3
        refine t_on rfl rfl ?_
        refine t_move rfl ?_ rfl
        refine t_on rfl rfl ?_
        refine t_move rfl ?_ rfl
        refine t_on rfl rfl ?_
        refine t_idx e_int (k := k) (S.sl) he13 (Below.refl _ _) rfl rfl (by first | rfl | omega) ?_ rfl
        intro p27 hp27
        refine t_on rfl rfl ?_
        refine t_ldi (by assumption) ab_int (Below.refl _ _) rfl ?_ rfl
        refine t_on rfl rfl ?_
        refine t_move rfl ?_ rfl
        refine t_on rfl rfl ?_
        refine t_eql rfl rfl ?_ rfl
        refine t_pickt rfl rfl ?_ rfl
        refine t_done ?_
        refine x_seq ?_
        refine w_if rfl ?_ ?_
        · intro h4
          refine w_seq ?_
          refine w_region ?_
          refine t_move rfl ?_ rfl
          refine t_assign rfl ?_ rfl
          refine t_done ?_
          refine x_seq ?_
          refine w_ret ?_
          refine x_then_ret ?_
          refine x_ret1 rfl rfl ?_
          have hq : putL l n = l := by
            rw [hp, hd, putL, if_neg h2, if_pos h4, ← hd, List.take_append_drop]
          exact ⟨_, rfl, by rw [hq]; exact S, B⟩
        · intro h4
          refine w_skip ?_
          refine x_seq ?_
          refine w_seq ?_
          refine w_drawP [1, 2, 3, 5, 8, 9, 10] (.alt (.st .run 0 (.alt (.st .run 4 (.st .run 6 (.st .fin 7 (.st .fin 11 (.st .fin 12 .done))))) (.st .run 6 (.st .run 4 (.st .fin 7 (.st .fin 11 (.st .fin 12 .done))))))) (.st .run 6 (.st .run 0 (.st .run 4 (.st .fin 7 (.st .fin 11 (.st .fin 12 .done))))))) mixed (by kernel_rfl) ?_
          intro w18 x19
          have B := bx Hb B x19
          have S := S.below x19
          replace hp13 := hp13.below x19
          replace hp27 := hp27.below x19
          refine p_move rfl ?_ rfl
          refine p_move rfl ?_ rfl
          obtain ⟨Au, cu, rfl, _⟩ := S.sl.form
          refine p_sltv e_int (k := k) rfl rfl (by first | rfl | omega) (by omega) ?_ rfl
          refine p_move rfl ?_ rfl
          refine p_move rfl ?_ rfl
          refine p_move rfl ?_ rfl
          refine p_sldv e_int (k := k) rfl rfl (by first | rfl | omega) (by omega) (by omega) ?_ rfl
          refine p_done ?_
          have hq : putL l n = ([] ++ l.take k) ++ [n] ++ l.drop k := by
            rw [hp, hd, putL, if_neg h2, if_neg h4]; simp
          have hkl : (l.take k).length = k := by rw [List.length_take]; omega
          have hkd : (l.drop k).length = l.length - k := by rw [List.length_drop]
          refine t_alt ?_ ?_
          · refine t_lit0 (T := intT) S bs_int0 rfl ?_ rfl rfl
            intro A33 w20 x21 S
            have B := bx Hb B x21
            refine t_alt ?_ ?_
            · have hR := (SlR.takeV S.tail.sl (by omega))
              refine t_cat0 int_flat e_int S hR rfl rfl rfl (by first | omega | (simp [-List.length_flatMap]; omega)) (by (simp [maxLen, -List.length_flatMap]; try omega)) ?_ rfl
              intro v37 w22 x23 S
              have B := bx Hb B x23
              clear hR
              refine t_lit (T := intT) (l := [n]) (css := ([n]).map fun a => [I a]) int_flat S (fun w => bs_int1 _ w) rfl rfl rfl rfl (by simp [maxLen]) (litR_int _) ?_ rfl rfl
              intro u39 w24 x25 S
              have B := bx Hb B x25
              have hR := S.sl
              have S := S.f1
              refine t_cat int_flat e_int S hR rfl rfl rfl (by first | omega | (simp [-List.length_flatMap]; omega)) (by (simp [maxLen, -List.length_flatMap]; try omega)) ?_ rfl
              intro v40 w26 x27 S
              have B := B.trans x27
              clear hR
              have S := S.f1
              have S := S.tail
              have hR := (SlR.drop S.tail.sl (by omega))
              refine t_cat int_flat e_int S hR rfl rfl rfl (by first | omega | (simp [-List.length_flatMap]; omega)) (by (simp [maxLen, -List.length_flatMap]; try omega)) ?_ rfl
              intro v44 w28 x29 S
              have B := B.trans x29
              clear hR
              refine t_assign rfl ?_ rfl
              refine t_done' ?_
              refine x_seq ?_
              refine w_ret ?_
              refine x_ret1 rfl rfl ?_
              exact ⟨_, rfl, by rw [hq]; exact S.f1.tail, B⟩
            · refine t_lit (T := intT) (l := [n]) (css := ([n]).map fun a => [I a]) int_flat S (fun w => bs_int1 _ w) rfl rfl rfl rfl (by simp [maxLen]) (litR_int _) ?_ rfl rfl
              intro u39 w30 x31 S
              have B := bx Hb B x31
              have hR := (SlR.takeV S.tail.tail.sl (by omega))
              have S := S.f1
              refine t_cat0 int_flat e_int S hR rfl rfl rfl (by first | omega | (simp [-List.length_flatMap]; omega)) (by (simp [maxLen, -List.length_flatMap]; try omega)) ?_ rfl
              intro v37 w32 x33 S
              have B := bx Hb B x33
              clear hR
              have hR := S.tail.sl
              refine t_cat int_flat e_int S hR rfl rfl rfl (by first | omega | (simp [-List.length_flatMap]; omega)) (by (simp [maxLen, -List.length_flatMap]; try omega)) ?_ rfl
              intro v40 w34 x35 S
              have B := B.trans x35
              clear hR
              have S := S.f1
              have S := S.tail
              have hR := (SlR.drop S.tail.sl (by omega))
              refine t_cat int_flat e_int S hR rfl rfl rfl (by first | omega | (simp [-List.length_flatMap]; omega)) (by (simp [maxLen, -List.length_flatMap]; try omega)) ?_ rfl
              intro v44 w36 x37 S
              have B := B.trans x37
              clear hR
              refine t_assign rfl ?_ rfl
              refine t_done' ?_
              refine x_seq ?_
              refine w_ret ?_
              refine x_ret1 rfl rfl ?_
              exact ⟨_, rfl, by rw [hq]; exact S.f1.tail, B⟩
          · refine t_lit (T := intT) (l := [n]) (css := ([n]).map fun a => [I a]) int_flat S (fun w => bs_int1 _ w) rfl rfl rfl rfl (by simp [maxLen]) (litR_int _) ?_ rfl rfl
            intro u39 w38 x39 S
            have B := bx Hb B x39
            refine t_lit0 (T := intT) S bs_int0 rfl ?_ rfl rfl
            intro A33 w40 x41 S
            have B := bx Hb B x41
            have hR := (SlR.takeV S.tail.tail.sl (by omega))
            refine t_cat0 int_flat e_int S hR rfl rfl rfl (by first | omega | (simp [-List.length_flatMap]; omega)) (by (simp [maxLen, -List.length_flatMap]; try omega)) ?_ rfl
            intro v37 w42 x43 S
            have B := bx Hb B x43
            clear hR
            have hR := S.tail.sl
            refine t_cat int_flat e_int S hR rfl rfl rfl (by first | omega | (simp [-List.length_flatMap]; omega)) (by (simp [maxLen, -List.length_flatMap]; try omega)) ?_ rfl
            intro v40 w44 x45 S
            have B := B.trans x45
            clear hR
            have S := S.f1
            have S := S.tail
            have hR := (SlR.drop S.tail.sl (by omega))
            refine t_cat int_flat e_int S hR rfl rfl rfl (by first | omega | (simp [-List.length_flatMap]; omega)) (by (simp [maxLen, -List.length_flatMap]; try omega)) ?_ rfl
            intro v44 w46 x47 S
            have B := B.trans x47
            clear hR
            refine t_assign rfl ?_ rfl
            refine t_done' ?_
            refine x_seq ?_
            refine w_ret ?_
            refine x_ret1 rfl rfl ?_
            exact ⟨_, rfl, by rw [hq]; exact S.f1.tail, B⟩
      · intro h3
        omega
  · intro h1
    refine t_off rfl rfl rfl ?_ rfl
    refine t_off rfl rfl rfl ?_ rfl
    refine t_off rfl rfl rfl ?_ rfl
    refine t_off rfl rfl rfl ?_ rfl
    refine t_off rfl rfl rfl ?_ rfl
    refine t_off rfl rfl rfl ?_ rfl
    refine t_pickf rfl rfl ?_ rfl
    refine t_done ?_
    refine x_seq ?_
    refine w_no rfl ?_
    refine w_exit ?_
    refine x_then_exit ?_
    refine x_then_exit ?_
    refine x_block_exit ?_
    refine x_seq ?_
    refine w_seq ?_
    refine w_seq ?_
    refine w_region ?_
    refine t_move rfl ?_ rfl
    refine t_move rfl ?_ rfl
    refine t_len e_int (S.sl) rfl rfl ?_ rfl
    refine t_lss rfl rfl ?_ rfl
    refine t_move rfl ?_ rfl
    refine t_partp (t := 24) rfl ?_ ?_
    · intro h3
      omega
    · intro h3
      refine t_off rfl rfl rfl ?_ rfl
      refine t_off rfl rfl rfl ?_ rfl
      refine t_off rfl rfl rfl ?_ rfl
      refine t_off rfl rfl rfl ?_ rfl
      refine t_off rfl rfl rfl ?_ rfl
      refine t_off rfl rfl rfl ?_ rfl
      refine t_pickf rfl rfl ?_ rfl
      refine t_done ?_
      refine x_seq ?_
      refine w_no rfl ?_
      refine w_skip ?_
      refine x_seq ?_
      refine w_seq ?_
      refine w_drawP [1, 2, 3, 5, 8, 9, 10] (.alt (.st .run 0 (.alt (.st .run 4 (.st .run 6 (.st .fin 7 (.st .fin 11 (.st .fin 12 .done))))) (.st .run 6 (.st .run 4 (.st .fin 7 (.st .fin 11 (.st .fin 12 .done))))))) (.st .run 6 (.st .run 0 (.st .run 4 (.st .fin 7 (.st .fin 11 (.st .fin 12 .done))))))) mixed (by kernel_rfl) ?_
      intro w48 x49
      have B := bx Hb B x49
      have S := S.below x49
      refine p_move rfl ?_ rfl
      refine p_move rfl ?_ rfl
      obtain ⟨Au, cu, rfl, _⟩ := S.sl.form
      refine p_sltv e_int (k := k) rfl rfl (by first | rfl | omega) (by omega) ?_ rfl
      refine p_move rfl ?_ rfl
      refine p_move rfl ?_ rfl
      refine p_move rfl ?_ rfl
      refine p_sldv e_int (k := k) rfl rfl (by first | rfl | omega) (by omega) (by omega) ?_ rfl
      refine p_done ?_
      have hq : putL l n = ([] ++ l.take k) ++ [n] ++ l.drop k := by rw [done (by omega)]; simp
      have hkl : (l.take k).length = k := by rw [List.length_take]; omega
      have hkd : (l.drop k).length = l.length - k := by rw [List.length_drop]
      refine t_alt ?_ ?_
      · refine t_lit0 (T := intT) S bs_int0 rfl ?_ rfl rfl
        intro A33 w50 x51 S
        have B := bx Hb B x51
        refine t_alt ?_ ?_
        · have hR := (SlR.takeV S.tail.sl (by omega))
          refine t_cat0 int_flat e_int S hR rfl rfl rfl (by first | omega | (simp [-List.length_flatMap]; omega)) (by (simp [maxLen, -List.length_flatMap]; try omega)) ?_ rfl
          intro v37 w52 x53 S
          have B := bx Hb B x53
          clear hR
          refine t_lit (T := intT) (l := [n]) (css := ([n]).map fun a => [I a]) int_flat S (fun w => bs_int1 _ w) rfl rfl rfl rfl (by simp [maxLen]) (litR_int _) ?_ rfl rfl
          intro u39 w54 x55 S
          have B := bx Hb B x55
          have hR := S.sl
          have S := S.f1
          refine t_cat int_flat e_int S hR rfl rfl rfl (by first | omega | (simp [-List.length_flatMap]; omega)) (by (simp [maxLen, -List.length_flatMap]; try omega)) ?_ rfl
          intro v40 w56 x57 S
          have B := B.trans x57
          clear hR
          have S := S.f1
          have S := S.tail
          have hR := (SlR.drop S.tail.sl (by omega))
          refine t_cat int_flat e_int S hR rfl rfl rfl (by first | omega | (simp [-List.length_flatMap]; omega)) (by (simp [maxLen, -List.length_flatMap]; try omega)) ?_ rfl
          intro v44 w58 x59 S
          have B := B.trans x59
          clear hR
          refine t_assign rfl ?_ rfl
          refine t_done' ?_
          refine x_seq ?_
          refine w_ret ?_
          refine x_ret1 rfl rfl ?_
          exact ⟨_, rfl, by rw [hq]; exact S.f1.tail, B⟩
        · refine t_lit (T := intT) (l := [n]) (css := ([n]).map fun a => [I a]) int_flat S (fun w => bs_int1 _ w) rfl rfl rfl rfl (by simp [maxLen]) (litR_int _) ?_ rfl rfl
          intro u39 w60 x61 S
          have B := bx Hb B x61
          have hR := (SlR.takeV S.tail.tail.sl (by omega))
          have S := S.f1
          refine t_cat0 int_flat e_int S hR rfl rfl rfl (by first | omega | (simp [-List.length_flatMap]; omega)) (by (simp [maxLen, -List.length_flatMap]; try omega)) ?_ rfl
          intro v37 w62 x63 S
          have B := bx Hb B x63
          clear hR
          have hR := S.tail.sl
          refine t_cat int_flat e_int S hR rfl rfl rfl (by first | omega | (simp [-List.length_flatMap]; omega)) (by (simp [maxLen, -List.length_flatMap]; try omega)) ?_ rfl
          intro v40 w64 x65 S
          have B := B.trans x65
          clear hR
          have S := S.f1
          have S := S.tail
          have hR := (SlR.drop S.tail.sl (by omega))
          refine t_cat int_flat e_int S hR rfl rfl rfl (by first | omega | (simp [-List.length_flatMap]; omega)) (by (simp [maxLen, -List.length_flatMap]; try omega)) ?_ rfl
          intro v44 w66 x67 S
          have B := B.trans x67
          clear hR
          refine t_assign rfl ?_ rfl
          refine t_done' ?_
          refine x_seq ?_
          refine w_ret ?_
          refine x_ret1 rfl rfl ?_
          exact ⟨_, rfl, by rw [hq]; exact S.f1.tail, B⟩
      · refine t_lit (T := intT) (l := [n]) (css := ([n]).map fun a => [I a]) int_flat S (fun w => bs_int1 _ w) rfl rfl rfl rfl (by simp [maxLen]) (litR_int _) ?_ rfl rfl
        intro u39 w68 x69 S
        have B := bx Hb B x69
        refine t_lit0 (T := intT) S bs_int0 rfl ?_ rfl rfl
        intro A33 w70 x71 S
        have B := bx Hb B x71
        have hR := (SlR.takeV S.tail.tail.sl (by omega))
        refine t_cat0 int_flat e_int S hR rfl rfl rfl (by first | omega | (simp [-List.length_flatMap]; omega)) (by (simp [maxLen, -List.length_flatMap]; try omega)) ?_ rfl
        intro v37 w72 x73 S
        have B := bx Hb B x73
        clear hR
        have hR := S.tail.sl
        refine t_cat int_flat e_int S hR rfl rfl rfl (by first | omega | (simp [-List.length_flatMap]; omega)) (by (simp [maxLen, -List.length_flatMap]; try omega)) ?_ rfl
        intro v40 w74 x75 S
        have B := B.trans x75
        clear hR
        have S := S.f1
        have S := S.tail
        have hR := (SlR.drop S.tail.sl (by omega))
        refine t_cat int_flat e_int S hR rfl rfl rfl (by first | omega | (simp [-List.length_flatMap]; omega)) (by (simp [maxLen, -List.length_flatMap]; try omega)) ?_ rfl
        intro v44 w76 x77 S
        have B := B.trans x77
        clear hR
        refine t_assign rfl ?_ rfl
        refine t_done' ?_
        refine x_seq ?_
        refine w_ret ?_
        refine x_ret1 rfl rfl ?_
        exact ⟨_, rfl, by rw [hq]; exact S.f1.tail, B⟩
/-- The doors of a realm, ascending. -/
def ifsStep (r : Int) (acc : List Int) (x : Lnk) : List Int :=
  let a := if x.a = r then putL acc x.ai else acc
  if x.b = r then putL a x.bi else a
def ifs (l : List Lnk) (r : Int) : List Int := l.foldl (ifsStep r) []
theorem ifs_succ {l : List Lnk} {k : Nat} {x : Lnk} (h : l[k]? = some x) (r : Int) : ifs (l.take (k + 1)) r = ifsStep r (ifs (l.take k) r) x := by
  unfold ifs
  rw [List.take_add_one, h, List.foldl_append]
  rfl
theorem ifsStep_len (r : Int) (acc : List Int) (x : Lnk) : (ifsStep r acc x).length ≤ acc.length + 2 := by
  unfold ifsStep
  dsimp only
  have h1 := putL_len acc x.ai
  have h2 := putL_len (putL acc x.ai) x.bi
  have h3 := putL_len acc x.bi
  split <;> split <;> omega
theorem ifs_len (l : List Lnk) (r : Int) : (ifs l r).length ≤ 2 * l.length := by
  suffices h : ∀ (l : List Lnk) acc, (l.foldl (ifsStep r) acc).length ≤ acc.length + 2 * l.length by have := h l []; simp only [List.length_nil, Nat.zero_add] at this; exact this
  intro l
  induction l with
  | nil => simp
  | cons a t ih =>
    intro acc
    have h1 := ih (ifsStep r acc a)
    have h2 := ifsStep_len r acc a
    simp only [List.foldl_cons, List.length_cons]
    omega
theorem spec_Interfaces0 (t : Topo) (v : Value) (r : Int) (w : World) (h : VA topoT w v t) (hz : t.links.length ≤ 1048576) : Calls Try.prog 132 #[v, I r] w fun e w' => ∃ v fp, e = .returned v ∧ SlO intT 3 w.heap.size w' v (ifs t.links r) fp ∧ Below w.heap.size w w' := by
  have X0 := Below.refl w.heap.size w
  refine enter Try.func132 rfl Try.ntmps132 rfl ?_
  refine w_seq ?_
  refine w_region ?_
  refine t_boxr (by assumption) rfl ?_ rfl rfl
  intro p2 w78 x79 hp2
  replace h := h.below x79
  have X0 := ext_trans X0 x79
  have S := Sep.nil w78
  have B := Below.refl w78.heap.size w78
  have Hb := Nat.le_refl w78.heap.size
  refine t_assign rfl ?_ rfl
  refine t_done ?_
  refine x_seq ?_
  refine w_seq ?_
  refine w_region ?_
  refine t_lit (T := intT) (css := []) (l := []) int_flat S bs_int0 rfl rfl rfl rfl (Nat.zero_le _) litR_nil ?_ rfl rfl
  intro u7 w80 x81 S
  have B := bx Hb B x81
  refine t_assign rfl ?_ rfl
  refine t_done ?_
  refine x_seq ?_
  refine w_seq ?_
  refine w_seq ?_
  refine w_region ?_
  refine t_assign rfl ?_ rfl
  refine t_done ?_
  refine x_seq ?_
  refine w_block ?_
  refine w_loop (X := Nat × Value) (fun x wq => (fun k q => k ≤ t.links.length ∧ Below w78.heap.size w78 wq ∧ Sep w78.heap.size wq [slO intT 3 q (ifs (t.links.take k) r)]) x.1 x.2) (fun x => (fun k q => [(6, I ((k : Int))), (5, q), (1, I r), (2, p2), (4, .slice none 0 0)]) x.1 x.2) (fun x => (fun k q => t.links.length - k) x.1 x.2) (0, _) ?_ ⟨rfl, rfl, rfl, rfl, rfl, trivial⟩ ?_
  · exact ⟨by omega, B, S⟩
  rintro ⟨k, q⟩ w82 hI
  try dsimp only at hI ⊢
  obtain ⟨hk, B, S⟩ := hI
  have hl := ifs_len (t.links.take k) r
  rw [List.length_take] at hl
  refine w_seq ?_
  refine w_seq ?_
  refine w_region ?_
  refine t_move rfl ?_ rfl
  refine t_fld ln_topo_1 (by assumption) fb_topo_1 rfl ?_ rfl
  intro p9 hp9
  refine t_lds (by assumption) ab_s_link B rfl ?_ rfl
  intro v10 hv10
  refine t_len e_link (by assumption) rfl rfl ?_ rfl
  refine t_lss rfl rfl ?_ rfl
  refine t_done ?_
  refine x_seq ?_
  refine w_if rfl ?_ ?_
  · intro hlt
    refine w_skip ?_
    refine x_seq ?_
    refine w_seq ?_
    refine w_block ?_
    refine w_seq ?_
    refine w_seq ?_
    refine w_region ?_
    refine t_fld ln_topo_1 (by assumption) fb_topo_1 rfl ?_ rfl
    intro p15 hp15
    refine t_lds (by assumption) ab_s_link B rfl ?_ rfl
    intro v16 hv16
    refine t_move rfl ?_ rfl
    obtain ⟨e18, he18⟩ : ∃ e, (t.links)[k]? = some e := getx (by omega)
    refine t_idx e_link (k := k) (by assumption) he18 B rfl rfl (by first | rfl | omega) ?_ rfl
    intro p18 hp18
    refine t_fld ln_link_0 (by assumption) fb_link_0 rfl ?_ rfl
    intro p19 hp19
    refine t_ldi (by assumption) ab_int B rfl ?_ rfl
    refine t_move rfl ?_ rfl
    refine t_eql rfl rfl ?_ rfl
    refine t_done ?_
    refine x_seq ?_
    have hs := ifs_succ he18 r
    unfold ifsStep at hs
    dsimp only at hs
    have hl2 := putL_len (ifs (t.links.take k) r) e18.ai
    refine w_if rfl ?_ ?_
    · intro h1
      refine w_region ?_
      refine t_move rfl ?_ rfl
      refine t_fld ln_topo_1 (by assumption) fb_topo_1 rfl ?_ rfl
      intro p24 hp24
      refine t_lds (by assumption) ab_s_link B rfl ?_ rfl
      intro v25 hv25
      refine t_move rfl ?_ rfl
      refine t_idx e_link (k := k) (by assumption) he18 B rfl rfl (by first | rfl | omega) ?_ rfl
      intro p27 hp27
      refine t_fld ln_link_1 (by assumption) fb_link_1 rfl ?_ rfl
      intro p28 hp28
      refine t_ldi (by assumption) ab_int B rfl ?_ rfl
      refine t_callf Try.call136 rfl (spec_l5Put e18.ai S (by omega)) ?_ rfl
      rintro e w83 ⟨v30, rfl, S, x84⟩
      refine ⟨_, rfl, ?_⟩
      have B := B.trans x84
      refine t_assign rfl ?_ rfl
      refine t_done ?_
      refine x_seq ?_
      refine w_seq ?_
      refine w_region ?_
      refine t_fld ln_topo_1 (by assumption) fb_topo_1 rfl ?_ rfl
      intro p31 hp31
      refine t_lds (by assumption) ab_s_link B rfl ?_ rfl
      intro v32 hv32
      refine t_move rfl ?_ rfl
      refine t_idx e_link (k := k) (by assumption) he18 B rfl rfl (by first | rfl | omega) ?_ rfl
      intro p34 hp34
      refine t_fld ln_link_2 (by assumption) fb_link_2 rfl ?_ rfl
      intro p35 hp35
      refine t_ldi (by assumption) ab_int B rfl ?_ rfl
      refine t_move rfl ?_ rfl
      refine t_eql rfl rfl ?_ rfl
      refine t_done ?_
      refine x_seq ?_
      refine w_if rfl ?_ ?_
      · intro h2
        refine w_region ?_
        refine t_move rfl ?_ rfl
        refine t_fld ln_topo_1 (by assumption) fb_topo_1 rfl ?_ rfl
        intro p40 hp40
        refine t_lds (by assumption) ab_s_link B rfl ?_ rfl
        intro v41 hv41
        refine t_move rfl ?_ rfl
        refine t_idx e_link (k := k) (by assumption) he18 B rfl rfl (by first | rfl | omega) ?_ rfl
        intro p43 hp43
        refine t_fld ln_link_3 (by assumption) fb_link_3 rfl ?_ rfl
        intro p44 hp44
        refine t_ldi (by assumption) ab_int B rfl ?_ rfl
        refine t_callf Try.call136 rfl (spec_l5Put e18.bi S (by omega)) ?_ rfl
        rintro e w85 ⟨v46, rfl, S, x86⟩
        refine ⟨_, rfl, ?_⟩
        have B := B.trans x86
        refine t_assign rfl ?_ rfl
        refine t_done ?_
        refine x_block_normal ?_
        refine x_seq ?_
        refine w_region ?_
        refine t_move rfl ?_ rfl
        refine t_add rfl rfl (by omega) ?_ rfl
        refine t_assign rfl ?_ rfl
        refine t_done ?_
        refine x_round (X := Nat × Value) (I := (fun x wq => (fun k q => k ≤ t.links.length ∧ Below w78.heap.size w78 wq ∧ Sep w78.heap.size wq [slO intT 3 q (ifs (t.links.take k) r)]) x.1 x.2)) (F := (fun x => (fun k q => [(6, I ((k : Int))), (5, q), (1, I r), (2, p2), (4, .slice none 0 0)]) x.1 x.2)) (μ := (fun x => (fun k q => t.links.length - k) x.1 x.2)) (k + 1, v46) ?_ (by exact ⟨rfl, rfl, rfl, rfl, rfl, trivial⟩) (by (try dsimp only); omega)
        try dsimp only
        rw [hs, if_pos h2, if_pos h1]
        exact ⟨by omega, B, S⟩
      · intro h2
        refine w_skip ?_
        refine x_block_normal ?_
        refine x_seq ?_
        refine w_region ?_
        refine t_move rfl ?_ rfl
        refine t_add rfl rfl (by omega) ?_ rfl
        refine t_assign rfl ?_ rfl
        refine t_done ?_
        refine x_round (X := Nat × Value) (I := (fun x wq => (fun k q => k ≤ t.links.length ∧ Below w78.heap.size w78 wq ∧ Sep w78.heap.size wq [slO intT 3 q (ifs (t.links.take k) r)]) x.1 x.2)) (F := (fun x => (fun k q => [(6, I ((k : Int))), (5, q), (1, I r), (2, p2), (4, .slice none 0 0)]) x.1 x.2)) (μ := (fun x => (fun k q => t.links.length - k) x.1 x.2)) (k + 1, v30) ?_ (by exact ⟨rfl, rfl, rfl, rfl, rfl, trivial⟩) (by (try dsimp only); omega)
        try dsimp only
        rw [hs, if_neg h2, if_pos h1]
        exact ⟨by omega, B, S⟩
    · intro h1
      refine w_skip ?_
      refine x_seq ?_
      refine w_seq ?_
      refine w_region ?_
      refine t_fld ln_topo_1 (by assumption) fb_topo_1 rfl ?_ rfl
      intro p31 hp31
      refine t_lds (by assumption) ab_s_link B rfl ?_ rfl
      intro v32 hv32
      refine t_move rfl ?_ rfl
      refine t_idx e_link (k := k) (by assumption) he18 B rfl rfl (by first | rfl | omega) ?_ rfl
      intro p34 hp34
      refine t_fld ln_link_2 (by assumption) fb_link_2 rfl ?_ rfl
      intro p35 hp35
      refine t_ldi (by assumption) ab_int B rfl ?_ rfl
      refine t_move rfl ?_ rfl
      refine t_eql rfl rfl ?_ rfl
      refine t_done ?_
      refine x_seq ?_
      refine w_if rfl ?_ ?_
      · intro h2
        refine w_region ?_
        refine t_move rfl ?_ rfl
        refine t_fld ln_topo_1 (by assumption) fb_topo_1 rfl ?_ rfl
        intro p40 hp40
        refine t_lds (by assumption) ab_s_link B rfl ?_ rfl
        intro v41 hv41
        refine t_move rfl ?_ rfl
        refine t_idx e_link (k := k) (by assumption) he18 B rfl rfl (by first | rfl | omega) ?_ rfl
        intro p43 hp43
        refine t_fld ln_link_3 (by assumption) fb_link_3 rfl ?_ rfl
        intro p44 hp44
        refine t_ldi (by assumption) ab_int B rfl ?_ rfl
        refine t_callf Try.call136 rfl (spec_l5Put e18.bi S (by omega)) ?_ rfl
        rintro e w87 ⟨v46, rfl, S, x88⟩
        refine ⟨_, rfl, ?_⟩
        have B := B.trans x88
        refine t_assign rfl ?_ rfl
        refine t_done ?_
        refine x_block_normal ?_
        refine x_seq ?_
        refine w_region ?_
        refine t_move rfl ?_ rfl
        refine t_add rfl rfl (by omega) ?_ rfl
        refine t_assign rfl ?_ rfl
        refine t_done ?_
        refine x_round (X := Nat × Value) (I := (fun x wq => (fun k q => k ≤ t.links.length ∧ Below w78.heap.size w78 wq ∧ Sep w78.heap.size wq [slO intT 3 q (ifs (t.links.take k) r)]) x.1 x.2)) (F := (fun x => (fun k q => [(6, I ((k : Int))), (5, q), (1, I r), (2, p2), (4, .slice none 0 0)]) x.1 x.2)) (μ := (fun x => (fun k q => t.links.length - k) x.1 x.2)) (k + 1, v46) ?_ (by exact ⟨rfl, rfl, rfl, rfl, rfl, trivial⟩) (by (try dsimp only); omega)
        try dsimp only
        rw [hs, if_pos h2, if_neg h1]
        exact ⟨by omega, B, S⟩
      · intro h2
        refine w_skip ?_
        refine x_block_normal ?_
        refine x_seq ?_
        refine w_region ?_
        refine t_move rfl ?_ rfl
        refine t_add rfl rfl (by omega) ?_ rfl
        refine t_assign rfl ?_ rfl
        refine t_done ?_
        refine x_round (X := Nat × Value) (I := (fun x wq => (fun k q => k ≤ t.links.length ∧ Below w78.heap.size w78 wq ∧ Sep w78.heap.size wq [slO intT 3 q (ifs (t.links.take k) r)]) x.1 x.2)) (F := (fun x => (fun k q => [(6, I ((k : Int))), (5, q), (1, I r), (2, p2), (4, .slice none 0 0)]) x.1 x.2)) (μ := (fun x => (fun k q => t.links.length - k) x.1 x.2)) (k + 1, q) ?_ (by exact ⟨rfl, rfl, rfl, rfl, rfl, trivial⟩) (by (try dsimp only); omega)
        try dsimp only
        rw [hs, if_neg h2, if_neg h1]
        exact ⟨by omega, B, S⟩
  · intro hge
    refine w_exit ?_
    refine x_then_exit ?_
    refine x_then_exit ?_
    refine x_block_exit ?_
    refine x_seq ?_
    refine w_seq ?_
    refine w_region ?_
    refine t_move rfl ?_ rfl
    refine t_assign rfl ?_ rfl
    refine t_done ?_
    refine x_seq ?_
    refine w_ret ?_
    refine x_ret1 rfl rfl ?_
    obtain ⟨fp, hO⟩ := (S.mono X0.size).head
    rw [List.take_of_length_le (by omega)] at hO
    exact ⟨_, fp, rfl, hO, ext_trans X0 B⟩
theorem spec_Interfaces (A : List ASd) (L : List Lnk) (v : Value) (r : Int) (w : World) (h : VA topoT w v ⟨A, L⟩) (hz : L.length ≤ 1048576) : Calls Try.prog 132 #[v, I r] w fun e w' => ∃ v fp, e = .returned v ∧ SlO intT 3 w.heap.size w' v (ifs L r) fp ∧ Below w.heap.size w w' :=
  spec_Interfaces0 ⟨A, L⟩ v r w h hz
/-- The doors of a realm of one kind. -/
def ifsK (t : Topo) (r k : Int) : List Int := (ifs t.links r).filter fun d => decide (ifKind t r d = k)
theorem filt_succ {α : Type} (p : α → Bool) {l : List α} {k : Nat} {x : α} (h : l[k]? = some x) : (l.take (k + 1)).filter p = (l.take k).filter p ++ (if p x then [x] else []) := by
  rw [List.take_add_one, h, List.filter_append]
  cases hp : p x <;> simp [hp]
theorem spec_InterfacesOfKind (t : Topo) (v : Value) (r kd : Int) (w : World) (h : VA topoT w v t) (hz : sz_topo t ≤ 500000) : Calls Try.prog 122 #[v, I r, I kd] w fun e w' => ∃ v fp, e = .returned v ∧ SlO intT 3 w.heap.size w' v (ifsK t r kd) fp ∧ Below w.heap.size w w' := by
  have hz1 : t.links.length ≤ 500000 := by have := hz; simp only [sz_topo] at this; omega
  have hl := ifs_len t.links r
  have X0 := Below.refl w.heap.size w
  refine enter Try.func122 rfl Try.ntmps122 rfl ?_
  refine w_seq ?_
  refine w_region ?_
  refine t_boxr (by assumption) rfl ?_ rfl rfl
  intro p3 w89 x90 hp3
  replace h := h.below x90
  have X0 := ext_trans X0 x90
  have S := Sep.nil w89
  have B := Below.refl w89.heap.size w89
  have Hb := Nat.le_refl w89.heap.size
  refine t_assign rfl ?_ rfl
  refine t_done ?_
  refine x_seq ?_
  refine w_seq ?_
  refine w_region ?_
  refine t_lit (T := intT) (css := []) (l := []) int_flat S bs_int0 rfl rfl rfl rfl (Nat.zero_le _) litR_nil ?_ rfl rfl
  intro u10 w91 x92 S
  have B := bx Hb B x92
  refine t_assign rfl ?_ rfl
  refine t_done ?_
  refine x_seq ?_
  refine w_seq ?_
  refine w_region ?_
  refine t_lda (by assumption) ab_topo sb_topo B rfl ?_ rfl
  intro v11 hv11
  obtain ⟨v11_0, v11_1, rfl, hv11_0, hv11_1⟩ := topo_va hv11
  refine t_move rfl ?_ rfl
  refine t_call Try.call132 rfl (spec_Interfaces t.ases t.links _ _ _ (by first | assumption | exact VA.below (by assumption) B | exact topo_mkv (by first | assumption | exact SlR.below (by assumption) B) (by first | assumption | exact SlR.below (by assumption) B)) (by (try dsimp only); omega)) ?_ rfl rfl
  rintro e w93 ⟨v13, fpv13, rfl, hOv13, x94⟩
  refine ⟨_, rfl, x94, ?_⟩
  have S := S.add (o := slO _ _ _ _) x94 hOv13
  have B := bx Hb B x94
  refine t_assign rfl ?_ rfl
  refine t_done ?_
  refine x_seq ?_
  refine w_seq ?_
  refine w_seq ?_
  refine w_region ?_
  refine t_assign rfl ?_ rfl
  refine t_done ?_
  refine x_seq ?_
  refine w_block ?_
  refine w_loop (X := Nat × Value) (fun x wq => (fun k q => k ≤ (ifs t.links r).length ∧ Below w89.heap.size w89 wq ∧ Sep w89.heap.size wq [slO intT 3 q (((ifs t.links r).take k).filter fun d => decide (ifKind t r d = kd)), slO intT 3 v13 (ifs t.links r)]) x.1 x.2) (fun x => (fun k q => [(9, I ((k : Int))), (7, q), (1, I r), (2, I kd), (3, p3), (6, .slice none 0 0), (8, v13)]) x.1 x.2) (fun x => (fun k q => (ifs t.links r).length - k) x.1 x.2) (0, _) ?_ ⟨rfl, rfl, rfl, rfl, rfl, rfl, rfl, trivial⟩ ?_
  · exact ⟨by omega, B, S.f1⟩
  rintro ⟨k, q⟩ w95 hI
  try dsimp only at hI ⊢
  obtain ⟨hk, B, S⟩ := hI
  have hl2 := List.length_filter_le (fun d => decide (ifKind t r d = kd)) ((ifs t.links r).take k)
  rw [List.length_take] at hl2
  refine w_seq ?_
  refine w_seq ?_
  refine w_region ?_
  refine t_move rfl ?_ rfl
  refine t_move rfl ?_ rfl
  refine t_len e_int (S.tail.sl) rfl rfl ?_ rfl
  refine t_lss rfl rfl ?_ rfl
  refine t_done ?_
  refine x_seq ?_
  refine w_if rfl ?_ ?_
  · intro hlt
    refine w_skip ?_
    refine x_seq ?_
    refine w_seq ?_
    refine w_block ?_
    refine w_seq ?_
    refine w_draw (.st .take 0 (.st .take 1 (.st .take 2 (.st .take 3 (.st .take 4 (.st .take 5 (.st .take 7 (.st .run 6 (.st .take 8 .done))))))))) mixed (by kernel_rfl) ?_
    intro w96 x97
    have B := bx Hb B x97
    have S := S.below x97
    refine t_lda (by assumption) ab_topo sb_topo B rfl ?_ rfl
    intro v20 hv20
    obtain ⟨v20_0, v20_1, rfl, hv20_0, hv20_1⟩ := topo_va hv20
    refine t_move rfl ?_ rfl
    refine t_move rfl ?_ rfl
    refine t_move rfl ?_ rfl
    obtain ⟨e24, he24⟩ : ∃ e, ((ifs t.links r))[k]? = some e := getx (by omega)
    refine t_idx e_int (k := k) (S.tail.sl) he24 (Below.refl _ _) rfl rfl (by first | rfl | omega) ?_ rfl
    intro p24 hp24
    refine t_ldi (by assumption) ab_int (Below.refl _ _) rfl ?_ rfl
    refine t_move rfl ?_ rfl
    refine t_callx Try.call68 rfl (va1 (by first | assumption | exact VA.below (by assumption) B | exact topo_mkv (by first | assumption | exact SlR.below (by assumption) B) (by first | assumption | exact SlR.below (by assumption) B)) fun cs h => spec_ifKind _ cs _ _ _ h (by omega)) ?_ rfl rfl
    intro w98 x99
    have B := bx Hb B x99
    have S := S.below x99
    refine t_eql rfl rfl ?_ rfl
    refine t_done' ?_
    refine x_seq ?_
    have hf := filt_succ (fun d => decide (ifKind t r d = kd)) he24
    refine w_if rfl ?_ ?_
    · intro h1
      refine w_region ?_
      refine t_move rfl ?_ rfl
      refine t_move rfl ?_ rfl
      refine t_move rfl ?_ rfl
      refine t_idx e_int (k := k) (S.tail.sl) he24 (Below.refl _ _) rfl rfl (by first | rfl | omega) ?_ rfl
      intro p32 hp32
      refine t_ldi (by assumption) ab_int (Below.refl _ _) rfl ?_ rfl
      refine t_lit (T := intT) (l := [e24]) (css := ([e24]).map fun a => [I a]) int_flat S (fun w => bs_int1 _ w) rfl rfl rfl rfl (by simp [maxLen]) (litR_int _) ?_ rfl rfl
      intro u34 w100 x101 S
      have B := bx Hb B x101
      have hR := S.sl
      have S := S.f1
      refine t_cat int_flat e_int S hR rfl rfl rfl (by first | omega | (simp [-List.length_flatMap]; omega)) (by (simp [maxLen, -List.length_flatMap]; try omega)) ?_ rfl
      intro v35 w102 x103 S
      have B := B.trans x103
      clear hR
      have S := S.f1
      have S := S.tail
      refine t_assign rfl ?_ rfl
      refine t_done ?_
      refine x_block_normal ?_
      refine x_seq ?_
      refine w_region ?_
      refine t_move rfl ?_ rfl
      refine t_add rfl rfl (by omega) ?_ rfl
      refine t_assign rfl ?_ rfl
      refine t_done ?_
      refine x_round (X := Nat × Value) (I := (fun x wq => (fun k q => k ≤ (ifs t.links r).length ∧ Below w89.heap.size w89 wq ∧ Sep w89.heap.size wq [slO intT 3 q (((ifs t.links r).take k).filter fun d => decide (ifKind t r d = kd)), slO intT 3 v13 (ifs t.links r)]) x.1 x.2)) (F := (fun x => (fun k q => [(9, I ((k : Int))), (7, q), (1, I r), (2, I kd), (3, p3), (6, .slice none 0 0), (8, v13)]) x.1 x.2)) (μ := (fun x => (fun k q => (ifs t.links r).length - k) x.1 x.2)) (k + 1, v35) ?_ (by exact ⟨rfl, rfl, rfl, rfl, rfl, rfl, rfl, trivial⟩) (by (try dsimp only); omega)
      try dsimp only
      rw [hf, if_pos (by simpa using h1)]
      exact ⟨by omega, B, S⟩
    · intro h1
      refine w_skip ?_
      refine x_block_normal ?_
      refine x_seq ?_
      refine w_region ?_
      refine t_move rfl ?_ rfl
      refine t_add rfl rfl (by omega) ?_ rfl
      refine t_assign rfl ?_ rfl
      refine t_done ?_
      refine x_round (X := Nat × Value) (I := (fun x wq => (fun k q => k ≤ (ifs t.links r).length ∧ Below w89.heap.size w89 wq ∧ Sep w89.heap.size wq [slO intT 3 q (((ifs t.links r).take k).filter fun d => decide (ifKind t r d = kd)), slO intT 3 v13 (ifs t.links r)]) x.1 x.2)) (F := (fun x => (fun k q => [(9, I ((k : Int))), (7, q), (1, I r), (2, I kd), (3, p3), (6, .slice none 0 0), (8, v13)]) x.1 x.2)) (μ := (fun x => (fun k q => (ifs t.links r).length - k) x.1 x.2)) (k + 1, q) ?_ (by exact ⟨rfl, rfl, rfl, rfl, rfl, rfl, rfl, trivial⟩) (by (try dsimp only); omega)
      try dsimp only
      rw [hf, if_neg (by simpa using h1), List.append_nil]
      exact ⟨by omega, B, S⟩
  · intro hge
    refine w_exit ?_
    refine x_then_exit ?_
    refine x_then_exit ?_
    refine x_block_exit ?_
    refine x_seq ?_
    refine w_seq ?_
    refine w_region ?_
    refine t_move rfl ?_ rfl
    refine t_assign rfl ?_ rfl
    refine t_done ?_
    refine x_seq ?_
    refine w_ret ?_
    refine x_ret1 rfl rfl ?_
    obtain ⟨fp, hO⟩ := (S.mono X0.size).head
    rw [List.take_of_length_le (by omega)] at hO
    exact ⟨_, fp, rfl, hO, ext_trans X0 B⟩
end Go.Proofs.Ytdaecknfahgddaa
namespace Go.Proofs.Ytdaecknfahgddaa
open Go.RowKit
set_option linter.unusedVariables false
set_option maxRecDepth 20000
theorem ret_bool {a b : Bool} (h : a = b) : Ending.returned (.bool a) = .returned (.bool b) := by rw [h]
/-- Sums modulo the prime, of residues alone. -/
def addM (b s : Int) : Int := if inR b 0 2147483646 && inR s 0 2147483646 then (b + s) % 2147483647 else 0
theorem spec_AddMod (b s : Int) (w : World) : Calls Try.prog 138 #[I b, I s] w fun e w' => e = .returned (I (addM b s)) ∧ w = w' := by
  have X0 := Below.refl w.heap.size w
  refine enter Try.func138 rfl Try.ntmps138 rfl ?_
  refine w_seq ?_
  refine w_region ?_
  have S := Sep.nil w
  have B := Below.refl w.heap.size w
  have Hb := Nat.le_refl w.heap.size
  refine t_assign rfl ?_ rfl
  refine t_done ?_
  refine x_seq ?_
  refine w_seq ?_
  refine w_seq ?_
  refine w_region ?_
  refine t_move rfl ?_ rfl
  refine t_calls Try.call100 rfl (spec_l3Ok _ _) ?_ rfl rfl
  refine t_notb rfl ?_ rfl
  refine t_move rfl ?_ rfl
  refine t_part (t := 8) rfl ?_ ?_
  · intro h1
    refine t_off rfl rfl rfl ?_ rfl
    refine t_off rfl rfl rfl ?_ rfl
    refine t_off rfl rfl rfl ?_ rfl
    refine t_pickt rfl rfl ?_ rfl
    refine t_done ?_
    refine x_seq ?_
    refine w_yes rfl ?_
    refine w_seq ?_
    refine w_region ?_
    refine t_assign rfl ?_ rfl
    refine t_done ?_
    refine x_seq ?_
    refine w_ret ?_
    refine x_then_ret ?_
    refine x_ret1 rfl rfl ?_
    have h1' : inR b 0 2147483646 = false := by simpa using h1
    exact ⟨by simp [addM, h1'], rfl⟩
  · intro h1
    have h1' : inR b 0 2147483646 = true := by simpa using h1
    have r1 := inR_iff.1 h1'
    refine t_on rfl rfl ?_
    refine t_move rfl ?_ rfl
    refine t_on rfl rfl ?_
    refine t_calls Try.call100 rfl (spec_l3Ok _ _) ?_ rfl rfl
    refine t_on rfl rfl ?_
    refine t_notb rfl ?_ rfl
    refine t_pickf rfl rfl ?_ rfl
    refine t_done ?_
    refine x_seq ?_
    refine w_ifb rfl ?_ ?_
    · intro h2
      refine w_seq ?_
      refine w_region ?_
      refine t_assign rfl ?_ rfl
      refine t_done ?_
      refine x_seq ?_
      refine w_ret ?_
      refine x_then_ret ?_
      refine x_ret1 rfl rfl ?_
      have h2' : inR s 0 2147483646 = false := by simpa using h2
      exact ⟨by simp [addM, h1', h2'], rfl⟩
    · intro h2
      have h2' : inR s 0 2147483646 = true := by simpa using h2
      have r2 := inR_iff.1 h2'
      refine w_skip ?_
      refine x_seq ?_
      refine w_seq ?_
      refine w_region ?_
      refine t_move rfl ?_ rfl
      refine t_move rfl ?_ rfl
      refine t_add rfl rfl (by omega) ?_ rfl
      refine t_rem rfl rfl (by omega) ?_ rfl
      refine t_assign rfl ?_ rfl
      refine t_done ?_
      refine x_seq ?_
      refine w_ret ?_
      refine x_ret1 rfl rfl ?_
      exact ⟨by simp [addM, h1', h2'], rfl⟩
end Go.Proofs.Ytdaecknfahgddaa
namespace Go.Proofs.Ytdaecknfahgddaa
open Go.RowKit
set_option linter.unusedVariables false
def isRev (k : Int) : Bool := k == 1 || k == 3
theorem spec_IsReversed (k : Int) (w : World) : Calls Try.prog 126 #[I k] w fun e w' => e = .returned (.bool (isRev k)) ∧ w = w' := by
  obtain ⟨q, Hq⟩ : ∃ q, Hid (q = isRev k) := ⟨_, rfl⟩
  rw [← Hq.out]
  cases h1 : (k == 1) <;> cases h2 : (k == 3)
  all_goals
    go_enter Try.func126, Try.ntmps126
    go_wp2
    go_ret
    exact ⟨by rw [Hq.out]; simp [isRev, h1, h2], rfl⟩
end Go.Proofs.Ytdaecknfahgddaa
namespace Go.Proofs.Ytdaecknfahgddaa
open Go.RowKit
set_option linter.unusedVariables false
set_option maxRecDepth 20000
def chainAdd (b : Int) (l : List Int) : Int := l.foldl addM b
theorem chain_succ {b : Int} {l : List Int} {k : Nat} {x : Int} (h : l[k]? = some x) : chainAdd b (l.take (k + 1)) = addM (chainAdd b (l.take k)) x := by
  unfold chainAdd; rw [take_succ h, List.foldl_append]; rfl
theorem spec_ChainAdd (b : Int) (l : List Int) (v : Value) (w : World) (h : SlR intT w v l) (hz : l.length ≤ 16777216) : Calls Try.prog 134 #[I b, v] w fun e w' => e = .returned (I (chainAdd b l)) ∧ w = w' := by
  have X0 := Below.refl w.heap.size w
  refine enter Try.func134 rfl Try.ntmps134 rfl ?_
  refine w_seq ?_
  refine w_region ?_
  have S := Sep.nil w
  have B := Below.refl w.heap.size w
  have Hb := Nat.le_refl w.heap.size
  refine t_assign rfl ?_ rfl
  refine t_done ?_
  refine x_seq ?_
  refine w_seq ?_
  refine w_seq ?_
  refine w_region ?_
  refine t_assign rfl ?_ rfl
  refine t_done ?_
  refine x_seq ?_
  refine w_block ?_
  refine w_loop (X := Nat × Int) (fun x wq => (fun k c => k ≤ l.length ∧ c = chainAdd b (l.take k) ∧ w = wq) x.1 x.2) (fun x => (fun k c => [(5, I ((k : Int))), (0, I c), (1, v), (4, I 0)]) x.1 x.2) (fun x => (fun k c => l.length - k) x.1 x.2) (0, b) ?_ ⟨rfl, rfl, rfl, rfl, trivial⟩ ?_
  · exact ⟨by omega, rfl, rfl⟩
  · rintro ⟨k, c⟩ w1 hI
    try dsimp only at hI ⊢
    obtain ⟨hk, hc, rfl⟩ := hI
    refine w_seq ?_
    refine w_seq ?_
    refine w_region ?_
    refine t_move rfl ?_ rfl
    refine t_move rfl ?_ rfl
    refine t_len e_int (by assumption) rfl rfl ?_ rfl
    refine t_lss rfl rfl ?_ rfl
    refine t_done ?_
    refine x_seq ?_
    refine w_if rfl ?_ ?_
    · intro hlt
      refine w_skip ?_
      refine x_seq ?_
      refine w_seq ?_
      refine w_block ?_
      refine w_region ?_
      refine t_move rfl ?_ rfl
      refine t_move rfl ?_ rfl
      refine t_move rfl ?_ rfl
      obtain ⟨e15, he15⟩ : ∃ e, (l)[k]? = some e := getx (by omega)
      refine t_idx e_int (k := k) (by assumption) he15 B rfl rfl (by first | rfl | omega) ?_ rfl
      intro p15 hp15
      refine t_ldi (by assumption) ab_int B rfl ?_ rfl
      refine t_calls Try.call138 rfl (spec_AddMod _ _ _) ?_ rfl rfl
      refine t_assign rfl ?_ rfl
      refine t_done ?_
      refine x_block_normal ?_
      refine x_seq ?_
      refine w_region ?_
      refine t_move rfl ?_ rfl
      refine t_add rfl rfl (by omega) ?_ rfl
      refine t_assign rfl ?_ rfl
      refine t_done ?_
      refine x_round (X := Nat × Int) (I := (fun x wq => (fun k c => k ≤ l.length ∧ c = chainAdd b (l.take k) ∧ w = wq) x.1 x.2)) (F := (fun x => (fun k c => [(5, I ((k : Int))), (0, I c), (1, v), (4, I 0)]) x.1 x.2)) (μ := (fun x => (fun k c => l.length - k) x.1 x.2)) (k + 1, addM c e15) ?_ (by exact ⟨rfl, rfl, rfl, rfl, trivial⟩) (by (try dsimp only); omega)
      try dsimp only
      exact ⟨by omega, by rw [chain_succ he15, hc], rfl⟩
    · intro hge
      refine w_exit ?_
      refine x_then_exit ?_
      refine x_then_exit ?_
      refine x_block_exit ?_
      refine x_seq ?_
      refine w_seq ?_
      refine w_region ?_
      refine t_move rfl ?_ rfl
      refine t_assign rfl ?_ rfl
      refine t_done ?_
      refine x_seq ?_
      refine w_ret ?_
      refine x_ret1 rfl rfl ?_
      exact ⟨ret_int (by rw [hc, List.take_of_length_le (by omega)]), rfl⟩
theorem spec_l9Seals (s : Seg) (v : Value) (i : Int) (w : World) (h : VA segT w v s) (hz : s.hops.length ≤ 1048576) (hi : 0 ≤ i ∧ i ≤ s.hops.length) : Calls Try.prog 135 #[v, I i] w fun e w' => ∃ v fp, e = .returned v ∧ SlO intT 3 w.heap.size w' v ((s.hops.take i.toNat).map Hop.mac) fp ∧ Below w.heap.size w w' := by
  have X0 := Below.refl w.heap.size w
  refine enter Try.func135 rfl Try.ntmps135 rfl ?_
  refine w_seq ?_
  refine w_region ?_
  refine t_boxr (by assumption) rfl ?_ rfl rfl
  intro p2 w2 x3 hp2
  replace h := h.below x3
  have X0 := ext_trans X0 x3
  have S := Sep.nil w2
  have B := Below.refl w2.heap.size w2
  have Hb := Nat.le_refl w2.heap.size
  refine t_assign rfl ?_ rfl
  refine t_done ?_
  refine x_seq ?_
  refine w_seq ?_
  refine w_region ?_
  refine t_lit (T := intT) (css := []) (l := []) int_flat S bs_int0 rfl rfl rfl rfl (Nat.zero_le _) litR_nil ?_ rfl rfl
  intro u7 w4 x5 S
  have B := bx Hb B x5
  refine t_assign rfl ?_ rfl
  refine t_done ?_
  refine x_seq ?_
  refine w_seq ?_
  refine w_seq ?_
  refine w_region ?_
  refine t_assign rfl ?_ rfl
  refine t_done ?_
  refine x_seq ?_
  refine w_block ?_
  refine w_loop (X := Nat × Value) (fun x wq => (fun k v => k ≤ i.toNat ∧ Below w2.heap.size w2 wq ∧ Sep w2.heap.size wq [slO intT 3 v ((s.hops.take k).map Hop.mac)]) x.1 x.2) (fun x => (fun k v => [(6, I ((k : Int))), (5, v), (1, I i), (2, p2), (4, .slice none 0 0)]) x.1 x.2) (fun x => (fun k v => i.toNat - k) x.1 x.2) (0, u7) ?_ ⟨rfl, rfl, rfl, rfl, rfl, trivial⟩ ?_
  · exact ⟨by omega, B, S⟩
  · rintro ⟨k, v⟩ w6 hI
    try dsimp only at hI ⊢
    obtain ⟨hk, B, S⟩ := hI
    have hml : ((s.hops.take k).map Hop.mac).length = k := by rw [List.length_map, List.length_take]; omega
    refine w_seq ?_
    refine w_seq ?_
    refine w_region ?_
    refine t_move rfl ?_ rfl
    refine t_move rfl ?_ rfl
    refine t_lss rfl rfl ?_ rfl
    refine t_done ?_
    refine x_seq ?_
    refine w_if rfl ?_ ?_
    · intro hlt
      refine w_skip ?_
      refine x_seq ?_
      refine w_seq ?_
      refine w_block ?_
      refine w_region ?_
      refine t_move rfl ?_ rfl
      refine t_fld ln_seg_2 (by assumption) fb_seg_2 rfl ?_ rfl
      intro p14 hp14
      refine t_lds (by assumption) ab_s_hop B rfl ?_ rfl
      intro v15 hv15
      refine t_move rfl ?_ rfl
      obtain ⟨e17, he17⟩ : ∃ e, (s.hops)[k]? = some e := getx (by omega)
      refine t_idx e_hop (k := k) (by assumption) he17 B rfl rfl (by first | rfl | omega) ?_ rfl
      intro p17 hp17
      refine t_fld ln_hop_4 (by assumption) fb_hop_4 rfl ?_ rfl
      intro p18 hp18
      refine t_ldi (by assumption) ab_int B rfl ?_ rfl
      refine t_lit (T := intT) (l := [e17.mac]) (css := ([e17.mac]).map fun a => [I a]) int_flat S (fun w => bs_int1 _ w) rfl rfl rfl rfl (by simp [maxLen]) (litR_int _) ?_ rfl rfl
      intro u20 w7 x8 S
      have B := bx Hb B x8
      have hR := S.sl
      have S := S.f1
      refine t_cat int_flat e_int S hR rfl rfl rfl (by first | omega | (simp [-List.length_flatMap]; omega)) (by (simp [maxLen, -List.length_flatMap]; try omega)) ?_ rfl
      intro v21 w9 x10 S
      have B := B.trans x10
      clear hR
      have S := S.f1
      have S := S.tail
      refine t_assign rfl ?_ rfl
      refine t_done ?_
      refine x_block_normal ?_
      refine x_seq ?_
      refine w_region ?_
      refine t_move rfl ?_ rfl
      refine t_add rfl rfl (by omega) ?_ rfl
      refine t_assign rfl ?_ rfl
      refine t_done ?_
      refine x_round (X := Nat × Value) (I := (fun x wq => (fun k v => k ≤ i.toNat ∧ Below w2.heap.size w2 wq ∧ Sep w2.heap.size wq [slO intT 3 v ((s.hops.take k).map Hop.mac)]) x.1 x.2)) (F := (fun x => (fun k v => [(6, I ((k : Int))), (5, v), (1, I i), (2, p2), (4, .slice none 0 0)]) x.1 x.2)) (μ := (fun x => (fun k v => i.toNat - k) x.1 x.2)) (k + 1, v21) ?_ (by exact ⟨rfl, rfl, rfl, rfl, rfl, trivial⟩) (by (try dsimp only); omega)
      try dsimp only
      refine ⟨by omega, B, ?_⟩
      rw [take_succ he17, List.map_append]
      exact S
    · intro hge
      refine w_exit ?_
      refine x_then_exit ?_
      refine x_then_exit ?_
      refine x_block_exit ?_
      refine x_seq ?_
      refine w_seq ?_
      refine w_region ?_
      refine t_move rfl ?_ rfl
      refine t_assign rfl ?_ rfl
      refine t_done ?_
      refine x_seq ?_
      refine w_ret ?_
      refine x_ret1 rfl rfl ?_
      have : k = i.toNat := by omega
      subst this
      obtain ⟨fp, hO⟩ := (S.mono X0.size).head
      exact ⟨_, fp, rfl, hO, ext_trans X0 B⟩
def segBeta (s : Seg) (i : Int) : Int := if inR i 0 s.hops.length then chainAdd s.beta ((s.hops.take i.toNat).map Hop.mac) else 0
theorem spec_BetaAt (s : Seg) (v : Value) (i : Int) (w : World) (h : VA segT w v s) (hz : s.hops.length ≤ 1048576) : Calls Try.prog 125 #[v, I i] w fun e w' => e = .returned (I (segBeta s i)) ∧ Below w.heap.size w w' := by
  have hml : ((s.hops.take i.toNat).map Hop.mac).length ≤ 1048576 := by rw [List.length_map, List.length_take]; omega
  have hml2 : (s.hops.take i.toNat).length ≤ 1048576 := by rw [List.length_take]; omega
  have X0 := Below.refl w.heap.size w
  refine enter Try.func125 rfl Try.ntmps125 rfl ?_
  refine w_seq ?_
  refine w_region ?_
  refine t_boxr (by assumption) rfl ?_ rfl rfl
  intro p2 w11 x12 hp2
  replace h := h.below x12
  have X0 := ext_trans X0 x12
  have S := Sep.nil w11
  have B := Below.refl w11.heap.size w11
  have Hb := Nat.le_refl w11.heap.size
  refine t_assign rfl ?_ rfl
  refine t_done ?_
  refine x_seq ?_
  refine w_seq ?_
  refine w_seq ?_
  refine w_region ?_
  refine t_move rfl ?_ rfl
  refine t_fld ln_seg_2 (by assumption) fb_seg_2 rfl ?_ rfl
  intro p6 hp6
  refine t_lds (by assumption) ab_s_hop B rfl ?_ rfl
  intro v7 hv7
  refine t_len e_hop (by assumption) rfl rfl ?_ rfl
  refine t_calls Try.call54 rfl (spec_l1In _ _ _ _) ?_ rfl rfl
  refine t_notb rfl ?_ rfl
  refine t_done ?_
  refine x_seq ?_
  refine w_ifb rfl ?_ ?_
  · intro h1
    refine w_seq ?_
    refine w_region ?_
    refine t_assign rfl ?_ rfl
    refine t_done ?_
    refine x_seq ?_
    refine w_ret ?_
    refine x_then_ret ?_
    refine x_ret1 rfl rfl ?_
    have h1' : inR i 0 s.hops.length = false := by simpa using h1
    exact ⟨ret_int (by simp [segBeta, h1']), ext_trans X0 B⟩
  · intro h1
    have h1' : inR i 0 s.hops.length = true := by simpa using h1
    have r1 := inR_iff.1 h1'
    refine w_skip ?_
    refine x_seq ?_
    refine w_seq ?_
    refine w_draw (.st .take 0 (.st .take 1 (.st .take 2 (.st .take 3 (.st .run 4 (.st .run 5 (.st .take 6 .done))))))) mixed (by kernel_rfl) ?_
    intro w13 x14
    have B := bx Hb B x14
    have S := S.below x14
    refine t_fld ln_seg_1 (by assumption) fb_seg_1 rfl ?_ rfl
    intro p11 hp11
    refine t_ldi (by assumption) ab_int B rfl ?_ rfl
    refine t_lda (by assumption) ab_seg sb_seg B rfl ?_ rfl
    intro v13 hv13
    obtain ⟨v13_2, rfl, hv13_2⟩ := seg_va hv13
    refine t_move rfl ?_ rfl
    refine t_call Try.call135 rfl (spec_l9Seals _ _ _ _ (by first | assumption | exact VA.below (by assumption) B | exact seg_mkv (by first | assumption | exact SlR.below (by assumption) B)) (by omega) (by omega)) ?_ rfl rfl
    rintro e w15 ⟨v15, fpv15, rfl, hOv15, x16⟩
    refine ⟨_, rfl, x16, ?_⟩
    have S := S.add (o := slO _ _ _ _) x16 hOv15
    have B := bx Hb B x16
    refine t_calls Try.call134 rfl (spec_ChainAdd _ _ _ _ (S.sl) (by omega)) ?_ rfl rfl
    refine t_assign rfl ?_ rfl
    refine t_done' ?_
    refine x_seq ?_
    refine w_ret ?_
    refine x_ret1 rfl rfl ?_
    exact ⟨ret_int (by simp [segBeta, h1']), ext_trans X0 B⟩
theorem rev_snoc {l : List Hop} {i : Int} {x : Hop} (h0 : 0 ≤ i) (h : l[i.toNat]? = some x) : (l.drop (i - 1 + 1).toNat).reverse = (l.drop (i + 1).toNat).reverse ++ [x] := by
  have h2 := List.getElem?_eq_some_iff.1 h
  rw [show (i - 1 + 1).toNat = i.toNat by omega, show (i + 1).toNat = i.toNat + 1 by omega, List.drop_eq_getElem_cons h2.1, List.reverse_cons, h2.2]
def makePart (s : Seg) (kind i : Int) : Part := if inR i 0 ((s.hops.length : Int) - 1) && inR kind 1 4 then (if isRev kind then ⟨kind, s.ts, segBeta s s.hops.length, (s.hops.drop i.toNat).reverse⟩ else ⟨kind, s.ts, segBeta s i, s.hops.drop i.toNat⟩) else ⟨0, 0, 0, []⟩
theorem make_none {s : Seg} {kind i : Int} (h : (inR i 0 ((s.hops.length : Int) - 1) && inR kind 1 4) = false) : makePart s kind i = ⟨0, 0, 0, []⟩ := by unfold makePart; rw [h]; rfl
theorem make_rev {s : Seg} {kind i : Int} (h1 : inR i 0 ((s.hops.length : Int) - 1) = true) (h2 : inR kind 1 4 = true) (h3 : isRev kind = true) : makePart s kind i = ⟨kind, s.ts, segBeta s s.hops.length, (s.hops.drop i.toNat).reverse⟩ := by unfold makePart; rw [h1, h2, h3]; rfl
theorem make_fwd {s : Seg} {kind i : Int} (h1 : inR i 0 ((s.hops.length : Int) - 1) = true) (h2 : inR kind 1 4 = true) (h3 : isRev kind = false) : makePart s kind i = ⟨kind, s.ts, segBeta s i, s.hops.drop i.toNat⟩ := by unfold makePart; rw [h1, h2, h3]; rfl
theorem spec_MakePart (s : Seg) (v : Value) (kind i : Int) (w : World) (h : VA segT w v s) (hz : s.hops.length ≤ 1048576) : Calls Try.prog 97 #[v, I kind, I i] w fun e w' => ∃ cs fp, e = .returned (.agg cs.toArray) ∧ partT.O w.heap.size w' cs (makePart s kind i) fp ∧ Below w.heap.size w w' := by
  have hdl : (s.hops.drop i.toNat).length ≤ 1048576 := by rw [List.length_drop]; omega
  have X0 := Below.refl w.heap.size w
  refine enter Try.func97 rfl Try.ntmps97 rfl ?_
  refine w_seq ?_
  refine w_region ?_
  refine t_boxr (by assumption) rfl ?_ rfl rfl
  intro p3 w17 x18 hp3
  replace h := h.below x18
  have X0 := ext_trans X0 x18
  have S := Sep.nil w17
  have B := Below.refl w17.heap.size w17
  have Hb := Nat.le_refl w17.heap.size
  refine t_alloc S z_part rfl ?_ rfl rfl
  intro g6 w19 x20 S
  have B := bx Hb B x20
  refine t_done ?_
  refine x_seq ?_
  refine w_seq ?_
  refine w_seq ?_
  refine w_region ?_
  refine t_move rfl ?_ rfl
  refine t_fld ln_seg_2 (by assumption) fb_seg_2 rfl ?_ rfl
  intro p10 hp10
  refine t_lds (by assumption) ab_s_hop B rfl ?_ rfl
  intro v11 hv11
  refine t_len e_hop (by assumption) rfl rfl ?_ rfl
  refine t_sub rfl rfl (by omega) ?_ rfl
  refine t_calls Try.call54 rfl (spec_l1In _ _ _ _) ?_ rfl rfl
  refine t_notb rfl ?_ rfl
  refine t_move rfl ?_ rfl
  refine t_part (t := 16) rfl ?_ ?_
  · intro h1
    have h1' : inR i 0 ((s.hops.length : Int) - 1) = false := by simpa using h1
    rw [make_none (by rw [h1']; rfl)]
    refine t_off rfl rfl rfl ?_ rfl
    refine t_off rfl rfl rfl ?_ rfl
    refine t_off rfl rfl rfl ?_ rfl
    refine t_pickt rfl rfl ?_ rfl
    refine t_done ?_
    refine x_seq ?_
    refine w_yes rfl ?_
    refine w_seq ?_
    refine w_region ?_
    refine t_build (fun w => b_part0 w) rfl ?_ rfl
    refine t_stn S sb_part rfl rfl rfl rfl (by simp [Value.oneCell']) ?_
    intro w21 b22 S
    have B := B.trans b22
    refine t_done ?_
    refine x_seq ?_
    refine w_ret ?_
    refine x_then_ret ?_
    refine x_retc rfl rfl S.box ab_part sb_part rfl ?_
    have S := Sep.addNil (T := hopT) (e := 74) S
    have S := S.partShut (x := ⟨0, 0, 0, []⟩)
    obtain ⟨fp, hO⟩ := (S.mono X0.size).head
    exact ⟨_, fp, rfl, hO, ext_trans X0 B⟩
  intro h1
  have h1' : inR i 0 ((s.hops.length : Int) - 1) = true := by simpa using h1
  have r1 := inR_iff.1 h1'
  refine t_on rfl rfl ?_
  refine t_move rfl ?_ rfl
  refine t_on rfl rfl ?_
  refine t_calls Try.call54 rfl (spec_l1In _ _ _ _) ?_ rfl rfl
  refine t_on rfl rfl ?_
  refine t_notb rfl ?_ rfl
  refine t_pickf rfl rfl ?_ rfl
  refine t_done ?_
  refine x_seq ?_
  refine w_ifb rfl ?_ ?_
  · intro h2
    have h2' : inR kind 1 4 = false := by simpa using h2
    rw [make_none (by rw [h2']; simp)]
    refine w_seq ?_
    refine w_region ?_
    refine t_build (fun w => b_part0 w) rfl ?_ rfl
    refine t_stn S sb_part rfl rfl rfl rfl (by simp [Value.oneCell']) ?_
    intro w23 b24 S
    have B := B.trans b24
    refine t_done ?_
    refine x_seq ?_
    refine w_ret ?_
    refine x_then_ret ?_
    refine x_retc rfl rfl S.box ab_part sb_part rfl ?_
    have S := Sep.addNil (T := hopT) (e := 74) S
    have S := S.partShut (x := ⟨0, 0, 0, []⟩)
    obtain ⟨fp, hO⟩ := (S.mono X0.size).head
    exact ⟨_, fp, rfl, hO, ext_trans X0 B⟩
  intro h2
  have h2' : inR kind 1 4 = true := by simpa using h2
  refine w_skip ?_
  refine x_seq ?_
  refine w_seq ?_
  refine w_draw (.st .take 0 (.st .take 1 (.st .take 2 (.st .take 3 (.st .take 4 (.alt (.st .run 5 (.st .take 6 (.st .run 7 (.st .fin 8 .done)))) (.st .run 7 (.st .run 5 (.st .take 6 (.st .fin 8 .done)))))))))) mixed (by kernel_rfl) ?_
  intro w25 x26
  have B := bx Hb B x26
  have S := S.below x26
  refine t_move rfl ?_ rfl
  refine t_fld ln_seg_0 (by assumption) fb_seg_0 rfl ?_ rfl
  intro p23 hp23
  refine t_ldi (by assumption) ab_int B rfl ?_ rfl
  refine t_lda (by assumption) ab_seg sb_seg B rfl ?_ rfl
  intro v25 hv25
  obtain ⟨v25_2, rfl, hv25_2⟩ := seg_va hv25
  refine t_move rfl ?_ rfl
  refine t_alt ?_ ?_
  · refine t_callx Try.call125 rfl (spec_BetaAt _ _ _ _ (by first | assumption | exact VA.below (by assumption) B | exact seg_mkv (by first | assumption | exact SlR.below (by assumption) B)) (by omega)) ?_ rfl rfl
    intro w27 x28
    have B := bx Hb B x28
    have S := S.below x28
    refine t_build (fun w => b_part3 _ _ _ w) rfl ?_ rfl
    refine t_alloc S z_part rfl ?_ rfl rfl
    intro g7 w29 x30 S
    have B := bx Hb B x30
    refine t_stn S sb_part rfl rfl rfl rfl (by simp [Value.oneCell']) ?_
    intro w31 b32 S
    have B := B.trans b32
    refine t_done' ?_
    refine x_seq ?_
    refine w_seq ?_
    refine w_seq ?_
    refine w_region ?_
    refine t_move rfl ?_ rfl
    refine t_calls Try.call126 rfl (spec_IsReversed _ _) ?_ rfl rfl
    refine t_notb rfl ?_ rfl
    refine t_done ?_
    refine x_seq ?_
    refine w_ifb rfl ?_ ?_
    · intro h3
      rw [make_fwd h1' h2' (by simpa using h3)]
      refine w_seq ?_
      refine w_region ?_
      refine t_lit (T := hopT) (css := []) (l := []) hop_flat S bs_hop0 rfl rfl rfl rfl (Nat.zero_le _) litR_nil ?_ rfl rfl
      intro u32 w33 x34 S
      have B := bx Hb B x34
      refine t_fld ln_seg_2 (by assumption) fb_seg_2 rfl ?_ rfl
      intro p33 hp33
      refine t_lds (by assumption) ab_s_hop B rfl ?_ rfl
      intro v34 hv34
      refine t_move rfl ?_ rfl
      refine t_sld e_hop (k := (i.toNat)) (by assumption) rfl rfl (by first | rfl | omega) (by omega) ?_ rfl
      intro v36 hv36
      refine t_cat hop_flat e_hop S (by first | assumption | exact SlR.below (by assumption) B) rfl rfl rfl (by first | omega | (simp [-List.length_flatMap]; omega)) (by (simp [maxLen, -List.length_flatMap]; try omega)) ?_ rfl
      intro v37 w35 x36 S
      have B := B.trans x36
      refine t_fldx fb_part_3 rfl rfl ?_ rfl
      obtain ⟨Av37, cv37, rfl, _⟩ := S.sl.form
      have S := S.f1
      refine t_st1 S sb_s_hop rfl rfl rfl rfl rfl ?_
      intro w37 b38 S
      have B := B.trans b38
      refine t_done ?_
      refine x_seq ?_
      refine w_seq ?_
      refine w_region ?_
      refine t_bxn S.box ab_part sb_part rfl rfl ?_ rfl
      have S := S.f2
      refine t_stn S sb_part rfl rfl rfl rfl (by intro zz hu; have hu : zz ∈ ([I kind, I s.ts, I (segBeta s i), .slice Av37 (([]) ++ (s.hops.drop (i.toNat))).length cv37] : List Value) := hu; simp only [List.mem_cons, List.not_mem_nil, or_false] at hu; rcases hu with rfl | rfl | rfl | rfl <;> first | rfl | exact (SlR.cells (by first | assumption | exact S.tail.sl | exact S.tail.tail.sl | exact S.tail.tail.tail.sl | exact S.tail.tail.tail.tail.sl | exact S.tail.tail.tail.tail.tail.sl | exact S.tail.tail.tail.tail.tail.tail.sl | exact S.tail.tail.tail.tail.tail.tail.tail.sl | exact S.tail.tail.tail.tail.tail.tail.tail.tail.sl)).2) ?_
      intro w39 b40 S
      have B := B.trans b40
      refine t_done ?_
      refine x_seq ?_
      refine w_ret ?_
      refine x_then_ret ?_
      refine x_retc rfl rfl S.box ab_part sb_part rfl ?_
      have S := S.f2
      have S := S.partShut (x := ⟨kind, s.ts, segBeta s i, s.hops.drop i.toNat⟩)
      obtain ⟨fp, hO⟩ := (S.mono X0.size).head
      exact ⟨_, fp, rfl, hO, ext_trans X0 B⟩
    · intro h3
      rw [make_rev h1' h2' (by simpa using h3)]
      refine w_skip ?_
      refine x_seq ?_
      refine w_seq ?_
      refine w_region ?_
      refine t_lda (by assumption) ab_seg sb_seg B rfl ?_ rfl
      intro v40 hv40
      obtain ⟨v40_2, rfl, hv40_2⟩ := seg_va hv40
      refine t_fld ln_seg_2 (by assumption) fb_seg_2 rfl ?_ rfl
      intro p41 hp41
      refine t_lds (by assumption) ab_s_hop B rfl ?_ rfl
      intro v42 hv42
      refine t_len e_hop (by assumption) rfl rfl ?_ rfl
      refine t_callx Try.call125 rfl (spec_BetaAt _ _ _ _ (by first | assumption | exact VA.below (by assumption) B | exact seg_mkv (by first | assumption | exact SlR.below (by assumption) B)) (by omega)) ?_ rfl rfl
      intro w41 x42
      have B := bx Hb B x42
      have S := S.below x42
      refine t_fldx fb_part_2 rfl rfl ?_ rfl
      refine t_st1 S sb_int rfl rfl rfl rfl rfl ?_
      intro w43 b44 S
      have B := B.trans b44
      refine t_done ?_
      refine x_seq ?_
      refine w_seq ?_
      refine w_seq ?_
      refine w_region ?_
      refine t_fld ln_seg_2 (by assumption) fb_seg_2 rfl ?_ rfl
      intro p46 hp46
      refine t_lds (by assumption) ab_s_hop B rfl ?_ rfl
      intro v47 hv47
      refine t_len e_hop (by assumption) rfl rfl ?_ rfl
      refine t_sub rfl rfl (by omega) ?_ rfl
      refine t_assign rfl ?_ rfl
      refine t_done ?_
      refine x_seq ?_
      refine w_block ?_
      refine w_loop (X := Int × Value) (fun x wq => (fun j u => i - 1 ≤ j ∧ j ≤ (s.hops.length : Int) - 1 ∧ Below w17.heap.size w17 wq ∧ Sep w17.heap.size wq [bxO g7 71 #[I kind, I s.ts, I (segBeta s s.hops.length), u], slO hopT 74 u (s.hops.drop (j + 1).toNat).reverse, bxO g6 71 #[I 0, I 0, I 0, .slice none 0 0]]) x.1 x.2) (fun x => (fun j u => [(8, I j), (2, I i), (3, p3), (6, .pointer (some ⟨g6, 0, none⟩)), (7, .pointer (some ⟨g7, 0, none⟩))]) x.1 x.2) (fun x => (fun j u => (j + 1 - i).toNat) x.1 x.2) ((s.hops.length : Int) - 1, .slice none 0 0) ?_ ⟨rfl, rfl, rfl, rfl, rfl, trivial⟩ ?_
      · refine ⟨by show i - 1 ≤ (s.hops.length : Int) - 1; omega, by show (s.hops.length : Int) - 1 ≤ _; omega, B, ?_⟩
        show Sep _ _ [_, slO hopT _ _ (s.hops.drop ((s.hops.length : Int) - 1 + 1).toNat).reverse, _]
        rw [List.drop_of_length_le (by omega)]
        exact S.addNil.f1
      · rintro ⟨j, u⟩ w45 hI
        try dsimp only at hI ⊢
        obtain ⟨hk, hk2, B, S⟩ := hI
        have hml : (s.hops.drop (j + 1).toNat).reverse.length ≤ 1048576 := by rw [List.length_reverse, List.length_drop]; omega
        refine w_seq ?_
        refine w_seq ?_
        refine w_region ?_
        refine t_move rfl ?_ rfl
        refine t_move rfl ?_ rfl
        refine t_geq rfl rfl ?_ rfl
        refine t_done ?_
        refine x_seq ?_
        refine w_if rfl ?_ ?_
        · intro hlt
          refine w_skip ?_
          refine x_seq ?_
          refine w_seq ?_
          refine w_block ?_
          refine w_draw (.st .take 0 (.st .take 1 (.st .take 2 (.st .take 3 (.st .take 4 (.st .take 5 (.st .take 6 (.st .run 7 (.st .fin 8 (.st .fin 9 (.st .fin 10 .done))))))))))) mixed (by kernel_rfl) ?_
          intro w46 x47
          have B := bx Hb B x47
          have S := S.below x47
          refine t_fldx fb_part_3 rfl rfl ?_ rfl
          refine t_bx1 S.box ab_s_hop rfl rfl ?_ rfl
          refine t_fld ln_seg_2 (by assumption) fb_seg_2 rfl ?_ rfl
          intro p57 hp57
          refine t_lds (by assumption) ab_s_hop B rfl ?_ rfl
          intro v58 hv58
          refine t_move rfl ?_ rfl
          obtain ⟨e60, he60⟩ : ∃ e, (s.hops)[(j.toNat)]? = some e := getx (by omega)
          refine t_idx e_hop (k := (j.toNat)) (by assumption) he60 B rfl rfl (by first | rfl | omega) ?_ rfl
          intro p60 hp60
          refine t_lda (by assumption) ab_hop sb_hop B rfl ?_ rfl
          intro v61 hv61
          obtain rfl := hop_va hv61
          refine t_lit (T := hopT) (l := [(e60 : Hop)]) (css := [[I e60.ia, I e60.ing, I e60.eg, I e60.exp, I e60.mac]]) hop_flat S (fun w => bs_hop1 _ _ _ _ _ w) rfl rfl rfl rfl (by simp [maxLen]) (litR_one fun _ => rfl) ?_ rfl rfl
          intro u62 w48 x49 S
          have B := bx Hb B x49
          have hR := S.sl
          have S := S.f2
          refine t_cat hop_flat e_hop S hR rfl rfl rfl (by first | omega | (simp [-List.length_flatMap]; omega)) (by (simp [maxLen, -List.length_flatMap]; try omega)) ?_ rfl
          intro v63 w50 x51 S
          have B := B.trans x51
          clear hR
          have S := S.f1
          have S := S.tail
          refine t_fldx fb_part_3 rfl rfl ?_ rfl
          obtain ⟨Av63, cv63, rfl, _⟩ := S.sl.form
          have S := S.f1
          refine t_st1 S sb_s_hop rfl rfl rfl rfl rfl ?_
          intro w52 b53 S
          have B := B.trans b53
          refine t_done' ?_
          refine x_block_normal ?_
          refine x_seq ?_
          refine w_region ?_
          refine t_move rfl ?_ rfl
          refine t_sub rfl rfl (by omega) ?_ rfl
          refine t_assign rfl ?_ rfl
          refine t_done ?_
          refine x_round (X := Int × Value) (I := (fun x wq => (fun j u => i - 1 ≤ j ∧ j ≤ (s.hops.length : Int) - 1 ∧ Below w17.heap.size w17 wq ∧ Sep w17.heap.size wq [bxO g7 71 #[I kind, I s.ts, I (segBeta s s.hops.length), u], slO hopT 74 u (s.hops.drop (j + 1).toNat).reverse, bxO g6 71 #[I 0, I 0, I 0, .slice none 0 0]]) x.1 x.2)) (F := (fun x => (fun j u => [(8, I j), (2, I i), (3, p3), (6, .pointer (some ⟨g6, 0, none⟩)), (7, .pointer (some ⟨g7, 0, none⟩))]) x.1 x.2)) (μ := (fun x => (fun j u => (j + 1 - i).toNat) x.1 x.2)) (j - 1, .slice Av63 (((s.hops.drop (j + 1).toNat).reverse) ++ ([(e60 : Hop)])).length cv63) ?_ (by exact ⟨rfl, rfl, rfl, rfl, rfl, trivial⟩) (by (try dsimp only); omega)
          try dsimp only
          refine ⟨by omega, by omega, B, ?_⟩
          rw [rev_snoc (by omega) he60]
          exact S
        · intro hge
          have hj : j + 1 = i := by omega
          rw [hj] at S
          refine w_exit ?_
          refine x_then_exit ?_
          refine x_then_exit ?_
          refine x_block_exit ?_
          refine x_seq ?_
          refine w_seq ?_
          refine w_region ?_
          refine t_bxn S.box ab_part sb_part rfl rfl ?_ rfl
          have S := S.f2
          refine t_stn S sb_part rfl rfl rfl rfl (by intro zz hu; have hu : zz ∈ ([I kind, I s.ts, I ((segBeta s s.hops.length)), u] : List Value) := hu; simp only [List.mem_cons, List.not_mem_nil, or_false] at hu; rcases hu with rfl | rfl | rfl | rfl <;> first | rfl | exact (SlR.cells (by first | assumption | exact S.tail.sl | exact S.tail.tail.sl | exact S.tail.tail.tail.sl | exact S.tail.tail.tail.tail.sl | exact S.tail.tail.tail.tail.tail.sl | exact S.tail.tail.tail.tail.tail.tail.sl | exact S.tail.tail.tail.tail.tail.tail.tail.sl | exact S.tail.tail.tail.tail.tail.tail.tail.tail.sl)).2) ?_
          intro w54 b55 S
          have B := B.trans b55
          refine t_done ?_
          refine x_seq ?_
          refine w_ret ?_
          refine x_retc rfl rfl S.box ab_part sb_part rfl ?_
          have S := S.f2
          have S := S.partShut (x := ⟨kind, s.ts, segBeta s s.hops.length, (s.hops.drop i.toNat).reverse⟩)
          obtain ⟨fp, hO⟩ := (S.mono X0.size).head
          exact ⟨_, fp, rfl, hO, ext_trans X0 B⟩
  · refine t_alloc S z_part rfl ?_ rfl rfl
    intro g7 w56 x57 S
    have B := bx Hb B x57
    refine t_callx Try.call125 rfl (spec_BetaAt _ _ _ _ (by first | assumption | exact VA.below (by assumption) B | exact seg_mkv (by first | assumption | exact SlR.below (by assumption) B)) (by omega)) ?_ rfl rfl
    intro w58 x59
    have B := bx Hb B x59
    have S := S.below x59
    refine t_build (fun w => b_part3 _ _ _ w) rfl ?_ rfl
    refine t_stn S sb_part rfl rfl rfl rfl (by simp [Value.oneCell']) ?_
    intro w60 b61 S
    have B := B.trans b61
    refine t_done' ?_
    refine x_seq ?_
    refine w_seq ?_
    refine w_seq ?_
    refine w_region ?_
    refine t_move rfl ?_ rfl
    refine t_calls Try.call126 rfl (spec_IsReversed _ _) ?_ rfl rfl
    refine t_notb rfl ?_ rfl
    refine t_done ?_
    refine x_seq ?_
    refine w_ifb rfl ?_ ?_
    · intro h3
      rw [make_fwd h1' h2' (by simpa using h3)]
      refine w_seq ?_
      refine w_region ?_
      refine t_lit (T := hopT) (css := []) (l := []) hop_flat S bs_hop0 rfl rfl rfl rfl (Nat.zero_le _) litR_nil ?_ rfl rfl
      intro u32 w62 x63 S
      have B := bx Hb B x63
      refine t_fld ln_seg_2 (by assumption) fb_seg_2 rfl ?_ rfl
      intro p33 hp33
      refine t_lds (by assumption) ab_s_hop B rfl ?_ rfl
      intro v34 hv34
      refine t_move rfl ?_ rfl
      refine t_sld e_hop (k := (i.toNat)) (by assumption) rfl rfl (by first | rfl | omega) (by omega) ?_ rfl
      intro v36 hv36
      refine t_cat hop_flat e_hop S (by first | assumption | exact SlR.below (by assumption) B) rfl rfl rfl (by first | omega | (simp [-List.length_flatMap]; omega)) (by (simp [maxLen, -List.length_flatMap]; try omega)) ?_ rfl
      intro v37 w64 x65 S
      have B := B.trans x65
      refine t_fldx fb_part_3 rfl rfl ?_ rfl
      obtain ⟨Av37, cv37, rfl, _⟩ := S.sl.form
      have S := S.f1
      refine t_st1 S sb_s_hop rfl rfl rfl rfl rfl ?_
      intro w66 b67 S
      have B := B.trans b67
      refine t_done ?_
      refine x_seq ?_
      refine w_seq ?_
      refine w_region ?_
      refine t_bxn S.box ab_part sb_part rfl rfl ?_ rfl
      have S := S.f2
      refine t_stn S sb_part rfl rfl rfl rfl (by intro zz hu; have hu : zz ∈ ([I kind, I s.ts, I (segBeta s i), .slice Av37 (([]) ++ (s.hops.drop (i.toNat))).length cv37] : List Value) := hu; simp only [List.mem_cons, List.not_mem_nil, or_false] at hu; rcases hu with rfl | rfl | rfl | rfl <;> first | rfl | exact (SlR.cells (by first | assumption | exact S.tail.sl | exact S.tail.tail.sl | exact S.tail.tail.tail.sl | exact S.tail.tail.tail.tail.sl | exact S.tail.tail.tail.tail.tail.sl | exact S.tail.tail.tail.tail.tail.tail.sl | exact S.tail.tail.tail.tail.tail.tail.tail.sl | exact S.tail.tail.tail.tail.tail.tail.tail.tail.sl)).2) ?_
      intro w68 b69 S
      have B := B.trans b69
      refine t_done ?_
      refine x_seq ?_
      refine w_ret ?_
      refine x_then_ret ?_
      refine x_retc rfl rfl S.box ab_part sb_part rfl ?_
      have S := S.f2
      have S := S.partShut (x := ⟨kind, s.ts, segBeta s i, s.hops.drop i.toNat⟩)
      obtain ⟨fp, hO⟩ := (S.mono X0.size).head
      exact ⟨_, fp, rfl, hO, ext_trans X0 B⟩
    · intro h3
      rw [make_rev h1' h2' (by simpa using h3)]
      refine w_skip ?_
      refine x_seq ?_
      refine w_seq ?_
      refine w_region ?_
      refine t_lda (by assumption) ab_seg sb_seg B rfl ?_ rfl
      intro v40 hv40
      obtain ⟨v40_2, rfl, hv40_2⟩ := seg_va hv40
      refine t_fld ln_seg_2 (by assumption) fb_seg_2 rfl ?_ rfl
      intro p41 hp41
      refine t_lds (by assumption) ab_s_hop B rfl ?_ rfl
      intro v42 hv42
      refine t_len e_hop (by assumption) rfl rfl ?_ rfl
      refine t_callx Try.call125 rfl (spec_BetaAt _ _ _ _ (by first | assumption | exact VA.below (by assumption) B | exact seg_mkv (by first | assumption | exact SlR.below (by assumption) B)) (by omega)) ?_ rfl rfl
      intro w70 x71
      have B := bx Hb B x71
      have S := S.below x71
      refine t_fldx fb_part_2 rfl rfl ?_ rfl
      refine t_st1 S sb_int rfl rfl rfl rfl rfl ?_
      intro w72 b73 S
      have B := B.trans b73
      refine t_done ?_
      refine x_seq ?_
      refine w_seq ?_
      refine w_seq ?_
      refine w_region ?_
      refine t_fld ln_seg_2 (by assumption) fb_seg_2 rfl ?_ rfl
      intro p46 hp46
      refine t_lds (by assumption) ab_s_hop B rfl ?_ rfl
      intro v47 hv47
      refine t_len e_hop (by assumption) rfl rfl ?_ rfl
      refine t_sub rfl rfl (by omega) ?_ rfl
      refine t_assign rfl ?_ rfl
      refine t_done ?_
      refine x_seq ?_
      refine w_block ?_
      refine w_loop (X := Int × Value) (fun x wq => (fun j u => i - 1 ≤ j ∧ j ≤ (s.hops.length : Int) - 1 ∧ Below w17.heap.size w17 wq ∧ Sep w17.heap.size wq [bxO g7 71 #[I kind, I s.ts, I (segBeta s s.hops.length), u], slO hopT 74 u (s.hops.drop (j + 1).toNat).reverse, bxO g6 71 #[I 0, I 0, I 0, .slice none 0 0]]) x.1 x.2) (fun x => (fun j u => [(8, I j), (2, I i), (3, p3), (6, .pointer (some ⟨g6, 0, none⟩)), (7, .pointer (some ⟨g7, 0, none⟩))]) x.1 x.2) (fun x => (fun j u => (j + 1 - i).toNat) x.1 x.2) ((s.hops.length : Int) - 1, .slice none 0 0) ?_ ⟨rfl, rfl, rfl, rfl, rfl, trivial⟩ ?_
      · refine ⟨by show i - 1 ≤ (s.hops.length : Int) - 1; omega, by show (s.hops.length : Int) - 1 ≤ _; omega, B, ?_⟩
        show Sep _ _ [_, slO hopT _ _ (s.hops.drop ((s.hops.length : Int) - 1 + 1).toNat).reverse, _]
        rw [List.drop_of_length_le (by omega)]
        exact S.addNil.f1
      · rintro ⟨j, u⟩ w74 hI
        try dsimp only at hI ⊢
        obtain ⟨hk, hk2, B, S⟩ := hI
        have hml : (s.hops.drop (j + 1).toNat).reverse.length ≤ 1048576 := by rw [List.length_reverse, List.length_drop]; omega
        refine w_seq ?_
        refine w_seq ?_
        refine w_region ?_
        refine t_move rfl ?_ rfl
        refine t_move rfl ?_ rfl
        refine t_geq rfl rfl ?_ rfl
        refine t_done ?_
        refine x_seq ?_
        refine w_if rfl ?_ ?_
        · intro hlt
          refine w_skip ?_
          refine x_seq ?_
          refine w_seq ?_
          refine w_block ?_
          refine w_draw (.st .take 0 (.st .take 1 (.st .take 2 (.st .take 3 (.st .take 4 (.st .take 5 (.st .take 6 (.st .run 7 (.st .fin 8 (.st .fin 9 (.st .fin 10 .done))))))))))) mixed (by kernel_rfl) ?_
          intro w75 x76
          have B := bx Hb B x76
          have S := S.below x76
          refine t_fldx fb_part_3 rfl rfl ?_ rfl
          refine t_bx1 S.box ab_s_hop rfl rfl ?_ rfl
          refine t_fld ln_seg_2 (by assumption) fb_seg_2 rfl ?_ rfl
          intro p57 hp57
          refine t_lds (by assumption) ab_s_hop B rfl ?_ rfl
          intro v58 hv58
          refine t_move rfl ?_ rfl
          obtain ⟨e60, he60⟩ : ∃ e, (s.hops)[(j.toNat)]? = some e := getx (by omega)
          refine t_idx e_hop (k := (j.toNat)) (by assumption) he60 B rfl rfl (by first | rfl | omega) ?_ rfl
          intro p60 hp60
          refine t_lda (by assumption) ab_hop sb_hop B rfl ?_ rfl
          intro v61 hv61
          obtain rfl := hop_va hv61
          refine t_lit (T := hopT) (l := [(e60 : Hop)]) (css := [[I e60.ia, I e60.ing, I e60.eg, I e60.exp, I e60.mac]]) hop_flat S (fun w => bs_hop1 _ _ _ _ _ w) rfl rfl rfl rfl (by simp [maxLen]) (litR_one fun _ => rfl) ?_ rfl rfl
          intro u62 w77 x78 S
          have B := bx Hb B x78
          have hR := S.sl
          have S := S.f2
          refine t_cat hop_flat e_hop S hR rfl rfl rfl (by first | omega | (simp [-List.length_flatMap]; omega)) (by (simp [maxLen, -List.length_flatMap]; try omega)) ?_ rfl
          intro v63 w79 x80 S
          have B := B.trans x80
          clear hR
          have S := S.f1
          have S := S.tail
          refine t_fldx fb_part_3 rfl rfl ?_ rfl
          obtain ⟨Av63, cv63, rfl, _⟩ := S.sl.form
          have S := S.f1
          refine t_st1 S sb_s_hop rfl rfl rfl rfl rfl ?_
          intro w81 b82 S
          have B := B.trans b82
          refine t_done' ?_
          refine x_block_normal ?_
          refine x_seq ?_
          refine w_region ?_
          refine t_move rfl ?_ rfl
          refine t_sub rfl rfl (by omega) ?_ rfl
          refine t_assign rfl ?_ rfl
          refine t_done ?_
          refine x_round (X := Int × Value) (I := (fun x wq => (fun j u => i - 1 ≤ j ∧ j ≤ (s.hops.length : Int) - 1 ∧ Below w17.heap.size w17 wq ∧ Sep w17.heap.size wq [bxO g7 71 #[I kind, I s.ts, I (segBeta s s.hops.length), u], slO hopT 74 u (s.hops.drop (j + 1).toNat).reverse, bxO g6 71 #[I 0, I 0, I 0, .slice none 0 0]]) x.1 x.2)) (F := (fun x => (fun j u => [(8, I j), (2, I i), (3, p3), (6, .pointer (some ⟨g6, 0, none⟩)), (7, .pointer (some ⟨g7, 0, none⟩))]) x.1 x.2)) (μ := (fun x => (fun j u => (j + 1 - i).toNat) x.1 x.2)) (j - 1, .slice Av63 (((s.hops.drop (j + 1).toNat).reverse) ++ ([(e60 : Hop)])).length cv63) ?_ (by exact ⟨rfl, rfl, rfl, rfl, rfl, trivial⟩) (by (try dsimp only); omega)
          try dsimp only
          refine ⟨by omega, by omega, B, ?_⟩
          rw [rev_snoc (by omega) he60]
          exact S
        · intro hge
          have hj : j + 1 = i := by omega
          rw [hj] at S
          refine w_exit ?_
          refine x_then_exit ?_
          refine x_then_exit ?_
          refine x_block_exit ?_
          refine x_seq ?_
          refine w_seq ?_
          refine w_region ?_
          refine t_bxn S.box ab_part sb_part rfl rfl ?_ rfl
          have S := S.f2
          refine t_stn S sb_part rfl rfl rfl rfl (by intro zz hu; have hu : zz ∈ ([I kind, I s.ts, I ((segBeta s s.hops.length)), u] : List Value) := hu; simp only [List.mem_cons, List.not_mem_nil, or_false] at hu; rcases hu with rfl | rfl | rfl | rfl <;> first | rfl | exact (SlR.cells (by first | assumption | exact S.tail.sl | exact S.tail.tail.sl | exact S.tail.tail.tail.sl | exact S.tail.tail.tail.tail.sl | exact S.tail.tail.tail.tail.tail.sl | exact S.tail.tail.tail.tail.tail.tail.sl | exact S.tail.tail.tail.tail.tail.tail.tail.sl | exact S.tail.tail.tail.tail.tail.tail.tail.tail.sl)).2) ?_
          intro w83 b84 S
          have B := B.trans b84
          refine t_done ?_
          refine x_seq ?_
          refine w_ret ?_
          refine x_retc rfl rfl S.box ab_part sb_part rfl ?_
          have S := S.f2
          have S := S.partShut (x := ⟨kind, s.ts, segBeta s s.hops.length, (s.hops.drop i.toNat).reverse⟩)
          obtain ⟨fp, hO⟩ := (S.mono X0.size).head
          exact ⟨_, fp, rfl, hO, ext_trans X0 B⟩
end Go.Proofs.Ytdaecknfahgddaa
namespace Go.Proofs.Ytdaecknfahgddaa
open Go.RowKit
set_option linter.unusedVariables false
set_option maxRecDepth 20000
/-- The last place below n where the AS is r. -/
def lastI (l : List Hop) (r : Int) : Nat → Int
  | 0 => -1
  | n + 1 => match l[n]? with
    | some x => if x.ia = r then (n : Int) else lastI l r n
    | none => lastI l r n
theorem lastI_yes {l : List Hop} {r : Int} {i : Int} {x : Hop} (h0 : 0 ≤ i) (h : l[i.toNat]? = some x) (e : x.ia = r) : lastI l r (i + 1).toNat = i := by
  rw [show (i + 1).toNat = i.toNat + 1 by omega, lastI, h]
  simp only [e, if_true]
  omega
theorem lastI_no {l : List Hop} {r : Int} {i : Int} {x : Hop} (h0 : 0 ≤ i) (h : l[i.toNat]? = some x) (e : x.ia ≠ r) : lastI l r (i + 1).toNat = lastI l r (i - 1 + 1).toNat := by
  rw [show (i + 1).toNat = i.toNat + 1 by omega, show (i - 1 + 1).toNat = i.toNat by omega, lastI, h]
  simp only [e, if_false]
theorem spec_SegmentASes (p : Seg) (v : Value) (w : World) (h : VA segT w v p) (hz : p.hops.length ≤ 1048576) : Calls Try.prog 123 #[v] w fun e w' => ∃ v fp, e = .returned v ∧ SlO intT 3 w.heap.size w' v (p.hops.map Hop.ia) fp ∧ Below w.heap.size w w' := by
  have X0 := Below.refl w.heap.size w
  refine enter Try.func123 rfl Try.ntmps123 rfl ?_
  refine w_seq ?_
  refine w_region ?_
  refine t_boxr (by assumption) rfl ?_ rfl rfl
  intro p1 w1 x2 hp1
  replace h := h.below x2
  have X0 := ext_trans X0 x2
  have S := Sep.nil w1
  have B := Below.refl w1.heap.size w1
  have Hb := Nat.le_refl w1.heap.size
  refine t_assign rfl ?_ rfl
  refine t_done ?_
  refine x_seq ?_
  refine w_seq ?_
  refine w_region ?_
  refine t_lit (T := intT) (css := []) (l := []) int_flat S bs_int0 rfl rfl rfl rfl (Nat.zero_le _) litR_nil ?_ rfl rfl
  intro u5 w3 x4 S
  have B := bx Hb B x4
  refine t_assign rfl ?_ rfl
  refine t_done ?_
  refine x_seq ?_
  refine w_seq ?_
  refine w_seq ?_
  refine w_region ?_
  refine t_assign rfl ?_ rfl
  refine t_done ?_
  refine x_seq ?_
  refine w_block ?_
  refine w_loop (X := Nat × Value) (fun x wq => (fun k v => k ≤ p.hops.length ∧ Below w1.heap.size w1 wq ∧ Sep w1.heap.size wq [slO intT 3 v ((p.hops.take k).map Hop.ia)]) x.1 x.2) (fun x => (fun k v => [(4, I ((k : Int))), (3, v), (1, p1), (2, .slice none 0 0)]) x.1 x.2) (fun x => (fun k v => p.hops.length - k) x.1 x.2) (0, u5) ?_ ⟨rfl, rfl, rfl, rfl, trivial⟩ ?_
  · exact ⟨by omega, B, S⟩
  · rintro ⟨k, v⟩ w5 hI
    try dsimp only at hI ⊢
    obtain ⟨hk, B, S⟩ := hI
    have hml : ((p.hops.take k).map Hop.ia).length = k := by rw [List.length_map, List.length_take]; omega
    refine w_seq ?_
    refine w_seq ?_
    refine w_region ?_
    refine t_move rfl ?_ rfl
    refine t_fld ln_seg_2 (by assumption) fb_seg_2 rfl ?_ rfl
    intro p7 hp7
    refine t_lds (by assumption) ab_s_hop B rfl ?_ rfl
    intro v8 hv8
    refine t_len e_hop (by assumption) rfl rfl ?_ rfl
    refine t_lss rfl rfl ?_ rfl
    refine t_done ?_
    refine x_seq ?_
    refine w_if rfl ?_ ?_
    · intro hlt
      refine w_skip ?_
      refine x_seq ?_
      refine w_seq ?_
      refine w_block ?_
      refine w_region ?_
      refine t_move rfl ?_ rfl
      refine t_fld ln_seg_2 (by assumption) fb_seg_2 rfl ?_ rfl
      intro p14 hp14
      refine t_lds (by assumption) ab_s_hop B rfl ?_ rfl
      intro v15 hv15
      refine t_move rfl ?_ rfl
      obtain ⟨e17, he17⟩ : ∃ e, (p.hops)[k]? = some e := getx (by omega)
      refine t_idx e_hop (k := k) (by assumption) he17 B rfl rfl (by first | rfl | omega) ?_ rfl
      intro p17 hp17
      refine t_fld ln_hop_0 (by assumption) fb_hop_0 rfl ?_ rfl
      intro p18 hp18
      refine t_ldi (by assumption) ab_int B rfl ?_ rfl
      refine t_lit (T := intT) (l := [e17.ia]) (css := ([e17.ia]).map fun a => [I a]) int_flat S (fun w => bs_int1 _ w) rfl rfl rfl rfl (by simp [maxLen]) (litR_int _) ?_ rfl rfl
      intro u20 w6 x7 S
      have B := bx Hb B x7
      have hR := S.sl
      have S := S.f1
      refine t_cat int_flat e_int S hR rfl rfl rfl (by first | omega | (simp [-List.length_flatMap]; omega)) (by (simp [maxLen, -List.length_flatMap]; try omega)) ?_ rfl
      intro v21 w8 x9 S
      have B := B.trans x9
      clear hR
      have S := S.f1
      have S := S.tail
      refine t_assign rfl ?_ rfl
      refine t_done ?_
      refine x_block_normal ?_
      refine x_seq ?_
      refine w_region ?_
      refine t_move rfl ?_ rfl
      refine t_add rfl rfl (by omega) ?_ rfl
      refine t_assign rfl ?_ rfl
      refine t_done ?_
      refine x_round (X := Nat × Value) (I := (fun x wq => (fun k v => k ≤ p.hops.length ∧ Below w1.heap.size w1 wq ∧ Sep w1.heap.size wq [slO intT 3 v ((p.hops.take k).map Hop.ia)]) x.1 x.2)) (F := (fun x => (fun k v => [(4, I ((k : Int))), (3, v), (1, p1), (2, .slice none 0 0)]) x.1 x.2)) (μ := (fun x => (fun k v => p.hops.length - k) x.1 x.2)) (k + 1, v21) ?_ (by exact ⟨rfl, rfl, rfl, rfl, trivial⟩) (by (try dsimp only); omega)
      try dsimp only
      refine ⟨by omega, B, ?_⟩
      rw [take_succ he17, List.map_append]
      exact S
    · intro hge
      refine w_exit ?_
      refine x_then_exit ?_
      refine x_then_exit ?_
      refine x_block_exit ?_
      refine x_seq ?_
      refine w_seq ?_
      refine w_region ?_
      refine t_move rfl ?_ rfl
      refine t_assign rfl ?_ rfl
      refine t_done ?_
      refine x_seq ?_
      refine w_ret ?_
      refine x_ret1 rfl rfl ?_
      have : k = p.hops.length := by omega
      subst this
      rw [List.take_length] at S
      obtain ⟨fp, hO⟩ := (S.mono X0.size).head
      exact ⟨_, fp, rfl, hO, ext_trans X0 B⟩
def meet (up down : Seg) : Nat → Path
  | 0 => []
  | n + 1 => match up.hops[n]? with
    | none => []
    | some x => if 0 ≤ lastI down.hops x.ia down.hops.length then [makePart up 1 n, makePart down 4 (lastI down.hops x.ia down.hops.length)] else meet up down n
def joinUD (up down : Seg) : Path := meet up down up.hops.length
theorem meet_yes {up down : Seg} {i : Int} {x : Hop} (h0 : 0 ≤ i) (h : up.hops[i.toNat]? = some x) (e : 0 ≤ lastI down.hops x.ia down.hops.length) : meet up down (i + 1).toNat = [makePart up 1 i, makePart down 4 (lastI down.hops x.ia down.hops.length)] := by
  rw [show (i + 1).toNat = i.toNat + 1 by omega, meet, h]
  simp only [e, if_true]
  rw [show (i.toNat : Int) = i by omega]
theorem meet_no {up down : Seg} {i : Int} {x : Hop} (h0 : 0 ≤ i) (h : up.hops[i.toNat]? = some x) (e : ¬ 0 ≤ lastI down.hops x.ia down.hops.length) : meet up down (i + 1).toNat = meet up down (i - 1 + 1).toNat := by
  rw [show (i + 1).toNat = i.toNat + 1 by omega, show (i - 1 + 1).toNat = i.toNat by omega, meet, h]
  simp only [e, if_false]
theorem spec_l22Meet (s t : Seg) (v u : Value) (w : World) (h : VA segT w v s) (h' : VA segT w u t) (hz : s.hops.length ≤ 1048576) (hz' : t.hops.length ≤ 1048576) : Calls Try.prog 96 #[v, u] w fun e w' => ∃ cs fp, e = .returned (.agg cs.toArray) ∧ pathT.O w.heap.size w' cs (joinUD s t) fp ∧ Below w.heap.size w w' := by
  have hml : (s.hops.map Hop.ia).length = s.hops.length := List.length_map ..
  have hml2 : (t.hops.map Hop.ia).length = t.hops.length := List.length_map ..
  have X0 := Below.refl w.heap.size w
  refine enter Try.func96 rfl Try.ntmps96 rfl ?_
  refine w_seq ?_
  refine w_region ?_
  refine t_boxr (by assumption) rfl ?_ rfl rfl
  intro p2 w10 x11 hp2
  replace h := h.below x11
  replace h' := h'.below x11
  have X0 := ext_trans X0 x11
  refine t_boxr (by assumption) rfl ?_ rfl rfl
  intro p3 w12 x13 hp3
  replace h := h.below x13
  replace h' := h'.below x13
  replace hp2 := hp2.below x13
  have X0 := ext_trans X0 x13
  have S := Sep.nil w12
  have B := Below.refl w12.heap.size w12
  have Hb := Nat.le_refl w12.heap.size
  refine t_alloc S z_path rfl ?_ rfl rfl
  intro g4 w14 x15 S
  have B := bx Hb B x15
  refine t_done ?_
  refine x_seq ?_
  refine w_seq ?_
  refine w_region ?_
  refine t_lda (by assumption) ab_seg sb_seg B rfl ?_ rfl
  intro v9 hv9
  obtain ⟨v9_2, rfl, hv9_2⟩ := seg_va hv9
  refine t_call Try.call123 rfl (spec_SegmentASes _ _ _ (by first | assumption | exact VA.below (by assumption) B | exact seg_mkv (by first | assumption | exact SlR.below (by assumption) B)) (by omega)) ?_ rfl rfl
  rintro e w16 ⟨v10, fpv10, rfl, hOv10, x17⟩
  refine ⟨_, rfl, x17, ?_⟩
  have S := S.add (o := slO _ _ _ _) x17 hOv10
  have B := bx Hb B x17
  refine t_assign rfl ?_ rfl
  refine t_done ?_
  refine x_seq ?_
  refine w_seq ?_
  refine w_region ?_
  refine t_lda (by assumption) ab_seg sb_seg B rfl ?_ rfl
  intro v11 hv11
  obtain ⟨v11_2, rfl, hv11_2⟩ := seg_va hv11
  refine t_call Try.call123 rfl (spec_SegmentASes _ _ _ (by first | assumption | exact VA.below (by assumption) B | exact seg_mkv (by first | assumption | exact SlR.below (by assumption) B)) (by omega)) ?_ rfl rfl
  rintro e w18 ⟨v12, fpv12, rfl, hOv12, x19⟩
  refine ⟨_, rfl, x19, ?_⟩
  have S := S.add (o := slO _ _ _ _) x19 hOv12
  have B := bx Hb B x19
  refine t_assign rfl ?_ rfl
  refine t_done ?_
  refine x_seq ?_
  refine w_seq ?_
  refine w_seq ?_
  refine w_region ?_
  refine t_move rfl ?_ rfl
  refine t_len e_int (S.tail.sl) rfl rfl ?_ rfl
  refine t_sub rfl rfl (by omega) ?_ rfl
  refine t_assign rfl ?_ rfl
  refine t_done ?_
  refine x_seq ?_
  refine w_block ?_
  refine w_loop (X := Int) (fun i wq => -1 ≤ i ∧ i ≤ (s.hops.length : Int) - 1 ∧ meet s t (i + 1).toNat = joinUD s t ∧ Below w12.heap.size w12 wq ∧ Sep w12.heap.size wq [bxO g4 30 #[.slice none 0 0], slO intT 3 v10 (s.hops.map Hop.ia), slO intT 3 v12 (t.hops.map Hop.ia)]) (fun i => [(7, I i), (2, p2), (3, p3), (4, .pointer (some ⟨g4, 0, none⟩)), (5, v10), (6, v12)]) (fun i => (i + 1).toNat) (((s.hops.map Hop.ia).length : Int) - 1) ?_ ⟨rfl, rfl, rfl, rfl, rfl, rfl, trivial⟩ ?_
  · exact ⟨by omega, by omega, by rw [show (((s.hops.map Hop.ia).length : Int) - 1 + 1).toNat = s.hops.length by omega]; rfl, B, S.f1.f2⟩
  · rintro i w20 hI
    try dsimp only at hI ⊢
    obtain ⟨hk, hk2, hl, B, S⟩ := hI
    refine w_seq ?_
    refine w_seq ?_
    refine w_region ?_
    refine t_move rfl ?_ rfl
    refine t_geq rfl rfl ?_ rfl
    refine t_done ?_
    refine x_seq ?_
    refine w_if rfl ?_ ?_
    · intro hlt
      obtain ⟨x, hx⟩ : ∃ e, s.hops[i.toNat]? = some e := getx (by omega)
      have hxm : (s.hops.map Hop.ia)[i.toNat]? = some x.ia := by rw [List.getElem?_map, hx]; rfl
      refine w_skip ?_
      refine x_seq ?_
      refine w_seq ?_
      refine w_block ?_
      refine w_seq ?_
      refine w_region ?_
      refine t_move rfl ?_ rfl
      refine t_len e_int (S.tail.tail.sl) rfl rfl ?_ rfl
      refine t_sub rfl rfl (by omega) ?_ rfl
      refine t_assign rfl ?_ rfl
      refine t_done ?_
      refine x_seq ?_
      refine w_block ?_
      refine w_loop (X := Int) (fun k wq => -1 ≤ k ∧ k ≤ (t.hops.length : Int) - 1 ∧ lastI t.hops x.ia (k + 1).toNat = lastI t.hops x.ia t.hops.length ∧ Below w12.heap.size w12 wq ∧ Sep w12.heap.size wq [bxO g4 30 #[.slice none 0 0], slO intT 3 v10 (s.hops.map Hop.ia), slO intT 3 v12 (t.hops.map Hop.ia)]) (fun k => [(8, I k), (7, I i), (2, p2), (3, p3), (4, .pointer (some ⟨g4, 0, none⟩)), (5, v10), (6, v12)]) (fun k => (k + 1).toNat) (((t.hops.map Hop.ia).length : Int) - 1) ?_ ⟨rfl, rfl, rfl, rfl, rfl, rfl, rfl, trivial⟩ ?_
      · exact ⟨by omega, by omega, by rw [show (((t.hops.map Hop.ia).length : Int) - 1 + 1).toNat = t.hops.length by omega], B, S⟩
      · rintro k w21 hI
        try dsimp only at hI ⊢
        obtain ⟨hj, hj2, hm, B, S⟩ := hI
        refine w_seq ?_
        refine w_seq ?_
        refine w_region ?_
        refine t_move rfl ?_ rfl
        refine t_geq rfl rfl ?_ rfl
        refine t_done ?_
        refine x_seq ?_
        refine w_if rfl ?_ ?_
        · intro hlt2
          obtain ⟨y, hy⟩ : ∃ e, t.hops[k.toNat]? = some e := getx (by omega)
          have hym : (t.hops.map Hop.ia)[k.toNat]? = some y.ia := by rw [List.getElem?_map, hy]; rfl
          refine w_skip ?_
          refine x_seq ?_
          refine w_seq ?_
          refine w_block ?_
          refine w_seq ?_
          refine w_draw (.st .take 0 (.st .take 1 (.st .take 2 (.st .take 3 (.st .take 4 (.st .take 5 (.st .take 6 (.st .take 7 (.st .take 8 .done))))))))) mixed (by kernel_rfl) ?_
          intro w22 x23
          have B := bx Hb B x23
          have S := S.below x23
          refine t_move rfl ?_ rfl
          refine t_move rfl ?_ rfl
          refine t_idx e_int (k := (i.toNat)) (S.tail.sl) hxm (Below.refl _ _) rfl rfl (by first | rfl | omega) ?_ rfl
          intro p29 hp29
          refine t_ldi (by assumption) ab_int (Below.refl _ _) rfl ?_ rfl
          refine t_move rfl ?_ rfl
          refine t_move rfl ?_ rfl
          refine t_idx e_int (k := (k.toNat)) (S.tail.tail.sl) hym (Below.refl _ _) rfl rfl (by first | rfl | omega) ?_ rfl
          intro p33 hp33
          refine t_ldi (by assumption) ab_int (Below.refl _ _) rfl ?_ rfl
          refine t_eql rfl rfl ?_ rfl
          refine t_done' ?_
          refine x_seq ?_
          refine w_if rfl ?_ ?_
          · intro he
            have hL : lastI t.hops x.ia t.hops.length = k := by rw [← hm, lastI_yes (by omega) hy he.symm]
            have hM := meet_yes (down := t) (by omega) hx (by omega)
            rw [hL] at hM
            rw [← hl, hM]
            refine w_seq ?_
            refine w_draw (.st .take 0 (.st .take 1 (.st .take 3 (.st .take 4 (.st .run 2 (.st .run 5 (.st .run 6 (.st .take 7 (.st .fin 8 .done))))))))) mixed (by kernel_rfl) ?_
            intro w24 x25
            have B := bx Hb B x25
            have S := S.below x25
            refine t_lda (by assumption) ab_seg sb_seg B rfl ?_ rfl
            intro v36 hv36
            obtain ⟨v36_2, rfl, hv36_2⟩ := seg_va hv36
            refine t_move rfl ?_ rfl
            refine t_lda (by assumption) ab_seg sb_seg B rfl ?_ rfl
            intro v39 hv39
            obtain ⟨v39_2, rfl, hv39_2⟩ := seg_va hv39
            refine t_move rfl ?_ rfl
            refine t_call Try.call97 rfl (spec_MakePart _ _ _ _ _ (by first | assumption | exact VA.below (by assumption) B | exact seg_mkv (by first | assumption | exact SlR.below (by assumption) B)) (by omega)) ?_ rfl rfl
            rintro e w26 ⟨cs38, fp38, rfl, hO38, x27⟩
            refine ⟨_, rfl, x27, ?_⟩
            have S := S.add (o := tyO partT _ _) x27 hO38
            have B := bx Hb B x27
            obtain ⟨u38_3, heq, S2⟩ := S.partOpen
            subst heq
            have S := S2
            clear S2
            refine t_call Try.call97 rfl (spec_MakePart _ _ _ _ _ (by first | assumption | exact VA.below (by assumption) B | exact seg_mkv (by first | assumption | exact SlR.below (by assumption) B)) (by omega)) ?_ rfl rfl
            rintro e w28 ⟨cs41, fp41, rfl, hO41, x29⟩
            refine ⟨_, rfl, x29, ?_⟩
            have S := S.add (o := tyO partT _ _) x29 hO41
            have B := bx Hb B x29
            obtain ⟨u41_3, heq, S2⟩ := S.partOpen
            subst heq
            have S := S2
            clear S2
            have S := S.partShut (x := makePart t 4 k)
            have S := S.f1
            have S := S.partShut (x := makePart s 1 i)
            refine t_lit2 S (fun w => bs_part2 _ _ _ _ _ _ _ _ w) rfl rfl ?_ rfl rfl
            intro u42 w30 x31 S
            have B := bx Hb B x31
            obtain ⟨Au42, cu42, rfl, _⟩ := S.sl.form
            refine t_build (fun w => b_path _ _ _ w) rfl ?_ rfl
            have S := S.f1
            refine t_stn S sb_path rfl rfl rfl rfl (by intro zz hu; have hu : zz ∈ ([.slice Au42 ([makePart s 1 i, makePart t 4 k]).length cu42] : List Value) := hu; simp only [List.mem_cons, List.not_mem_nil, or_false] at hu; rcases hu with rfl <;> first | rfl | exact (SlR.cells (by first | assumption | exact S.tail.sl | exact S.tail.tail.sl | exact S.tail.tail.tail.sl | exact S.tail.tail.tail.tail.sl | exact S.tail.tail.tail.tail.tail.sl | exact S.tail.tail.tail.tail.tail.tail.sl | exact S.tail.tail.tail.tail.tail.tail.tail.sl | exact S.tail.tail.tail.tail.tail.tail.tail.tail.sl)).2) ?_
            intro w32 b33 S
            have B := B.trans b33
            refine t_done' ?_
            refine x_seq ?_
            refine w_ret ?_
            refine x_block_ret ?_
            refine x_then_ret ?_
            refine x_then_ret ?_
            refine x_block_ret ?_
            refine x_block_ret ?_
            refine x_then_ret ?_
            refine x_then_ret ?_
            refine x_block_ret ?_
            refine x_then_ret ?_
            refine x_retc rfl rfl S.box ab_path sb_path rfl ?_
            have S := S.f1
            have S := S.pathShut (x := [makePart s 1 i, makePart t 4 k])
            obtain ⟨fp, hO⟩ := (S.mono X0.size).head
            exact ⟨_, fp, rfl, hO, ext_trans X0 B⟩
          · intro he
            refine w_skip ?_
            refine x_block_normal ?_
            refine x_seq ?_
            refine w_region ?_
            refine t_move rfl ?_ rfl
            refine t_sub rfl rfl (by omega) ?_ rfl
            refine t_assign rfl ?_ rfl
            refine t_done ?_
            refine x_round (X := Int) (I := (fun k wq => -1 ≤ k ∧ k ≤ (t.hops.length : Int) - 1 ∧ lastI t.hops x.ia (k + 1).toNat = lastI t.hops x.ia t.hops.length ∧ Below w12.heap.size w12 wq ∧ Sep w12.heap.size wq [bxO g4 30 #[.slice none 0 0], slO intT 3 v10 (s.hops.map Hop.ia), slO intT 3 v12 (t.hops.map Hop.ia)])) (F := (fun k => [(8, I k), (7, I i), (2, p2), (3, p3), (4, .pointer (some ⟨g4, 0, none⟩)), (5, v10), (6, v12)])) (μ := (fun k => (k + 1).toNat)) (k - 1) ?_ (by exact ⟨rfl, rfl, rfl, rfl, rfl, rfl, rfl, trivial⟩) (by (try dsimp only); omega)
            try dsimp only
            exact ⟨by omega, by omega, by rw [← lastI_no (by omega) hy (fun e => he e.symm)]; exact hm, B, S⟩
        · intro hge2
          refine w_exit ?_
          refine x_then_exit ?_
          refine x_then_exit ?_
          refine x_block_exit ?_
          refine x_block_normal ?_
          refine x_seq ?_
          refine w_region ?_
          refine t_move rfl ?_ rfl
          refine t_sub rfl rfl (by omega) ?_ rfl
          refine t_assign rfl ?_ rfl
          refine t_done ?_
          refine x_round (X := Int) (I := (fun i wq => -1 ≤ i ∧ i ≤ (s.hops.length : Int) - 1 ∧ meet s t (i + 1).toNat = joinUD s t ∧ Below w12.heap.size w12 wq ∧ Sep w12.heap.size wq [bxO g4 30 #[.slice none 0 0], slO intT 3 v10 (s.hops.map Hop.ia), slO intT 3 v12 (t.hops.map Hop.ia)])) (F := (fun i => [(7, I i), (2, p2), (3, p3), (4, .pointer (some ⟨g4, 0, none⟩)), (5, v10), (6, v12)])) (μ := (fun i => (i + 1).toNat)) (i - 1) ?_ (by exact ⟨rfl, rfl, rfl, rfl, rfl, rfl, trivial⟩) (by (try dsimp only); omega)
          try dsimp only
          have : k = -1 := by omega
          subst this
          have hL : lastI t.hops x.ia t.hops.length = -1 := by rw [← hm]; rfl
          exact ⟨by omega, by omega, by rw [← meet_no (by omega) hx (by omega)]; exact hl, B, S⟩
    · intro hge
      refine w_exit ?_
      refine x_then_exit ?_
      refine x_then_exit ?_
      refine x_block_exit ?_
      refine x_seq ?_
      refine w_seq ?_
      refine w_region ?_
      refine t_build (fun w => b_path0 w) rfl ?_ rfl
      refine t_stn S sb_path rfl rfl rfl rfl (by simp [Value.oneCell']) ?_
      intro w34 b35 S
      have B := B.trans b35
      refine t_done ?_
      refine x_seq ?_
      refine w_ret ?_
      refine x_retc rfl rfl S.box ab_path sb_path rfl ?_
      have : i = -1 := by omega
      subst this
      have S := Sep.addNil (T := partT) (e := 71) S
      have S := S.pathShut (x := [])
      obtain ⟨fp, hO⟩ := (S.mono X0.size).head
      exact ⟨_, fp, rfl, by rw [← hl]; exact hO, ext_trans X0 B⟩
theorem make_len (s : Seg) (k i : Int) : (makePart s k i).hops.length ≤ s.hops.length := by
  unfold makePart
  split
  · split
    · show ((s.hops.drop i.toNat).reverse).length ≤ _; rw [List.length_reverse, List.length_drop]; omega
    · show (s.hops.drop i.toNat).length ≤ _; rw [List.length_drop]; omega
  · exact Nat.zero_le _
end Go.Proofs.Ytdaecknfahgddaa
namespace Go.Proofs.Ytdaecknfahgddaa
open Go.RowKit
set_option linter.unusedVariables false
set_option maxRecDepth 20000
section
variable {P : Program} {n : Nat} {ops : Array Oper} {Q : Exit → Act → World → Prop} {L : Frm} {w : World} {m : Md} {r : IT} {d : Nat} {ty : TypeId} {pos : String} {af : Array Edge}
theorem x_ret0 {fn : Func} {R : Ending → World → Prop} (hr : fn.results = #[]) (h : R (.returned (.tuple #[])) w) : WX n (bodyPost P fn R) .ret L w := by
  intro a ha
  exact bodyPost_ret (by simp [results, hr]) ha.defers h
end
end Go.Proofs.Ytdaecknfahgddaa
namespace Go.Proofs.Ytdaecknfahgddaa
open Go.RowKit
set_option linter.unusedVariables false
set_option maxRecDepth 20000
def computeMac (key : Int) (l : List Int) : Int := digest ([key] ++ l ++ [key])
def hopMac (key ts beta : Int) (h : Hop) : Int := computeMac key [ts, beta, h.ia, h.ing, h.eg, h.exp]
theorem spec_ComputeMAC (key : Int) (l : List Int) (v : Value) (w : World) (h : SlR intT w v l) (hn : l.length ≤ 1048576) : Calls Try.prog 137 #[I key, v] w fun e w' => e = .returned (I (computeMac key l)) ∧ Below w.heap.size w w' := by
  have X0 := Below.refl w.heap.size w
  refine enter Try.func137 rfl Try.ntmps137 rfl ?_
  refine w_seq ?_
  refine w_region ?_
  have S := Sep.nil w
  have B := Below.refl w.heap.size w
  have Hb := Nat.le_refl w.heap.size
  refine t_assign rfl ?_ rfl
  refine t_done ?_
  refine x_seq ?_
  refine w_seq ?_
  refine w_region ?_
  refine t_move rfl ?_ rfl
  refine t_lit (T := intT) (l := [key]) (css := ([key]).map fun a => [I a]) int_flat S (fun w => bs_int1 _ w) rfl rfl rfl rfl (by simp [maxLen]) (litR_int _) ?_ rfl rfl
  intro u6 w1 x2 S
  have B := bx Hb B x2
  refine t_move rfl ?_ rfl
  refine t_cat int_flat e_int S (by first | assumption | exact SlR.below (by assumption) B) rfl rfl rfl (by first | omega | (simp [-List.length_flatMap]; omega)) (by (simp [maxLen, -List.length_flatMap]; try omega)) ?_ rfl
  intro v8 w3 x4 S
  have B := B.trans x4
  refine t_move rfl ?_ rfl
  refine t_lit (T := intT) (l := [key]) (css := ([key]).map fun a => [I a]) int_flat S (fun w => bs_int1 _ w) rfl rfl rfl rfl (by simp [maxLen]) (litR_int _) ?_ rfl rfl
  intro u10 w5 x6 S
  have B := bx Hb B x6
  have hR := S.sl
  have S := S.f1
  refine t_cat int_flat e_int S hR rfl rfl rfl (by first | omega | (simp [-List.length_flatMap]; omega)) (by (simp [maxLen, -List.length_flatMap]; try omega)) ?_ rfl
  intro v11 w7 x8 S
  have B := B.trans x8
  clear hR
  have S := S.f1
  have S := S.tail
  refine t_calls Try.call139 rfl (spec_Digest _ _ _ (S.sl) (by simp; omega)) ?_ rfl rfl
  refine t_assign rfl ?_ rfl
  refine t_done ?_
  refine x_seq ?_
  refine w_ret ?_
  refine x_ret1 rfl rfl ?_
  exact ⟨rfl, ext_trans X0 B⟩
theorem spec_HopMAC (key ts beta : Int) (x : Hop) (w : World) : Calls Try.prog 133 #[I key, I ts, I beta, .agg #[I x.ia, I x.ing, I x.eg, I x.exp, I x.mac]] w fun e w' => e = .returned (I (hopMac key ts beta x)) ∧ Below w.heap.size w w' := by
  have h := hop_mkv w x
  have X0 := Below.refl w.heap.size w
  refine enter Try.func133 rfl Try.ntmps133 rfl ?_
  refine w_seq ?_
  refine w_region ?_
  refine t_boxr (by assumption) rfl ?_ rfl rfl
  intro p7 w9 x10 hp7
  replace h := h.below x10
  have X0 := ext_trans X0 x10
  have S := Sep.nil w9
  have B := Below.refl w9.heap.size w9
  have Hb := Nat.le_refl w9.heap.size
  refine t_assign rfl ?_ rfl
  refine t_done ?_
  refine x_seq ?_
  refine w_seq ?_
  refine w_region ?_
  refine t_move rfl ?_ rfl
  refine t_move rfl ?_ rfl
  refine t_move rfl ?_ rfl
  refine t_fld ln_hop_0 (by assumption) fb_hop_0 rfl ?_ rfl
  intro p12 hp12
  refine t_ldi (by assumption) ab_int B rfl ?_ rfl
  refine t_fld ln_hop_1 (by assumption) fb_hop_1 rfl ?_ rfl
  intro p14 hp14
  refine t_ldi (by assumption) ab_int B rfl ?_ rfl
  refine t_fld ln_hop_2 (by assumption) fb_hop_2 rfl ?_ rfl
  intro p16 hp16
  refine t_ldi (by assumption) ab_int B rfl ?_ rfl
  refine t_fld ln_hop_3 (by assumption) fb_hop_3 rfl ?_ rfl
  intro p18 hp18
  refine t_ldi (by assumption) ab_int B rfl ?_ rfl
  refine t_lit (T := intT) (l := [ts, beta, x.ia, x.ing, x.eg, x.exp]) (css := ([ts, beta, x.ia, x.ing, x.eg, x.exp]).map fun a => [I a]) int_flat S (fun w => bs_int6 _ _ _ _ _ _ w) rfl rfl rfl rfl (by simp [maxLen]) (litR_int _) ?_ rfl rfl
  intro u20 w11 x12 S
  have B := bx Hb B x12
  refine t_callx Try.call137 rfl (spec_ComputeMAC _ _ _ _ (S.sl) (by simp)) ?_ rfl rfl
  intro w13 x14
  have B := bx Hb B x14
  have S := S.below x14
  refine t_assign rfl ?_ rfl
  refine t_done ?_
  refine x_seq ?_
  refine w_ret ?_
  refine x_ret1 rfl rfl ?_
  exact ⟨rfl, ext_trans X0 B⟩
end Go.Proofs.Ytdaecknfahgddaa
namespace Go.Proofs.Ytdaecknfahgddaa
open Go.RowKit
set_option linter.unusedVariables false
set_option maxRecDepth 20000
def isAS (t : Topo) (r : Int) : Bool := inR r 0 ((t.ases.length : Int) - 1)
def asKey (t : Topo) (r : Int) : Int := match t.ases[r.toNat]? with
  | some a => a.key
  | none => 0
def verifyHop (t : Topo) (ts beta : Int) (h : Hop) : Bool := validHop h && (isAS t h.ia && decide (h.mac = hopMac (asKey t h.ia) ts beta h))
theorem spec_l5Realm (t : Topo) (v : Value) (r : Int) (w : World) (h : VA topoT w v t) (hz : sz_topo t ≤ 1048576) : Calls Try.prog 103 #[v, I r] w fun e w' => e = .returned (.bool (isAS t r)) ∧ Below w.heap.size w w' := by
  have hz' : t.ases.length ≤ 1048576 := by unfold sz_topo at hz; omega
  have X0 := Below.refl w.heap.size w
  refine enter Try.func103 rfl Try.ntmps103 rfl ?_
  refine w_seq ?_
  refine w_region ?_
  refine t_boxr (by assumption) rfl ?_ rfl rfl
  intro p2 w3 x4 hp2
  replace h := h.below x4
  have X0 := ext_trans X0 x4
  have S := Sep.nil w3
  have B := Below.refl w3.heap.size w3
  have Hb := Nat.le_refl w3.heap.size
  refine t_assign rfl ?_ rfl
  refine t_done ?_
  refine x_seq ?_
  refine w_seq ?_
  refine w_region ?_
  refine t_move rfl ?_ rfl
  refine t_fld ln_topo_0 (by assumption) fb_topo_0 rfl ?_ rfl
  intro p6 hp6
  refine t_lds (by assumption) ab_s_asn B rfl ?_ rfl
  intro v7 hv7
  refine t_len e_asn (by assumption) rfl rfl ?_ rfl
  refine t_sub rfl rfl (by omega) ?_ rfl
  refine t_calls Try.call54 rfl (spec_l1In _ _ _ _) ?_ rfl rfl
  refine t_assign rfl ?_ rfl
  refine t_done ?_
  refine x_seq ?_
  refine w_ret ?_
  refine x_ret1 rfl rfl ?_
  exact ⟨rfl, ext_trans X0 B⟩
end Go.Proofs.Ytdaecknfahgddaa
namespace Go.Proofs.Ytdaecknfahgddaa
open Go.RowKit
set_option linter.unusedVariables false
theorem hops_le_path {p : Path} {x : Part} (h : x ∈ p) : x.hops.length ≤ sz_path p := by
  have := le_sum_of_mem (List.mem_map.2 ⟨x, h, rfl⟩ : sz_part x ∈ p.map sz_part)
  show _ ≤ List.length p + _
  have e : sz_part x = x.hops.length := rfl
  omega
end Go.Proofs.Ytdaecknfahgddaa
namespace Go.Proofs.Ytdaecknfahgddaa
open Go.RowKit
set_option linter.unusedVariables false
theorem spec_l9Has (l : List Int) (v : Value) (x : Int) (w : World) (h : SlR intT w v l) (hn : l.length ≤ 16777216) : Calls Try.prog 104 #[v, I x] w fun e w' => e = .returned (.bool (l.contains x)) ∧ w = w' := by
  obtain ⟨A, c, rfl, _⟩ := h.form
  obtain ⟨n, H⟩ : ∃ n, Hid (n = l.length) := ⟨_, rfl⟩
  obtain ⟨r, Hr⟩ : ∃ r, Hid (r = l.contains x) := ⟨_, rfl⟩
  rw [← Hr.out]
  rw [← H.out] at h hn ⊢
  go_enter Try.func104, Try.ntmps104
  go_wp2
  go_loop [5] (fun i => ∃ k : Nat, k ≤ n ∧ i = I k ∧ (l.take k).contains x = false) (fun i => n - (intOf i).toNat)
  case atStart => exact ⟨0, by omega, rfl, rfl⟩
  case round =>
    obtain ⟨k, hk, rfl, hc⟩ := hrel
    have Hc := hid hc
    clear hc
    by_cases hlt : k < n
    · obtain ⟨g, o, q, y, e, hg, hyk, c0⟩ := int_at h (by rw [← H.out]; exact hlt)
      rw [← H.out] at e
      cases e
      cases hb : (y == x)
      · have HS : Hid ((l.take (k + 1)).contains x = false) := by
          show _ = _
          rw [take_succ hyk.out, List.contains_eq_mem, decide_eq_false_iff_not, List.mem_append, List.mem_singleton]
          have h1 := Hc.out
          rw [List.contains_eq_mem, decide_eq_false_iff_not] at h1
          have h2 : ¬ y = x := by simpa using hb
          rintro (h | h)
          · exact h1 h
          · exact h2 h.symm
        go_wp2
        go_round
        case rel => exact ⟨k + 1, by omega, by go_num, HS.out⟩
        case measure => simp [intOf]; omega
      · have HT : Hid (r = true) := by
          show _ = _
          have h2 : y = x := by simpa using hb
          rw [Hr.out, List.contains_eq_mem, decide_eq_true_eq, ← h2]
          exact List.mem_of_getElem? hyk.out
        go_wp2
        go_ret
        exact ⟨by rw [HT.out]; rfl, rfl⟩
    · have hkn : k = n := by omega
      have HT : Hid (r = false) := by
        show _ = _
        have h1 := Hc.out
        rw [List.take_of_length_le (by rw [← H.out]; omega)] at h1
        rw [Hr.out, h1]
      go_wp2
      go_ret
      exact ⟨by rw [HT.out]; rfl, rfl⟩
end Go.Proofs.Ytdaecknfahgddaa
namespace Go.Proofs.Ytdaecknfahgddaa
open Go.RowKit
set_option linter.unusedVariables false
set_option maxRecDepth 20000
theorem idx_lt (l : List Lnk) (r d : Int) : idxI (findL l r d) < l.length := by
  unfold idxI findL
  split
  · omega
  · rename_i i h
    have := (List.findIdx?_eq_some_iff_getElem.1 h).1
    omega
theorem idx_nat {l : List Lnk} {r d : Int} (h : ¬ idxI (findL l r d) < 0) : findL l r d = some (idxI (findL l r d)).toNat := by
  cases hf : findL l r d with
  | none => rw [hf] at h; simp [idxI] at h
  | some i => simp [idxI]
theorem idx_none {l : List Lnk} {r d : Int} (h : idxI (findL l r d) < 0) : findL l r d = none := by
  cases hf : findL l r d with
  | none => rfl
  | some i => rw [hf] at h; simp [idxI] at h; omega
theorem remote_none {t : Topo} {r d : Int} (h : idxI (findL t.links r d) < 0) : remote t r d = (-1, 0) := by
  unfold remote; rw [idx_none h]; rfl
theorem remote_some {t : Topo} {r d : Int} {x : Lnk} (h : ¬ idxI (findL t.links r d) < 0) (hx : t.links[(idxI (findL t.links r d)).toNat]? = some x) : remote t r d = if x.a = r ∧ x.ai = d then (x.b, x.bi) else (x.a, x.ai) := by
  unfold remote
  rw [show (findL t.links r d).bind (t.links[·]?) = some x by rw [idx_nat h]; exact hx]
theorem ret_two {a b : Int} {q : Int × Int} (h : q = (a, b)) : Ending.returned (.tuple #[I a, I b]) = .returned (.tuple #[I q.1, I q.2]) := by rw [h]
theorem spec_RemoteEnd (t : Topo) (v : Value) (r d : Int) (w : World) (h : VA topoT w v t) (hz : sz_topo t ≤ 1048576) : Calls Try.prog 105 #[v, I r, I d] w fun e w' => e = .returned (.tuple #[I (remote t r d).1, I (remote t r d).2]) ∧ Below w.heap.size w w' := by
  have hlt := idx_lt t.links r d
  have X0 := Below.refl w.heap.size w
  refine enter Try.func105 rfl Try.ntmps105 rfl ?_
  refine w_seq ?_
  refine w_region ?_
  refine t_boxr (by assumption) rfl ?_ rfl rfl
  intro p3 w15 x16 hp3
  replace h := h.below x16
  have X0 := ext_trans X0 x16
  have S := Sep.nil w15
  have B := Below.refl w15.heap.size w15
  have Hb := Nat.le_refl w15.heap.size
  refine t_assign rfl ?_ rfl
  refine t_assign rfl ?_ rfl
  refine t_done ?_
  refine x_seq ?_
  refine w_seq ?_
  refine w_region ?_
  refine t_lda (by assumption) ab_topo sb_topo B rfl ?_ rfl
  intro v10 hv10
  obtain ⟨v10_0, v10_1, rfl, hv10_0, hv10_1⟩ := topo_va hv10
  refine t_move rfl ?_ rfl
  refine t_move rfl ?_ rfl
  refine t_callx Try.call112 rfl (va1 (by first | assumption | exact VA.below (by assumption) B | exact topo_mkv (by first | assumption | exact SlR.below (by assumption) B) (by first | assumption | exact SlR.below (by assumption) B)) fun cs h => spec_LinkIndex _ cs _ _ _ h (by omega)) ?_ rfl rfl
  intro w17 x18
  have B := bx Hb B x18
  have S := S.below x18
  refine t_assign rfl ?_ rfl
  refine t_done ?_
  refine x_seq ?_
  refine w_seq ?_
  refine w_seq ?_
  refine w_region ?_
  refine t_move rfl ?_ rfl
  refine t_lss rfl rfl ?_ rfl
  refine t_done ?_
  refine x_seq ?_
  refine w_if rfl ?_ ?_
  · intro h1
    refine w_seq ?_
    refine w_region ?_
    refine t_assign rfl ?_ rfl
    refine t_assign rfl ?_ rfl
    refine t_done ?_
    refine x_seq ?_
    refine w_ret ?_
    refine x_then_ret ?_
    refine x_ret2 rfl rfl rfl ?_
    exact ⟨ret_two (remote_none h1), ext_trans X0 B⟩
  · intro h1
    refine w_skip ?_
    refine x_seq ?_
    refine w_seq ?_
    refine w_region ?_
    refine t_fld ln_topo_1 (by assumption) fb_topo_1 rfl ?_ rfl
    intro p16 hp16
    refine t_lds (by assumption) ab_s_link B rfl ?_ rfl
    intro v17 hv17
    refine t_move rfl ?_ rfl
    obtain ⟨e19, he19⟩ : ∃ e, (t.links)[(idxI (findL t.links r d)).toNat]? = some e := getx (by omega)
    refine t_idx e_link (k := (idxI (findL t.links r d)).toNat) (by assumption) he19 B rfl rfl (by first | rfl | omega) ?_ rfl
    intro p19 hp19
    refine t_lda (by assumption) ab_link sb_link B rfl ?_ rfl
    intro v20 hv20
    obtain rfl := link_va hv20
    refine t_alloc S z_link rfl ?_ rfl rfl
    intro g9 w19 x20 S
    have B := bx Hb B x20
    refine t_stn S sb_link rfl rfl rfl rfl (by simp [Value.oneCell']) ?_
    intro w21 b22 S
    have B := B.trans b22
    refine t_done ?_
    refine x_seq ?_
    refine w_seq ?_
    refine w_seq ?_
    refine w_region ?_
    refine t_fldx fb_link_0 rfl rfl ?_ rfl
    refine t_bx1 S.box ab_int rfl rfl ?_ rfl
    refine t_move rfl ?_ rfl
    refine t_eql rfl rfl ?_ rfl
    refine t_move rfl ?_ rfl
    have hR := remote_some h1 he19
    refine t_partp (t := 25) rfl ?_ ?_
    · intro h2
      refine t_on rfl rfl ?_
      refine t_fldx fb_link_1 rfl rfl ?_ rfl
      refine t_on rfl rfl ?_
      refine t_bx1 S.box ab_int rfl rfl ?_ rfl
      refine t_on rfl rfl ?_
      refine t_move rfl ?_ rfl
      refine t_on rfl rfl ?_
      refine t_eql rfl rfl ?_ rfl
      refine t_pickt rfl rfl ?_ rfl
      refine t_done ?_
      refine x_seq ?_
      refine w_if rfl ?_ ?_
      · intro h3
        refine w_seq ?_
        refine w_draw (.st .take 0 (.st .take 1 (.st .take 2 (.st .take 3 (.st .take 4 (.st .take 5 .done)))))) mixed (by kernel_rfl) ?_
        intro w23 x24
        have B := bx Hb B x24
        have S := S.below x24
        refine t_fldx fb_link_2 rfl rfl ?_ rfl
        refine t_bx1 S.box ab_int rfl rfl ?_ rfl
        refine t_fldx fb_link_3 rfl rfl ?_ rfl
        refine t_bx1 S.box ab_int rfl rfl ?_ rfl
        refine t_assign rfl ?_ rfl
        refine t_assign rfl ?_ rfl
        refine t_done' ?_
        refine x_seq ?_
        refine w_ret ?_
        refine x_then_ret ?_
        refine x_ret2 rfl rfl rfl ?_
        exact ⟨ret_two (by rw [hR, if_pos ⟨h2, h3⟩]), ext_trans X0 B⟩
      · intro h3
        refine w_skip ?_
        refine x_seq ?_
        refine w_seq ?_
        refine w_draw (.st .take 0 (.st .take 1 (.st .take 2 (.st .take 3 (.st .take 4 (.st .take 5 .done)))))) mixed (by kernel_rfl) ?_
        intro w25 x26
        have B := bx Hb B x26
        have S := S.below x26
        refine t_fldx fb_link_0 rfl rfl ?_ rfl
        refine t_bx1 S.box ab_int rfl rfl ?_ rfl
        refine t_fldx fb_link_1 rfl rfl ?_ rfl
        refine t_bx1 S.box ab_int rfl rfl ?_ rfl
        refine t_assign rfl ?_ rfl
        refine t_assign rfl ?_ rfl
        refine t_done' ?_
        refine x_seq ?_
        refine w_ret ?_
        refine x_ret2 rfl rfl rfl ?_
        exact ⟨ret_two (by rw [hR, if_neg fun q => h3 q.2]), ext_trans X0 B⟩
    · intro h2
      refine t_off rfl rfl rfl ?_ rfl
      refine t_off rfl rfl rfl ?_ rfl
      refine t_off rfl rfl rfl ?_ rfl
      refine t_off rfl rfl rfl ?_ rfl
      refine t_pickf rfl rfl ?_ rfl
      refine t_done ?_
      refine x_seq ?_
      refine w_no rfl ?_
      refine w_skip ?_
      refine x_seq ?_
      refine w_seq ?_
      refine w_draw (.st .take 0 (.st .take 1 (.st .take 2 (.st .take 3 (.st .take 4 (.st .take 5 .done)))))) mixed (by kernel_rfl) ?_
      intro w27 x28
      have B := bx Hb B x28
      have S := S.below x28
      refine t_fldx fb_link_0 rfl rfl ?_ rfl
      refine t_bx1 S.box ab_int rfl rfl ?_ rfl
      refine t_fldx fb_link_1 rfl rfl ?_ rfl
      refine t_bx1 S.box ab_int rfl rfl ?_ rfl
      refine t_assign rfl ?_ rfl
      refine t_assign rfl ?_ rfl
      refine t_done' ?_
      refine x_seq ?_
      refine w_ret ?_
      refine x_ret2 rfl rfl rfl ?_
      exact ⟨ret_two (by rw [hR, if_neg fun q => h2 q.1]), ext_trans X0 B⟩
end Go.Proofs.Ytdaecknfahgddaa
namespace Go.Proofs.Ytdaecknfahgddaa
open Go.RowKit
set_option linter.unusedVariables false
set_option maxRecDepth 20000
theorem b_link (a b c d e : Int) (w : World) : (Instr.build 78 #[(0, I a), (1, I b), (2, I c), (3, I d), (4, I e)]).run Try.prog w = .ok (.agg #[I a, I b, I c, I d, I e]) w := by kernel_rfl
theorem b_asn (a : Int) (b : Bool) (c : Int) (w : World) : (Instr.build 121 #[(0, I a), (1, .bool b), (2, I c)]).run Try.prog w = .ok (.agg #[I a, .bool b, I c]) w := by kernel_rfl
theorem bs_link0 (w : World) : (Instr.buildSlice 25 0 #[]).run Try.prog w = .ok (.slice (some ⟨w.heap.size, 0, none⟩) 0 0) (w.alloc (.cells #[] 78)) := by kernel_rfl
theorem bs_link1 (c0 c1 c2 c3 c4 : Value) (w : World) : (Instr.buildSlice 25 1 #[(0, .agg #[c0, c1, c2, c3, c4])]).run Try.prog w = .ok (.slice (some ⟨w.heap.size, 0, none⟩) 1 1) (w.alloc (.cells #[c0, c1, c2, c3, c4] 78)) := by kernel_rfl
theorem bs_asn1 (c0 c1 c2 : Value) (w : World) : (Instr.buildSlice 24 1 #[(0, .agg #[c0, c1, c2])]).run Try.prog w = .ok (.slice (some ⟨w.heap.size, 0, none⟩) 1 1) (w.alloc (.cells #[c0, c1, c2] 121)) := by kernel_rfl
/-- A link more between two realms, where each has a door left. -/
def addL (L : List Lnk) (a c k : Int) : List Lnk :=
  if ((ifs L a).length : Int) + 1 ≤ 6 ∧ ((ifs L c).length : Int) + 1 ≤ 6 then L ++ [⟨a, (ifs L a).length + 1, c, (ifs L c).length + 1, k⟩] else L
theorem addL_len (L : List Lnk) (a c k : Int) : (addL L a c k).length ≤ L.length + 1 := by
  unfold addL; split <;> simp
theorem spec_l5Add {b g : Nat} {w : World} {va vl : Value} {A : List ASd} {L : List Lnk} {os : List Ow} (a c k : Int) (S : Sep b w (bxO g 27 #[va, vl] :: slO asnT 121 va A :: slO linkT 78 vl L :: os)) (hz : L.length ≤ 1000) :
    Calls Try.prog 120 #[.pointer (some ⟨g, 0, none⟩), I a, I c, I k] w fun e w' => ∃ v, e = .returned (.tuple #[]) ∧ Sep b w' (bxO g 27 #[va, v] :: slO asnT 121 va A :: slO linkT 78 v (addL L a c k) :: os) ∧ Below b w w' := by
  have l1 := ifs_len L a
  have l2 := ifs_len L c
  have X0 := Below.refl w.heap.size w
  refine enter Try.func120 rfl Try.ntmps120 rfl ?_
  have B := Below.refl b w
  have Hb := S.base
  refine w_seq ?_
  refine w_region ?_
  refine t_move rfl ?_ rfl
  refine t_nilc rfl ?_ rfl
  refine t_bxn S.box ab_topo sb_topo rfl rfl ?_ rfl
  refine t_move rfl ?_ rfl
  refine t_call Try.call132 rfl (spec_Interfaces A L _ _ _ (topo_mkv (S.tail.sl) (S.tail.tail.sl)) (by (try dsimp only); omega)) ?_ rfl rfl
  rintro e w1 ⟨v14, fpv14, rfl, hOv14, x2⟩
  refine ⟨_, rfl, x2, ?_⟩
  have S := S.add (o := slO _ _ _ _) x2 hOv14
  have B := bx Hb B x2
  refine t_len e_int (S.sl) rfl rfl ?_ rfl
  refine t_add rfl rfl (by omega) ?_ rfl
  refine t_assign rfl ?_ rfl
  refine t_done ?_
  refine x_seq ?_
  refine w_seq ?_
  refine w_region ?_
  refine t_move rfl ?_ rfl
  refine t_nilc rfl ?_ rfl
  refine t_bxn S.tail.box ab_topo sb_topo rfl rfl ?_ rfl
  refine t_move rfl ?_ rfl
  refine t_call Try.call132 rfl (spec_Interfaces A L _ _ _ (topo_mkv (S.tail.tail.sl) (S.tail.tail.tail.sl)) (by (try dsimp only); omega)) ?_ rfl rfl
  rintro e w3 ⟨v21, fpv21, rfl, hOv21, x4⟩
  refine ⟨_, rfl, x4, ?_⟩
  have S := S.add (o := slO _ _ _ _) x4 hOv21
  have B := bx Hb B x4
  refine t_len e_int (S.sl) rfl rfl ?_ rfl
  refine t_add rfl rfl (by omega) ?_ rfl
  refine t_assign rfl ?_ rfl
  refine t_done ?_
  refine x_seq ?_
  refine w_seq ?_
  refine w_region ?_
  refine t_move rfl ?_ rfl
  refine t_leq rfl rfl ?_ rfl
  refine t_move rfl ?_ rfl
  refine t_partp (t := 26) rfl ?_ ?_
  · intro h1
    refine t_on rfl rfl ?_
    refine t_move rfl ?_ rfl
    refine t_on rfl rfl ?_
    refine t_leq rfl rfl ?_ rfl
    refine t_pickt rfl rfl ?_ rfl
    refine t_done ?_
    refine x_seq ?_
    refine w_if rfl ?_ ?_
    · intro h2
      refine w_region ?_
      refine t_move rfl ?_ rfl
      refine t_move rfl ?_ rfl
      refine t_nilc rfl ?_ rfl
      refine t_fldx fb_topo_1 rfl rfl ?_ rfl
      refine t_bx1 S.tail.tail.box ab_s_link rfl rfl ?_ rfl
      refine t_move rfl ?_ rfl
      refine t_move rfl ?_ rfl
      refine t_move rfl ?_ rfl
      refine t_move rfl ?_ rfl
      refine t_move rfl ?_ rfl
      refine t_build (fun w => b_link _ _ _ _ _ w) rfl ?_ rfl
      refine t_lit (T := linkT) (l := [(⟨a, ((((ifs L a)).length : Int)) + 1, c, ((((ifs L c)).length : Int)) + 1, k⟩ : Lnk)]) (css := [[I a, I (((((ifs L a)).length : Int)) + 1), I c, I (((((ifs L c)).length : Int)) + 1), I k]]) link_flat S (fun w => bs_link1 _ _ _ _ _ w) rfl rfl rfl rfl (by simp [maxLen]) (litR_one fun _ => rfl) ?_ rfl rfl
      intro u41 w5 x6 S
      have B := bx Hb B x6
      have hR := S.sl
      have S := S.f5
      refine t_cat link_flat e_link S hR rfl rfl rfl (by first | omega | (simp [-List.length_flatMap]; omega)) (by (simp [maxLen, -List.length_flatMap]; try omega)) ?_ rfl
      intro v42 w7 x8 S
      have B := B.trans x8
      clear hR
      have S := S.f1
      have S := S.tail
      refine t_nilc rfl ?_ rfl
      refine t_fldx fb_topo_1 rfl rfl ?_ rfl
      obtain ⟨Av42, cv42, rfl, _⟩ := S.sl.form
      have S := S.f3
      refine t_st1 S sb_s_link rfl rfl rfl rfl rfl ?_
      intro w9 b10 S
      have B := B.trans b10
      refine t_done ?_
      refine x_end1 ?_
      refine x_ret0 rfl ?_
      have hq : addL L a c k = L ++ [⟨a, (ifs L a).length + 1, c, (ifs L c).length + 1, k⟩] := by rw [addL, if_pos ⟨h1, h2⟩]
      exact ⟨_, rfl, by rw [hq]; exact S.f2.tail.f2.tail.f2.f1, B⟩
    · intro h2
      refine w_skip ?_
      refine x_end1 ?_
      refine x_ret0 rfl ?_
      have hq : addL L a c k = L := by rw [addL, if_neg fun z => h2 z.2]
      exact ⟨_, rfl, by rw [hq]; exact S.tail.tail, B⟩
  · intro h1
    refine t_off rfl rfl rfl ?_ rfl
    refine t_off rfl rfl rfl ?_ rfl
    refine t_pickf rfl rfl ?_ rfl
    refine t_done ?_
    refine x_seq ?_
    refine w_no rfl ?_
    refine w_skip ?_
    refine x_end1 ?_
    refine x_ret0 rfl ?_
    have hq : addL L a c k = L := by rw [addL, if_neg fun z => h1 z.1]
    exact ⟨_, rfl, by rw [hq]; exact S.tail.tail, B⟩
theorem as_rng {A : List ASd} {L : List Lnk} {r : Int} (h : ¬ (!(isAS (⟨A, L⟩ : Topo) r)) = true) : 0 ≤ r ∧ r < A.length := by
  have h' : inR r 0 ((A.length : Int) - 1) = true := by simpa [isAS] using h
  have := inR_iff.1 h'
  omega
theorem spec_l5LinkOk (A : List ASd) (L : List Lnk) (v u : Value) (x : Lnk) (w : World) (h : VA topoT w v ⟨A, L⟩) (h2 : VA linkT w u x) (hz : sz_topo (⟨A, L⟩ : Topo) ≤ 1000000) : Calls Try.prog 121 #[v, u] w fun e w' => ∃ y : Bool, e = .returned (.bool y) ∧ Below w.heap.size w w' := by
  have X0 := Below.refl w.heap.size w
  refine enter Try.func121 rfl Try.ntmps121 rfl ?_
  refine w_seq ?_
  refine w_region ?_
  refine t_boxr (by assumption) rfl ?_ rfl rfl
  intro p2 w11 x12 hp2
  replace h := h.below x12
  replace h2 := h2.below x12
  have X0 := ext_trans X0 x12
  refine t_boxr (by assumption) rfl ?_ rfl rfl
  intro p3 w13 x14 hp3
  replace h := h.below x14
  replace h2 := h2.below x14
  replace hp2 := hp2.below x14
  have X0 := ext_trans X0 x14
  have S := Sep.nil w13
  have B := Below.refl w13.heap.size w13
  have Hb := Nat.le_refl w13.heap.size
  refine t_assign rfl ?_ rfl
  refine t_done ?_
  refine x_seq ?_
  refine w_seq ?_
  refine w_seq ?_
  refine w_region ?_
  refine t_lda (by assumption) ab_topo sb_topo B rfl ?_ rfl
  intro v7 hv7
  obtain ⟨v7_0, v7_1, rfl, hv7_0, hv7_1⟩ := topo_va hv7
  refine t_fld ln_link_0 (by assumption) fb_link_0 rfl ?_ rfl
  intro p8 hp8
  refine t_ldi (by assumption) ab_int B rfl ?_ rfl
  refine t_callx Try.call103 rfl (spec_l5Realm _ _ _ _ (by first | assumption | exact VA.below (by assumption) B | exact topo_mkv (by first | assumption | exact SlR.below (by assumption) B) (by first | assumption | exact SlR.below (by assumption) B)) (by omega)) ?_ rfl rfl
  intro w15 x16
  have B := bx Hb B x16
  have S := S.below x16
  refine t_notb rfl ?_ rfl
  refine t_move rfl ?_ rfl
  refine t_part (t := 12) rfl ?_ ?_
  · intro hp1
    refine t_off rfl rfl rfl ?_ rfl
    refine t_off rfl rfl rfl ?_ rfl
    refine t_off rfl rfl rfl ?_ rfl
    refine t_off rfl rfl rfl ?_ rfl
    refine t_off rfl rfl rfl ?_ rfl
    refine t_pickt rfl rfl ?_ rfl
    refine t_move rfl ?_ rfl
    refine t_off rfl rfl rfl ?_ rfl
    refine t_off rfl rfl rfl ?_ rfl
    refine t_off rfl rfl rfl ?_ rfl
    refine t_off rfl rfl rfl ?_ rfl
    refine t_off rfl rfl rfl ?_ rfl
    refine t_pickt rfl rfl ?_ rfl
    refine t_move rfl ?_ rfl
    refine t_off rfl rfl rfl ?_ rfl
    refine t_off rfl rfl rfl ?_ rfl
    refine t_off rfl rfl rfl ?_ rfl
    refine t_off rfl rfl rfl ?_ rfl
    refine t_pickt rfl rfl ?_ rfl
    refine t_move rfl ?_ rfl
    refine t_off rfl rfl rfl ?_ rfl
    refine t_off rfl rfl rfl ?_ rfl
    refine t_off rfl rfl rfl ?_ rfl
    refine t_off rfl rfl rfl ?_ rfl
    refine t_pickt rfl rfl ?_ rfl
    refine t_done ?_
    refine x_seq ?_
    refine w_yes rfl ?_
    refine w_seq ?_
    refine w_region ?_
    refine t_assign rfl ?_ rfl
    refine t_done ?_
    refine x_seq ?_
    refine w_ret ?_
    refine x_then_ret ?_
    refine x_ret1 rfl rfl ?_
    exact ⟨_, rfl, ext_trans X0 B⟩
  · intro hp1
    refine t_on rfl rfl ?_
    refine t_lda (by assumption) ab_topo sb_topo B rfl ?_ rfl
    intro v13 hv13
    obtain ⟨v13_0, v13_1, rfl, hv13_0, hv13_1⟩ := topo_va hv13
    refine t_on rfl rfl ?_
    refine t_fld ln_link_2 (by assumption) fb_link_2 rfl ?_ rfl
    intro p14 hp14
    refine t_on rfl rfl ?_
    refine t_ldi (by assumption) ab_int B rfl ?_ rfl
    refine t_on rfl rfl ?_
    refine t_callx Try.call103 rfl (spec_l5Realm _ _ _ _ (by first | assumption | exact VA.below (by assumption) B | exact topo_mkv (by first | assumption | exact SlR.below (by assumption) B) (by first | assumption | exact SlR.below (by assumption) B)) (by omega)) ?_ rfl rfl
    intro w17 x18
    have B := bx Hb B x18
    have S := S.below x18
    refine t_on rfl rfl ?_
    refine t_notb rfl ?_ rfl
    refine t_pickf rfl rfl ?_ rfl
    refine t_move rfl ?_ rfl
    refine t_part (t := 19) rfl ?_ ?_
    · intro hp2
      refine t_off rfl rfl rfl ?_ rfl
      refine t_off rfl rfl rfl ?_ rfl
      refine t_off rfl rfl rfl ?_ rfl
      refine t_off rfl rfl rfl ?_ rfl
      refine t_off rfl rfl rfl ?_ rfl
      refine t_pickt rfl rfl ?_ rfl
      refine t_move rfl ?_ rfl
      refine t_off rfl rfl rfl ?_ rfl
      refine t_off rfl rfl rfl ?_ rfl
      refine t_off rfl rfl rfl ?_ rfl
      refine t_off rfl rfl rfl ?_ rfl
      refine t_pickt rfl rfl ?_ rfl
      refine t_move rfl ?_ rfl
      refine t_off rfl rfl rfl ?_ rfl
      refine t_off rfl rfl rfl ?_ rfl
      refine t_off rfl rfl rfl ?_ rfl
      refine t_off rfl rfl rfl ?_ rfl
      refine t_pickt rfl rfl ?_ rfl
      refine t_done ?_
      refine x_seq ?_
      refine w_yes rfl ?_
      refine w_seq ?_
      refine w_region ?_
      refine t_assign rfl ?_ rfl
      refine t_done ?_
      refine x_seq ?_
      refine w_ret ?_
      refine x_then_ret ?_
      refine x_ret1 rfl rfl ?_
      exact ⟨_, rfl, ext_trans X0 B⟩
    · intro hp2
      have r1 : 0 ≤ x.a ∧ x.a < ((⟨A, L⟩ : Topo).ases.length : Int) := as_rng (L := L) (by simpa using hp1)
      have r2 : 0 ≤ x.b ∧ x.b < ((⟨A, L⟩ : Topo).ases.length : Int) := as_rng (L := L) (by simpa using hp2)
      refine t_on rfl rfl ?_
      refine t_fld ln_link_0 (by assumption) fb_link_0 rfl ?_ rfl
      intro p20 hp20
      refine t_on rfl rfl ?_
      refine t_ldi (by assumption) ab_int B rfl ?_ rfl
      refine t_on rfl rfl ?_
      refine t_fld ln_link_2 (by assumption) fb_link_2 rfl ?_ rfl
      intro p22 hp22
      refine t_on rfl rfl ?_
      refine t_ldi (by assumption) ab_int B rfl ?_ rfl
      refine t_on rfl rfl ?_
      refine t_geq rfl rfl ?_ rfl
      refine t_pickf rfl rfl ?_ rfl
      refine t_move rfl ?_ rfl
      refine t_partp (t := 26) rfl ?_ ?_
      · intro hc1
        refine t_off rfl rfl rfl ?_ rfl
        refine t_off rfl rfl rfl ?_ rfl
        refine t_off rfl rfl rfl ?_ rfl
        refine t_off rfl rfl rfl ?_ rfl
        refine t_pickt rfl rfl ?_ rfl
        refine t_move rfl ?_ rfl
        refine t_off rfl rfl rfl ?_ rfl
        refine t_off rfl rfl rfl ?_ rfl
        refine t_off rfl rfl rfl ?_ rfl
        refine t_off rfl rfl rfl ?_ rfl
        refine t_pickt rfl rfl ?_ rfl
        refine t_done ?_
        refine x_seq ?_
        refine w_yes rfl ?_
        refine w_seq ?_
        refine w_region ?_
        refine t_assign rfl ?_ rfl
        refine t_done ?_
        refine x_seq ?_
        refine w_ret ?_
        refine x_then_ret ?_
        refine x_ret1 rfl rfl ?_
        exact ⟨_, rfl, ext_trans X0 B⟩
      · intro hc2
        refine t_on rfl rfl ?_
        refine t_fld ln_link_1 (by assumption) fb_link_1 rfl ?_ rfl
        intro p27 hp27
        refine t_on rfl rfl ?_
        refine t_ldi (by assumption) ab_int B rfl ?_ rfl
        refine t_on rfl rfl ?_
        refine t_calls Try.call54 rfl (spec_l1In _ _ _ _) ?_ rfl rfl
        refine t_on rfl rfl ?_
        refine t_notb rfl ?_ rfl
        refine t_pickf rfl rfl ?_ rfl
        refine t_move rfl ?_ rfl
        refine t_part (t := 32) rfl ?_ ?_
        · intro hc3
          refine t_off rfl rfl rfl ?_ rfl
          refine t_off rfl rfl rfl ?_ rfl
          refine t_off rfl rfl rfl ?_ rfl
          refine t_off rfl rfl rfl ?_ rfl
          refine t_pickt rfl rfl ?_ rfl
          refine t_done ?_
          refine x_seq ?_
          refine w_yes rfl ?_
          refine w_seq ?_
          refine w_region ?_
          refine t_assign rfl ?_ rfl
          refine t_done ?_
          refine x_seq ?_
          refine w_ret ?_
          refine x_then_ret ?_
          refine x_ret1 rfl rfl ?_
          exact ⟨_, rfl, ext_trans X0 B⟩
        · intro hc4
          refine t_on rfl rfl ?_
          refine t_fld ln_link_3 (by assumption) fb_link_3 rfl ?_ rfl
          intro p33 hp33
          refine t_on rfl rfl ?_
          refine t_ldi (by assumption) ab_int B rfl ?_ rfl
          refine t_on rfl rfl ?_
          refine t_calls Try.call54 rfl (spec_l1In _ _ _ _) ?_ rfl rfl
          refine t_on rfl rfl ?_
          refine t_notb rfl ?_ rfl
          refine t_pickf rfl rfl ?_ rfl
          refine t_done ?_
          refine x_seq ?_
          refine w_ifb rfl ?_ ?_
          · intro hc5
            refine w_seq ?_
            refine w_region ?_
            refine t_assign rfl ?_ rfl
            refine t_done ?_
            refine x_seq ?_
            refine w_ret ?_
            refine x_then_ret ?_
            refine x_ret1 rfl rfl ?_
            exact ⟨_, rfl, ext_trans X0 B⟩
          · intro hc6
            refine w_skip ?_
            refine x_seq ?_
            refine w_seq ?_
            refine w_region ?_
            refine t_fld ln_topo_0 (by assumption) fb_topo_0 rfl ?_ rfl
            intro p38 hp38
            refine t_lds (by assumption) ab_s_asn B rfl ?_ rfl
            intro v39 hv39
            refine t_fld ln_link_0 (by assumption) fb_link_0 rfl ?_ rfl
            intro p40 hp40
            refine t_ldi (by assumption) ab_int B rfl ?_ rfl
            obtain ⟨e42, he42⟩ : ∃ e, ((⟨A, L⟩ : Topo).ases)[x.a.toNat]? = some e := getx (by omega)
            refine t_idx e_asn (k := x.a.toNat) (by assumption) he42 B rfl rfl (by first | rfl | omega) ?_ rfl
            intro p42 hp42
            refine t_lda (by assumption) ab_asn sb_asn B rfl ?_ rfl
            intro v43 hv43
            obtain rfl := asn_va hv43
            refine t_alloc S z_asn rfl ?_ rfl rfl
            intro g5 w19 x20 S
            have B := bx Hb B x20
            refine t_stn S sb_asn rfl rfl rfl rfl (by simp [Value.oneCell']) ?_
            intro w21 b22 S
            have B := B.trans b22
            refine t_done ?_
            refine x_seq ?_
            refine w_seq ?_
            refine w_region ?_
            refine t_fld ln_topo_0 (by assumption) fb_topo_0 rfl ?_ rfl
            intro p44 hp44
            refine t_lds (by assumption) ab_s_asn B rfl ?_ rfl
            intro v45 hv45
            refine t_fld ln_link_2 (by assumption) fb_link_2 rfl ?_ rfl
            intro p46 hp46
            refine t_ldi (by assumption) ab_int B rfl ?_ rfl
            obtain ⟨e48, he48⟩ : ∃ e, ((⟨A, L⟩ : Topo).ases)[x.b.toNat]? = some e := getx (by omega)
            refine t_idx e_asn (k := x.b.toNat) (by assumption) he48 B rfl rfl (by first | rfl | omega) ?_ rfl
            intro p48 hp48
            refine t_lda (by assumption) ab_asn sb_asn B rfl ?_ rfl
            intro v49 hv49
            obtain rfl := asn_va hv49
            refine t_alloc S z_asn rfl ?_ rfl rfl
            intro g6 w23 x24 S
            have B := bx Hb B x24
            refine t_stn S sb_asn rfl rfl rfl rfl (by simp [Value.oneCell']) ?_
            intro w25 b26 S
            have B := B.trans b26
            refine t_done ?_
            refine x_seq ?_
            refine w_seq ?_
            refine w_seq ?_
            refine w_region ?_
            refine t_fld ln_link_4 (by assumption) fb_link_4 rfl ?_ rfl
            intro p50 hp50
            refine t_ldi (by assumption) ab_int B rfl ?_ rfl
            refine t_done ?_
            refine x_seq ?_
            refine w_block ?_
            refine w_seq ?_
            refine w_region ?_
            refine t_eql rfl rfl ?_ rfl
            refine t_assign rfl ?_ rfl
            refine t_done ?_
            refine x_seq ?_
            refine w_if rfl ?_ ?_
            · intro hc7
              refine w_seq ?_
              refine w_region ?_
              refine t_fldx fb_asn_1 rfl rfl ?_ rfl
              refine t_bx1 S.tail.box ab_bool rfl rfl ?_ rfl
              refine t_move rfl ?_ rfl
              refine t_part (t := 56) rfl ?_ ?_
              · intro hc8
                refine t_on rfl rfl ?_
                refine t_fldx fb_asn_1 rfl rfl ?_ rfl
                refine t_on rfl rfl ?_
                refine t_bx1 S.box ab_bool rfl rfl ?_ rfl
                refine t_pickt rfl rfl ?_ rfl
                refine t_assign rfl ?_ rfl
                refine t_done ?_
                refine x_seq ?_
                refine w_ret ?_
                refine x_block_ret ?_
                refine x_then_ret ?_
                refine x_ret1 rfl rfl ?_
                exact ⟨_, rfl, ext_trans X0 B⟩
              · intro hc9
                refine t_off rfl rfl rfl ?_ rfl
                refine t_off rfl rfl rfl ?_ rfl
                refine t_pickf rfl rfl ?_ rfl
                refine t_assign rfl ?_ rfl
                refine t_done ?_
                refine x_seq ?_
                refine w_ret ?_
                refine x_block_ret ?_
                refine x_then_ret ?_
                refine x_ret1 rfl rfl ?_
                exact ⟨_, rfl, ext_trans X0 B⟩
            · intro hc10
              refine w_seq ?_
              refine w_region ?_
              refine t_eql rfl rfl ?_ rfl
              refine t_assign rfl ?_ rfl
              refine t_done ?_
              refine x_seq ?_
              refine w_if rfl ?_ ?_
              · intro hc11
                refine w_seq ?_
                refine w_region ?_
                refine t_fldx fb_asn_0 rfl rfl ?_ rfl
                refine t_bx1 S.tail.box ab_int rfl rfl ?_ rfl
                refine t_fldx fb_asn_0 rfl rfl ?_ rfl
                refine t_bx1 S.box ab_int rfl rfl ?_ rfl
                refine t_eql rfl rfl ?_ rfl
                refine t_move rfl ?_ rfl
                refine t_partp (t := 67) rfl ?_ ?_
                · intro hc12
                  refine t_on rfl rfl ?_
                  refine t_fldx fb_asn_1 rfl rfl ?_ rfl
                  refine t_on rfl rfl ?_
                  refine t_bx1 S.box ab_bool rfl rfl ?_ rfl
                  refine t_on rfl rfl ?_
                  refine t_notb rfl ?_ rfl
                  refine t_pickt rfl rfl ?_ rfl
                  refine t_assign rfl ?_ rfl
                  refine t_done ?_
                  refine x_seq ?_
                  refine w_ret ?_
                  refine x_block_ret ?_
                  refine x_then_ret ?_
                  refine x_ret1 rfl rfl ?_
                  exact ⟨_, rfl, ext_trans X0 B⟩
                · intro hc13
                  refine t_off rfl rfl rfl ?_ rfl
                  refine t_off rfl rfl rfl ?_ rfl
                  refine t_off rfl rfl rfl ?_ rfl
                  refine t_pickf rfl rfl ?_ rfl
                  refine t_assign rfl ?_ rfl
                  refine t_done ?_
                  refine x_seq ?_
                  refine w_ret ?_
                  refine x_block_ret ?_
                  refine x_then_ret ?_
                  refine x_ret1 rfl rfl ?_
                  exact ⟨_, rfl, ext_trans X0 B⟩
              · intro hc14
                refine w_skip ?_
                refine x_block_normal ?_
                refine x_seq ?_
                refine w_seq ?_
                refine w_region ?_
                refine t_fld ln_link_4 (by assumption) fb_link_4 rfl ?_ rfl
                intro p72 hp72
                refine t_ldi (by assumption) ab_int B rfl ?_ rfl
                refine t_eql rfl rfl ?_ rfl
                refine t_move rfl ?_ rfl
                refine t_partp (t := 75) rfl ?_ ?_
                · intro hc15
                  refine t_on rfl rfl ?_
                  refine t_fldx fb_asn_1 rfl rfl ?_ rfl
                  refine t_on rfl rfl ?_
                  refine t_bx1 S.tail.box ab_bool rfl rfl ?_ rfl
                  refine t_on rfl rfl ?_
                  refine t_notb rfl ?_ rfl
                  refine t_pickt rfl rfl ?_ rfl
                  refine t_move rfl ?_ rfl
                  refine t_part (t := 80) rfl ?_ ?_
                  · intro hc16
                    refine t_on rfl rfl ?_
                    refine t_fldx fb_asn_1 rfl rfl ?_ rfl
                    refine t_on rfl rfl ?_
                    refine t_bx1 S.box ab_bool rfl rfl ?_ rfl
                    refine t_on rfl rfl ?_
                    refine t_notb rfl ?_ rfl
                    refine t_pickt rfl rfl ?_ rfl
                    refine t_assign rfl ?_ rfl
                    refine t_done ?_
                    refine x_seq ?_
                    refine w_ret ?_
                    refine x_ret1 rfl rfl ?_
                    exact ⟨_, rfl, ext_trans X0 B⟩
                  · intro hc17
                    refine t_off rfl rfl rfl ?_ rfl
                    refine t_off rfl rfl rfl ?_ rfl
                    refine t_off rfl rfl rfl ?_ rfl
                    refine t_pickf rfl rfl ?_ rfl
                    refine t_assign rfl ?_ rfl
                    refine t_done ?_
                    refine x_seq ?_
                    refine w_ret ?_
                    refine x_ret1 rfl rfl ?_
                    exact ⟨_, rfl, ext_trans X0 B⟩
                · intro hc18
                  refine t_off rfl rfl rfl ?_ rfl
                  refine t_off rfl rfl rfl ?_ rfl
                  refine t_off rfl rfl rfl ?_ rfl
                  refine t_pickf rfl rfl ?_ rfl
                  refine t_move rfl ?_ rfl
                  refine t_off rfl rfl rfl ?_ rfl
                  refine t_off rfl rfl rfl ?_ rfl
                  refine t_off rfl rfl rfl ?_ rfl
                  refine t_pickf rfl rfl ?_ rfl
                  refine t_assign rfl ?_ rfl
                  refine t_done ?_
                  refine x_seq ?_
                  refine w_ret ?_
                  refine x_ret1 rfl rfl ?_
                  exact ⟨_, rfl, ext_trans X0 B⟩
end Go.Proofs.Ytdaecknfahgddaa
namespace Go.Proofs.Ytdaecknfahgddaa
open Go.RowKit
set_option linter.unusedVariables false
set_option maxRecDepth 20000
section
variable {P : Program} {n : Nat} {ops : Array Oper} {Q : Exit → Act → World → Prop} {L : Frm} {w : World} {l : List Oper} {T : IT} {d : Nat} {ty : TypeId} {pos : String} {af : Array Edge}
theorem p_lss {x y : Operand} {t t' : TypeId} {kd : IntKind} {a b : Int} (hx : ev L x = some (.int kd a)) (hy : ev L y = some (.int kd b)) (k : WPre P n ops Q l T ((d, .bool (decide (a < b))) :: L) w) (hn : Nat.blt d n = true) : WPre P n ops Q (⟨some d, .binOp .lss t x y t', ty, pos, af, none⟩ :: l) T L w :=
  p_read (fun e ha _ _ _ w' => by simp [execOp, ha.ev hx, ha.ev hy, eqGuard, binOp, Op.intCmp]) k hn
theorem p_fldx {g o o' off : Nat} {s i : Nat} {xo : Operand} (hf : fieldB P s i = some off) (hx : ev L xo = some (.pointer (some ⟨g, o, none⟩))) (ho : o + off = o')
    (kk : WPre P n ops Q l T ((d, .pointer (some ⟨g, o', none⟩)) :: L) w) (hn : Nat.blt d n = true) : WPre P n ops Q (⟨some d, .fieldAddr s xo i, ty, pos, af, none⟩ :: l) T L w := by
  subst ho
  refine p_read (fun a ha _ _ _ w' => ?_) kk hn
  unfold fieldB at hf
  split at hf
  · rename_i fs hu
    split at hf
    · rename_i fd hfd
      split at hf
      · rename_i inf hinf
        split at hf
        · cases hf
        · rename_i hne
          cases hf
          simp [execOp, ha.ev hx, Instr.fieldAt, run_underlying hu, hfd, Instr.sureAddr, fieldPlace, sizeOf, typeInfo, hinf, hne, Addr.add_lit]
      · cases hf
    · cases hf
  · cases hf
end
theorem b_topo0 (w : World) : (Instr.build 27 #[]).run Try.prog w = .ok (.agg #[.slice none 0 0, .slice none 0 0]) w := by kernel_rfl
theorem rl_asn_0 {x : ASd} : ∀ (w : World) cs, asnT.R w cs x → cs[0]? = some (I x.isd) := fun w cs h => by rw [asn_form h]; rfl
theorem so_asn_0 {b : Nat} {x : ASd} {k : Int} : ∀ (w : World) cs f, asnT.O b w cs x f → asnT.O b w (cs.set 0 (I k)) { x with isd := k } f := fun w cs f h => ⟨by rw [asn_form (w := w) h.1]; rfl, h.2⟩
/-- Links as_ they grow among n realms, in at most m steps. -/
inductive Grown (n : Nat) : Nat → List Lnk → Prop
  | nil : Grown n 0 []
  | add {m : Nat} {L : List Lnk} (a c k : Int) : Grown n m L → 0 ≤ a → a < c → c < n → 1 ≤ k → k ≤ 3 → Grown n (m + 1) (addL L a c k)
theorem Grown.len {n m : Nat} {L : List Lnk} (h : Grown n m L) : L.length ≤ m := by
  induction h with
  | nil => simp
  | add a c k h _ _ _ _ _ ih => have := addL_len ‹_› a c k; omega
/-- A realm as_ it is drawn. -/
def AsK (x : ASd) : Prop := 0 ≤ x.isd ∧ x.isd ≤ 1 ∧ 1 ≤ x.key ∧ x.key ≤ 8000100
set_option maxHeartbeats 8000000 in
theorem spec_l5Draw {b n c : Nat} {w : World} {v : Value} {os : List Ow} (S : Sep b w (curO v n c 109 :: os)) (K : CodeK b w v n) : Calls Try.prog 94 #[.pointer (some ⟨c, 0, none⟩)] w fun e w' =>
    ∃ (va vl : Value) (A : List ASd) (L : List Lnk), e = .returned (.agg #[va, vl]) ∧ ((1 ≤ A.length ∧ A.length ≤ 8 ∧ ∀ x ∈ A, AsK x) ∧ ∃ m L0, m ≤ 60 ∧ Grown A.length m L0 ∧ L.Sublist L0) ∧ Sep b w' (slO asnT 121 va A :: slO linkT 78 vl L :: curO v n c 109 :: os) ∧ Below b w w' := by
  have X0 := Below.refl w.heap.size w
  refine enter Try.func94 rfl Try.ntmps94 rfl ?_
  have B := Below.refl b w
  have Hb := S.base
  refine w_seq ?_
  refine w_region ?_
  refine t_alloc S z_topo rfl ?_ rfl rfl
  intro g2 w1 x2 S
  have B := bx Hb B x2
  refine t_done ?_
  refine x_seq ?_
  refine w_seq ?_
  refine w_region ?_
  refine t_build (fun w => b_topo0 w) rfl ?_ rfl
  refine t_alloc S z_topo rfl ?_ rfl rfl
  intro g3 w3 x4 S
  have B := bx Hb B x4
  refine t_stn S sb_topo rfl rfl rfl rfl (by simp [Value.oneCell']) ?_
  intro w5 b6 S
  have B := B.trans b6
  refine t_done ?_
  refine x_seq ?_
  refine w_seq ?_
  refine w_region ?_
  refine t_move rfl ?_ rfl
  have S := S.f2
  refine t_callf Try.call64 rfl (spec_l1Below 3 S (K.below B)) ?_ rfl
  rintro e w7 ⟨y16, rfl, hf16, S, x8⟩
  refine ⟨_, rfl, ?_⟩
  have B := B.trans x8
  refine t_add rfl rfl (by omega) ?_ rfl
  refine t_assign rfl ?_ rfl
  refine t_done ?_
  refine x_seq ?_
  refine w_seq ?_
  refine w_region ?_
  refine t_move rfl ?_ rfl
  refine t_callf Try.call64 rfl (spec_l1Below 6 S (K.below B)) ?_ rfl
  rintro e w9 ⟨y19, rfl, hf19, S, x10⟩
  refine ⟨_, rfl, ?_⟩
  have B := B.trans x10
  refine t_assign rfl ?_ rfl
  refine t_done ?_
  refine x_seq ?_
  refine w_seq ?_
  refine w_seq ?_
  refine w_region ?_
  refine t_assign rfl ?_ rfl
  refine t_done ?_
  refine x_seq ?_
  refine w_block ?_
  have S := Sep.addNil (T := linkT) (e := 78) S
  have S := Sep.addNil (T := asnT) (e := 121) S
  have S := S.f2.f4.f3.f3.f4
  refine w_loop (X := Nat × List ASd × Value) (fun x wq => (fun k A va => (k : Int) ≤ 1 + y16 + y19 ∧ A.length = k ∧ (∀ x ∈ A, AsK x) ∧ Below b w wq ∧ Sep b wq (bxO g3 27 #[va, .slice none 0 0] :: slO asnT 121 va A :: slO linkT 78 (.slice none 0 0) [] :: bxO g2 27 #[.slice none 0 0, .slice none 0 0] :: curO v n c 109 :: os)) x.1 x.2.1 x.2.2) (fun x => (fun k A va => [(6, I ((k : Int))), (0, .pointer (some ⟨c, 0, none⟩)), (2, .pointer (some ⟨g2, 0, none⟩)), (3, .pointer (some ⟨g3, 0, none⟩)), (4, I (1 + y16)), (5, I y19)]) x.1 x.2.1 x.2.2) (fun x => (fun k A va => (1 + y16 + y19 - k).toNat) x.1 x.2.1 x.2.2) (0, [], .slice none 0 0) ?_ ⟨rfl, rfl, rfl, rfl, rfl, rfl, trivial⟩ ?_
  · exact ⟨by omega, rfl, fun x hx => by simp at hx, B, S⟩
  rintro ⟨k, A, va⟩ w11 hI
  try dsimp only at hI ⊢
  obtain ⟨hk, hA, hK, B, S⟩ := hI
  refine w_seq ?_
  refine w_seq ?_
  refine w_region ?_
  refine t_move rfl ?_ rfl
  refine t_move rfl ?_ rfl
  refine t_move rfl ?_ rfl
  refine t_add rfl rfl (by omega) ?_ rfl
  refine t_lss rfl rfl ?_ rfl
  refine t_done ?_
  refine x_seq ?_
  refine w_if rfl ?_ ?_
  · intro hlt
    refine w_skip ?_
    refine x_seq ?_
    refine w_seq ?_
    refine w_block ?_
    refine w_drawP [0, 2, 4, 5, 6, 7, 11] (.alt (.st .fin 1 (.st .fin 3 (.st .fin 8 (.st .fin 9 (.st .fin 10 (.st .fin 12 (.st .fin 13 (.st .fin 14 (.st .fin 15 (.st .fin 16 (.st .fin 17 .done))))))))))) (.st .fin 3 (.alt (.st .fin 1 (.st .fin 8 (.st .fin 9 (.st .fin 10 (.st .fin 12 (.st .fin 13 (.st .fin 14 (.st .fin 15 (.st .fin 16 (.st .fin 17 .done)))))))))) (.st .fin 8 (.alt (.st .fin 1 (.st .fin 9 (.st .fin 10 (.st .fin 12 (.st .fin 13 (.st .fin 14 (.st .fin 15 (.st .fin 16 (.st .fin 17 .done))))))))) (.st .fin 9 (.alt (.st .fin 1 (.st .fin 10 (.st .fin 12 (.st .fin 13 (.st .fin 14 (.st .fin 15 (.st .fin 16 (.st .fin 17 .done)))))))) (.st .fin 10 (.alt (.st .fin 1 (.st .fin 12 (.st .fin 13 (.st .fin 14 (.st .fin 15 (.st .fin 16 (.st .fin 17 .done))))))) (.st .fin 12 (.alt (.st .fin 1 (.st .fin 13 (.st .fin 14 (.st .fin 15 (.st .fin 16 (.st .fin 17 .done)))))) (.st .fin 13 (.alt (.st .fin 1 (.st .fin 14 (.st .fin 15 (.st .fin 16 (.st .fin 17 .done))))) (.st .fin 14 (.st .fin 1 (.st .fin 15 (.st .fin 16 (.st .fin 17 .done)))))))))))))))))) mixed (by kernel_rfl) ?_
    intro w12 x13
    have B := bx Hb B x13
    have S := S.below x13
    refine p_fldx fb_topo_0 rfl rfl ?_ rfl
    refine p_move rfl ?_ rfl
    refine p_move rfl ?_ rfl
    refine p_move rfl ?_ rfl
    refine p_lss rfl rfl ?_ rfl
    refine p_move rfl ?_ rfl
    refine p_move rfl ?_ rfl
    refine p_done ?_
    have hnew : ∀ y z : Int, ∀ q : Bool, 0 ≤ y ∧ (y < 2 ∨ y = 0) → 0 ≤ z ∧ (z < 1000000 ∨ z = 0) → ∀ x ∈ A ++ [(⟨y, q, 1 + z * 8 + k⟩ : ASd)], AsK x := by
      intro y z q hy hz x hx
      rw [List.mem_append, List.mem_singleton] at hx
      rcases hx with hx | hx
      · exact hK x hx
      · subst hx
        exact ⟨hy.1, by show y ≤ 1; omega, by show 1 ≤ 1 + z * 8 + (k : Int); omega, by show 1 + z * 8 + (k : Int) ≤ 8000100; omega⟩
    have hlen : ∀ x : ASd, ((A ++ [x]).length : Int) = ((k + 1 : Nat) : Int) := fun x => by rw [List.length_append, List.length_singleton]; omega
    refine t_alt ?_ ?_
    · refine t_bx1 S.box ab_s_asn rfl rfl ?_ rfl
      have S := S.f4
      refine t_callf Try.call64 rfl (spec_l1Below 2 S (K.below B)) ?_ rfl
      rintro e w14 ⟨y30, rfl, hf30, S, x15⟩
      refine ⟨_, rfl, ?_⟩
      have B := B.trans x15
      refine t_callf Try.call64 rfl (spec_l1Below 1000000 S (K.below B)) ?_ rfl
      rintro e w16 ⟨y35, rfl, hf35, S, x17⟩
      refine ⟨_, rfl, ?_⟩
      have B := B.trans x17
      refine t_mul rfl rfl (by omega) ?_ rfl
      refine t_add rfl rfl (by omega) ?_ rfl
      refine t_add rfl rfl (by omega) ?_ rfl
      refine t_build (fun w => b_asn _ _ _ w) rfl ?_ rfl
      refine t_lit (T := asnT) (l := [(⟨y30, decide ((k : Int) < (1 + y16)), (1 + (y35 * 8)) + (k : Int)⟩ : ASd)]) (css := [[I y30, .bool (decide ((k : Int) < (1 + y16))), I ((1 + (y35 * 8)) + (k : Int))]]) asn_flat S (fun w => bs_asn1 _ _ _ w) rfl rfl rfl rfl (by simp [maxLen]) (litR_one fun _ => rfl) ?_ rfl rfl
      intro u41 w18 x19 S
      have B := bx Hb B x19
      have hR := S.sl
      have S := S.f3
      refine t_cat asn_flat e_asn S hR rfl rfl rfl (by first | omega | (simp [-List.length_flatMap]; omega)) (by (simp [maxLen, -List.length_flatMap]; try omega)) ?_ rfl
      intro v42 w20 x21 S
      have B := B.trans x21
      clear hR
      have S := S.f1
      have S := S.tail
      refine t_fldx fb_topo_0 rfl rfl ?_ rfl
      obtain ⟨Av42, cv42, rfl, _⟩ := S.sl.form
      have S := S.f2
      refine t_st1 S sb_s_asn rfl rfl rfl rfl rfl ?_
      intro w22 b23 S
      have B := B.trans b23
      refine t_done' ?_
      refine x_block_normal ?_
      refine x_seq ?_
      refine w_region ?_
      refine t_move rfl ?_ rfl
      refine t_add rfl rfl (by omega) ?_ rfl
      refine t_assign rfl ?_ rfl
      refine t_done ?_
      have S := S.f2
      have S := S.f4
      have S := S.f4
      have S := S.f4
      have S := S.f4
      refine x_round (X := Nat × List ASd × Value) (I := (fun x wq => (fun k A va => (k : Int) ≤ 1 + y16 + y19 ∧ A.length = k ∧ (∀ x ∈ A, AsK x) ∧ Below b w wq ∧ Sep b wq (bxO g3 27 #[va, .slice none 0 0] :: slO asnT 121 va A :: slO linkT 78 (.slice none 0 0) [] :: bxO g2 27 #[.slice none 0 0, .slice none 0 0] :: curO v n c 109 :: os)) x.1 x.2.1 x.2.2)) (F := (fun x => (fun k A va => [(6, I ((k : Int))), (0, .pointer (some ⟨c, 0, none⟩)), (2, .pointer (some ⟨g2, 0, none⟩)), (3, .pointer (some ⟨g3, 0, none⟩)), (4, I (1 + y16)), (5, I y19)]) x.1 x.2.1 x.2.2)) (μ := (fun x => (fun k A va => (1 + y16 + y19 - k).toNat) x.1 x.2.1 x.2.2)) (k + 1, A ++ [(⟨y30, decide ((k : Int) < 1 + y16), 1 + y35 * 8 + (k : Int)⟩ : ASd)], .slice Av42 (A ++ ([(⟨y30, decide ((k : Int) < (1 + y16)), (1 + (y35 * 8)) + (k : Int)⟩ : ASd)])).length cv42) ?_ (by exact ⟨rfl, rfl, rfl, rfl, rfl, rfl, trivial⟩) (by (try dsimp only); omega)
      try dsimp only
      exact ⟨by omega, hlen _, hnew _ _ _ hf30 hf35, B, S⟩
    · have S := S.f4
      refine t_callf Try.call64 rfl (spec_l1Below 2 S (K.below B)) ?_ rfl
      rintro e w24 ⟨y30, rfl, hf30, S, x25⟩
      refine ⟨_, rfl, ?_⟩
      have B := B.trans x25
      refine t_alt ?_ ?_
      · refine t_bx1 S.tail.box ab_s_asn rfl rfl ?_ rfl
        refine t_callf Try.call64 rfl (spec_l1Below 1000000 S (K.below B)) ?_ rfl
        rintro e w26 ⟨y35, rfl, hf35, S, x27⟩
        refine ⟨_, rfl, ?_⟩
        have B := B.trans x27
        refine t_mul rfl rfl (by omega) ?_ rfl
        refine t_add rfl rfl (by omega) ?_ rfl
        refine t_add rfl rfl (by omega) ?_ rfl
        refine t_build (fun w => b_asn _ _ _ w) rfl ?_ rfl
        refine t_lit (T := asnT) (l := [(⟨y30, decide ((k : Int) < (1 + y16)), (1 + (y35 * 8)) + (k : Int)⟩ : ASd)]) (css := [[I y30, .bool (decide ((k : Int) < (1 + y16))), I ((1 + (y35 * 8)) + (k : Int))]]) asn_flat S (fun w => bs_asn1 _ _ _ w) rfl rfl rfl rfl (by simp [maxLen]) (litR_one fun _ => rfl) ?_ rfl rfl
        intro u41 w28 x29 S
        have B := bx Hb B x29
        have hR := S.sl
        have S := S.f3
        refine t_cat asn_flat e_asn S hR rfl rfl rfl (by first | omega | (simp [-List.length_flatMap]; omega)) (by (simp [maxLen, -List.length_flatMap]; try omega)) ?_ rfl
        intro v42 w30 x31 S
        have B := B.trans x31
        clear hR
        have S := S.f1
        have S := S.tail
        refine t_fldx fb_topo_0 rfl rfl ?_ rfl
        obtain ⟨Av42, cv42, rfl, _⟩ := S.sl.form
        have S := S.f2
        refine t_st1 S sb_s_asn rfl rfl rfl rfl rfl ?_
        intro w32 b33 S
        have B := B.trans b33
        refine t_done' ?_
        refine x_block_normal ?_
        refine x_seq ?_
        refine w_region ?_
        refine t_move rfl ?_ rfl
        refine t_add rfl rfl (by omega) ?_ rfl
        refine t_assign rfl ?_ rfl
        refine t_done ?_
        have S := S.f2
        have S := S.f4
        have S := S.f4
        have S := S.f4
        have S := S.f4
        refine x_round (X := Nat × List ASd × Value) (I := (fun x wq => (fun k A va => (k : Int) ≤ 1 + y16 + y19 ∧ A.length = k ∧ (∀ x ∈ A, AsK x) ∧ Below b w wq ∧ Sep b wq (bxO g3 27 #[va, .slice none 0 0] :: slO asnT 121 va A :: slO linkT 78 (.slice none 0 0) [] :: bxO g2 27 #[.slice none 0 0, .slice none 0 0] :: curO v n c 109 :: os)) x.1 x.2.1 x.2.2)) (F := (fun x => (fun k A va => [(6, I ((k : Int))), (0, .pointer (some ⟨c, 0, none⟩)), (2, .pointer (some ⟨g2, 0, none⟩)), (3, .pointer (some ⟨g3, 0, none⟩)), (4, I (1 + y16)), (5, I y19)]) x.1 x.2.1 x.2.2)) (μ := (fun x => (fun k A va => (1 + y16 + y19 - k).toNat) x.1 x.2.1 x.2.2)) (k + 1, A ++ [(⟨y30, decide ((k : Int) < 1 + y16), 1 + y35 * 8 + (k : Int)⟩ : ASd)], .slice Av42 (A ++ ([(⟨y30, decide ((k : Int) < (1 + y16)), (1 + (y35 * 8)) + (k : Int)⟩ : ASd)])).length cv42) ?_ (by exact ⟨rfl, rfl, rfl, rfl, rfl, rfl, trivial⟩) (by (try dsimp only); omega)
        try dsimp only
        exact ⟨by omega, hlen _, hnew _ _ _ hf30 hf35, B, S⟩
      · refine t_callf Try.call64 rfl (spec_l1Below 1000000 S (K.below B)) ?_ rfl
        rintro e w34 ⟨y35, rfl, hf35, S, x35⟩
        refine ⟨_, rfl, ?_⟩
        have B := B.trans x35
        refine t_alt ?_ ?_
        · refine t_bx1 S.tail.box ab_s_asn rfl rfl ?_ rfl
          refine t_mul rfl rfl (by omega) ?_ rfl
          refine t_add rfl rfl (by omega) ?_ rfl
          refine t_add rfl rfl (by omega) ?_ rfl
          refine t_build (fun w => b_asn _ _ _ w) rfl ?_ rfl
          refine t_lit (T := asnT) (l := [(⟨y30, decide ((k : Int) < (1 + y16)), (1 + (y35 * 8)) + (k : Int)⟩ : ASd)]) (css := [[I y30, .bool (decide ((k : Int) < (1 + y16))), I ((1 + (y35 * 8)) + (k : Int))]]) asn_flat S (fun w => bs_asn1 _ _ _ w) rfl rfl rfl rfl (by simp [maxLen]) (litR_one fun _ => rfl) ?_ rfl rfl
          intro u41 w36 x37 S
          have B := bx Hb B x37
          have hR := S.sl
          have S := S.f3
          refine t_cat asn_flat e_asn S hR rfl rfl rfl (by first | omega | (simp [-List.length_flatMap]; omega)) (by (simp [maxLen, -List.length_flatMap]; try omega)) ?_ rfl
          intro v42 w38 x39 S
          have B := B.trans x39
          clear hR
          have S := S.f1
          have S := S.tail
          refine t_fldx fb_topo_0 rfl rfl ?_ rfl
          obtain ⟨Av42, cv42, rfl, _⟩ := S.sl.form
          have S := S.f2
          refine t_st1 S sb_s_asn rfl rfl rfl rfl rfl ?_
          intro w40 b41 S
          have B := B.trans b41
          refine t_done' ?_
          refine x_block_normal ?_
          refine x_seq ?_
          refine w_region ?_
          refine t_move rfl ?_ rfl
          refine t_add rfl rfl (by omega) ?_ rfl
          refine t_assign rfl ?_ rfl
          refine t_done ?_
          have S := S.f2
          have S := S.f4
          have S := S.f4
          have S := S.f4
          have S := S.f4
          refine x_round (X := Nat × List ASd × Value) (I := (fun x wq => (fun k A va => (k : Int) ≤ 1 + y16 + y19 ∧ A.length = k ∧ (∀ x ∈ A, AsK x) ∧ Below b w wq ∧ Sep b wq (bxO g3 27 #[va, .slice none 0 0] :: slO asnT 121 va A :: slO linkT 78 (.slice none 0 0) [] :: bxO g2 27 #[.slice none 0 0, .slice none 0 0] :: curO v n c 109 :: os)) x.1 x.2.1 x.2.2)) (F := (fun x => (fun k A va => [(6, I ((k : Int))), (0, .pointer (some ⟨c, 0, none⟩)), (2, .pointer (some ⟨g2, 0, none⟩)), (3, .pointer (some ⟨g3, 0, none⟩)), (4, I (1 + y16)), (5, I y19)]) x.1 x.2.1 x.2.2)) (μ := (fun x => (fun k A va => (1 + y16 + y19 - k).toNat) x.1 x.2.1 x.2.2)) (k + 1, A ++ [(⟨y30, decide ((k : Int) < 1 + y16), 1 + y35 * 8 + (k : Int)⟩ : ASd)], .slice Av42 (A ++ ([(⟨y30, decide ((k : Int) < (1 + y16)), (1 + (y35 * 8)) + (k : Int)⟩ : ASd)])).length cv42) ?_ (by exact ⟨rfl, rfl, rfl, rfl, rfl, rfl, trivial⟩) (by (try dsimp only); omega)
          try dsimp only
          exact ⟨by omega, hlen _, hnew _ _ _ hf30 hf35, B, S⟩
        · refine t_mul rfl rfl (by omega) ?_ rfl
          refine t_alt ?_ ?_
          · refine t_bx1 S.tail.box ab_s_asn rfl rfl ?_ rfl
            refine t_add rfl rfl (by omega) ?_ rfl
            refine t_add rfl rfl (by omega) ?_ rfl
            refine t_build (fun w => b_asn _ _ _ w) rfl ?_ rfl
            refine t_lit (T := asnT) (l := [(⟨y30, decide ((k : Int) < (1 + y16)), (1 + (y35 * 8)) + (k : Int)⟩ : ASd)]) (css := [[I y30, .bool (decide ((k : Int) < (1 + y16))), I ((1 + (y35 * 8)) + (k : Int))]]) asn_flat S (fun w => bs_asn1 _ _ _ w) rfl rfl rfl rfl (by simp [maxLen]) (litR_one fun _ => rfl) ?_ rfl rfl
            intro u41 w42 x43 S
            have B := bx Hb B x43
            have hR := S.sl
            have S := S.f3
            refine t_cat asn_flat e_asn S hR rfl rfl rfl (by first | omega | (simp [-List.length_flatMap]; omega)) (by (simp [maxLen, -List.length_flatMap]; try omega)) ?_ rfl
            intro v42 w44 x45 S
            have B := B.trans x45
            clear hR
            have S := S.f1
            have S := S.tail
            refine t_fldx fb_topo_0 rfl rfl ?_ rfl
            obtain ⟨Av42, cv42, rfl, _⟩ := S.sl.form
            have S := S.f2
            refine t_st1 S sb_s_asn rfl rfl rfl rfl rfl ?_
            intro w46 b47 S
            have B := B.trans b47
            refine t_done' ?_
            refine x_block_normal ?_
            refine x_seq ?_
            refine w_region ?_
            refine t_move rfl ?_ rfl
            refine t_add rfl rfl (by omega) ?_ rfl
            refine t_assign rfl ?_ rfl
            refine t_done ?_
            have S := S.f2
            have S := S.f4
            have S := S.f4
            have S := S.f4
            have S := S.f4
            refine x_round (X := Nat × List ASd × Value) (I := (fun x wq => (fun k A va => (k : Int) ≤ 1 + y16 + y19 ∧ A.length = k ∧ (∀ x ∈ A, AsK x) ∧ Below b w wq ∧ Sep b wq (bxO g3 27 #[va, .slice none 0 0] :: slO asnT 121 va A :: slO linkT 78 (.slice none 0 0) [] :: bxO g2 27 #[.slice none 0 0, .slice none 0 0] :: curO v n c 109 :: os)) x.1 x.2.1 x.2.2)) (F := (fun x => (fun k A va => [(6, I ((k : Int))), (0, .pointer (some ⟨c, 0, none⟩)), (2, .pointer (some ⟨g2, 0, none⟩)), (3, .pointer (some ⟨g3, 0, none⟩)), (4, I (1 + y16)), (5, I y19)]) x.1 x.2.1 x.2.2)) (μ := (fun x => (fun k A va => (1 + y16 + y19 - k).toNat) x.1 x.2.1 x.2.2)) (k + 1, A ++ [(⟨y30, decide ((k : Int) < 1 + y16), 1 + y35 * 8 + (k : Int)⟩ : ASd)], .slice Av42 (A ++ ([(⟨y30, decide ((k : Int) < (1 + y16)), (1 + (y35 * 8)) + (k : Int)⟩ : ASd)])).length cv42) ?_ (by exact ⟨rfl, rfl, rfl, rfl, rfl, rfl, trivial⟩) (by (try dsimp only); omega)
            try dsimp only
            exact ⟨by omega, hlen _, hnew _ _ _ hf30 hf35, B, S⟩
          · refine t_add rfl rfl (by omega) ?_ rfl
            refine t_alt ?_ ?_
            · refine t_bx1 S.tail.box ab_s_asn rfl rfl ?_ rfl
              refine t_add rfl rfl (by omega) ?_ rfl
              refine t_build (fun w => b_asn _ _ _ w) rfl ?_ rfl
              refine t_lit (T := asnT) (l := [(⟨y30, decide ((k : Int) < (1 + y16)), (1 + (y35 * 8)) + (k : Int)⟩ : ASd)]) (css := [[I y30, .bool (decide ((k : Int) < (1 + y16))), I ((1 + (y35 * 8)) + (k : Int))]]) asn_flat S (fun w => bs_asn1 _ _ _ w) rfl rfl rfl rfl (by simp [maxLen]) (litR_one fun _ => rfl) ?_ rfl rfl
              intro u41 w48 x49 S
              have B := bx Hb B x49
              have hR := S.sl
              have S := S.f3
              refine t_cat asn_flat e_asn S hR rfl rfl rfl (by first | omega | (simp [-List.length_flatMap]; omega)) (by (simp [maxLen, -List.length_flatMap]; try omega)) ?_ rfl
              intro v42 w50 x51 S
              have B := B.trans x51
              clear hR
              have S := S.f1
              have S := S.tail
              refine t_fldx fb_topo_0 rfl rfl ?_ rfl
              obtain ⟨Av42, cv42, rfl, _⟩ := S.sl.form
              have S := S.f2
              refine t_st1 S sb_s_asn rfl rfl rfl rfl rfl ?_
              intro w52 b53 S
              have B := B.trans b53
              refine t_done' ?_
              refine x_block_normal ?_
              refine x_seq ?_
              refine w_region ?_
              refine t_move rfl ?_ rfl
              refine t_add rfl rfl (by omega) ?_ rfl
              refine t_assign rfl ?_ rfl
              refine t_done ?_
              have S := S.f2
              have S := S.f4
              have S := S.f4
              have S := S.f4
              have S := S.f4
              refine x_round (X := Nat × List ASd × Value) (I := (fun x wq => (fun k A va => (k : Int) ≤ 1 + y16 + y19 ∧ A.length = k ∧ (∀ x ∈ A, AsK x) ∧ Below b w wq ∧ Sep b wq (bxO g3 27 #[va, .slice none 0 0] :: slO asnT 121 va A :: slO linkT 78 (.slice none 0 0) [] :: bxO g2 27 #[.slice none 0 0, .slice none 0 0] :: curO v n c 109 :: os)) x.1 x.2.1 x.2.2)) (F := (fun x => (fun k A va => [(6, I ((k : Int))), (0, .pointer (some ⟨c, 0, none⟩)), (2, .pointer (some ⟨g2, 0, none⟩)), (3, .pointer (some ⟨g3, 0, none⟩)), (4, I (1 + y16)), (5, I y19)]) x.1 x.2.1 x.2.2)) (μ := (fun x => (fun k A va => (1 + y16 + y19 - k).toNat) x.1 x.2.1 x.2.2)) (k + 1, A ++ [(⟨y30, decide ((k : Int) < 1 + y16), 1 + y35 * 8 + (k : Int)⟩ : ASd)], .slice Av42 (A ++ ([(⟨y30, decide ((k : Int) < (1 + y16)), (1 + (y35 * 8)) + (k : Int)⟩ : ASd)])).length cv42) ?_ (by exact ⟨rfl, rfl, rfl, rfl, rfl, rfl, trivial⟩) (by (try dsimp only); omega)
              try dsimp only
              exact ⟨by omega, hlen _, hnew _ _ _ hf30 hf35, B, S⟩
            · refine t_add rfl rfl (by omega) ?_ rfl
              refine t_alt ?_ ?_
              · refine t_bx1 S.tail.box ab_s_asn rfl rfl ?_ rfl
                refine t_build (fun w => b_asn _ _ _ w) rfl ?_ rfl
                refine t_lit (T := asnT) (l := [(⟨y30, decide ((k : Int) < (1 + y16)), (1 + (y35 * 8)) + (k : Int)⟩ : ASd)]) (css := [[I y30, .bool (decide ((k : Int) < (1 + y16))), I ((1 + (y35 * 8)) + (k : Int))]]) asn_flat S (fun w => bs_asn1 _ _ _ w) rfl rfl rfl rfl (by simp [maxLen]) (litR_one fun _ => rfl) ?_ rfl rfl
                intro u41 w54 x55 S
                have B := bx Hb B x55
                have hR := S.sl
                have S := S.f3
                refine t_cat asn_flat e_asn S hR rfl rfl rfl (by first | omega | (simp [-List.length_flatMap]; omega)) (by (simp [maxLen, -List.length_flatMap]; try omega)) ?_ rfl
                intro v42 w56 x57 S
                have B := B.trans x57
                clear hR
                have S := S.f1
                have S := S.tail
                refine t_fldx fb_topo_0 rfl rfl ?_ rfl
                obtain ⟨Av42, cv42, rfl, _⟩ := S.sl.form
                have S := S.f2
                refine t_st1 S sb_s_asn rfl rfl rfl rfl rfl ?_
                intro w58 b59 S
                have B := B.trans b59
                refine t_done' ?_
                refine x_block_normal ?_
                refine x_seq ?_
                refine w_region ?_
                refine t_move rfl ?_ rfl
                refine t_add rfl rfl (by omega) ?_ rfl
                refine t_assign rfl ?_ rfl
                refine t_done ?_
                have S := S.f2
                have S := S.f4
                have S := S.f4
                have S := S.f4
                have S := S.f4
                refine x_round (X := Nat × List ASd × Value) (I := (fun x wq => (fun k A va => (k : Int) ≤ 1 + y16 + y19 ∧ A.length = k ∧ (∀ x ∈ A, AsK x) ∧ Below b w wq ∧ Sep b wq (bxO g3 27 #[va, .slice none 0 0] :: slO asnT 121 va A :: slO linkT 78 (.slice none 0 0) [] :: bxO g2 27 #[.slice none 0 0, .slice none 0 0] :: curO v n c 109 :: os)) x.1 x.2.1 x.2.2)) (F := (fun x => (fun k A va => [(6, I ((k : Int))), (0, .pointer (some ⟨c, 0, none⟩)), (2, .pointer (some ⟨g2, 0, none⟩)), (3, .pointer (some ⟨g3, 0, none⟩)), (4, I (1 + y16)), (5, I y19)]) x.1 x.2.1 x.2.2)) (μ := (fun x => (fun k A va => (1 + y16 + y19 - k).toNat) x.1 x.2.1 x.2.2)) (k + 1, A ++ [(⟨y30, decide ((k : Int) < 1 + y16), 1 + y35 * 8 + (k : Int)⟩ : ASd)], .slice Av42 (A ++ ([(⟨y30, decide ((k : Int) < (1 + y16)), (1 + (y35 * 8)) + (k : Int)⟩ : ASd)])).length cv42) ?_ (by exact ⟨rfl, rfl, rfl, rfl, rfl, rfl, trivial⟩) (by (try dsimp only); omega)
                try dsimp only
                exact ⟨by omega, hlen _, hnew _ _ _ hf30 hf35, B, S⟩
              · refine t_build (fun w => b_asn _ _ _ w) rfl ?_ rfl
                refine t_alt ?_ ?_
                · refine t_bx1 S.tail.box ab_s_asn rfl rfl ?_ rfl
                  refine t_lit (T := asnT) (l := [(⟨y30, decide ((k : Int) < (1 + y16)), (1 + (y35 * 8)) + (k : Int)⟩ : ASd)]) (css := [[I y30, .bool (decide ((k : Int) < (1 + y16))), I ((1 + (y35 * 8)) + (k : Int))]]) asn_flat S (fun w => bs_asn1 _ _ _ w) rfl rfl rfl rfl (by simp [maxLen]) (litR_one fun _ => rfl) ?_ rfl rfl
                  intro u41 w60 x61 S
                  have B := bx Hb B x61
                  have hR := S.sl
                  have S := S.f3
                  refine t_cat asn_flat e_asn S hR rfl rfl rfl (by first | omega | (simp [-List.length_flatMap]; omega)) (by (simp [maxLen, -List.length_flatMap]; try omega)) ?_ rfl
                  intro v42 w62 x63 S
                  have B := B.trans x63
                  clear hR
                  have S := S.f1
                  have S := S.tail
                  refine t_fldx fb_topo_0 rfl rfl ?_ rfl
                  obtain ⟨Av42, cv42, rfl, _⟩ := S.sl.form
                  have S := S.f2
                  refine t_st1 S sb_s_asn rfl rfl rfl rfl rfl ?_
                  intro w64 b65 S
                  have B := B.trans b65
                  refine t_done' ?_
                  refine x_block_normal ?_
                  refine x_seq ?_
                  refine w_region ?_
                  refine t_move rfl ?_ rfl
                  refine t_add rfl rfl (by omega) ?_ rfl
                  refine t_assign rfl ?_ rfl
                  refine t_done ?_
                  have S := S.f2
                  have S := S.f4
                  have S := S.f4
                  have S := S.f4
                  have S := S.f4
                  refine x_round (X := Nat × List ASd × Value) (I := (fun x wq => (fun k A va => (k : Int) ≤ 1 + y16 + y19 ∧ A.length = k ∧ (∀ x ∈ A, AsK x) ∧ Below b w wq ∧ Sep b wq (bxO g3 27 #[va, .slice none 0 0] :: slO asnT 121 va A :: slO linkT 78 (.slice none 0 0) [] :: bxO g2 27 #[.slice none 0 0, .slice none 0 0] :: curO v n c 109 :: os)) x.1 x.2.1 x.2.2)) (F := (fun x => (fun k A va => [(6, I ((k : Int))), (0, .pointer (some ⟨c, 0, none⟩)), (2, .pointer (some ⟨g2, 0, none⟩)), (3, .pointer (some ⟨g3, 0, none⟩)), (4, I (1 + y16)), (5, I y19)]) x.1 x.2.1 x.2.2)) (μ := (fun x => (fun k A va => (1 + y16 + y19 - k).toNat) x.1 x.2.1 x.2.2)) (k + 1, A ++ [(⟨y30, decide ((k : Int) < 1 + y16), 1 + y35 * 8 + (k : Int)⟩ : ASd)], .slice Av42 (A ++ ([(⟨y30, decide ((k : Int) < (1 + y16)), (1 + (y35 * 8)) + (k : Int)⟩ : ASd)])).length cv42) ?_ (by exact ⟨rfl, rfl, rfl, rfl, rfl, rfl, trivial⟩) (by (try dsimp only); omega)
                  try dsimp only
                  exact ⟨by omega, hlen _, hnew _ _ _ hf30 hf35, B, S⟩
                · refine t_lit (T := asnT) (l := [(⟨y30, decide ((k : Int) < (1 + y16)), (1 + (y35 * 8)) + (k : Int)⟩ : ASd)]) (css := [[I y30, .bool (decide ((k : Int) < (1 + y16))), I ((1 + (y35 * 8)) + (k : Int))]]) asn_flat S (fun w => bs_asn1 _ _ _ w) rfl rfl rfl rfl (by simp [maxLen]) (litR_one fun _ => rfl) ?_ rfl rfl
                  intro u41 w66 x67 S
                  have B := bx Hb B x67
                  refine t_bx1 S.tail.tail.box ab_s_asn rfl rfl ?_ rfl
                  have hR := S.sl
                  have S := S.f3
                  refine t_cat asn_flat e_asn S hR rfl rfl rfl (by first | omega | (simp [-List.length_flatMap]; omega)) (by (simp [maxLen, -List.length_flatMap]; try omega)) ?_ rfl
                  intro v42 w68 x69 S
                  have B := B.trans x69
                  clear hR
                  have S := S.f1
                  have S := S.tail
                  refine t_fldx fb_topo_0 rfl rfl ?_ rfl
                  obtain ⟨Av42, cv42, rfl, _⟩ := S.sl.form
                  have S := S.f2
                  refine t_st1 S sb_s_asn rfl rfl rfl rfl rfl ?_
                  intro w70 b71 S
                  have B := B.trans b71
                  refine t_done' ?_
                  refine x_block_normal ?_
                  refine x_seq ?_
                  refine w_region ?_
                  refine t_move rfl ?_ rfl
                  refine t_add rfl rfl (by omega) ?_ rfl
                  refine t_assign rfl ?_ rfl
                  refine t_done ?_
                  have S := S.f2
                  have S := S.f4
                  have S := S.f4
                  have S := S.f4
                  have S := S.f4
                  refine x_round (X := Nat × List ASd × Value) (I := (fun x wq => (fun k A va => (k : Int) ≤ 1 + y16 + y19 ∧ A.length = k ∧ (∀ x ∈ A, AsK x) ∧ Below b w wq ∧ Sep b wq (bxO g3 27 #[va, .slice none 0 0] :: slO asnT 121 va A :: slO linkT 78 (.slice none 0 0) [] :: bxO g2 27 #[.slice none 0 0, .slice none 0 0] :: curO v n c 109 :: os)) x.1 x.2.1 x.2.2)) (F := (fun x => (fun k A va => [(6, I ((k : Int))), (0, .pointer (some ⟨c, 0, none⟩)), (2, .pointer (some ⟨g2, 0, none⟩)), (3, .pointer (some ⟨g3, 0, none⟩)), (4, I (1 + y16)), (5, I y19)]) x.1 x.2.1 x.2.2)) (μ := (fun x => (fun k A va => (1 + y16 + y19 - k).toNat) x.1 x.2.1 x.2.2)) (k + 1, A ++ [(⟨y30, decide ((k : Int) < 1 + y16), 1 + y35 * 8 + (k : Int)⟩ : ASd)], .slice Av42 (A ++ ([(⟨y30, decide ((k : Int) < (1 + y16)), (1 + (y35 * 8)) + (k : Int)⟩ : ASd)])).length cv42) ?_ (by exact ⟨rfl, rfl, rfl, rfl, rfl, rfl, trivial⟩) (by (try dsimp only); omega)
                  try dsimp only
                  exact ⟨by omega, hlen _, hnew _ _ _ hf30 hf35, B, S⟩
  · intro hge
    refine w_exit ?_
    refine x_then_exit ?_
    refine x_then_exit ?_
    refine x_block_exit ?_
    refine x_seq ?_
    refine w_seq ?_
    refine w_seq ?_
    refine w_region ?_
    refine t_assign rfl ?_ rfl
    refine t_done ?_
    refine x_seq ?_
    refine w_block ?_
    have hN : (A.length : Int) = 1 + y16 + y19 := by omega
    clear hge hk
    refine w_loop (X := Nat × List Lnk × Value) (fun x wq => (fun k L vl => 1 ≤ k ∧ (k : Int) ≤ 1 + y16 ∧ (∃ m : Nat, m ≤ 2 * k ∧ Grown A.length m L) ∧ Below b w wq ∧ Sep b wq (bxO g3 27 #[va, vl] :: slO asnT 121 va A :: slO linkT 78 vl L :: bxO g2 27 #[.slice none 0 0, .slice none 0 0] :: curO v n c 109 :: os)) x.1 x.2.1 x.2.2) (fun x => (fun k L vl => [(7, I ((k : Int))), (0, .pointer (some ⟨c, 0, none⟩)), (2, .pointer (some ⟨g2, 0, none⟩)), (3, .pointer (some ⟨g3, 0, none⟩)), (4, I (1 + y16))]) x.1 x.2.1 x.2.2) (fun x => (fun k L vl => (1 + y16 - k).toNat) x.1 x.2.1 x.2.2) (1, [], .slice none 0 0) ?_ ⟨rfl, rfl, rfl, rfl, rfl, trivial⟩ ?_
    · exact ⟨by omega, by omega, ⟨0, by omega, .nil⟩, B, S⟩
    rintro ⟨k, L, vl⟩ w72 hI
    try dsimp only at hI ⊢
    obtain ⟨hk1, hk, ⟨m, hm, hG⟩, B, S⟩ := hI
    have hL := hG.len
    refine w_seq ?_
    refine w_seq ?_
    refine w_region ?_
    refine t_move rfl ?_ rfl
    refine t_move rfl ?_ rfl
    refine t_lss rfl rfl ?_ rfl
    refine t_done ?_
    refine x_seq ?_
    refine w_if rfl ?_ ?_
    · intro hlt
      refine w_skip ?_
      refine x_seq ?_
      refine w_seq ?_
      refine w_block ?_
      refine w_seq ?_
      refine w_region ?_
      refine t_move rfl ?_ rfl
      refine t_move rfl ?_ rfl
      have S := S.f4
      refine t_callf Try.call64 rfl (spec_l1Below (k : Int) S (K.below B)) ?_ rfl
      rintro e w73 ⟨y51, rfl, hf51, S, x74⟩
      refine ⟨_, rfl, ?_⟩
      have B := B.trans x74
      refine t_move rfl ?_ rfl
      have S := S.f3
      have S := S.f3
      have S := S.f3
      refine t_callf Try.call120 rfl (spec_l5Add y51 (k : Int) 1 S (by omega)) ?_ rfl
      rintro e w75 ⟨v53, rfl, S, x76⟩
      refine ⟨_, rfl, ?_⟩
      have B := B.trans x76
      refine t_done ?_
      refine x_seq ?_
      refine w_seq ?_
      refine w_region ?_
      refine t_move rfl ?_ rfl
      have S := S.f3
      refine t_callf Try.call116 rfl (spec_l1Once 2 S (K.below B)) ?_ rfl
      rintro e w77 ⟨y55, rfl, hf55, S, x78⟩
      refine ⟨_, rfl, ?_⟩
      have B := B.trans x78
      refine t_done ?_
      refine x_seq ?_
      have hG2 := hG.add y51 k 1 (by omega) (by omega) (by omega) (by omega) (by omega)
      have hL2 := hG2.len
      refine w_if rfl ?_ ?_
      · intro hone
        refine w_region ?_
        refine t_move rfl ?_ rfl
        refine t_move rfl ?_ rfl
        refine t_callf Try.call64 rfl (spec_l1Below (k : Int) S (K.below B)) ?_ rfl
        rintro e w79 ⟨y58, rfl, hf58, S, x80⟩
        refine ⟨_, rfl, ?_⟩
        have B := B.trans x80
        refine t_move rfl ?_ rfl
        have S := S.f3
        have S := S.f3
        have S := S.f3
        refine t_callf Try.call120 rfl (spec_l5Add y58 (k : Int) 1 S (by omega)) ?_ rfl
        rintro e w81 ⟨v60, rfl, S, x82⟩
        refine ⟨_, rfl, ?_⟩
        have B := B.trans x82
        refine t_done ?_
        refine x_block_normal ?_
        refine x_seq ?_
        refine w_region ?_
        refine t_move rfl ?_ rfl
        refine t_add rfl rfl (by omega) ?_ rfl
        refine t_assign rfl ?_ rfl
        refine t_done ?_
        have hG3 := hG2.add y58 k 1 (by omega) (by omega) (by omega) (by omega) (by omega)
        have S := S.f3
        have S := S.f4
        have S := S.f4
        have S := S.f4
        have S := S.f4
        refine x_round (X := Nat × List Lnk × Value) (I := (fun x wq => (fun k L vl => 1 ≤ k ∧ (k : Int) ≤ 1 + y16 ∧ (∃ m : Nat, m ≤ 2 * k ∧ Grown A.length m L) ∧ Below b w wq ∧ Sep b wq (bxO g3 27 #[va, vl] :: slO asnT 121 va A :: slO linkT 78 vl L :: bxO g2 27 #[.slice none 0 0, .slice none 0 0] :: curO v n c 109 :: os)) x.1 x.2.1 x.2.2)) (F := (fun x => (fun k L vl => [(7, I ((k : Int))), (0, .pointer (some ⟨c, 0, none⟩)), (2, .pointer (some ⟨g2, 0, none⟩)), (3, .pointer (some ⟨g3, 0, none⟩)), (4, I (1 + y16))]) x.1 x.2.1 x.2.2)) (μ := (fun x => (fun k L vl => (1 + y16 - k).toNat) x.1 x.2.1 x.2.2)) (k + 1, addL (addL L y51 (k : Int) 1) y58 (k : Int) 1, v60) ?_ (by exact ⟨rfl, rfl, rfl, rfl, rfl, trivial⟩) (by (try dsimp only); omega)
        try dsimp only
        exact ⟨by omega, by omega, ⟨_, by omega, hG3⟩, B, S⟩
      · intro hone
        refine w_skip ?_
        refine x_block_normal ?_
        refine x_seq ?_
        refine w_region ?_
        refine t_move rfl ?_ rfl
        refine t_add rfl rfl (by omega) ?_ rfl
        refine t_assign rfl ?_ rfl
        refine t_done ?_
        have S := S.f4
        have S := S.f4
        have S := S.f4
        have S := S.f4
        refine x_round (X := Nat × List Lnk × Value) (I := (fun x wq => (fun k L vl => 1 ≤ k ∧ (k : Int) ≤ 1 + y16 ∧ (∃ m : Nat, m ≤ 2 * k ∧ Grown A.length m L) ∧ Below b w wq ∧ Sep b wq (bxO g3 27 #[va, vl] :: slO asnT 121 va A :: slO linkT 78 vl L :: bxO g2 27 #[.slice none 0 0, .slice none 0 0] :: curO v n c 109 :: os)) x.1 x.2.1 x.2.2)) (F := (fun x => (fun k L vl => [(7, I ((k : Int))), (0, .pointer (some ⟨c, 0, none⟩)), (2, .pointer (some ⟨g2, 0, none⟩)), (3, .pointer (some ⟨g3, 0, none⟩)), (4, I (1 + y16))]) x.1 x.2.1 x.2.2)) (μ := (fun x => (fun k L vl => (1 + y16 - k).toNat) x.1 x.2.1 x.2.2)) (k + 1, addL L y51 (k : Int) 1, v53) ?_ (by exact ⟨rfl, rfl, rfl, rfl, rfl, trivial⟩) (by (try dsimp only); omega)
        try dsimp only
        exact ⟨by omega, by omega, ⟨_, by omega, hG2⟩, B, S⟩
    · intro hge
      refine w_exit ?_
      refine x_then_exit ?_
      refine x_then_exit ?_
      refine x_block_exit ?_
      refine x_seq ?_
      refine w_seq ?_
      refine w_seq ?_
      refine w_region ?_
      refine t_move rfl ?_ rfl
      refine t_assign rfl ?_ rfl
      refine t_done ?_
      refine x_seq ?_
      refine w_block ?_
      obtain ⟨N, hNN⟩ : ∃ N, N = A.length := ⟨_, rfl⟩
      rw [← hNN] at hG hN
      have hA := hNN.symm
      clear hNN
      refine w_loop (X := Int × List ASd × Value × List Lnk × Value) (fun x wq => (fun k A va L vl => 1 ≤ k ∧ 1 + y16 ≤ k ∧ k ≤ N ∧ A.length = N ∧ (∀ x ∈ A, AsK x) ∧ (∃ m : Nat, (m : Int) ≤ 6 + 3 * k ∧ Grown N m L) ∧ Below b w wq ∧ Sep b wq (bxO g3 27 #[va, vl] :: slO asnT 121 va A :: slO linkT 78 vl L :: bxO g2 27 #[.slice none 0 0, .slice none 0 0] :: curO v n c 109 :: os)) x.1 x.2.1 x.2.2.1 x.2.2.2.1 x.2.2.2.2) (fun x => (fun k A va L vl => [(8, I k), (0, .pointer (some ⟨c, 0, none⟩)), (2, .pointer (some ⟨g2, 0, none⟩)), (3, .pointer (some ⟨g3, 0, none⟩)), (4, I (1 + y16))]) x.1 x.2.1 x.2.2.1 x.2.2.2.1 x.2.2.2.2) (fun x => (fun k A va L vl => ((N : Int) - k).toNat) x.1 x.2.1 x.2.2.1 x.2.2.2.1 x.2.2.2.2) (1 + y16, A, va, L, vl) ?_ ⟨rfl, rfl, rfl, rfl, rfl, trivial⟩ ?_
      · exact ⟨by omega, by omega, by omega, hA, hK, ⟨m, by omega, hG⟩, B, S⟩
      rintro ⟨k, A, va, L, vl⟩ w83 hI
      try dsimp only at hI ⊢
      obtain ⟨hk1, hk2, hk, hA, hK, ⟨m, hm, hG⟩, B, S⟩ := hI
      refine w_seq ?_
      refine w_seq ?_
      refine w_region ?_
      refine t_move rfl ?_ rfl
      refine t_fldx fb_topo_0 rfl rfl ?_ rfl
      refine t_bx1 S.box ab_s_asn rfl rfl ?_ rfl
      refine t_len e_asn (S.tail.sl) rfl rfl ?_ rfl
      refine t_lss rfl rfl ?_ rfl
      refine t_done ?_
      refine x_seq ?_
      refine w_if rfl ?_ ?_
      · intro hlt
        refine w_skip ?_
        refine x_seq ?_
        refine w_seq ?_
        refine w_block ?_
        refine w_seq ?_
        refine w_seq ?_
        refine w_region ?_
        refine t_move rfl ?_ rfl
        have S := S.f4
        refine t_callf Try.call64 rfl (spec_l1Below 2 S (K.below B)) ?_ rfl
        rintro e w84 ⟨y70, rfl, hf70, S, x85⟩
        refine ⟨_, rfl, ?_⟩
        have B := B.trans x85
        refine t_add rfl rfl (by omega) ?_ rfl
        refine t_assign rfl ?_ rfl
        refine t_done ?_
        refine x_seq ?_
        refine w_block ?_
        refine w_loop (X := Int × List ASd × Value × List Lnk × Value) (fun x wq => (fun j A2 va2 L2 vl2 => 0 ≤ j ∧ j ≤ 2 ∧ A2.length = N ∧ (∀ x ∈ A2, AsK x) ∧ (∃ m : Nat, (m : Int) ≤ 6 + 3 * k + (2 - j) ∧ Grown N m L2) ∧ Below b w wq ∧ Sep b wq (bxO g3 27 #[va2, vl2] :: slO asnT 121 va2 A2 :: slO linkT 78 vl2 L2 :: bxO g2 27 #[.slice none 0 0, .slice none 0 0] :: curO v n c 109 :: os)) x.1 x.2.1 x.2.2.1 x.2.2.2.1 x.2.2.2.2) (fun x => (fun j A2 va2 L2 vl2 => [(9, I j), (8, I k), (0, .pointer (some ⟨c, 0, none⟩)), (2, .pointer (some ⟨g2, 0, none⟩)), (3, .pointer (some ⟨g3, 0, none⟩)), (4, I (1 + y16))]) x.1 x.2.1 x.2.2.1 x.2.2.2.1 x.2.2.2.2) (fun x => (fun j A2 va2 L2 vl2 => j.toNat) x.1 x.2.1 x.2.2.1 x.2.2.2.1 x.2.2.2.2) (1 + y70, A, va, L, vl) ?_ ⟨rfl, rfl, rfl, rfl, rfl, rfl, trivial⟩ ?_
        · exact ⟨by omega, by omega, hA, hK, ⟨m, by omega, hG⟩, B, S.f4.f4.f4.f4⟩
        rintro ⟨j, A2, va2, L2, vl2⟩ w86 hI
        try dsimp only at hI ⊢
        obtain ⟨hj0, hj2, hA2, hK2, ⟨m2, hm2, hG2⟩, B, S⟩ := hI
        have hL2 := hG2.len
        refine w_seq ?_
        refine w_seq ?_
        refine w_region ?_
        refine t_move rfl ?_ rfl
        refine t_gtr rfl rfl ?_ rfl
        refine t_done ?_
        refine x_seq ?_
        refine w_if rfl ?_ ?_
        · intro hj
          have S := S.f1
          obtain ⟨Gva2, Cva2, rfl⟩ := S.addr (by omega)
          refine w_skip ?_
          refine x_seq ?_
          refine w_seq ?_
          refine w_block ?_
          refine w_seq ?_
          refine w_region ?_
          refine t_move rfl ?_ rfl
          refine t_move rfl ?_ rfl
          have S := S.f4
          refine t_callf Try.call64 rfl (spec_l1Below k S (K.below B)) ?_ rfl
          rintro e w87 ⟨y78, rfl, hf78, S, x88⟩
          refine ⟨_, rfl, ?_⟩
          have B := B.trans x88
          refine t_assign rfl ?_ rfl
          refine t_done ?_
          refine x_seq ?_
          refine w_seq ?_
          refine w_seq ?_
          refine w_region ?_
          refine t_move rfl ?_ rfl
          refine t_callf Try.call116 rfl (spec_l1Once 5 S (K.below B)) ?_ rfl
          rintro e w89 ⟨y80, rfl, hf80, S, x90⟩
          refine ⟨_, rfl, ?_⟩
          have B := B.trans x90
          refine t_not rfl ?_ rfl
          refine t_done ?_
          refine x_seq ?_
          obtain ⟨ea, hea⟩ := getx (l := A2) (k := y78.toNat) (by omega)
          obtain ⟨eb, heb⟩ := getx (l := A2) (k := k.toNat) (by omega)
          have hadd := hG2.add y78 k 2 (by omega) (by omega) (by omega) (by omega) (by omega)
          refine w_if rfl ?_ ?_
          · intro ho
            refine w_draw (.st .take 0 (.st .take 1 (.st .take 2 (.st .take 3 (.st .take 4 (.st .take 5 (.st .take 6 (.st .take 7 (.st .take 8 (.st .take 9 (.st .take 10 (.st .fin 11 .done)))))))))))) mixed (by kernel_rfl) ?_
            intro w91 x92
            have B := bx Hb B x92
            have S := S.below x92
            refine t_fldx fb_topo_0 rfl rfl ?_ rfl
            refine t_bx1 S.tail.tail.box ab_s_asn rfl rfl ?_ rfl
            refine t_move rfl ?_ rfl
            refine t_fldx fb_topo_0 rfl rfl ?_ rfl
            refine t_bx1 S.tail.tail.box ab_s_asn rfl rfl ?_ rfl
            refine t_move rfl ?_ rfl
            refine t_idxx e_asn (k := y78.toNat) rfl rfl (by first | rfl | omega) (by omega) rfl ?_ rfl
            refine t_fldx fb_asn_0 rfl rfl ?_ rfl
            have S := S.f1
            refine t_ldS (T := asnT) (j := 0) S ab_int rfl hea rfl rl_asn_0 ?_ rfl
            refine t_idxx e_asn (k := k.toNat) rfl rfl (by first | rfl | omega) (by omega) rfl ?_ rfl
            refine t_fldx fb_asn_0 rfl rfl ?_ rfl
            refine t_stS (T := asnT) (j := 0) (x' := { eb with isd := ea.isd }) S (by first | rfl | ((try simp only [List.length_set]); first | omega | simp)) sb_int rfl rfl heb rfl (by decide) rfl rfl so_asn_0 ?_
            intro w93 b94 S
            have B := B.trans b94
            have hq95 := set_at (y := { eb with isd := ea.isd }) heb
            refine t_done' ?_
            refine x_seq ?_
            refine w_seq ?_
            refine w_draw (.st .take 0 (.st .take 1 (.st .take 2 (.st .take 3 (.st .take 4 (.st .take 5 (.st .take 6 (.st .take 7 (.st .take 8 (.st .take 9 (.st .take 10 (.st .take 11 (.st .take 12 .done))))))))))))) mixed (by kernel_rfl) ?_
            intro w96 x97
            have B := bx Hb B x97
            have S := S.below x97
            refine t_fldx fb_topo_0 rfl rfl ?_ rfl
            refine t_bx1 S.tail.tail.box ab_s_asn rfl rfl ?_ rfl
            refine t_move rfl ?_ rfl
            refine t_idxx e_asn (k := y78.toNat) rfl rfl (by first | rfl | omega) (by omega) rfl ?_ rfl
            refine t_fldx fb_asn_0 rfl rfl ?_ rfl
            have hea2 : (A2.set k.toNat { eb with isd := ea.isd })[y78.toNat]? = some ea := by rw [List.getElem?_set_ne (by omega)]; exact hea
            have hKs : ∀ x ∈ A2.set k.toNat { eb with isd := ea.isd }, AsK x := by
              intro x hx
              rcases List.mem_or_eq_of_mem_set hx with hx | rfl
              · exact hK2 x hx
              · have q1 := hK2 ea (List.mem_of_getElem? hea)
                have q2 := hK2 eb (List.mem_of_getElem? heb)
                exact ⟨q1.1, q1.2.1, q2.2.2.1, q2.2.2.2⟩
            refine t_ldS (T := asnT) (j := 0) S ab_int rfl hea2 rfl rl_asn_0 ?_ rfl
            refine t_fldx fb_topo_0 rfl rfl ?_ rfl
            refine t_bx1 S.tail.tail.box ab_s_asn rfl rfl ?_ rfl
            refine t_move rfl ?_ rfl
            refine t_idxx e_asn (k := k.toNat) rfl rfl (by first | rfl | omega) (by omega) rfl ?_ rfl
            refine t_fldx fb_asn_0 rfl rfl ?_ rfl
            refine t_ldS (T := asnT) (j := 0) S ab_int rfl hq95 rfl rl_asn_0 ?_ rfl
            refine t_eql rfl rfl ?_ rfl
            refine t_done' ?_
            refine x_seq ?_
            refine w_if rfl ?_ ?_
            · intro hi
              refine w_region ?_
              refine t_move rfl ?_ rfl
              refine t_move rfl ?_ rfl
              have S := S.f3
              have S := S.f1
              have S := S.f3
              refine t_callf Try.call120 rfl (spec_l5Add y78 k 2 S (by omega)) ?_ rfl
              rintro e w98 ⟨v108, rfl, S, x99⟩
              refine ⟨_, rfl, ?_⟩
              have B := B.trans x99
              refine t_done ?_
              refine x_block_normal ?_
              refine x_seq ?_
              refine w_region ?_
              refine t_move rfl ?_ rfl
              refine t_sub rfl rfl (by omega) ?_ rfl
              refine t_assign rfl ?_ rfl
              refine t_done ?_
              have S := S.f3
              have S := S.f4
              have S := S.f4
              have S := S.f4
              have S := S.f4
              refine x_round (X := Int × List ASd × Value × List Lnk × Value) (I := (fun x wq => (fun j A2 va2 L2 vl2 => 0 ≤ j ∧ j ≤ 2 ∧ A2.length = N ∧ (∀ x ∈ A2, AsK x) ∧ (∃ m : Nat, (m : Int) ≤ 6 + 3 * k + (2 - j) ∧ Grown N m L2) ∧ Below b w wq ∧ Sep b wq (bxO g3 27 #[va2, vl2] :: slO asnT 121 va2 A2 :: slO linkT 78 vl2 L2 :: bxO g2 27 #[.slice none 0 0, .slice none 0 0] :: curO v n c 109 :: os)) x.1 x.2.1 x.2.2.1 x.2.2.2.1 x.2.2.2.2)) (F := (fun x => (fun j A2 va2 L2 vl2 => [(9, I j), (8, I k), (0, .pointer (some ⟨c, 0, none⟩)), (2, .pointer (some ⟨g2, 0, none⟩)), (3, .pointer (some ⟨g3, 0, none⟩)), (4, I (1 + y16))]) x.1 x.2.1 x.2.2.1 x.2.2.2.1 x.2.2.2.2)) (μ := (fun x => (fun j A2 va2 L2 vl2 => j.toNat) x.1 x.2.1 x.2.2.1 x.2.2.2.1 x.2.2.2.2)) (j - 1, A2.set k.toNat { eb with isd := ea.isd }, (.slice (some ⟨Gva2, 0, none⟩) A2.length Cva2), addL L2 y78 k 2, v108) ?_ (by exact ⟨rfl, rfl, rfl, rfl, rfl, rfl, trivial⟩) (by (try dsimp only); omega)
              try dsimp only
              exact ⟨by omega, by omega, by rw [List.length_set]; exact hA2, hKs, ⟨_, by omega, hadd⟩, B, S⟩
            · intro hi
              refine w_skip ?_
              refine x_block_normal ?_
              refine x_seq ?_
              refine w_region ?_
              refine t_move rfl ?_ rfl
              refine t_sub rfl rfl (by omega) ?_ rfl
              refine t_assign rfl ?_ rfl
              refine t_done ?_
              have S := S.f1
              have S := S.f4
              have S := S.f4
              have S := S.f3
              have S := S.f4
              refine x_round (X := Int × List ASd × Value × List Lnk × Value) (I := (fun x wq => (fun j A2 va2 L2 vl2 => 0 ≤ j ∧ j ≤ 2 ∧ A2.length = N ∧ (∀ x ∈ A2, AsK x) ∧ (∃ m : Nat, (m : Int) ≤ 6 + 3 * k + (2 - j) ∧ Grown N m L2) ∧ Below b w wq ∧ Sep b wq (bxO g3 27 #[va2, vl2] :: slO asnT 121 va2 A2 :: slO linkT 78 vl2 L2 :: bxO g2 27 #[.slice none 0 0, .slice none 0 0] :: curO v n c 109 :: os)) x.1 x.2.1 x.2.2.1 x.2.2.2.1 x.2.2.2.2)) (F := (fun x => (fun j A2 va2 L2 vl2 => [(9, I j), (8, I k), (0, .pointer (some ⟨c, 0, none⟩)), (2, .pointer (some ⟨g2, 0, none⟩)), (3, .pointer (some ⟨g3, 0, none⟩)), (4, I (1 + y16))]) x.1 x.2.1 x.2.2.1 x.2.2.2.1 x.2.2.2.2)) (μ := (fun x => (fun j A2 va2 L2 vl2 => j.toNat) x.1 x.2.1 x.2.2.1 x.2.2.2.1 x.2.2.2.2)) (j - 1, A2.set k.toNat { eb with isd := ea.isd }, (.slice (some ⟨Gva2, 0, none⟩) A2.length Cva2), L2, vl2) ?_ (by exact ⟨rfl, rfl, rfl, rfl, rfl, rfl, trivial⟩) (by (try dsimp only); omega)
              try dsimp only
              exact ⟨by omega, by omega, by rw [List.length_set]; exact hA2, hKs, ⟨m2, by omega, hG2⟩, B, S⟩
          · intro ho
            refine w_skip ?_
            refine x_seq ?_
            refine w_seq ?_
            refine w_draw (.st .take 0 (.st .take 1 (.st .take 2 (.st .take 3 (.st .take 4 (.st .take 5 (.st .take 6 (.st .take 7 (.st .take 8 (.st .take 9 (.st .take 10 (.st .take 11 (.st .take 12 .done))))))))))))) mixed (by kernel_rfl) ?_
            intro w100 x101
            have B := bx Hb B x101
            have S := S.below x101
            refine t_fldx fb_topo_0 rfl rfl ?_ rfl
            refine t_bx1 S.tail.tail.box ab_s_asn rfl rfl ?_ rfl
            refine t_move rfl ?_ rfl
            refine t_idxx e_asn (k := y78.toNat) rfl rfl (by first | rfl | omega) (by omega) rfl ?_ rfl
            refine t_fldx fb_asn_0 rfl rfl ?_ rfl
            have S := S.f1
            refine t_ldS (T := asnT) (j := 0) S ab_int rfl hea rfl rl_asn_0 ?_ rfl
            refine t_fldx fb_topo_0 rfl rfl ?_ rfl
            refine t_bx1 S.tail.tail.box ab_s_asn rfl rfl ?_ rfl
            refine t_move rfl ?_ rfl
            refine t_idxx e_asn (k := k.toNat) rfl rfl (by first | rfl | omega) (by omega) rfl ?_ rfl
            refine t_fldx fb_asn_0 rfl rfl ?_ rfl
            refine t_ldS (T := asnT) (j := 0) S ab_int rfl heb rfl rl_asn_0 ?_ rfl
            refine t_eql rfl rfl ?_ rfl
            refine t_done' ?_
            refine x_seq ?_
            refine w_if rfl ?_ ?_
            · intro hi
              refine w_region ?_
              refine t_move rfl ?_ rfl
              refine t_move rfl ?_ rfl
              have S := S.f3
              have S := S.f1
              have S := S.f3
              refine t_callf Try.call120 rfl (spec_l5Add y78 k 2 S (by omega)) ?_ rfl
              rintro e w102 ⟨v108, rfl, S, x103⟩
              refine ⟨_, rfl, ?_⟩
              have B := B.trans x103
              refine t_done ?_
              refine x_block_normal ?_
              refine x_seq ?_
              refine w_region ?_
              refine t_move rfl ?_ rfl
              refine t_sub rfl rfl (by omega) ?_ rfl
              refine t_assign rfl ?_ rfl
              refine t_done ?_
              have S := S.f3
              have S := S.f4
              have S := S.f4
              have S := S.f4
              have S := S.f4
              refine x_round (X := Int × List ASd × Value × List Lnk × Value) (I := (fun x wq => (fun j A2 va2 L2 vl2 => 0 ≤ j ∧ j ≤ 2 ∧ A2.length = N ∧ (∀ x ∈ A2, AsK x) ∧ (∃ m : Nat, (m : Int) ≤ 6 + 3 * k + (2 - j) ∧ Grown N m L2) ∧ Below b w wq ∧ Sep b wq (bxO g3 27 #[va2, vl2] :: slO asnT 121 va2 A2 :: slO linkT 78 vl2 L2 :: bxO g2 27 #[.slice none 0 0, .slice none 0 0] :: curO v n c 109 :: os)) x.1 x.2.1 x.2.2.1 x.2.2.2.1 x.2.2.2.2)) (F := (fun x => (fun j A2 va2 L2 vl2 => [(9, I j), (8, I k), (0, .pointer (some ⟨c, 0, none⟩)), (2, .pointer (some ⟨g2, 0, none⟩)), (3, .pointer (some ⟨g3, 0, none⟩)), (4, I (1 + y16))]) x.1 x.2.1 x.2.2.1 x.2.2.2.1 x.2.2.2.2)) (μ := (fun x => (fun j A2 va2 L2 vl2 => j.toNat) x.1 x.2.1 x.2.2.1 x.2.2.2.1 x.2.2.2.2)) (j - 1, A2, (.slice (some ⟨Gva2, 0, none⟩) A2.length Cva2), addL L2 y78 k 2, v108) ?_ (by exact ⟨rfl, rfl, rfl, rfl, rfl, rfl, trivial⟩) (by (try dsimp only); omega)
              try dsimp only
              exact ⟨by omega, by omega, hA2, hK2, ⟨_, by omega, hadd⟩, B, S⟩
            · intro hi
              refine w_skip ?_
              refine x_block_normal ?_
              refine x_seq ?_
              refine w_region ?_
              refine t_move rfl ?_ rfl
              refine t_sub rfl rfl (by omega) ?_ rfl
              refine t_assign rfl ?_ rfl
              refine t_done ?_
              have S := S.f1
              have S := S.f4
              have S := S.f4
              have S := S.f3
              have S := S.f4
              refine x_round (X := Int × List ASd × Value × List Lnk × Value) (I := (fun x wq => (fun j A2 va2 L2 vl2 => 0 ≤ j ∧ j ≤ 2 ∧ A2.length = N ∧ (∀ x ∈ A2, AsK x) ∧ (∃ m : Nat, (m : Int) ≤ 6 + 3 * k + (2 - j) ∧ Grown N m L2) ∧ Below b w wq ∧ Sep b wq (bxO g3 27 #[va2, vl2] :: slO asnT 121 va2 A2 :: slO linkT 78 vl2 L2 :: bxO g2 27 #[.slice none 0 0, .slice none 0 0] :: curO v n c 109 :: os)) x.1 x.2.1 x.2.2.1 x.2.2.2.1 x.2.2.2.2)) (F := (fun x => (fun j A2 va2 L2 vl2 => [(9, I j), (8, I k), (0, .pointer (some ⟨c, 0, none⟩)), (2, .pointer (some ⟨g2, 0, none⟩)), (3, .pointer (some ⟨g3, 0, none⟩)), (4, I (1 + y16))]) x.1 x.2.1 x.2.2.1 x.2.2.2.1 x.2.2.2.2)) (μ := (fun x => (fun j A2 va2 L2 vl2 => j.toNat) x.1 x.2.1 x.2.2.1 x.2.2.2.1 x.2.2.2.2)) (j - 1, A2, (.slice (some ⟨Gva2, 0, none⟩) A2.length Cva2), L2, vl2) ?_ (by exact ⟨rfl, rfl, rfl, rfl, rfl, rfl, trivial⟩) (by (try dsimp only); omega)
              try dsimp only
              exact ⟨by omega, by omega, hA2, hK2, ⟨m2, by omega, hG2⟩, B, S⟩
        · intro hj
          refine w_exit ?_
          refine x_then_exit ?_
          refine x_then_exit ?_
          refine x_block_exit ?_
          refine x_seq ?_
          refine w_seq ?_
          refine w_region ?_
          refine t_move rfl ?_ rfl
          refine t_move rfl ?_ rfl
          refine t_move rfl ?_ rfl
          refine t_move rfl ?_ rfl
          refine t_sub rfl rfl (by omega) ?_ rfl
          refine t_add rfl rfl (by omega) ?_ rfl
          have S := S.f4
          refine t_callf Try.call64 rfl (spec_l1Below ((k - (1 + y16)) + 1) S (K.below B)) ?_ rfl
          rintro e w104 ⟨y115, rfl, hf115, S, x105⟩
          refine ⟨_, rfl, ?_⟩
          have B := B.trans x105
          refine t_add rfl rfl (by omega) ?_ rfl
          refine t_assign rfl ?_ rfl
          refine t_done ?_
          refine x_seq ?_
          refine w_seq ?_
          refine w_region ?_
          refine t_move rfl ?_ rfl
          refine t_move rfl ?_ rfl
          refine t_lss rfl rfl ?_ rfl
          refine t_move rfl ?_ rfl
          have hadd : (1 + y16) + y115 < k → Grown N (m2 + 1) (addL L2 ((1 + y16) + y115) k 3) := fun h => hG2.add _ k 3 (by omega) h (by omega) (by omega) (by omega)
          refine t_partp (t := 120) rfl ?_ ?_
          · intro h1
            refine t_on rfl rfl ?_
            refine t_move rfl ?_ rfl
            refine t_on rfl rfl ?_
            refine t_callf Try.call116 rfl (spec_l1Once 3 S (K.below B)) ?_ rfl
            rintro e w106 ⟨y122, rfl, hf122, S, x107⟩
            refine ⟨_, rfl, ?_⟩
            have B := B.trans x107
            refine t_pickt rfl rfl ?_ rfl
            refine t_done ?_
            refine x_seq ?_
            refine w_if rfl ?_ ?_
            · intro h2
              refine w_region ?_
              refine t_move rfl ?_ rfl
              refine t_move rfl ?_ rfl
              have S := S.f3
              have S := S.f3
              have S := S.f3
              refine t_callf Try.call120 rfl (spec_l5Add ((1 + y16) + y115) k 3 S (by omega)) ?_ rfl
              rintro e w108 ⟨v126, rfl, S, x109⟩
              refine ⟨_, rfl, ?_⟩
              have B := B.trans x109
              refine t_done ?_
              refine x_block_normal ?_
              refine x_seq ?_
              refine w_region ?_
              refine t_move rfl ?_ rfl
              refine t_add rfl rfl (by omega) ?_ rfl
              refine t_assign rfl ?_ rfl
              refine t_done ?_
              have S := S.f3
              have S := S.f4
              have S := S.f4
              have S := S.f4
              have S := S.f4
              refine x_round (X := Int × List ASd × Value × List Lnk × Value) (I := (fun x wq => (fun k A va L vl => 1 ≤ k ∧ 1 + y16 ≤ k ∧ k ≤ N ∧ A.length = N ∧ (∀ x ∈ A, AsK x) ∧ (∃ m : Nat, (m : Int) ≤ 6 + 3 * k ∧ Grown N m L) ∧ Below b w wq ∧ Sep b wq (bxO g3 27 #[va, vl] :: slO asnT 121 va A :: slO linkT 78 vl L :: bxO g2 27 #[.slice none 0 0, .slice none 0 0] :: curO v n c 109 :: os)) x.1 x.2.1 x.2.2.1 x.2.2.2.1 x.2.2.2.2)) (F := (fun x => (fun k A va L vl => [(8, I k), (0, .pointer (some ⟨c, 0, none⟩)), (2, .pointer (some ⟨g2, 0, none⟩)), (3, .pointer (some ⟨g3, 0, none⟩)), (4, I (1 + y16))]) x.1 x.2.1 x.2.2.1 x.2.2.2.1 x.2.2.2.2)) (μ := (fun x => (fun k A va L vl => ((N : Int) - k).toNat) x.1 x.2.1 x.2.2.1 x.2.2.2.1 x.2.2.2.2)) (k + 1, A2, va2, addL L2 ((1 + y16) + y115) k 3, v126) ?_ (by exact ⟨rfl, rfl, rfl, rfl, rfl, trivial⟩) (by (try dsimp only); omega)
              try dsimp only
              exact ⟨by omega, by omega, by omega, hA2, hK2, ⟨_, by omega, hadd h1⟩, B, S⟩
            · intro h2
              refine w_skip ?_
              refine x_block_normal ?_
              refine x_seq ?_
              refine w_region ?_
              refine t_move rfl ?_ rfl
              refine t_add rfl rfl (by omega) ?_ rfl
              refine t_assign rfl ?_ rfl
              refine t_done ?_
              have S := S.f4
              have S := S.f4
              have S := S.f4
              have S := S.f4
              refine x_round (X := Int × List ASd × Value × List Lnk × Value) (I := (fun x wq => (fun k A va L vl => 1 ≤ k ∧ 1 + y16 ≤ k ∧ k ≤ N ∧ A.length = N ∧ (∀ x ∈ A, AsK x) ∧ (∃ m : Nat, (m : Int) ≤ 6 + 3 * k ∧ Grown N m L) ∧ Below b w wq ∧ Sep b wq (bxO g3 27 #[va, vl] :: slO asnT 121 va A :: slO linkT 78 vl L :: bxO g2 27 #[.slice none 0 0, .slice none 0 0] :: curO v n c 109 :: os)) x.1 x.2.1 x.2.2.1 x.2.2.2.1 x.2.2.2.2)) (F := (fun x => (fun k A va L vl => [(8, I k), (0, .pointer (some ⟨c, 0, none⟩)), (2, .pointer (some ⟨g2, 0, none⟩)), (3, .pointer (some ⟨g3, 0, none⟩)), (4, I (1 + y16))]) x.1 x.2.1 x.2.2.1 x.2.2.2.1 x.2.2.2.2)) (μ := (fun x => (fun k A va L vl => ((N : Int) - k).toNat) x.1 x.2.1 x.2.2.1 x.2.2.2.1 x.2.2.2.2)) (k + 1, A2, va2, L2, vl2) ?_ (by exact ⟨rfl, rfl, rfl, rfl, rfl, trivial⟩) (by (try dsimp only); omega)
              try dsimp only
              exact ⟨by omega, by omega, by omega, hA2, hK2, ⟨m2, by omega, hG2⟩, B, S⟩
          · intro h1
            refine t_off rfl rfl rfl ?_ rfl
            refine t_off rfl rfl rfl ?_ rfl
            refine t_pickf rfl rfl ?_ rfl
            refine t_done ?_
            refine x_seq ?_
            refine w_no rfl ?_
            refine w_skip ?_
            refine x_block_normal ?_
            refine x_seq ?_
            refine w_region ?_
            refine t_move rfl ?_ rfl
            refine t_add rfl rfl (by omega) ?_ rfl
            refine t_assign rfl ?_ rfl
            refine t_done ?_
            have S := S.f4
            have S := S.f4
            have S := S.f4
            have S := S.f4
            refine x_round (X := Int × List ASd × Value × List Lnk × Value) (I := (fun x wq => (fun k A va L vl => 1 ≤ k ∧ 1 + y16 ≤ k ∧ k ≤ N ∧ A.length = N ∧ (∀ x ∈ A, AsK x) ∧ (∃ m : Nat, (m : Int) ≤ 6 + 3 * k ∧ Grown N m L) ∧ Below b w wq ∧ Sep b wq (bxO g3 27 #[va, vl] :: slO asnT 121 va A :: slO linkT 78 vl L :: bxO g2 27 #[.slice none 0 0, .slice none 0 0] :: curO v n c 109 :: os)) x.1 x.2.1 x.2.2.1 x.2.2.2.1 x.2.2.2.2)) (F := (fun x => (fun k A va L vl => [(8, I k), (0, .pointer (some ⟨c, 0, none⟩)), (2, .pointer (some ⟨g2, 0, none⟩)), (3, .pointer (some ⟨g3, 0, none⟩)), (4, I (1 + y16))]) x.1 x.2.1 x.2.2.1 x.2.2.2.1 x.2.2.2.2)) (μ := (fun x => (fun k A va L vl => ((N : Int) - k).toNat) x.1 x.2.1 x.2.2.1 x.2.2.2.1 x.2.2.2.2)) (k + 1, A2, va2, L2, vl2) ?_ (by exact ⟨rfl, rfl, rfl, rfl, rfl, trivial⟩) (by (try dsimp only); omega)
            try dsimp only
            exact ⟨by omega, by omega, by omega, hA2, hK2, ⟨m2, by omega, hG2⟩, B, S⟩
      · intro hge3
        refine w_exit ?_
        refine x_then_exit ?_
        refine x_then_exit ?_
        refine x_block_exit ?_
        refine x_seq ?_
        refine w_seq ?_
        refine w_region ?_
        refine t_lit (T := linkT) (css := []) (l := []) link_flat S bs_link0 rfl rfl rfl rfl (Nat.zero_le _) litR_nil ?_ rfl rfl
        intro u127 w110 x111 S
        have B := bx Hb B x111
        refine t_assign rfl ?_ rfl
        refine t_done ?_
        refine x_seq ?_
        refine w_seq ?_
        refine w_seq ?_
        refine w_region ?_
        refine t_assign rfl ?_ rfl
        refine t_done ?_
        refine x_seq ?_
        refine w_block ?_
        have hL := hG.len
        refine w_loop (X := Nat × List Lnk × Value) (fun x wq => (fun k2 L2 vl2 => k2 ≤ L.length ∧ L2.Sublist (L.take k2) ∧ Below b w wq ∧ Sep b wq (slO linkT 78 vl2 L2 :: bxO g3 27 #[va, vl] :: slO asnT 121 va A :: slO linkT 78 vl L :: bxO g2 27 #[.slice none 0 0, .slice none 0 0] :: curO v n c 109 :: os)) x.1 x.2.1 x.2.2) (fun x => (fun k2 L2 vl2 => [(13, I ((k2 : Int))), (12, vl2), (2, .pointer (some ⟨g2, 0, none⟩)), (3, .pointer (some ⟨g3, 0, none⟩))]) x.1 x.2.1 x.2.2) (fun x => (fun k2 L2 vl2 => L.length - k2) x.1 x.2.1 x.2.2) (0, [], _) ?_ ⟨rfl, rfl, rfl, rfl, trivial⟩ ?_
        · exact ⟨by omega, by simp, B, S⟩
        rintro ⟨k2, L2, vl2⟩ w112 hI
        try dsimp only at hI ⊢
        obtain ⟨hk5, hsub, B, S⟩ := hI
        have hl2 := hsub.length_le
        rw [List.length_take] at hl2
        refine w_seq ?_
        refine w_seq ?_
        refine w_region ?_
        refine t_move rfl ?_ rfl
        refine t_fldx fb_topo_1 rfl rfl ?_ rfl
        refine t_bx1 S.tail.box ab_s_link rfl rfl ?_ rfl
        refine t_len e_link (S.tail.tail.tail.sl) rfl rfl ?_ rfl
        refine t_lss rfl rfl ?_ rfl
        refine t_done ?_
        refine x_seq ?_
        refine w_if rfl ?_ ?_
        · intro hlt5
          refine w_skip ?_
          refine x_seq ?_
          refine w_seq ?_
          refine w_block ?_
          refine w_seq ?_
          refine w_draw (.st .take 0 (.st .take 1 (.st .take 2 (.st .take 3 (.st .take 4 (.st .take 5 (.st .run 6 .done))))))) mixed (by kernel_rfl) ?_
          intro w113 x114
          have B := bx Hb B x114
          have S := S.below x114
          refine t_bxn S.tail.box ab_topo sb_topo rfl rfl ?_ rfl
          refine t_fldx fb_topo_1 rfl rfl ?_ rfl
          refine t_bx1 S.tail.box ab_s_link rfl rfl ?_ rfl
          refine t_move rfl ?_ rfl
          obtain ⟨e139, he139⟩ : ∃ e, (L)[k2]? = some e := getx (by omega)
          refine t_idx e_link (k := k2) (S.tail.tail.tail.sl) he139 (Below.refl _ _) rfl rfl (by first | rfl | omega) ?_ rfl
          intro p139 hp139
          refine t_lda (by assumption) ab_link sb_link (Below.refl _ _) rfl ?_ rfl
          intro v140 hv140
          obtain rfl := link_va hv140
          refine t_call Try.call121 rfl (spec_l5LinkOk A L _ _ _ _ (topo_mkv (S.tail.tail.sl) (S.tail.tail.tail.sl)) (by first | assumption | exact VA.below (by assumption) B) (by simp only [sz_topo]; omega)) ?_ rfl rfl
          rintro e w115 ⟨y141, rfl, x116⟩
          refine ⟨_, rfl, x116, ?_⟩
          have B := bx Hb B x116
          have S := S.below x116
          replace hp139 := hp139.below x116
          refine t_done' ?_
          refine x_seq ?_
          have hsub2 : L2.Sublist (L.take (k2 + 1)) := hsub.trans (List.take_sublist_take_left (by omega))
          refine w_ifb rfl ?_ ?_
          · intro hb
            refine w_region ?_
            refine t_move rfl ?_ rfl
            refine t_fldx fb_topo_1 rfl rfl ?_ rfl
            refine t_bx1 S.tail.box ab_s_link rfl rfl ?_ rfl
            refine t_move rfl ?_ rfl
            refine t_idx e_link (k := k2) (S.tail.tail.tail.sl) he139 (Below.refl _ _) rfl rfl (by first | rfl | omega) ?_ rfl
            intro p146 hp146
            refine t_lda (by assumption) ab_link sb_link (Below.refl _ _) rfl ?_ rfl
            intro v147 hv147
            obtain rfl := link_va hv147
            refine t_lit (T := linkT) (l := [(e139 : Lnk)]) (css := [[I e139.a, I e139.ai, I e139.b, I e139.bi, I e139.kind]]) link_flat S (fun w => bs_link1 _ _ _ _ _ w) rfl rfl rfl rfl (by simp [maxLen]) (litR_one fun _ => rfl) ?_ rfl rfl
            intro u148 w117 x118 S
            have B := bx Hb B x118
            have hR := S.sl
            have S := S.f1
            refine t_cat link_flat e_link S hR rfl rfl rfl (by first | omega | (simp [-List.length_flatMap]; omega)) (by (simp [maxLen, -List.length_flatMap]; try omega)) ?_ rfl
            intro v149 w119 x120 S
            have B := B.trans x120
            clear hR
            have S := S.f1
            have S := S.tail
            refine t_assign rfl ?_ rfl
            refine t_done ?_
            refine x_block_normal ?_
            refine x_seq ?_
            refine w_region ?_
            refine t_move rfl ?_ rfl
            refine t_add rfl rfl (by omega) ?_ rfl
            refine t_assign rfl ?_ rfl
            refine t_done ?_
            refine x_round (X := Nat × List Lnk × Value) (I := (fun x wq => (fun k2 L2 vl2 => k2 ≤ L.length ∧ L2.Sublist (L.take k2) ∧ Below b w wq ∧ Sep b wq (slO linkT 78 vl2 L2 :: bxO g3 27 #[va, vl] :: slO asnT 121 va A :: slO linkT 78 vl L :: bxO g2 27 #[.slice none 0 0, .slice none 0 0] :: curO v n c 109 :: os)) x.1 x.2.1 x.2.2)) (F := (fun x => (fun k2 L2 vl2 => [(13, I ((k2 : Int))), (12, vl2), (2, .pointer (some ⟨g2, 0, none⟩)), (3, .pointer (some ⟨g3, 0, none⟩))]) x.1 x.2.1 x.2.2)) (μ := (fun x => (fun k2 L2 vl2 => L.length - k2) x.1 x.2.1 x.2.2)) (k2 + 1, L2 ++ [e139], v149) ?_ (by exact ⟨rfl, rfl, rfl, rfl, trivial⟩) (by (try dsimp only); omega)
            try dsimp only
            refine ⟨by omega, ?_, B, S⟩
            rw [take_succ he139]
            exact hsub.append (List.Sublist.refl _)
          · intro hb
            refine w_skip ?_
            refine x_block_normal ?_
            refine x_seq ?_
            refine w_region ?_
            refine t_move rfl ?_ rfl
            refine t_add rfl rfl (by omega) ?_ rfl
            refine t_assign rfl ?_ rfl
            refine t_done ?_
            refine x_round (X := Nat × List Lnk × Value) (I := (fun x wq => (fun k2 L2 vl2 => k2 ≤ L.length ∧ L2.Sublist (L.take k2) ∧ Below b w wq ∧ Sep b wq (slO linkT 78 vl2 L2 :: bxO g3 27 #[va, vl] :: slO asnT 121 va A :: slO linkT 78 vl L :: bxO g2 27 #[.slice none 0 0, .slice none 0 0] :: curO v n c 109 :: os)) x.1 x.2.1 x.2.2)) (F := (fun x => (fun k2 L2 vl2 => [(13, I ((k2 : Int))), (12, vl2), (2, .pointer (some ⟨g2, 0, none⟩)), (3, .pointer (some ⟨g3, 0, none⟩))]) x.1 x.2.1 x.2.2)) (μ := (fun x => (fun k2 L2 vl2 => L.length - k2) x.1 x.2.1 x.2.2)) (k2 + 1, L2, vl2) ?_ (by exact ⟨rfl, rfl, rfl, rfl, trivial⟩) (by (try dsimp only); omega)
            try dsimp only
            exact ⟨by omega, hsub2, B, S⟩
        · intro hge5
          refine w_exit ?_
          refine x_then_exit ?_
          refine x_then_exit ?_
          refine x_block_exit ?_
          refine x_seq ?_
          refine w_seq ?_
          refine w_region ?_
          refine t_move rfl ?_ rfl
          refine t_fldx fb_topo_1 rfl rfl ?_ rfl
          obtain ⟨Avl2, cvl2, rfl, _⟩ := S.sl.form
          have S := S.f1
          refine t_st1 S sb_s_link rfl rfl rfl rfl rfl ?_
          intro w121 b122 S
          have B := B.trans b122
          refine t_done ?_
          refine x_seq ?_
          refine w_seq ?_
          refine w_region ?_
          refine t_bxn S.box ab_topo sb_topo rfl rfl ?_ rfl
          have S := S.f4
          refine t_stn S sb_topo rfl rfl rfl rfl (by intro zz hu; have hu : zz ∈ ([va, .slice Avl2 L2.length cvl2] : List Value) := hu; simp only [List.mem_cons, List.not_mem_nil, or_false] at hu; rcases hu with rfl | rfl <;> first | rfl | exact (SlR.cells (by first | assumption | exact S.tail.sl | exact S.tail.tail.sl | exact S.tail.tail.tail.sl | exact S.tail.tail.tail.tail.sl | exact S.tail.tail.tail.tail.tail.sl | exact S.tail.tail.tail.tail.tail.tail.sl | exact S.tail.tail.tail.tail.tail.tail.tail.sl | exact S.tail.tail.tail.tail.tail.tail.tail.tail.sl)).2) ?_
          intro w123 b124 S
          have B := B.trans b124
          refine t_done ?_
          refine x_seq ?_
          refine w_ret ?_
          refine x_retc rfl rfl S.box ab_topo sb_topo rfl ?_
          exact ⟨va, _, A, L2, rfl, ⟨⟨by omega, by omega, hK⟩, m, L, by omega, by rw [hA]; exact hG, by rw [List.take_of_length_le (by omega)] at hsub; exact hsub⟩, S.tail.tail.f2.tail.f1, B⟩
end Go.Proofs.Ytdaecknfahgddaa
namespace Go.Proofs.Ytdaecknfahgddaa
open Go.RowKit
set_option linter.unusedVariables false
set_option maxRecDepth 20000
/-- A link as_ it is drawn, among n realms. -/
def LnkK (n : Nat) (x : Lnk) : Prop := 0 ≤ x.a ∧ x.a < x.b ∧ x.b < n ∧ 1 ≤ x.ai ∧ x.ai ≤ 6 ∧ 1 ≤ x.bi ∧ x.bi ≤ 6 ∧ 1 ≤ x.kind ∧ x.kind ≤ 3
theorem Grown.mem {n m : Nat} {L : List Lnk} (h : Grown n m L) : ∀ x ∈ L, LnkK n x := by
  induction h with
  | nil => simp
  | add a c k h h1 h2 h3 h4 h5 ih =>
    intro x hx
    unfold addL at hx
    split at hx
    · rename_i hc
      rw [List.mem_append, List.mem_singleton] at hx
      rcases hx with hx | rfl
      · exact ih x hx
      · refine ⟨h1, h2, h3, ?_, hc.1, ?_, hc.2, h4, h5⟩ <;> dsimp only <;> omega
    · exact ih x hx
end Go.Proofs.Ytdaecknfahgddaa
namespace Go.Proofs.Ytdaecknfahgddaa
open Go.RowKit
set_option linter.unusedVariables false
theorem kinds (a : Int) : a = 5 ∨ a = 2 ∨ a = 3 ∨ a = 1 ∨ ((a == 5) = false ∧ (a == 2) = false ∧ (a == 3) = false ∧ (a == 1) = false) := by
  simp only [beq_eq_false_iff_ne, ne_eq]; omega
end Go.Proofs.Ytdaecknfahgddaa
namespace Go.Proofs.Ytdaecknfahgddaa
open Go.RowKit
set_option linter.unusedVariables false
set_option maxRecDepth 20000
def place (k : Int) : Int := if k = 1 then 1 else if k = 2 then 2 else if k = 3 then 2 else 3
end Go.Proofs.Ytdaecknfahgddaa
namespace Go.Proofs.Ytdaecknfahgddaa
open Go.RowKit
set_option linter.unusedVariables false
set_option maxRecDepth 20000
theorem ends_iff {x : Lnk} {r d : Int} : ends x r d = true ↔ (x.a = r ∧ x.ai = d) ∨ (x.b = r ∧ x.bi = d) := by
  unfold ends; simp
theorem mem_ifsStep {r : Int} {acc : List Int} {x : Lnk} {d : Int} : d ∈ ifsStep r acc x ↔ d ∈ acc ∨ ends x r d = true := by
  rw [ends_iff]
  unfold ifsStep
  dsimp only
  by_cases ha : x.a = r <;> by_cases hb : x.b = r <;> simp only [ha, hb, if_true, if_false, mem_putL, true_and, false_and, or_false, false_or]
  · exact ⟨fun h => h.elim (fun h => .inr (.inr h.symm)) fun h => h.elim (fun h => .inr (.inl h.symm)) .inl, fun h => h.elim (fun h => .inr (.inr h)) fun h => h.elim (fun h => .inr (.inl h.symm)) fun h => .inl h.symm⟩
  · exact ⟨fun h => h.elim (fun h => .inr h.symm) .inl, fun h => h.elim .inr fun h => .inl h.symm⟩
  · exact ⟨fun h => h.elim (fun h => .inr h.symm) .inl, fun h => h.elim .inr fun h => .inl h.symm⟩
theorem mem_ifs {L : List Lnk} {r d : Int} : d ∈ ifs L r ↔ ∃ x ∈ L, ends x r d = true := by
  suffices h : ∀ (L : List Lnk) acc, d ∈ L.foldl (ifsStep r) acc ↔ d ∈ acc ∨ ∃ x ∈ L, ends x r d = true by
    have := h L []
    simpa [ifs] using this
  intro L
  induction L with
  | nil => simp
  | cons a t ih =>
    intro acc
    rw [List.foldl_cons, ih, mem_ifsStep]
    simp [or_assoc]
theorem findL_of {L : List Lnk} {r d : Int} {x : Lnk} (hx : x ∈ L) (he : ends x r d = true) : ∃ i y, findL L r d = some i ∧ L[i]? = some y ∧ y ∈ L ∧ ends y r d = true := by
  unfold findL
  cases h : L.findIdx? (fun x => ends x r d) with
  | none =>
    rw [List.findIdx?_eq_none_iff] at h
    rw [h x hx] at he; cases he
  | some i =>
    rw [List.findIdx?_eq_some_iff_getElem] at h
    obtain ⟨hlt, hp, _⟩ := h
    exact ⟨i, L[i], rfl, List.getElem?_eq_getElem hlt, List.getElem_mem hlt, hp⟩
theorem remote_of {t : Topo} {r d : Int} {i : Nat} {y : Lnk} (h1 : findL t.links r d = some i) (h2 : t.links[i]? = some y) : remote t r d = if y.a = r ∧ y.ai = d then (y.b, y.bi) else (y.a, y.ai) := by
  unfold remote
  rw [h1, Option.bind_some, h2]
theorem remote_in {A : List ASd} {L : List Lnk} (hK : ∀ x ∈ L, LnkK A.length x) {r d : Int} (hd : d ∈ ifs L r) : (0 ≤ (remote ⟨A, L⟩ r d).1 ∧ (remote ⟨A, L⟩ r d).1 < A.length) ∧ 1 ≤ (remote ⟨A, L⟩ r d).2 ∧ (remote ⟨A, L⟩ r d).2 ≤ 6 := by
  obtain ⟨x, hx, he⟩ := mem_ifs.1 hd
  obtain ⟨i, y, h1, h2, h3, h4⟩ := findL_of hx he
  rw [remote_of (t := ⟨A, L⟩) h1 h2]
  obtain ⟨k1, k2, k3, k4, k5, k6, k7, k8, k9⟩ := hK y h3
  split
  · exact ⟨⟨by dsimp only; omega, k3⟩, k6, k7⟩
  · exact ⟨⟨k1, by dsimp only; omega⟩, k4, k5⟩
theorem ifs_in {n : Nat} {L : List Lnk} (hK : ∀ x ∈ L, LnkK n x) {r d : Int} (hd : d ∈ ifs L r) : 1 ≤ d ∧ d ≤ 6 := by
  obtain ⟨x, hx, he⟩ := mem_ifs.1 hd
  obtain ⟨k1, k2, k3, k4, k5, k6, k7, k8, k9⟩ := hK x hx
  rcases ends_iff.1 he with ⟨_, rfl⟩ | ⟨_, rfl⟩ <;> omega
theorem ifsK_in {n : Nat} {A : List ASd} {L : List Lnk} (hK : ∀ x ∈ L, LnkK n x) {r k d : Int} (hd : d ∈ ifsK ⟨A, L⟩ r k) : d ∈ ifs L r ∧ (1 ≤ d ∧ d ≤ 6) := by
  unfold ifsK at hd
  have := (List.mem_filter.1 hd).1
  exact ⟨this, ifs_in hK this⟩
/-- A topology as_ it is drawn. -/
def TopK (A : List ASd) (L : List Lnk) : Prop := (1 ≤ A.length ∧ A.length ≤ 8 ∧ ∀ x ∈ A, AsK x) ∧ ∃ m L0, m ≤ 60 ∧ Grown A.length m L0 ∧ L.Sublist L0
theorem TopK.lnk {A : List ASd} {L : List Lnk} (h : TopK A L) : ∀ x ∈ L, LnkK A.length x := by
  obtain ⟨_, m, L0, _, hG, hs⟩ := h
  exact fun x hx => hG.mem x (hs.subset hx)
theorem TopK.len {A : List ASd} {L : List Lnk} (h : TopK A L) : L.length ≤ 60 := by
  obtain ⟨_, m, L0, hm, hG, hs⟩ := h
  exact Nat.le_trans (Nat.le_trans hs.length_le hG.len) hm
theorem AsK.rng {x : ASd} (h : AsK x) : rng_asn x := by
  obtain ⟨h1, h2, h3, h4⟩ := h
  refine ⟨⟨?_, ?_⟩, ?_, ?_⟩ <;> omega
theorem LnkK.rng {n : Nat} {x : Lnk} (h : LnkK n x) (hn : n ≤ 1000) : rng_link x := by
  obtain ⟨h1, h2, h3, h4, h5, h6, h7, h8, h9⟩ := h
  refine ⟨⟨?_, ?_⟩, ⟨?_, ?_⟩, ⟨?_, ?_⟩, ⟨?_, ?_⟩, ?_, ?_⟩ <;> omega
theorem TopK.rng {A : List ASd} {L : List Lnk} (h : TopK A L) : rng_topo ⟨A, L⟩ :=
  ⟨fun x hx => (h.1.2.2 x hx).rng, fun x hx => (h.lnk x hx).rng (by have := h.1.2.1; omega)⟩
theorem mac_in (key ts beta : Int) (h : Hop) : 0 ≤ hopMac key ts beta h ∧ hopMac key ts beta h ≤ 2147483646 := by
  have := digest_bd ([key] ++ [ts, beta, h.ia, h.ing, h.eg, h.exp] ++ [key])
  unfold hopMac computeMac
  omega
theorem isAS_iff {A : List ASd} {L : List Lnk} {r : Int} : isAS ⟨A, L⟩ r = true ↔ 0 ≤ r ∧ r < A.length := by
  unfold isAS
  rw [inR_iff]
  show 0 ≤ r ∧ r ≤ (A.length : Int) - 1 ↔ _
  omega
theorem asKey_of {A : List ASd} {L : List Lnk} {r : Int} {x : ASd} (h : A[r.toNat]? = some x) : asKey ⟨A, L⟩ r = x.key := by
  unfold asKey
  rw [h]
/-- Hops that are sealed right, one after the other. -/
inductive SealK (t : Topo) (ts beta : Int) : List Hop → Prop
  | nil : SealK t ts beta []
  | snoc {l : List Hop} {h : Hop} : SealK t ts beta l → verifyHop t ts (chainAdd beta (l.map Hop.mac)) h = true → SealK t ts beta (l ++ [h])
/-- A segment as_ it is drawn. -/
def SegK (t : Topo) (s : Seg) : Prop := (0 ≤ s.ts ∧ s.ts ≤ 49 ∧ 0 ≤ s.beta ∧ s.beta ≤ 999999 ∧ s.hops.length ≤ 5) ∧ SealK t s.ts s.beta s.hops
theorem SealK.seg {t : Topo} {ts beta : Int} {l : List Hop} (h : SealK t ts beta l) (h0 : 0 ≤ ts) (h1 : ts ≤ 49) (h2 : 0 ≤ beta) (h3 : beta ≤ 999999) (hl : l.length ≤ 5) : SegK t ⟨ts, beta, l⟩ := ⟨⟨h0, h1, h2, h3, hl⟩, h⟩
theorem SealK.hop {t : Topo} {ts beta : Int} {l : List Hop} (h : SealK t ts beta l) : ∀ x ∈ l, validHop x = true := by
  induction h with
  | nil => simp
  | snoc _ h2 ih =>
    intro x hx
    rw [List.mem_append, List.mem_singleton] at hx
    rcases hx with hx | rfl
    · exact ih x hx
    · unfold verifyHop at h2
      rw [Bool.and_eq_true] at h2
      exact h2.1
theorem segBeta_all (ts beta : Int) (l : List Hop) : segBeta ⟨ts, beta, l⟩ l.length = chainAdd beta (l.map Hop.mac) := by
  unfold segBeta
  rw [if_pos (inR_iff.2 ⟨by omega, by show (l.length : Int) ≤ l.length; omega⟩)]
  show chainAdd beta ((l.take (l.length : Int).toNat).map Hop.mac) = _
  rw [show (l.length : Int).toNat = l.length by omega, List.take_length]
theorem seal_next {A : List ASd} {L : List Lnk} {ts beta : Int} {l : List Hop} (hS : SealK ⟨A, L⟩ ts beta l) {r i e x m : Int} {as' : ASd} (hA : A.length ≤ 8) (hr : 0 ≤ r ∧ r < A.length) (ha : A[r.toNat]? = some as') (hi : 0 ≤ i ∧ i ≤ 6) (he : 0 ≤ e ∧ e ≤ 6) (hne : i ≠ e) (hx : 0 ≤ x ∧ x ≤ 1000000) (hm : m = hopMac as'.key ts (segBeta ⟨ts, beta, l⟩ l.length) ⟨r, i, e, x, 0⟩) : SealK ⟨A, L⟩ ts beta (l ++ [⟨r, i, e, x, m⟩]) := by
  refine .snoc hS ?_
  rw [segBeta_all] at hm
  have hmi := mac_in as'.key ts (chainAdd beta (l.map Hop.mac)) ⟨r, i, e, x, 0⟩
  rw [← hm] at hmi
  unfold verifyHop
  rw [Bool.and_eq_true, Bool.and_eq_true, decide_eq_true_eq]
  refine ⟨?_, isAS_iff.2 hr, ?_⟩
  · unfold validHop
    simp only [Bool.and_eq_true, inR_iff, bne_iff_ne, ne_eq]
    exact ⟨⟨⟨⟨⟨by omega, hi⟩, he⟩, hne⟩, hx⟩, hmi⟩
  · show m = hopMac (asKey ⟨A, L⟩ r) ts _ _
    rw [asKey_of ha]
    exact hm
end Go.Proofs.Ytdaecknfahgddaa
namespace Go.Proofs.Ytdaecknfahgddaa
open Go.RowKit
set_option linter.unusedVariables false
section
variable {P : Program} {n : Nat} {Q : Exit → Act → World → Prop} {L : Frm} {w : World}
theorem w_cut {X : Type} (I : X → World → Prop) (F : X → Frm) {x y : Code} (hx : W P n (Exit.then (fun a w' => ∃ z, I z w' ∧ Env n (F z) a) Q) x L w) (hy : ∀ z w', I z w' → W P n Q y (F z) w') : W P n (Exit.then (y.wp P Q) Q) x L w := by
  intro a ha
  refine wp_mono (hx a ha) fun e a' w' hq => ?_
  cases e with
  | normal => obtain ⟨z, h1, h2⟩ := hq; exact hy z w' h1 a' h2
  | _ => exact hq
theorem x_cut {X : Type} {I : X → World → Prop} {F : X → Frm} (z : X) (hI : I z w) (hs : Sub (F z) L) : WX n (Exit.then (fun a w' => ∃ z, I z w' ∧ Env n (F z) a) Q) .normal L w := fun a ha => ⟨z, hI, ha.sub hs⟩
end
end Go.Proofs.Ytdaecknfahgddaa
namespace Go.Proofs.Ytdaecknfahgddaa
open Go.RowKit
set_option linter.unusedVariables false
set_option maxRecDepth 20000
theorem t_offu {P : Program} {n : Nat} {ops : Array Oper} {Q : Exit → Act → World → Prop} {L : Frm} {w : World} {m : Md} {r : IT} {d : Nat} {ty : TypeId} {pos : String} {af : Array Edge} {op : Op} {j tj : Nat} {b : Bool} (hj : (ops[j]?).bind (·.dst) = some tj) (hg : look L tj = some undef) (k : WT P n ops Q r ((d, undef) :: L) w) (hn : Nat.blt d n = true) : WT P n ops Q (.st m ⟨some d, op, ty, pos, af, some (j, b)⟩ r) L w := by
  intro a ha
  have hy : yielded ops a.tmps j = none := by
    unfold yielded
    rw [hj, Option.bind_some, ha.at_ _ _ hg]
    rfl
  have hw : Region.wanted (⟨some d, op, ty, pos, af, some (j, b)⟩ : Oper) (yielded ops a.tmps) = false := by
    simp only [Region.wanted, hy]
    cases b <;> rfl
  have hk := k _ (ha.put hn undef)
  cases m with
  | take => exact ⟨undef, .inr ⟨hw, rfl⟩, hk⟩
  | run => simp only [wpT, hw]; exact hk
  | fin => simp only [wpT, hw]; exact hk
end Go.Proofs.Ytdaecknfahgddaa
