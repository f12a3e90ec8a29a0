/- What LawFnPaths needs of the texts below it, part 2: contracts of functions, plain lemmas. (Put together by slim.py.) -/
import Derived.Test.YtdaecknfahgddaaGreatSLawFnPaths1
namespace Go.Proofs.YtdaecknfahgddaaGreat
open Go.RowKit
set_option linter.unusedVariables false
theorem app0_eq {P : Program} (w : World) {t ty e : TypeId} {size bytes : Nat} (et : ElemT P t e size bytes) {A0 A : Option Addr} {m c : Nat} (hm : 0 < m) (hby : m * bytes ≤ 140737488355328) (h63 : m ≤ maxLen) :
    (Builtin.append_ #[t, t] ty #[.slice A0 0 0, .slice A m c]).run P w = (Builtin.append_ #[t, t] ty #[.slice none 0 0, .slice A m c]).run P w := by
  obtain ⟨ht, ⟨i, z, hi, hz, hsize, hby', hzs⟩, hsz⟩ := et
  subst hby'
  simp only [maxLen] at h63
  have h0 : ¬ m = 0 := by omega
  have h1 : ¬ (9223372036854775807 : Int) < (m : Int) := by omega
  have h2 : ¬ 281474976710656 < Builtin.nextslicecap m 0 * i.bytes := by have := growslice_fits (need := m) (old := 0) hm hby; omega
  cases A0 <;> simp [Builtin.append_, run_underlying ht, sizeOf, typeInfo, hi, Builtin.lenOf, Builtin.firstCells, h0, h1, h2, loadCells, loadCellsFrom]
/-- append of owned elements onto an empty literal: only new memory. -/
theorem t_mv0 {P : Program} {n : Nat} {ops : Array Oper} {Q : Exit → Act → World → Prop} {L : Frm} {w : World} {r : IT} {d : Nat} {ty : TypeId} {pos : String} {af : Array Edge} {b : Nat} {os : List Ow}
    {α : Type} {T : Ty α} {t e : TypeId} {bytes : Nat} (et : ElemT P t e T.size bytes) {s x : Operand} {ar : Array TypeId} {A0 A : Option Addr} {c mm : Nat} {css : List (List Value)} {l' : List α} (S : Sep b w (slO T e (.slice A0 0 0) ([] : List α) :: elsO T css l' :: os)) (hr : Rd w A css.flatten) (hm : mm = l'.length) (hs : ev L s = some (.slice A0 0 0)) (hx : ev L x = some (.slice A mm c)) (har : ar = #[t, t])
    (hby : l'.length * bytes ≤ 140737488355328) (h63 : l'.length ≤ maxLen)
    (k : ∀ v' w', Ext w w' → Sep b w' (slO T e v' ([] ++ l') :: os) → WT P n ops Q r ((d, v') :: L) w') (hn : Nat.blt d n = true) : WT P n ops Q (.st .run ⟨some d, .call ⟨.builtin .append, #[s, x], ar⟩, ty, pos, af, none⟩ r) L w := by
  intro a ha
  subst har
  subst hm
  have hb := S.base
  obtain ⟨h1, fp, f, g, rfl, hf0, ⟨f2, g2, rfl, ⟨fps2, q1, q2, q4, q5, q6⟩, m2, m3⟩, h6⟩ := S
  have hR : ∀ (i : Nat) cs a, css[i]? = some cs → l'[i]? = some a → T.R w cs a := fun i cs a hi ha => by
    have hlt : i < fps2.length := by rw [q2]; exact (List.getElem?_eq_some_iff.1 ha).1
    exact T.read _ _ _ _ _ (q4 i cs a _ hi ha (List.getElem?_eq_getElem hlt))
  have hall : ∀ (i : Nat) cs, css[i]? = some cs → cs.length = T.size := fun i cs hi => by
    have hl : i < css.length := (List.getElem?_eq_some_iff.1 hi).1
    exact T.len _ _ _ (hR i cs _ hi (List.getElem?_eq_getElem (by omega)))
  have h11 : ∀ u ∈ css.flatten, u.oneCell' = true := fun u hu => by
    obtain ⟨cs, hcs, hu⟩ := List.mem_flatten.1 hu
    obtain ⟨i, hi, rfl⟩ := List.getElem_of_mem hcs
    exact T.one _ _ _ (hR i _ _ (List.getElem?_eq_getElem hi) (List.getElem?_eq_getElem (by omega))) u hu
  have hnil : w.ownsRow b e T.size (.slice none 0 0) 0 [] := World.ownsRow_nil w b e T.size
  simp only [wpT, Region.wanted, if_true]
  rcases Nat.eq_zero_or_pos l'.length with hz | hz
  · have hl0 : l' = [] := List.eq_nil_of_length_eq_zero hz
    subst hl0
    obtain ⟨ht, ⟨i, z, hi, hzz, hsize, hbb, hzs⟩, hsz⟩ := et
    have hrun : (execOp a.eval ⟨some d, .call ⟨.builtin .append, #[s, x], #[t, t]⟩, ty, pos, af, none⟩).run P w = .ok (.value (.slice A0 0 0)) w := by
      cases A0 <;> cases A <;> simp [execOp, resolve, invoke, builtin, ha.ev hs, ha.ev hx, Builtin.append_, run_underlying ht, sizeOf, typeInfo, hi, Builtin.lenOf, Builtin.firstCells, loadCells, loadCellsFrom, storeCells]
    unfold Oper.wp
    rw [hrun]
    refine ⟨Below.refl _ _, k _ w (Below.refl _ _) ?_ _ (ha.put hn _)⟩
    exact ⟨hb, f ++ g2, f, g2, rfl, hf0, m2, fun z hz hy => h6 z hz (List.mem_append.2 (.inr hy))⟩
  · obtain ⟨v', w', hrun, ho', hg', hv'⟩ := run_app (P := P) w (ty := ty) (c := c) et hnil hr (by rw [flatten_len hall, q1]) h11 (by rw [Nat.zero_add]; exact hby) (by rw [Nat.zero_add]; exact h63) hb
    rw [← app0_eq (A0 := A0) w et hz hby h63] at hrun
    obtain ⟨fp', g1, g2', g3⟩ := SlO.grow (T := T) (e := e) (base := b) (v := .slice none 0 0) (l := []) (css := []) (fps := []) (fp := []) (css' := css) (fps' := fps2) (l' := l') (m := l'.length) rfl rfl hnil (fun i cs a f hi => by simp at hi) rfl List.nodup_nil q1 q2 q4 (by rw [← q5]; exact q6) (fun y _ hy => by cases hy) rfl ho' hg' hv'
    rw [← q5] at g2'
    have hE : Ext w w' := ⟨g3.os, g3.tape, g3.output, g3.size, fun y hy => g3.block y hy (fun h => by cases h)⟩
    unfold Oper.wp execOp
    simp only [resolve, invoke, builtin, Sem.run_bind, Sem.run_pure, Result.andThen_ok, List.map_toArray, List.map_cons, List.map_nil, ha.ev hs, ha.ev hx, hrun]
    refine ⟨hE, k v' w' hE ⟨Nat.le_trans hb g3.size, fp' ++ g2, fp', g2, rfl, g1, m2.keep fun y hy => hE.block y (m2.lt y hy).2, fun z hz' hy => ?_⟩ _ (ha.put hn v')⟩
    rcases g2' z hz' with h | h | h
    · cases h
    · exact m3 z h hy
    · have := (m2.lt z hy).2; omega
end Go.Proofs.YtdaecknfahgddaaGreat
namespace Go.Proofs.YtdaecknfahgddaaGreat
open Go.RowKit
set_option linter.unusedVariables false
set_option maxRecDepth 20000
theorem mulb {a b A B : Int} (ha : 0 ≤ a) (hA : a ≤ A) (hb : 0 ≤ b) (hB : b ≤ B) : 0 ≤ a * b ∧ a * b ≤ A * B :=
  ⟨Int.mul_nonneg ha hb, Int.mul_le_mul hA hB hb (by omega)⟩
theorem spec_l3Word {b n c : Nat} {w : World} {v : Value} {os : List Ow} (S : Sep b w (curO v n c 115 :: os)) (K : CodeK b w v n) : Calls Tryz.prog 120 #[.pointer (some ⟨c, 0, none⟩)] w fun e w' => ∃ x : Int, e = .returned (I x) ∧ (-1 ≤ x ∧ x ≤ 2147483648) ∧ Sep b w' (curO v n c 115 :: os) ∧ Below b w w' := by
  have X0 := Below.refl w.heap.size w
  refine enter Tryz.func120 rfl Tryz.ntmps120 rfl ?_
  have B := Below.refl b w
  have Hb := S.base
  refine w_seq ?_
  refine w_region ?_
  refine t_assign rfl ?_ rfl
  refine t_done ?_
  refine x_seq ?_
  refine w_seq ?_
  refine w_seq ?_
  refine w_region ?_
  refine t_move rfl ?_ rfl
  refine t_callf Tryz.call58 rfl (spec_l1Once 10 S (K.below B)) ?_ rfl
  rintro e w1 ⟨y4, rfl, hf4, S, x2⟩
  refine ⟨_, rfl, ?_⟩
  have B := B.trans x2
  refine t_done ?_
  refine x_seq ?_
  refine w_if rfl ?_ ?_
  · intro hc
    refine w_seq ?_
    refine w_region ?_
    refine t_move rfl ?_ rfl
    refine t_lit (T := intT) (l := [(-1), 2147483647, 2147483648]) (css := ([(-1), 2147483647, 2147483648]).map fun a => [I a]) int_flat S (fun w => bs_int3 _ _ _ w) rfl rfl rfl rfl (by simp [maxLen]) (litR_int _) ?_ rfl rfl
    intro u6 w3 x4 S
    have B := bx Hb B x4
    have S := S.f1
    refine t_callf Tryz.call115 rfl (spec_l1Int S (K.below B) (by simp)) ?_ rfl
    rintro e w5 ⟨y7, rfl, hf7, S, x6⟩
    refine ⟨_, rfl, ?_⟩
    have B := B.trans x6
    refine t_assign rfl ?_ rfl
    refine t_done ?_
    refine x_seq ?_
    refine w_ret ?_
    refine x_then_ret ?_
    refine x_ret1 rfl rfl ?_
    have hz : -1 ≤ y7 ∧ y7 ≤ 2147483648 := by simp at hf7; omega
    exact ⟨_, rfl, hz, S.f1.tail, B⟩
  · intro hc
    refine w_skip ?_
    refine x_seq ?_
    refine w_seq ?_
    refine w_seq ?_
    refine w_region ?_
    refine t_move rfl ?_ rfl
    refine t_callf Tryz.call58 rfl (spec_l1Once 4 S (K.below B)) ?_ rfl
    rintro e w7 ⟨y9, rfl, hf9, S, x8⟩
    refine ⟨_, rfl, ?_⟩
    have B := B.trans x8
    refine t_done ?_
    refine x_seq ?_
    refine w_if rfl ?_ ?_
    · intro hc2
      refine w_seq ?_
      refine w_region ?_
      refine t_move rfl ?_ rfl
      refine t_lit (T := intT) (l := [0, 1, 2147483646]) (css := ([0, 1, 2147483646]).map fun a => [I a]) int_flat S (fun w => bs_int3 _ _ _ w) rfl rfl rfl rfl (by simp [maxLen]) (litR_int _) ?_ rfl rfl
      intro u11 w9 x10 S
      have B := bx Hb B x10
      have S := S.f1
      refine t_callf Tryz.call115 rfl (spec_l1Int S (K.below B) (by simp)) ?_ rfl
      rintro e w11 ⟨y12, rfl, hf12, S, x12⟩
      refine ⟨_, rfl, ?_⟩
      have B := B.trans x12
      refine t_assign rfl ?_ rfl
      refine t_done ?_
      refine x_seq ?_
      refine w_ret ?_
      refine x_then_ret ?_
      refine x_ret1 rfl rfl ?_
      have hz : -1 ≤ y12 ∧ y12 ≤ 2147483648 := by simp at hf12; omega
      exact ⟨_, rfl, hz, S.f1.tail, B⟩
    · intro hc2
      refine w_skip ?_
      refine x_seq ?_
      refine w_seq ?_
      refine w_region ?_
      refine t_move rfl ?_ rfl
      refine t_callf Tryz.call57 rfl (spec_l1Below 1000000 S (K.below B)) ?_ rfl
      rintro e w13 ⟨y14, rfl, hf14, S, x14⟩
      refine ⟨_, rfl, ?_⟩
      have B := B.trans x14
      refine t_move rfl ?_ rfl
      refine t_callf Tryz.call57 rfl (spec_l1Below 2000 S (K.below B)) ?_ rfl
      rintro e w15 ⟨y16, rfl, hf16, S, x16⟩
      refine ⟨_, rfl, ?_⟩
      have B := B.trans x16
      refine t_mulw rfl rfl ?_ rfl
      refine t_assign rfl ?_ rfl
      refine t_done ?_
      refine x_seq ?_
      refine w_ret ?_
      refine x_ret1 rfl rfl ?_
      have hm := mulb (a := y14) (b := y16) (A := 1000000) (B := 2000) (by omega) (by omega) (by omega) (by omega)
      rw [wr64 (by omega)]
      exact ⟨_, rfl, by omega, S, B⟩
theorem SlR.takeV {α : Type} {T : Ty α} {w : World} {A : Option Addr} {c k n' : Nat} {l : List α} (h : SlR T w (.slice A n' c) l) (hk : k ≤ l.length) : SlR T w (.slice A k c) (l.take k) := by
  obtain ⟨A', c', css, e, h1, h2, h3, h4⟩ := h
  cases e
  have hall : ∀ (i : Nat) cs, css[i]? = some cs → cs.length = T.size := fun i cs hi => by
    have hlt : i < l.length := by rw [← h2]; exact (List.getElem?_eq_some_iff.1 hi).1
    exact T.len _ _ _ (h4 i cs _ hi (List.getElem?_eq_getElem hlt))
  have hlen : (l.take k).length = k := by rw [List.length_take]; omega
  refine ⟨A, c, css.take k, by rw [hlen], by omega, by rw [hlen, List.length_take]; omega, fun hp => ?_, fun i cs x hi hx => ?_⟩
  · rw [flatten_take hall] at hp ⊢
    have hp' : 0 < css.flatten.length := by rw [List.length_take] at hp; omega
    obtain ⟨g, o, rfl, hg⟩ := h3 hp'
    refine ⟨g, o, rfl, fun j u hu => hg j u ?_⟩
    rw [List.getElem?_take] at hu
    split at hu
    · exact hu
    · cases hu
  · rw [List.getElem?_take] at hi hx
    split at hi
    · rename_i hik
      rw [if_pos hik] at hx
      exact h4 i cs x hi hx
    · cases hi
/-- append of plain elements onto an empty literal: only new memory. -/
theorem t_cat0 {P : Program} {n : Nat} {ops : Array Oper} {Q : Exit → Act → World → Prop} {L : Frm} {w : World} {r : IT} {d : Nat} {ty : TypeId} {pos : String} {af : Array Edge} {b : Nat} {os : List Ow}
    {α : Type} {T : Ty α} (hT : ∀ base w cs a, T.R w cs a → T.O base w cs a []) {t e : TypeId} {bytes : Nat} (et : ElemT P t e T.size bytes) {s x : Operand} {ar : Array TypeId} {A0 : Option Addr} {u : Value} {l' : List α} (S : Sep b w (slO T e (.slice A0 0 0) ([] : List α) :: os)) (hR : SlR T w u l') (hs : ev L s = some (.slice A0 0 0)) (hx : ev L x = some u) (har : ar = #[t, t])
    (hby : l'.length * bytes ≤ 140737488355328) (h63 : l'.length ≤ maxLen)
    (k : ∀ v' w', Ext w w' → Sep b w' (slO T e v' ([] ++ l') :: os) → WT P n ops Q r ((d, v') :: L) w') (hn : Nat.blt d n = true) : WT P n ops Q (.st .run ⟨some d, .call ⟨.builtin .append, #[s, x], ar⟩, ty, pos, af, none⟩ r) L w := by
  obtain ⟨A, c, css, rfl, h1, h2, h3, h4⟩ := hR
  have hO : (elsO T css l').P w.heap.size w [] := by
    refine ⟨l'.map fun _ => [], h2, by simp, fun i cs a f hi ha hf => ?_, by simp, List.nodup_nil⟩
    simp at hf
    obtain ⟨_, _, rfl⟩ := hf
    exact hT _ _ _ _ (h4 i cs a hi ha)
  exact t_mv0 et ((S.add (o := elsO T css l') (fp := []) (Below.refl _ _) hO).f1) h3 rfl hs hx har hby h63 k hn
/-- A number in its place among ascending ones, once. -/
def putL : List Int → Int → List Int
  | [], n => [n]
  | a :: t, n => if a < n then a :: putL t n else if a = n then a :: t else n :: a :: t
theorem putL_len (l : List Int) (n : Int) : (putL l n).length ≤ l.length + 1 := by
  induction l with
  | nil => simp [putL]
  | cons a t ih =>
    unfold putL
    split
    · simp; exact ih
    · split <;> simp
theorem mem_putL {l : List Int} {n x : Int} : x ∈ putL l n ↔ x = n ∨ x ∈ l := by
  induction l with
  | nil => simp [putL]
  | cons a t ih =>
    unfold putL
    split
    · simp [ih]; constructor
      · rintro (h | h | h) <;> simp [h]
      · rintro (h | h | h) <;> simp [h]
    · split
      · rename_i h; subst h; simp
      · simp
theorem spec_l5Put {b : Nat} {w : World} {u : Value} {l : List Int} {os : List Ow} (n : Int) (S : Sep b w (slO intT 3 u l :: os)) (hz : l.length ≤ 16777216) : Calls Tryz.prog 177 #[u, I n] w fun e w' => ∃ v, e = .returned v ∧ Sep b w' (slO intT 3 v (putL l n) :: os) ∧ Below b w w' := by
  have X0 := Below.refl w.heap.size w
  refine enter Tryz.func177 rfl Tryz.ntmps177 rfl ?_
  have B := Below.refl b w
  have Hb := S.base
  refine w_seq ?_
  refine w_region ?_
  refine t_assign rfl ?_ rfl
  refine t_done ?_
  refine x_seq ?_
  refine w_seq ?_
  refine w_region ?_
  refine t_assign rfl ?_ rfl
  refine t_done ?_
  refine x_seq ?_
  refine w_seq ?_
  refine w_block ?_
  refine w_loop (X := Nat) (fun k wq => k ≤ l.length ∧ putL l n = l.take k ++ putL (l.drop k) n ∧ Below b w wq ∧ Sep b wq (slO intT 3 u l :: os)) (fun k => [(5, I ((k : Int))), (0, u), (1, I n), (4, .slice none 0 0)]) (fun k => l.length - k) (0) ?_ ⟨rfl, rfl, rfl, rfl, trivial⟩ ?_
  · exact ⟨by omega, by simp, B, S⟩
  rintro k w17 hI
  try dsimp only at hI ⊢
  obtain ⟨hk, hp, B, S⟩ := hI
  refine w_seq ?_
  refine w_seq ?_
  refine w_region ?_
  refine t_move rfl ?_ rfl
  refine t_move rfl ?_ rfl
  refine t_len e_int (S.sl) rfl rfl ?_ rfl
  refine t_lss rfl rfl ?_ rfl
  refine t_move rfl ?_ rfl
  have done : k = l.length → putL l n = l.take k ++ [n] ++ l.drop k := fun e => by
    rw [hp, List.drop_eq_nil_of_le (by omega)]; simp [putL]
  refine t_partp (t := 10) rfl ?_ ?_
  · intro h1
    refine t_on rfl rfl ?_
    refine t_move rfl ?_ rfl
    refine t_on rfl rfl ?_
    refine t_move rfl ?_ rfl
    refine t_on rfl rfl ?_
    obtain ⟨e13, he13⟩ : ∃ e, (l)[k]? = some e := getx (by omega)
    refine t_idx e_int (k := k) (S.sl) he13 (Below.refl _ _) rfl rfl (by first | rfl | omega) ?_ rfl
    intro p13 hp13
    refine t_on rfl rfl ?_
    refine t_ldi (by assumption) ab_int (Below.refl _ _) rfl ?_ rfl
    refine t_on rfl rfl ?_
    refine t_move rfl ?_ rfl
    refine t_on rfl rfl ?_
    refine t_lss rfl rfl ?_ rfl
    refine t_pickt rfl rfl ?_ rfl
    refine t_done ?_
    refine x_seq ?_
    have hd : l.drop k = e13 :: l.drop (k + 1) := by
      rw [List.drop_eq_getElem_cons (by omega)]
      rw [List.getElem?_eq_getElem (by omega)] at he13
      cases he13; rfl
    refine w_if rfl ?_ ?_
    · intro h2
      refine w_skip ?_
      refine x_seq ?_
      refine w_block ?_
      refine w_region ?_
      refine t_move rfl ?_ rfl
      refine t_add rfl rfl (by omega) ?_ rfl
      refine t_assign rfl ?_ rfl
      refine t_done ?_
      refine x_block_normal ?_
      refine x_round (X := Nat) (k + 1) ?_ (by exact ⟨rfl, rfl, rfl, rfl, trivial⟩) (by (try dsimp only); omega)
      try dsimp only
      refine ⟨by omega, ?_, B, S⟩
      rw [hp, hd, List.take_add_one, he13]
      simp [putL, h2]
    · intro h2
      refine w_exit ?_
      refine x_then_exit ?_
      refine x_then_exit ?_
      refine x_block_exit ?_
      refine x_seq ?_
      refine w_seq ?_
      refine w_seq ?_
      refine w_region ?_
      refine t_move rfl ?_ rfl
      refine t_move rfl ?_ rfl
      refine t_len e_int (S.sl) rfl rfl ?_ rfl
      refine t_lss rfl rfl ?_ rfl
      refine t_move rfl ?_ rfl
      refine t_partp (t := 24) rfl ?_ ?_
      · intro h3
        refine t_on rfl rfl ?_
        refine t_move rfl ?_ rfl
        refine t_on rfl rfl ?_
        refine t_move rfl ?_ rfl
        refine t_on rfl rfl ?_
        refine t_idx e_int (k := k) (S.sl) he13 (Below.refl _ _) rfl rfl (by first | rfl | omega) ?_ rfl
        intro p27 hp27
        refine t_on rfl rfl ?_
        refine t_ldi (by assumption) ab_int (Below.refl _ _) rfl ?_ rfl
        refine t_on rfl rfl ?_
        refine t_move rfl ?_ rfl
        refine t_on rfl rfl ?_
        refine t_eql rfl rfl ?_ rfl
        refine t_pickt rfl rfl ?_ rfl
        refine t_done ?_
        refine x_seq ?_
        refine w_if rfl ?_ ?_
        · intro h4
          refine w_seq ?_
          refine w_region ?_
          refine t_move rfl ?_ rfl
          refine t_assign rfl ?_ rfl
          refine t_done ?_
          refine x_seq ?_
          refine w_ret ?_
          refine x_then_ret ?_
          refine x_ret1 rfl rfl ?_
          have hq : putL l n = l := by
            rw [hp, hd, putL, if_neg h2, if_pos h4, ← hd, List.take_append_drop]
          exact ⟨_, rfl, by rw [hq]; exact S, B⟩
        · intro h4
          refine w_skip ?_
          refine x_seq ?_
          refine w_seq ?_
          refine w_drawP [1, 2, 3, 5, 8, 9, 10] (.alt (.st .run 0 (.alt (.st .run 4 (.st .run 6 (.st .fin 7 (.st .fin 11 (.st .fin 12 .done))))) (.st .run 6 (.st .run 4 (.st .fin 7 (.st .fin 11 (.st .fin 12 .done))))))) (.st .run 6 (.st .run 0 (.st .run 4 (.st .fin 7 (.st .fin 11 (.st .fin 12 .done))))))) mixed (by kernel_rfl) ?_
          intro w18 x19
          have B := bx Hb B x19
          have S := S.below x19
          replace hp13 := hp13.below x19
          replace hp27 := hp27.below x19
          refine p_move rfl ?_ rfl
          refine p_move rfl ?_ rfl
          obtain ⟨Au, cu, rfl, _⟩ := S.sl.form
          refine p_sltv e_int (k := k) rfl rfl (by first | rfl | omega) (by omega) ?_ rfl
          refine p_move rfl ?_ rfl
          refine p_move rfl ?_ rfl
          refine p_move rfl ?_ rfl
          refine p_sldv e_int (k := k) rfl rfl (by first | rfl | omega) (by omega) (by omega) ?_ rfl
          refine p_done ?_
          have hq : putL l n = ([] ++ l.take k) ++ [n] ++ l.drop k := by
            rw [hp, hd, putL, if_neg h2, if_neg h4]; simp
          have hkl : (l.take k).length = k := by rw [List.length_take]; omega
          have hkd : (l.drop k).length = l.length - k := by rw [List.length_drop]
          refine t_alt ?_ ?_
          · refine t_lit0 (T := intT) S bs_int0 rfl ?_ rfl rfl
            intro A33 w20 x21 S
            have B := bx Hb B x21
            refine t_alt ?_ ?_
            · have hR := (SlR.takeV S.tail.sl (by omega))
              refine t_cat0 int_flat e_int S hR rfl rfl rfl (by first | omega | (simp [-List.length_flatMap]; omega)) (by (simp [maxLen, -List.length_flatMap]; try omega)) ?_ rfl
              intro v37 w22 x23 S
              have B := bx Hb B x23
              clear hR
              refine t_lit (T := intT) (l := [n]) (css := ([n]).map fun a => [I a]) int_flat S (fun w => bs_int1 _ w) rfl rfl rfl rfl (by simp [maxLen]) (litR_int _) ?_ rfl rfl
              intro u39 w24 x25 S
              have B := bx Hb B x25
              have hR := S.sl
              have S := S.f1
              refine t_cat int_flat e_int S hR rfl rfl rfl (by first | omega | (simp [-List.length_flatMap]; omega)) (by (simp [maxLen, -List.length_flatMap]; try omega)) ?_ rfl
              intro v40 w26 x27 S
              have B := B.trans x27
              clear hR
              have S := S.f1
              have S := S.tail
              have hR := (SlR.drop S.tail.sl (by omega))
              refine t_cat int_flat e_int S hR rfl rfl rfl (by first | omega | (simp [-List.length_flatMap]; omega)) (by (simp [maxLen, -List.length_flatMap]; try omega)) ?_ rfl
              intro v44 w28 x29 S
              have B := B.trans x29
              clear hR
              refine t_assign rfl ?_ rfl
              refine t_done' ?_
              refine x_seq ?_
              refine w_ret ?_
              refine x_ret1 rfl rfl ?_
              exact ⟨_, rfl, by rw [hq]; exact S.f1.tail, B⟩
            · refine t_lit (T := intT) (l := [n]) (css := ([n]).map fun a => [I a]) int_flat S (fun w => bs_int1 _ w) rfl rfl rfl rfl (by simp [maxLen]) (litR_int _) ?_ rfl rfl
              intro u39 w30 x31 S
              have B := bx Hb B x31
              have hR := (SlR.takeV S.tail.tail.sl (by omega))
              have S := S.f1
              refine t_cat0 int_flat e_int S hR rfl rfl rfl (by first | omega | (simp [-List.length_flatMap]; omega)) (by (simp [maxLen, -List.length_flatMap]; try omega)) ?_ rfl
              intro v37 w32 x33 S
              have B := bx Hb B x33
              clear hR
              have hR := S.tail.sl
              refine t_cat int_flat e_int S hR rfl rfl rfl (by first | omega | (simp [-List.length_flatMap]; omega)) (by (simp [maxLen, -List.length_flatMap]; try omega)) ?_ rfl
              intro v40 w34 x35 S
              have B := B.trans x35
              clear hR
              have S := S.f1
              have S := S.tail
              have hR := (SlR.drop S.tail.sl (by omega))
              refine t_cat int_flat e_int S hR rfl rfl rfl (by first | omega | (simp [-List.length_flatMap]; omega)) (by (simp [maxLen, -List.length_flatMap]; try omega)) ?_ rfl
              intro v44 w36 x37 S
              have B := B.trans x37
              clear hR
              refine t_assign rfl ?_ rfl
              refine t_done' ?_
              refine x_seq ?_
              refine w_ret ?_
              refine x_ret1 rfl rfl ?_
              exact ⟨_, rfl, by rw [hq]; exact S.f1.tail, B⟩
          · refine t_lit (T := intT) (l := [n]) (css := ([n]).map fun a => [I a]) int_flat S (fun w => bs_int1 _ w) rfl rfl rfl rfl (by simp [maxLen]) (litR_int _) ?_ rfl rfl
            intro u39 w38 x39 S
            have B := bx Hb B x39
            refine t_lit0 (T := intT) S bs_int0 rfl ?_ rfl rfl
            intro A33 w40 x41 S
            have B := bx Hb B x41
            have hR := (SlR.takeV S.tail.tail.sl (by omega))
            refine t_cat0 int_flat e_int S hR rfl rfl rfl (by first | omega | (simp [-List.length_flatMap]; omega)) (by (simp [maxLen, -List.length_flatMap]; try omega)) ?_ rfl
            intro v37 w42 x43 S
            have B := bx Hb B x43
            clear hR
            have hR := S.tail.sl
            refine t_cat int_flat e_int S hR rfl rfl rfl (by first | omega | (simp [-List.length_flatMap]; omega)) (by (simp [maxLen, -List.length_flatMap]; try omega)) ?_ rfl
            intro v40 w44 x45 S
            have B := B.trans x45
            clear hR
            have S := S.f1
            have S := S.tail
            have hR := (SlR.drop S.tail.sl (by omega))
            refine t_cat int_flat e_int S hR rfl rfl rfl (by first | omega | (simp [-List.length_flatMap]; omega)) (by (simp [maxLen, -List.length_flatMap]; try omega)) ?_ rfl
            intro v44 w46 x47 S
            have B := B.trans x47
            clear hR
            refine t_assign rfl ?_ rfl
            refine t_done' ?_
            refine x_seq ?_
            refine w_ret ?_
            refine x_ret1 rfl rfl ?_
            exact ⟨_, rfl, by rw [hq]; exact S.f1.tail, B⟩
      · intro h3
        omega
  · intro h1
    refine t_off rfl rfl rfl ?_ rfl
    refine t_off rfl rfl rfl ?_ rfl
    refine t_off rfl rfl rfl ?_ rfl
    refine t_off rfl rfl rfl ?_ rfl
    refine t_off rfl rfl rfl ?_ rfl
    refine t_off rfl rfl rfl ?_ rfl
    refine t_pickf rfl rfl ?_ rfl
    refine t_done ?_
    refine x_seq ?_
    refine w_no rfl ?_
    refine w_exit ?_
    refine x_then_exit ?_
    refine x_then_exit ?_
    refine x_block_exit ?_
    refine x_seq ?_
    refine w_seq ?_
    refine w_seq ?_
    refine w_region ?_
    refine t_move rfl ?_ rfl
    refine t_move rfl ?_ rfl
    refine t_len e_int (S.sl) rfl rfl ?_ rfl
    refine t_lss rfl rfl ?_ rfl
    refine t_move rfl ?_ rfl
    refine t_partp (t := 24) rfl ?_ ?_
    · intro h3
      omega
    · intro h3
      refine t_off rfl rfl rfl ?_ rfl
      refine t_off rfl rfl rfl ?_ rfl
      refine t_off rfl rfl rfl ?_ rfl
      refine t_off rfl rfl rfl ?_ rfl
      refine t_off rfl rfl rfl ?_ rfl
      refine t_off rfl rfl rfl ?_ rfl
      refine t_pickf rfl rfl ?_ rfl
      refine t_done ?_
      refine x_seq ?_
      refine w_no rfl ?_
      refine w_skip ?_
      refine x_seq ?_
      refine w_seq ?_
      refine w_drawP [1, 2, 3, 5, 8, 9, 10] (.alt (.st .run 0 (.alt (.st .run 4 (.st .run 6 (.st .fin 7 (.st .fin 11 (.st .fin 12 .done))))) (.st .run 6 (.st .run 4 (.st .fin 7 (.st .fin 11 (.st .fin 12 .done))))))) (.st .run 6 (.st .run 0 (.st .run 4 (.st .fin 7 (.st .fin 11 (.st .fin 12 .done))))))) mixed (by kernel_rfl) ?_
      intro w48 x49
      have B := bx Hb B x49
      have S := S.below x49
      refine p_move rfl ?_ rfl
      refine p_move rfl ?_ rfl
      obtain ⟨Au, cu, rfl, _⟩ := S.sl.form
      refine p_sltv e_int (k := k) rfl rfl (by first | rfl | omega) (by omega) ?_ rfl
      refine p_move rfl ?_ rfl
      refine p_move rfl ?_ rfl
      refine p_move rfl ?_ rfl
      refine p_sldv e_int (k := k) rfl rfl (by first | rfl | omega) (by omega) (by omega) ?_ rfl
      refine p_done ?_
      have hq : putL l n = ([] ++ l.take k) ++ [n] ++ l.drop k := by rw [done (by omega)]; simp
      have hkl : (l.take k).length = k := by rw [List.length_take]; omega
      have hkd : (l.drop k).length = l.length - k := by rw [List.length_drop]
      refine t_alt ?_ ?_
      · refine t_lit0 (T := intT) S bs_int0 rfl ?_ rfl rfl
        intro A33 w50 x51 S
        have B := bx Hb B x51
        refine t_alt ?_ ?_
        · have hR := (SlR.takeV S.tail.sl (by omega))
          refine t_cat0 int_flat e_int S hR rfl rfl rfl (by first | omega | (simp [-List.length_flatMap]; omega)) (by (simp [maxLen, -List.length_flatMap]; try omega)) ?_ rfl
          intro v37 w52 x53 S
          have B := bx Hb B x53
          clear hR
          refine t_lit (T := intT) (l := [n]) (css := ([n]).map fun a => [I a]) int_flat S (fun w => bs_int1 _ w) rfl rfl rfl rfl (by simp [maxLen]) (litR_int _) ?_ rfl rfl
          intro u39 w54 x55 S
          have B := bx Hb B x55
          have hR := S.sl
          have S := S.f1
          refine t_cat int_flat e_int S hR rfl rfl rfl (by first | omega | (simp [-List.length_flatMap]; omega)) (by (simp [maxLen, -List.length_flatMap]; try omega)) ?_ rfl
          intro v40 w56 x57 S
          have B := B.trans x57
          clear hR
          have S := S.f1
          have S := S.tail
          have hR := (SlR.drop S.tail.sl (by omega))
          refine t_cat int_flat e_int S hR rfl rfl rfl (by first | omega | (simp [-List.length_flatMap]; omega)) (by (simp [maxLen, -List.length_flatMap]; try omega)) ?_ rfl
          intro v44 w58 x59 S
          have B := B.trans x59
          clear hR
          refine t_assign rfl ?_ rfl
          refine t_done' ?_
          refine x_seq ?_
          refine w_ret ?_
          refine x_ret1 rfl rfl ?_
          exact ⟨_, rfl, by rw [hq]; exact S.f1.tail, B⟩
        · refine t_lit (T := intT) (l := [n]) (css := ([n]).map fun a => [I a]) int_flat S (fun w => bs_int1 _ w) rfl rfl rfl rfl (by simp [maxLen]) (litR_int _) ?_ rfl rfl
          intro u39 w60 x61 S
          have B := bx Hb B x61
          have hR := (SlR.takeV S.tail.tail.sl (by omega))
          have S := S.f1
          refine t_cat0 int_flat e_int S hR rfl rfl rfl (by first | omega | (simp [-List.length_flatMap]; omega)) (by (simp [maxLen, -List.length_flatMap]; try omega)) ?_ rfl
          intro v37 w62 x63 S
          have B := bx Hb B x63
          clear hR
          have hR := S.tail.sl
          refine t_cat int_flat e_int S hR rfl rfl rfl (by first | omega | (simp [-List.length_flatMap]; omega)) (by (simp [maxLen, -List.length_flatMap]; try omega)) ?_ rfl
          intro v40 w64 x65 S
          have B := B.trans x65
          clear hR
          have S := S.f1
          have S := S.tail
          have hR := (SlR.drop S.tail.sl (by omega))
          refine t_cat int_flat e_int S hR rfl rfl rfl (by first | omega | (simp [-List.length_flatMap]; omega)) (by (simp [maxLen, -List.length_flatMap]; try omega)) ?_ rfl
          intro v44 w66 x67 S
          have B := B.trans x67
          clear hR
          refine t_assign rfl ?_ rfl
          refine t_done' ?_
          refine x_seq ?_
          refine w_ret ?_
          refine x_ret1 rfl rfl ?_
          exact ⟨_, rfl, by rw [hq]; exact S.f1.tail, B⟩
      · refine t_lit (T := intT) (l := [n]) (css := ([n]).map fun a => [I a]) int_flat S (fun w => bs_int1 _ w) rfl rfl rfl rfl (by simp [maxLen]) (litR_int _) ?_ rfl rfl
        intro u39 w68 x69 S
        have B := bx Hb B x69
        refine t_lit0 (T := intT) S bs_int0 rfl ?_ rfl rfl
        intro A33 w70 x71 S
        have B := bx Hb B x71
        have hR := (SlR.takeV S.tail.tail.sl (by omega))
        refine t_cat0 int_flat e_int S hR rfl rfl rfl (by first | omega | (simp [-List.length_flatMap]; omega)) (by (simp [maxLen, -List.length_flatMap]; try omega)) ?_ rfl
        intro v37 w72 x73 S
        have B := bx Hb B x73
        clear hR
        have hR := S.tail.sl
        refine t_cat int_flat e_int S hR rfl rfl rfl (by first | omega | (simp [-List.length_flatMap]; omega)) (by (simp [maxLen, -List.length_flatMap]; try omega)) ?_ rfl
        intro v40 w74 x75 S
        have B := B.trans x75
        clear hR
        have S := S.f1
        have S := S.tail
        have hR := (SlR.drop S.tail.sl (by omega))
        refine t_cat int_flat e_int S hR rfl rfl rfl (by first | omega | (simp [-List.length_flatMap]; omega)) (by (simp [maxLen, -List.length_flatMap]; try omega)) ?_ rfl
        intro v44 w76 x77 S
        have B := B.trans x77
        clear hR
        refine t_assign rfl ?_ rfl
        refine t_done' ?_
        refine x_seq ?_
        refine w_ret ?_
        refine x_ret1 rfl rfl ?_
        exact ⟨_, rfl, by rw [hq]; exact S.f1.tail, B⟩
/-- The doors of a realm, ascending. -/
def ifsStep (r : Int) (acc : List Int) (x : Lnk) : List Int :=
  let a := if x.a = r then putL acc x.ai else acc
  if x.b = r then putL a x.bi else a
def ifs (l : List Lnk) (r : Int) : List Int := l.foldl (ifsStep r) []
theorem ifs_succ {l : List Lnk} {k : Nat} {x : Lnk} (h : l[k]? = some x) (r : Int) : ifs (l.take (k + 1)) r = ifsStep r (ifs (l.take k) r) x := by
  unfold ifs
  rw [List.take_add_one, h, List.foldl_append]
  rfl
theorem ifsStep_len (r : Int) (acc : List Int) (x : Lnk) : (ifsStep r acc x).length ≤ acc.length + 2 := by
  unfold ifsStep
  dsimp only
  have h1 := putL_len acc x.ai
  have h2 := putL_len (putL acc x.ai) x.bi
  have h3 := putL_len acc x.bi
  split <;> split <;> omega
theorem ifs_len (l : List Lnk) (r : Int) : (ifs l r).length ≤ 2 * l.length := by
  suffices h : ∀ (l : List Lnk) acc, (l.foldl (ifsStep r) acc).length ≤ acc.length + 2 * l.length by have := h l []; simp only [List.length_nil, Nat.zero_add] at this; exact this
  intro l
  induction l with
  | nil => simp
  | cons a t ih =>
    intro acc
    have h1 := ih (ifsStep r acc a)
    have h2 := ifsStep_len r acc a
    simp only [List.foldl_cons, List.length_cons]
    omega
theorem spec_Interfaces0 (t : Topo) (v : Value) (r : Int) (w : World) (h : VA topoT w v t) (hz : t.links.length ≤ 1048576) : Calls Tryz.prog 167 #[v, I r] w fun e w' => ∃ v fp, e = .returned v ∧ SlO intT 3 w.heap.size w' v (ifs t.links r) fp ∧ Below w.heap.size w w' := by
  have X0 := Below.refl w.heap.size w
  refine enter Tryz.func167 rfl Tryz.ntmps167 rfl ?_
  refine w_seq ?_
  refine w_region ?_
  refine t_boxr (by assumption) rfl ?_ rfl rfl
  intro p2 w78 x79 hp2
  replace h := h.below x79
  have X0 := ext_trans X0 x79
  have S := Sep.nil w78
  have B := Below.refl w78.heap.size w78
  have Hb := Nat.le_refl w78.heap.size
  refine t_assign rfl ?_ rfl
  refine t_done ?_
  refine x_seq ?_
  refine w_seq ?_
  refine w_region ?_
  refine t_lit (T := intT) (css := []) (l := []) int_flat S bs_int0 rfl rfl rfl rfl (Nat.zero_le _) litR_nil ?_ rfl rfl
  intro u7 w80 x81 S
  have B := bx Hb B x81
  refine t_assign rfl ?_ rfl
  refine t_done ?_
  refine x_seq ?_
  refine w_seq ?_
  refine w_seq ?_
  refine w_region ?_
  refine t_assign rfl ?_ rfl
  refine t_done ?_
  refine x_seq ?_
  refine w_block ?_
  refine w_loop (X := Nat × Value) (fun x wq => (fun k q => k ≤ t.links.length ∧ Below w78.heap.size w78 wq ∧ Sep w78.heap.size wq [slO intT 3 q (ifs (t.links.take k) r)]) x.1 x.2) (fun x => (fun k q => [(6, I ((k : Int))), (5, q), (1, I r), (2, p2), (4, .slice none 0 0)]) x.1 x.2) (fun x => (fun k q => t.links.length - k) x.1 x.2) (0, _) ?_ ⟨rfl, rfl, rfl, rfl, rfl, trivial⟩ ?_
  · exact ⟨by omega, B, S⟩
  rintro ⟨k, q⟩ w82 hI
  try dsimp only at hI ⊢
  obtain ⟨hk, B, S⟩ := hI
  have hl := ifs_len (t.links.take k) r
  rw [List.length_take] at hl
  refine w_seq ?_
  refine w_seq ?_
  refine w_region ?_
  refine t_move rfl ?_ rfl
  refine t_fld ln_topo_1 (by assumption) fb_topo_1 rfl ?_ rfl
  intro p9 hp9
  refine t_lds (by assumption) ab_s_link B rfl ?_ rfl
  intro v10 hv10
  refine t_len e_link (by assumption) rfl rfl ?_ rfl
  refine t_lss rfl rfl ?_ rfl
  refine t_done ?_
  refine x_seq ?_
  refine w_if rfl ?_ ?_
  · intro hlt
    refine w_skip ?_
    refine x_seq ?_
    refine w_seq ?_
    refine w_block ?_
    refine w_seq ?_
    refine w_seq ?_
    refine w_region ?_
    refine t_fld ln_topo_1 (by assumption) fb_topo_1 rfl ?_ rfl
    intro p15 hp15
    refine t_lds (by assumption) ab_s_link B rfl ?_ rfl
    intro v16 hv16
    refine t_move rfl ?_ rfl
    obtain ⟨e18, he18⟩ : ∃ e, (t.links)[k]? = some e := getx (by omega)
    refine t_idx e_link (k := k) (by assumption) he18 B rfl rfl (by first | rfl | omega) ?_ rfl
    intro p18 hp18
    refine t_fld ln_link_0 (by assumption) fb_link_0 rfl ?_ rfl
    intro p19 hp19
    refine t_ldi (by assumption) ab_int B rfl ?_ rfl
    refine t_move rfl ?_ rfl
    refine t_eql rfl rfl ?_ rfl
    refine t_done ?_
    refine x_seq ?_
    have hs := ifs_succ he18 r
    unfold ifsStep at hs
    dsimp only at hs
    have hl2 := putL_len (ifs (t.links.take k) r) e18.ai
    refine w_if rfl ?_ ?_
    · intro h1
      refine w_region ?_
      refine t_move rfl ?_ rfl
      refine t_fld ln_topo_1 (by assumption) fb_topo_1 rfl ?_ rfl
      intro p24 hp24
      refine t_lds (by assumption) ab_s_link B rfl ?_ rfl
      intro v25 hv25
      refine t_move rfl ?_ rfl
      refine t_idx e_link (k := k) (by assumption) he18 B rfl rfl (by first | rfl | omega) ?_ rfl
      intro p27 hp27
      refine t_fld ln_link_1 (by assumption) fb_link_1 rfl ?_ rfl
      intro p28 hp28
      refine t_ldi (by assumption) ab_int B rfl ?_ rfl
      refine t_callf Tryz.call177 rfl (spec_l5Put e18.ai S (by omega)) ?_ rfl
      rintro e w83 ⟨v30, rfl, S, x84⟩
      refine ⟨_, rfl, ?_⟩
      have B := B.trans x84
      refine t_assign rfl ?_ rfl
      refine t_done ?_
      refine x_seq ?_
      refine w_seq ?_
      refine w_region ?_
      refine t_fld ln_topo_1 (by assumption) fb_topo_1 rfl ?_ rfl
      intro p31 hp31
      refine t_lds (by assumption) ab_s_link B rfl ?_ rfl
      intro v32 hv32
      refine t_move rfl ?_ rfl
      refine t_idx e_link (k := k) (by assumption) he18 B rfl rfl (by first | rfl | omega) ?_ rfl
      intro p34 hp34
      refine t_fld ln_link_2 (by assumption) fb_link_2 rfl ?_ rfl
      intro p35 hp35
      refine t_ldi (by assumption) ab_int B rfl ?_ rfl
      refine t_move rfl ?_ rfl
      refine t_eql rfl rfl ?_ rfl
      refine t_done ?_
      refine x_seq ?_
      refine w_if rfl ?_ ?_
      · intro h2
        refine w_region ?_
        refine t_move rfl ?_ rfl
        refine t_fld ln_topo_1 (by assumption) fb_topo_1 rfl ?_ rfl
        intro p40 hp40
        refine t_lds (by assumption) ab_s_link B rfl ?_ rfl
        intro v41 hv41
        refine t_move rfl ?_ rfl
        refine t_idx e_link (k := k) (by assumption) he18 B rfl rfl (by first | rfl | omega) ?_ rfl
        intro p43 hp43
        refine t_fld ln_link_3 (by assumption) fb_link_3 rfl ?_ rfl
        intro p44 hp44
        refine t_ldi (by assumption) ab_int B rfl ?_ rfl
        refine t_callf Tryz.call177 rfl (spec_l5Put e18.bi S (by omega)) ?_ rfl
        rintro e w85 ⟨v46, rfl, S, x86⟩
        refine ⟨_, rfl, ?_⟩
        have B := B.trans x86
        refine t_assign rfl ?_ rfl
        refine t_done ?_
        refine x_block_normal ?_
        refine x_seq ?_
        refine w_region ?_
        refine t_move rfl ?_ rfl
        refine t_add rfl rfl (by omega) ?_ rfl
        refine t_assign rfl ?_ rfl
        refine t_done ?_
        refine x_round (X := Nat × Value) (k + 1, v46) ?_ (by exact ⟨rfl, rfl, rfl, rfl, rfl, trivial⟩) (by (try dsimp only); omega)
        try dsimp only
        rw [hs, if_pos h2, if_pos h1]
        exact ⟨by omega, B, S⟩
      · intro h2
        refine w_skip ?_
        refine x_block_normal ?_
        refine x_seq ?_
        refine w_region ?_
        refine t_move rfl ?_ rfl
        refine t_add rfl rfl (by omega) ?_ rfl
        refine t_assign rfl ?_ rfl
        refine t_done ?_
        refine x_round (X := Nat × Value) (k + 1, v30) ?_ (by exact ⟨rfl, rfl, rfl, rfl, rfl, trivial⟩) (by (try dsimp only); omega)
        try dsimp only
        rw [hs, if_neg h2, if_pos h1]
        exact ⟨by omega, B, S⟩
    · intro h1
      refine w_skip ?_
      refine x_seq ?_
      refine w_seq ?_
      refine w_region ?_
      refine t_fld ln_topo_1 (by assumption) fb_topo_1 rfl ?_ rfl
      intro p31 hp31
      refine t_lds (by assumption) ab_s_link B rfl ?_ rfl
      intro v32 hv32
      refine t_move rfl ?_ rfl
      refine t_idx e_link (k := k) (by assumption) he18 B rfl rfl (by first | rfl | omega) ?_ rfl
      intro p34 hp34
      refine t_fld ln_link_2 (by assumption) fb_link_2 rfl ?_ rfl
      intro p35 hp35
      refine t_ldi (by assumption) ab_int B rfl ?_ rfl
      refine t_move rfl ?_ rfl
      refine t_eql rfl rfl ?_ rfl
      refine t_done ?_
      refine x_seq ?_
      refine w_if rfl ?_ ?_
      · intro h2
        refine w_region ?_
        refine t_move rfl ?_ rfl
        refine t_fld ln_topo_1 (by assumption) fb_topo_1 rfl ?_ rfl
        intro p40 hp40
        refine t_lds (by assumption) ab_s_link B rfl ?_ rfl
        intro v41 hv41
        refine t_move rfl ?_ rfl
        refine t_idx e_link (k := k) (by assumption) he18 B rfl rfl (by first | rfl | omega) ?_ rfl
        intro p43 hp43
        refine t_fld ln_link_3 (by assumption) fb_link_3 rfl ?_ rfl
        intro p44 hp44
        refine t_ldi (by assumption) ab_int B rfl ?_ rfl
        refine t_callf Tryz.call177 rfl (spec_l5Put e18.bi S (by omega)) ?_ rfl
        rintro e w87 ⟨v46, rfl, S, x88⟩
        refine ⟨_, rfl, ?_⟩
        have B := B.trans x88
        refine t_assign rfl ?_ rfl
        refine t_done ?_
        refine x_block_normal ?_
        refine x_seq ?_
        refine w_region ?_
        refine t_move rfl ?_ rfl
        refine t_add rfl rfl (by omega) ?_ rfl
        refine t_assign rfl ?_ rfl
        refine t_done ?_
        refine x_round (X := Nat × Value) (k + 1, v46) ?_ (by exact ⟨rfl, rfl, rfl, rfl, rfl, trivial⟩) (by (try dsimp only); omega)
        try dsimp only
        rw [hs, if_pos h2, if_neg h1]
        exact ⟨by omega, B, S⟩
      · intro h2
        refine w_skip ?_
        refine x_block_normal ?_
        refine x_seq ?_
        refine w_region ?_
        refine t_move rfl ?_ rfl
        refine t_add rfl rfl (by omega) ?_ rfl
        refine t_assign rfl ?_ rfl
        refine t_done ?_
        refine x_round (X := Nat × Value) (k + 1, q) ?_ (by exact ⟨rfl, rfl, rfl, rfl, rfl, trivial⟩) (by (try dsimp only); omega)
        try dsimp only
        rw [hs, if_neg h2, if_neg h1]
        exact ⟨by omega, B, S⟩
  · intro hge
    refine w_exit ?_
    refine x_then_exit ?_
    refine x_then_exit ?_
    refine x_block_exit ?_
    refine x_seq ?_
    refine w_seq ?_
    refine w_region ?_
    refine t_move rfl ?_ rfl
    refine t_assign rfl ?_ rfl
    refine t_done ?_
    refine x_seq ?_
    refine w_ret ?_
    refine x_ret1 rfl rfl ?_
    obtain ⟨fp, hO⟩ := (S.mono X0.size).head
    rw [List.take_of_length_le (by omega)] at hO
    exact ⟨_, fp, rfl, hO, ext_trans X0 B⟩
theorem spec_Interfaces (A : List ASd) (L : List Lnk) (v : Value) (r : Int) (w : World) (h : VA topoT w v ⟨A, L⟩) (hz : L.length ≤ 1048576) : Calls Tryz.prog 167 #[v, I r] w fun e w' => ∃ v fp, e = .returned v ∧ SlO intT 3 w.heap.size w' v (ifs L r) fp ∧ Below w.heap.size w w' :=
  spec_Interfaces0 ⟨A, L⟩ v r w h hz
/-- The doors of a realm of one kind. -/
def ifsK (t : Topo) (r k : Int) : List Int := (ifs t.links r).filter fun d => decide (ifKind t r d = k)
theorem filt_succ {α : Type} (p : α → Bool) {l : List α} {k : Nat} {x : α} (h : l[k]? = some x) : (l.take (k + 1)).filter p = (l.take k).filter p ++ (if p x then [x] else []) := by
  rw [List.take_add_one, h, List.filter_append]
  cases hp : p x <;> simp [hp]
theorem spec_InterfacesOfKind (t : Topo) (v : Value) (r kd : Int) (w : World) (h : VA topoT w v t) (hz : sz_topo t ≤ 500000) : Calls Tryz.prog 152 #[v, I r, I kd] w fun e w' => ∃ v fp, e = .returned v ∧ SlO intT 3 w.heap.size w' v (ifsK t r kd) fp ∧ Below w.heap.size w w' := by
  have hz1 : t.links.length ≤ 500000 := by have := hz; simp only [sz_topo] at this; omega
  have hl := ifs_len t.links r
  have X0 := Below.refl w.heap.size w
  refine enter Tryz.func152 rfl Tryz.ntmps152 rfl ?_
  refine w_seq ?_
  refine w_region ?_
  refine t_boxr (by assumption) rfl ?_ rfl rfl
  intro p3 w89 x90 hp3
  replace h := h.below x90
  have X0 := ext_trans X0 x90
  have S := Sep.nil w89
  have B := Below.refl w89.heap.size w89
  have Hb := Nat.le_refl w89.heap.size
  refine t_assign rfl ?_ rfl
  refine t_done ?_
  refine x_seq ?_
  refine w_seq ?_
  refine w_region ?_
  refine t_lit (T := intT) (css := []) (l := []) int_flat S bs_int0 rfl rfl rfl rfl (Nat.zero_le _) litR_nil ?_ rfl rfl
  intro u10 w91 x92 S
  have B := bx Hb B x92
  refine t_assign rfl ?_ rfl
  refine t_done ?_
  refine x_seq ?_
  refine w_seq ?_
  refine w_region ?_
  refine t_lda (by assumption) ab_topo sb_topo B rfl ?_ rfl
  intro v11 hv11
  obtain ⟨v11_0, v11_1, rfl, hv11_0, hv11_1⟩ := topo_va hv11
  refine t_move rfl ?_ rfl
  refine t_call Tryz.call167 rfl (spec_Interfaces t.ases t.links _ _ _ (by first | assumption | exact VA.below (by assumption) B | exact topo_mkv (by first | assumption | exact SlR.below (by assumption) B) (by first | assumption | exact SlR.below (by assumption) B)) (by (try dsimp only); omega)) ?_ rfl rfl
  rintro e w93 ⟨v13, fpv13, rfl, hOv13, x94⟩
  refine ⟨_, rfl, x94, ?_⟩
  have S := S.add (o := slO _ _ _ _) x94 hOv13
  have B := bx Hb B x94
  refine t_assign rfl ?_ rfl
  refine t_done ?_
  refine x_seq ?_
  refine w_seq ?_
  refine w_seq ?_
  refine w_region ?_
  refine t_assign rfl ?_ rfl
  refine t_done ?_
  refine x_seq ?_
  refine w_block ?_
  refine w_loop (X := Nat × Value) (fun x wq => (fun k q => k ≤ (ifs t.links r).length ∧ Below w89.heap.size w89 wq ∧ Sep w89.heap.size wq [slO intT 3 q (((ifs t.links r).take k).filter fun d => decide (ifKind t r d = kd)), slO intT 3 v13 (ifs t.links r)]) x.1 x.2) (fun x => (fun k q => [(9, I ((k : Int))), (7, q), (1, I r), (2, I kd), (3, p3), (6, .slice none 0 0), (8, v13)]) x.1 x.2) (fun x => (fun k q => (ifs t.links r).length - k) x.1 x.2) (0, _) ?_ ⟨rfl, rfl, rfl, rfl, rfl, rfl, rfl, trivial⟩ ?_
  · exact ⟨by omega, B, S.f1⟩
  rintro ⟨k, q⟩ w95 hI
  try dsimp only at hI ⊢
  obtain ⟨hk, B, S⟩ := hI
  have hl2 := List.length_filter_le (fun d => decide (ifKind t r d = kd)) ((ifs t.links r).take k)
  rw [List.length_take] at hl2
  refine w_seq ?_
  refine w_seq ?_
  refine w_region ?_
  refine t_move rfl ?_ rfl
  refine t_move rfl ?_ rfl
  refine t_len e_int (S.tail.sl) rfl rfl ?_ rfl
  refine t_lss rfl rfl ?_ rfl
  refine t_done ?_
  refine x_seq ?_
  refine w_if rfl ?_ ?_
  · intro hlt
    refine w_skip ?_
    refine x_seq ?_
    refine w_seq ?_
    refine w_block ?_
    refine w_seq ?_
    refine w_draw (.st .take 0 (.st .take 1 (.st .take 2 (.st .take 3 (.st .take 4 (.st .take 5 (.st .take 7 (.st .run 6 (.st .take 8 .done))))))))) mixed (by kernel_rfl) ?_
    intro w96 x97
    have B := bx Hb B x97
    have S := S.below x97
    refine t_lda (by assumption) ab_topo sb_topo B rfl ?_ rfl
    intro v20 hv20
    obtain ⟨v20_0, v20_1, rfl, hv20_0, hv20_1⟩ := topo_va hv20
    refine t_move rfl ?_ rfl
    refine t_move rfl ?_ rfl
    refine t_move rfl ?_ rfl
    obtain ⟨e24, he24⟩ : ∃ e, ((ifs t.links r))[k]? = some e := getx (by omega)
    refine t_idx e_int (k := k) (S.tail.sl) he24 (Below.refl _ _) rfl rfl (by first | rfl | omega) ?_ rfl
    intro p24 hp24
    refine t_ldi (by assumption) ab_int (Below.refl _ _) rfl ?_ rfl
    refine t_move rfl ?_ rfl
    refine t_callx Tryz.call168 rfl (va1 (by first | assumption | exact VA.below (by assumption) B | exact topo_mkv (by first | assumption | exact SlR.below (by assumption) B) (by first | assumption | exact SlR.below (by assumption) B)) fun cs h => spec_ifKind _ cs _ _ _ h (by omega)) ?_ rfl rfl
    intro w98 x99
    have B := bx Hb B x99
    have S := S.below x99
    refine t_eql rfl rfl ?_ rfl
    refine t_done' ?_
    refine x_seq ?_
    have hf := filt_succ (fun d => decide (ifKind t r d = kd)) he24
    refine w_if rfl ?_ ?_
    · intro h1
      refine w_region ?_
      refine t_move rfl ?_ rfl
      refine t_move rfl ?_ rfl
      refine t_move rfl ?_ rfl
      refine t_idx e_int (k := k) (S.tail.sl) he24 (Below.refl _ _) rfl rfl (by first | rfl | omega) ?_ rfl
      intro p32 hp32
      refine t_ldi (by assumption) ab_int (Below.refl _ _) rfl ?_ rfl
      refine t_lit (T := intT) (l := [e24]) (css := ([e24]).map fun a => [I a]) int_flat S (fun w => bs_int1 _ w) rfl rfl rfl rfl (by simp [maxLen]) (litR_int _) ?_ rfl rfl
      intro u34 w100 x101 S
      have B := bx Hb B x101
      have hR := S.sl
      have S := S.f1
      refine t_cat int_flat e_int S hR rfl rfl rfl (by first | omega | (simp [-List.length_flatMap]; omega)) (by (simp [maxLen, -List.length_flatMap]; try omega)) ?_ rfl
      intro v35 w102 x103 S
      have B := B.trans x103
      clear hR
      have S := S.f1
      have S := S.tail
      refine t_assign rfl ?_ rfl
      refine t_done ?_
      refine x_block_normal ?_
      refine x_seq ?_
      refine w_region ?_
      refine t_move rfl ?_ rfl
      refine t_add rfl rfl (by omega) ?_ rfl
      refine t_assign rfl ?_ rfl
      refine t_done ?_
      refine x_round (X := Nat × Value) (k + 1, v35) ?_ (by exact ⟨rfl, rfl, rfl, rfl, rfl, rfl, rfl, trivial⟩) (by (try dsimp only); omega)
      try dsimp only
      rw [hf, if_pos (by simpa using h1)]
      exact ⟨by omega, B, S⟩
    · intro h1
      refine w_skip ?_
      refine x_block_normal ?_
      refine x_seq ?_
      refine w_region ?_
      refine t_move rfl ?_ rfl
      refine t_add rfl rfl (by omega) ?_ rfl
      refine t_assign rfl ?_ rfl
      refine t_done ?_
      refine x_round (X := Nat × Value) (k + 1, q) ?_ (by exact ⟨rfl, rfl, rfl, rfl, rfl, rfl, rfl, trivial⟩) (by (try dsimp only); omega)
      try dsimp only
      rw [hf, if_neg (by simpa using h1), List.append_nil]
      exact ⟨by omega, B, S⟩
  · intro hge
    refine w_exit ?_
    refine x_then_exit ?_
    refine x_then_exit ?_
    refine x_block_exit ?_
    refine x_seq ?_
    refine w_seq ?_
    refine w_region ?_
    refine t_move rfl ?_ rfl
    refine t_assign rfl ?_ rfl
    refine t_done ?_
    refine x_seq ?_
    refine w_ret ?_
    refine x_ret1 rfl rfl ?_
    obtain ⟨fp, hO⟩ := (S.mono X0.size).head
    rw [List.take_of_length_le (by omega)] at hO
    exact ⟨_, fp, rfl, hO, ext_trans X0 B⟩
end Go.Proofs.YtdaecknfahgddaaGreat
namespace Go.Proofs.YtdaecknfahgddaaGreat
open Go.RowKit
set_option linter.unusedVariables false
set_option maxRecDepth 20000
theorem ret_bool {a b : Bool} (h : a = b) : Ending.returned (.bool a) = .returned (.bool b) := by rw [h]
/-- Sums modulo the prime, of residues alone. -/
def addM (b s : Int) : Int := if inR b 0 2147483646 && inR s 0 2147483646 then (b + s) % 2147483647 else 0
def subM (b s : Int) : Int := if inR b 0 2147483646 && inR s 0 2147483646 then (b - s + 2147483647) % 2147483647 else 0
theorem impl_AddMod (b s : Int) (w : World) : Calls Tryz.prog 161 #[I b, I s] w fun e w' => e = .returned (I (addM b s)) ∧ w = w' := by
  have X0 := Below.refl w.heap.size w
  refine enter Tryz.func161 rfl Tryz.ntmps161 rfl ?_
  refine w_seq ?_
  refine w_region ?_
  have S := Sep.nil w
  have B := Below.refl w.heap.size w
  have Hb := Nat.le_refl w.heap.size
  refine t_assign rfl ?_ rfl
  refine t_done ?_
  refine x_seq ?_
  refine w_seq ?_
  refine w_seq ?_
  refine w_region ?_
  refine t_move rfl ?_ rfl
  refine t_calls Tryz.call106 rfl (impl_isResidue _ _) ?_ rfl rfl
  refine t_notb rfl ?_ rfl
  refine t_move rfl ?_ rfl
  refine t_part (t := 8) rfl ?_ ?_
  · intro h1
    refine t_off rfl rfl rfl ?_ rfl
    refine t_off rfl rfl rfl ?_ rfl
    refine t_off rfl rfl rfl ?_ rfl
    refine t_pickt rfl rfl ?_ rfl
    refine t_done ?_
    refine x_seq ?_
    refine w_yes rfl ?_
    refine w_seq ?_
    refine w_region ?_
    refine t_assign rfl ?_ rfl
    refine t_done ?_
    refine x_seq ?_
    refine w_ret ?_
    refine x_then_ret ?_
    refine x_ret1 rfl rfl ?_
    have h1' : inR b 0 2147483646 = false := by simpa using h1
    exact ⟨by simp [addM, h1'], rfl⟩
  · intro h1
    have h1' : inR b 0 2147483646 = true := by simpa using h1
    have r1 := inR_iff.1 h1'
    refine t_on rfl rfl ?_
    refine t_move rfl ?_ rfl
    refine t_on rfl rfl ?_
    refine t_calls Tryz.call106 rfl (impl_isResidue _ _) ?_ rfl rfl
    refine t_on rfl rfl ?_
    refine t_notb rfl ?_ rfl
    refine t_pickf rfl rfl ?_ rfl
    refine t_done ?_
    refine x_seq ?_
    refine w_ifb rfl ?_ ?_
    · intro h2
      refine w_seq ?_
      refine w_region ?_
      refine t_assign rfl ?_ rfl
      refine t_done ?_
      refine x_seq ?_
      refine w_ret ?_
      refine x_then_ret ?_
      refine x_ret1 rfl rfl ?_
      have h2' : inR s 0 2147483646 = false := by simpa using h2
      exact ⟨by simp [addM, h1', h2'], rfl⟩
    · intro h2
      have h2' : inR s 0 2147483646 = true := by simpa using h2
      have r2 := inR_iff.1 h2'
      refine w_skip ?_
      refine x_seq ?_
      refine w_seq ?_
      refine w_region ?_
      refine t_move rfl ?_ rfl
      refine t_move rfl ?_ rfl
      refine t_add rfl rfl (by omega) ?_ rfl
      refine t_rem rfl rfl (by omega) ?_ rfl
      refine t_assign rfl ?_ rfl
      refine t_done ?_
      refine x_seq ?_
      refine w_ret ?_
      refine x_ret1 rfl rfl ?_
      exact ⟨by simp [addM, h1', h2'], rfl⟩
theorem spec_AddMod (b s : Int) (w : World) : Calls Tryz.prog 176 #[I b, I s] w fun e w' => e = .returned (I (addM b s)) ∧ w = w' := by
  have X0 := Below.refl w.heap.size w
  refine enter Tryz.func176 rfl Tryz.ntmps176 rfl ?_
  refine w_seq ?_
  refine w_region ?_
  have S := Sep.nil w
  have B := Below.refl w.heap.size w
  have Hb := Nat.le_refl w.heap.size
  refine t_assign rfl ?_ rfl
  refine t_done ?_
  refine x_seq ?_
  refine w_seq ?_
  refine w_seq ?_
  refine w_region ?_
  refine t_move rfl ?_ rfl
  refine t_calls Tryz.call108 rfl (spec_l3Ok _ _) ?_ rfl rfl
  refine t_notb rfl ?_ rfl
  refine t_move rfl ?_ rfl
  refine t_part (t := 8) rfl ?_ ?_
  · intro h1
    refine t_off rfl rfl rfl ?_ rfl
    refine t_off rfl rfl rfl ?_ rfl
    refine t_off rfl rfl rfl ?_ rfl
    refine t_pickt rfl rfl ?_ rfl
    refine t_done ?_
    refine x_seq ?_
    refine w_yes rfl ?_
    refine w_seq ?_
    refine w_region ?_
    refine t_assign rfl ?_ rfl
    refine t_done ?_
    refine x_seq ?_
    refine w_ret ?_
    refine x_then_ret ?_
    refine x_ret1 rfl rfl ?_
    have h1' : inR b 0 2147483646 = false := by simpa using h1
    exact ⟨by simp [addM, h1'], rfl⟩
  · intro h1
    have h1' : inR b 0 2147483646 = true := by simpa using h1
    have r1 := inR_iff.1 h1'
    refine t_on rfl rfl ?_
    refine t_move rfl ?_ rfl
    refine t_on rfl rfl ?_
    refine t_calls Tryz.call108 rfl (spec_l3Ok _ _) ?_ rfl rfl
    refine t_on rfl rfl ?_
    refine t_notb rfl ?_ rfl
    refine t_pickf rfl rfl ?_ rfl
    refine t_done ?_
    refine x_seq ?_
    refine w_ifb rfl ?_ ?_
    · intro h2
      refine w_seq ?_
      refine w_region ?_
      refine t_assign rfl ?_ rfl
      refine t_done ?_
      refine x_seq ?_
      refine w_ret ?_
      refine x_then_ret ?_
      refine x_ret1 rfl rfl ?_
      have h2' : inR s 0 2147483646 = false := by simpa using h2
      exact ⟨by simp [addM, h1', h2'], rfl⟩
    · intro h2
      have h2' : inR s 0 2147483646 = true := by simpa using h2
      have r2 := inR_iff.1 h2'
      refine w_skip ?_
      refine x_seq ?_
      refine w_seq ?_
      refine w_region ?_
      refine t_move rfl ?_ rfl
      refine t_move rfl ?_ rfl
      refine t_add rfl rfl (by omega) ?_ rfl
      refine t_rem rfl rfl (by omega) ?_ rfl
      refine t_assign rfl ?_ rfl
      refine t_done ?_
      refine x_seq ?_
      refine w_ret ?_
      refine x_ret1 rfl rfl ?_
      exact ⟨by simp [addM, h1', h2'], rfl⟩
theorem impl_SubMod (b s : Int) (w : World) : Calls Tryz.prog 160 #[I b, I s] w fun e w' => e = .returned (I (subM b s)) ∧ w = w' := by
  have X0 := Below.refl w.heap.size w
  refine enter Tryz.func160 rfl Tryz.ntmps160 rfl ?_
  refine w_seq ?_
  refine w_region ?_
  have S := Sep.nil w
  have B := Below.refl w.heap.size w
  have Hb := Nat.le_refl w.heap.size
  refine t_assign rfl ?_ rfl
  refine t_done ?_
  refine x_seq ?_
  refine w_seq ?_
  refine w_seq ?_
  refine w_region ?_
  refine t_move rfl ?_ rfl
  refine t_calls Tryz.call106 rfl (impl_isResidue _ _) ?_ rfl rfl
  refine t_notb rfl ?_ rfl
  refine t_move rfl ?_ rfl
  refine t_part (t := 8) rfl ?_ ?_
  · intro h1
    refine t_off rfl rfl rfl ?_ rfl
    refine t_off rfl rfl rfl ?_ rfl
    refine t_off rfl rfl rfl ?_ rfl
    refine t_pickt rfl rfl ?_ rfl
    refine t_done ?_
    refine x_seq ?_
    refine w_yes rfl ?_
    refine w_seq ?_
    refine w_region ?_
    refine t_assign rfl ?_ rfl
    refine t_done ?_
    refine x_seq ?_
    refine w_ret ?_
    refine x_then_ret ?_
    refine x_ret1 rfl rfl ?_
    have h1' : inR b 0 2147483646 = false := by simpa using h1
    exact ⟨by simp [subM, h1'], rfl⟩
  · intro h1
    have h1' : inR b 0 2147483646 = true := by simpa using h1
    have r1 := inR_iff.1 h1'
    refine t_on rfl rfl ?_
    refine t_move rfl ?_ rfl
    refine t_on rfl rfl ?_
    refine t_calls Tryz.call106 rfl (impl_isResidue _ _) ?_ rfl rfl
    refine t_on rfl rfl ?_
    refine t_notb rfl ?_ rfl
    refine t_pickf rfl rfl ?_ rfl
    refine t_done ?_
    refine x_seq ?_
    refine w_ifb rfl ?_ ?_
    · intro h2
      refine w_seq ?_
      refine w_region ?_
      refine t_assign rfl ?_ rfl
      refine t_done ?_
      refine x_seq ?_
      refine w_ret ?_
      refine x_then_ret ?_
      refine x_ret1 rfl rfl ?_
      have h2' : inR s 0 2147483646 = false := by simpa using h2
      exact ⟨by simp [subM, h1', h2'], rfl⟩
    · intro h2
      have h2' : inR s 0 2147483646 = true := by simpa using h2
      have r2 := inR_iff.1 h2'
      refine w_skip ?_
      refine x_seq ?_
      refine w_seq ?_
      refine w_region ?_
      refine t_move rfl ?_ rfl
      refine t_move rfl ?_ rfl
      refine t_sub rfl rfl (by omega) ?_ rfl
      refine t_add rfl rfl (by omega) ?_ rfl
      refine t_rem rfl rfl (by omega) ?_ rfl
      refine t_assign rfl ?_ rfl
      refine t_done ?_
      refine x_seq ?_
      refine w_ret ?_
      refine x_ret1 rfl rfl ?_
      exact ⟨by simp [subM, h1', h2'], rfl⟩
theorem spec_SubMod (b s : Int) (w : World) : Calls Tryz.prog 175 #[I b, I s] w fun e w' => e = .returned (I (subM b s)) ∧ w = w' := by
  have X0 := Below.refl w.heap.size w
  refine enter Tryz.func175 rfl Tryz.ntmps175 rfl ?_
  refine w_seq ?_
  refine w_region ?_
  have S := Sep.nil w
  have B := Below.refl w.heap.size w
  have Hb := Nat.le_refl w.heap.size
  refine t_assign rfl ?_ rfl
  refine t_done ?_
  refine x_seq ?_
  refine w_seq ?_
  refine w_seq ?_
  refine w_region ?_
  refine t_move rfl ?_ rfl
  refine t_calls Tryz.call108 rfl (spec_l3Ok _ _) ?_ rfl rfl
  refine t_notb rfl ?_ rfl
  refine t_move rfl ?_ rfl
  refine t_part (t := 8) rfl ?_ ?_
  · intro h1
    refine t_off rfl rfl rfl ?_ rfl
    refine t_off rfl rfl rfl ?_ rfl
    refine t_off rfl rfl rfl ?_ rfl
    refine t_pickt rfl rfl ?_ rfl
    refine t_done ?_
    refine x_seq ?_
    refine w_yes rfl ?_
    refine w_seq ?_
    refine w_region ?_
    refine t_assign rfl ?_ rfl
    refine t_done ?_
    refine x_seq ?_
    refine w_ret ?_
    refine x_then_ret ?_
    refine x_ret1 rfl rfl ?_
    have h1' : inR b 0 2147483646 = false := by simpa using h1
    exact ⟨by simp [subM, h1'], rfl⟩
  · intro h1
    have h1' : inR b 0 2147483646 = true := by simpa using h1
    have r1 := inR_iff.1 h1'
    refine t_on rfl rfl ?_
    refine t_move rfl ?_ rfl
    refine t_on rfl rfl ?_
    refine t_calls Tryz.call108 rfl (spec_l3Ok _ _) ?_ rfl rfl
    refine t_on rfl rfl ?_
    refine t_notb rfl ?_ rfl
    refine t_pickf rfl rfl ?_ rfl
    refine t_done ?_
    refine x_seq ?_
    refine w_ifb rfl ?_ ?_
    · intro h2
      refine w_seq ?_
      refine w_region ?_
      refine t_assign rfl ?_ rfl
      refine t_done ?_
      refine x_seq ?_
      refine w_ret ?_
      refine x_then_ret ?_
      refine x_ret1 rfl rfl ?_
      have h2' : inR s 0 2147483646 = false := by simpa using h2
      exact ⟨by simp [subM, h1', h2'], rfl⟩
    · intro h2
      have h2' : inR s 0 2147483646 = true := by simpa using h2
      have r2 := inR_iff.1 h2'
      refine w_skip ?_
      refine x_seq ?_
      refine w_seq ?_
      refine w_region ?_
      refine t_move rfl ?_ rfl
      refine t_move rfl ?_ rfl
      refine t_sub rfl rfl (by omega) ?_ rfl
      refine t_add rfl rfl (by omega) ?_ rfl
      refine t_rem rfl rfl (by omega) ?_ rfl
      refine t_assign rfl ?_ rfl
      refine t_done ?_
      refine x_seq ?_
      refine w_ret ?_
      refine x_ret1 rfl rfl ?_
      exact ⟨by simp [subM, h1', h2'], rfl⟩
end Go.Proofs.YtdaecknfahgddaaGreat
namespace Go.Proofs.YtdaecknfahgddaaGreat
open Go.RowKit
set_option linter.unusedVariables false
def isRev (k : Int) : Bool := k == 1 || k == 3
/-- The interface through which a packet enters at hop i, and through which it leaves. -/
def partIn (p : Part) (i : Nat) : Int := match p.hops[i]? with
  | none => 0
  | some h => if isRev p.kind then h.eg else h.ing
def partOut (p : Part) (i : Nat) : Int := match p.hops[i]? with
  | none => 0
  | some h => if isRev p.kind then h.ing else h.eg
theorem impl_IsReversed (k : Int) (w : World) : Calls Tryz.prog 128 #[I k] w fun e w' => e = .returned (.bool (isRev k)) ∧ w = w' := by
  obtain ⟨q, Hq⟩ : ∃ q, Hid (q = isRev k) := ⟨_, rfl⟩
  rw [← Hq.out]
  cases h1 : (k == 1) <;> cases h2 : (k == 3)
  all_goals
    go_enter Tryz.func128, Tryz.ntmps128
    go_wp2
    go_ret
    exact ⟨by rw [Hq.out]; simp [isRev, h1, h2], rfl⟩
theorem spec_IsReversed (k : Int) (w : World) : Calls Tryz.prog 136 #[I k] w fun e w' => e = .returned (.bool (isRev k)) ∧ w = w' := by
  obtain ⟨q, Hq⟩ : ∃ q, Hid (q = isRev k) := ⟨_, rfl⟩
  rw [← Hq.out]
  cases h1 : (k == 1) <;> cases h2 : (k == 3)
  all_goals
    go_enter Tryz.func136, Tryz.ntmps136
    go_wp2
    go_ret
    exact ⟨by rw [Hq.out]; simp [isRev, h1, h2], rfl⟩
theorem impl_PartIngress (p : Part) (cs : List Value) (i : Int) (w : World) (h : partT.R w cs p) (hz : p.hops.length ≤ 1048576) (h0 : 0 ≤ i) : Calls Tryz.prog 81 #[.agg cs.toArray, I i] w fun e w' => e = .returned (I (partIn p i.toNat)) ∧ Below w.heap.size w w' := by
  obtain ⟨A, c, rfl, ⟨h, _⟩⟩ := part_form h
  obtain ⟨y, Hy⟩ : ∃ y, Hid (y = partIn p i.toNat) := ⟨_, rfl⟩
  rw [← Hy.out]
  obtain ⟨k, rfl⟩ := Int.eq_ofNat_of_zero_le h0
  rw [Int.toNat_natCast] at Hy
  obtain ⟨n, H⟩ : ∃ n, Hid (n = p.hops.length) := ⟨_, rfl⟩
  have hn : n ≤ 1048576 := by rw [H.out]; exact hz
  clear hz h0
  rw [← H.out] at h ⊢
  by_cases hlt : k < n
  · obtain ⟨g, o, q, x, e, hg, hxk, c0, c1, c2, c3, c4⟩ := hop_at h (by rw [← H.out]; exact hlt)
    rw [← H.out] at e
    cases e
    have HY : Hid (y = if isRev p.kind then x.eg else x.ing) := by show y = _; rw [Hy.out]; unfold partIn; rw [hxk.out]
    have hin : Hid (inR (k : Int) 0 ((n : Int) - 1) = true) := inR_yes (by omega) (by omega)
    cases hr : isRev p.kind
    all_goals
      rw [hr] at HY
      go_enter Tryz.func81, Tryz.ntmps81
      go_wp2_with (first | (go_at_call 61; refine (impl_InRange _ _ _ _).mono ?_; rintro e w1 ⟨rfl, rfl⟩; rw [hin.out]) | (go_at_call 128; refine (impl_IsReversed _ _).mono ?_; rintro e w1 ⟨rfl, rfl⟩))
      go_ret
      exact ⟨by rw [HY.out]; rfl, ext_alloc1 _ _⟩
  · have HY : Hid (y = 0) := by show y = _; rw [Hy.out]; unfold partIn; rw [List.getElem?_eq_none (by rw [← H.out]; omega)]
    have hin : Hid (inR (k : Int) 0 ((n : Int) - 1) = false) := inR_hi (by omega)
    go_enter Tryz.func81, Tryz.ntmps81
    go_wp2_with (first | (go_at_call 61; refine (impl_InRange _ _ _ _).mono ?_; rintro e w1 ⟨rfl, rfl⟩; rw [hin.out]))
    go_ret
    exact ⟨by rw [HY.out]; rfl, ext_alloc1 _ _⟩
theorem impl_PartEgress (p : Part) (cs : List Value) (i : Int) (w : World) (h : partT.R w cs p) (hz : p.hops.length ≤ 1048576) (h0 : 0 ≤ i) : Calls Tryz.prog 80 #[.agg cs.toArray, I i] w fun e w' => e = .returned (I (partOut p i.toNat)) ∧ Below w.heap.size w w' := by
  obtain ⟨A, c, rfl, ⟨h, _⟩⟩ := part_form h
  obtain ⟨y, Hy⟩ : ∃ y, Hid (y = partOut p i.toNat) := ⟨_, rfl⟩
  rw [← Hy.out]
  obtain ⟨k, rfl⟩ := Int.eq_ofNat_of_zero_le h0
  rw [Int.toNat_natCast] at Hy
  obtain ⟨n, H⟩ : ∃ n, Hid (n = p.hops.length) := ⟨_, rfl⟩
  have hn : n ≤ 1048576 := by rw [H.out]; exact hz
  clear hz h0
  rw [← H.out] at h ⊢
  by_cases hlt : k < n
  · obtain ⟨g, o, q, x, e, hg, hxk, c0, c1, c2, c3, c4⟩ := hop_at h (by rw [← H.out]; exact hlt)
    rw [← H.out] at e
    cases e
    have HY : Hid (y = if isRev p.kind then x.ing else x.eg) := by show y = _; rw [Hy.out]; unfold partOut; rw [hxk.out]
    have hin : Hid (inR (k : Int) 0 ((n : Int) - 1) = true) := inR_yes (by omega) (by omega)
    cases hr : isRev p.kind
    all_goals
      rw [hr] at HY
      go_enter Tryz.func80, Tryz.ntmps80
      go_wp2_with (first | (go_at_call 61; refine (impl_InRange _ _ _ _).mono ?_; rintro e w1 ⟨rfl, rfl⟩; rw [hin.out]) | (go_at_call 128; refine (impl_IsReversed _ _).mono ?_; rintro e w1 ⟨rfl, rfl⟩))
      go_ret
      exact ⟨by rw [HY.out]; rfl, ext_alloc1 _ _⟩
  · have HY : Hid (y = 0) := by show y = _; rw [Hy.out]; unfold partOut; rw [List.getElem?_eq_none (by rw [← H.out]; omega)]
    have hin : Hid (inR (k : Int) 0 ((n : Int) - 1) = false) := inR_hi (by omega)
    go_enter Tryz.func80, Tryz.ntmps80
    go_wp2_with (first | (go_at_call 61; refine (impl_InRange _ _ _ _).mono ?_; rintro e w1 ⟨rfl, rfl⟩; rw [hin.out]))
    go_ret
    exact ⟨by rw [HY.out]; rfl, ext_alloc1 _ _⟩
theorem spec_PartIngress (p : Part) (cs : List Value) (i : Int) (w : World) (h : partT.R w cs p) (hz : p.hops.length ≤ 1048576) (h0 : 0 ≤ i) : Calls Tryz.prog 82 #[.agg cs.toArray, I i] w fun e w' => e = .returned (I (partIn p i.toNat)) ∧ Below w.heap.size w w' := by
  obtain ⟨A, c, rfl, ⟨h, _⟩⟩ := part_form h
  obtain ⟨y, Hy⟩ : ∃ y, Hid (y = partIn p i.toNat) := ⟨_, rfl⟩
  rw [← Hy.out]
  obtain ⟨k, rfl⟩ := Int.eq_ofNat_of_zero_le h0
  rw [Int.toNat_natCast] at Hy
  obtain ⟨n, H⟩ : ∃ n, Hid (n = p.hops.length) := ⟨_, rfl⟩
  have hn : n ≤ 1048576 := by rw [H.out]; exact hz
  clear hz h0
  rw [← H.out] at h ⊢
  by_cases hlt : k < n
  · obtain ⟨g, o, q, x, e, hg, hxk, c0, c1, c2, c3, c4⟩ := hop_at h (by rw [← H.out]; exact hlt)
    rw [← H.out] at e
    cases e
    have HY : Hid (y = if isRev p.kind then x.eg else x.ing) := by show y = _; rw [Hy.out]; unfold partIn; rw [hxk.out]
    have hin : Hid (inR (k : Int) 0 ((n : Int) - 1) = true) := inR_yes (by omega) (by omega)
    cases hr : isRev p.kind
    all_goals
      rw [hr] at HY
      go_enter Tryz.func82, Tryz.ntmps82
      go_wp2_with (first | (go_at_call 64; refine (spec_l1In _ _ _ _).mono ?_; rintro e w1 ⟨rfl, rfl⟩; rw [hin.out]) | (go_at_call 136; refine (spec_IsReversed _ _).mono ?_; rintro e w1 ⟨rfl, rfl⟩))
      go_ret
      exact ⟨by rw [HY.out]; rfl, ext_alloc1 _ _⟩
  · have HY : Hid (y = 0) := by show y = _; rw [Hy.out]; unfold partIn; rw [List.getElem?_eq_none (by rw [← H.out]; omega)]
    have hin : Hid (inR (k : Int) 0 ((n : Int) - 1) = false) := inR_hi (by omega)
    go_enter Tryz.func82, Tryz.ntmps82
    go_wp2_with (first | (go_at_call 64; refine (spec_l1In _ _ _ _).mono ?_; rintro e w1 ⟨rfl, rfl⟩; rw [hin.out]))
    go_ret
    exact ⟨by rw [HY.out]; rfl, ext_alloc1 _ _⟩
theorem spec_PartEgress (p : Part) (cs : List Value) (i : Int) (w : World) (h : partT.R w cs p) (hz : p.hops.length ≤ 1048576) (h0 : 0 ≤ i) : Calls Tryz.prog 83 #[.agg cs.toArray, I i] w fun e w' => e = .returned (I (partOut p i.toNat)) ∧ Below w.heap.size w w' := by
  obtain ⟨A, c, rfl, ⟨h, _⟩⟩ := part_form h
  obtain ⟨y, Hy⟩ : ∃ y, Hid (y = partOut p i.toNat) := ⟨_, rfl⟩
  rw [← Hy.out]
  obtain ⟨k, rfl⟩ := Int.eq_ofNat_of_zero_le h0
  rw [Int.toNat_natCast] at Hy
  obtain ⟨n, H⟩ : ∃ n, Hid (n = p.hops.length) := ⟨_, rfl⟩
  have hn : n ≤ 1048576 := by rw [H.out]; exact hz
  clear hz h0
  rw [← H.out] at h ⊢
  by_cases hlt : k < n
  · obtain ⟨g, o, q, x, e, hg, hxk, c0, c1, c2, c3, c4⟩ := hop_at h (by rw [← H.out]; exact hlt)
    rw [← H.out] at e
    cases e
    have HY : Hid (y = if isRev p.kind then x.ing else x.eg) := by show y = _; rw [Hy.out]; unfold partOut; rw [hxk.out]
    have hin : Hid (inR (k : Int) 0 ((n : Int) - 1) = true) := inR_yes (by omega) (by omega)
    cases hr : isRev p.kind
    all_goals
      rw [hr] at HY
      go_enter Tryz.func83, Tryz.ntmps83
      go_wp2_with (first | (go_at_call 64; refine (spec_l1In _ _ _ _).mono ?_; rintro e w1 ⟨rfl, rfl⟩; rw [hin.out]) | (go_at_call 136; refine (spec_IsReversed _ _).mono ?_; rintro e w1 ⟨rfl, rfl⟩))
      go_ret
      exact ⟨by rw [HY.out]; rfl, ext_alloc1 _ _⟩
  · have HY : Hid (y = 0) := by show y = _; rw [Hy.out]; unfold partOut; rw [List.getElem?_eq_none (by rw [← H.out]; omega)]
    have hin : Hid (inR (k : Int) 0 ((n : Int) - 1) = false) := inR_hi (by omega)
    go_enter Tryz.func83, Tryz.ntmps83
    go_wp2_with (first | (go_at_call 64; refine (spec_l1In _ _ _ _).mono ?_; rintro e w1 ⟨rfl, rfl⟩; rw [hin.out]))
    go_ret
    exact ⟨by rw [HY.out]; rfl, ext_alloc1 _ _⟩
end Go.Proofs.YtdaecknfahgddaaGreat
namespace Go.Proofs.YtdaecknfahgddaaGreat
open Go.RowKit
set_option linter.unusedVariables false
set_option maxRecDepth 20000
def chainAdd (b : Int) (l : List Int) : Int := l.foldl addM b
theorem chain_succ {b : Int} {l : List Int} {k : Nat} {x : Int} (h : l[k]? = some x) : chainAdd b (l.take (k + 1)) = addM (chainAdd b (l.take k)) x := by
  unfold chainAdd; rw [take_succ h, List.foldl_append]; rfl
theorem spec_ChainAdd (b : Int) (l : List Int) (v : Value) (w : World) (h : SlR intT w v l) (hz : l.length ≤ 16777216) : Calls Tryz.prog 169 #[I b, v] w fun e w' => e = .returned (I (chainAdd b l)) ∧ w = w' := by
  have X0 := Below.refl w.heap.size w
  refine enter Tryz.func169 rfl Tryz.ntmps169 rfl ?_
  refine w_seq ?_
  refine w_region ?_
  have S := Sep.nil w
  have B := Below.refl w.heap.size w
  have Hb := Nat.le_refl w.heap.size
  refine t_assign rfl ?_ rfl
  refine t_done ?_
  refine x_seq ?_
  refine w_seq ?_
  refine w_seq ?_
  refine w_region ?_
  refine t_assign rfl ?_ rfl
  refine t_done ?_
  refine x_seq ?_
  refine w_block ?_
  refine w_loop (X := Nat × Int) (fun x wq => (fun k c => k ≤ l.length ∧ c = chainAdd b (l.take k) ∧ w = wq) x.1 x.2) (fun x => (fun k c => [(5, I ((k : Int))), (0, I c), (1, v), (4, I 0)]) x.1 x.2) (fun x => (fun k c => l.length - k) x.1 x.2) (0, b) ?_ ⟨rfl, rfl, rfl, rfl, trivial⟩ ?_
  · exact ⟨by omega, rfl, rfl⟩
  · rintro ⟨k, c⟩ w1 hI
    try dsimp only at hI ⊢
    obtain ⟨hk, hc, rfl⟩ := hI
    refine w_seq ?_
    refine w_seq ?_
    refine w_region ?_
    refine t_move rfl ?_ rfl
    refine t_move rfl ?_ rfl
    refine t_len e_int (by assumption) rfl rfl ?_ rfl
    refine t_lss rfl rfl ?_ rfl
    refine t_done ?_
    refine x_seq ?_
    refine w_if rfl ?_ ?_
    · intro hlt
      refine w_skip ?_
      refine x_seq ?_
      refine w_seq ?_
      refine w_block ?_
      refine w_region ?_
      refine t_move rfl ?_ rfl
      refine t_move rfl ?_ rfl
      refine t_move rfl ?_ rfl
      obtain ⟨e15, he15⟩ : ∃ e, (l)[k]? = some e := getx (by omega)
      refine t_idx e_int (k := k) (by assumption) he15 B rfl rfl (by first | rfl | omega) ?_ rfl
      intro p15 hp15
      refine t_ldi (by assumption) ab_int B rfl ?_ rfl
      refine t_calls Tryz.call176 rfl (spec_AddMod _ _ _) ?_ rfl rfl
      refine t_assign rfl ?_ rfl
      refine t_done ?_
      refine x_block_normal ?_
      refine x_seq ?_
      refine w_region ?_
      refine t_move rfl ?_ rfl
      refine t_add rfl rfl (by omega) ?_ rfl
      refine t_assign rfl ?_ rfl
      refine t_done ?_
      refine x_round (X := Nat × Int) (k + 1, addM c e15) ?_ (by exact ⟨rfl, rfl, rfl, rfl, trivial⟩) (by (try dsimp only); omega)
      try dsimp only
      exact ⟨by omega, by rw [chain_succ he15, hc], rfl⟩
    · intro hge
      refine w_exit ?_
      refine x_then_exit ?_
      refine x_then_exit ?_
      refine x_block_exit ?_
      refine x_seq ?_
      refine w_seq ?_
      refine w_region ?_
      refine t_move rfl ?_ rfl
      refine t_assign rfl ?_ rfl
      refine t_done ?_
      refine x_seq ?_
      refine w_ret ?_
      refine x_ret1 rfl rfl ?_
      exact ⟨ret_int (by rw [hc, List.take_of_length_le (by omega)]), rfl⟩
theorem spec_l9Seals (s : Seg) (v : Value) (i : Int) (w : World) (h : VA segT w v s) (hz : s.hops.length ≤ 1048576) (hi : 0 ≤ i ∧ i ≤ s.hops.length) : Calls Tryz.prog 170 #[v, I i] w fun e w' => ∃ v fp, e = .returned v ∧ SlO intT 3 w.heap.size w' v ((s.hops.take i.toNat).map Hop.mac) fp ∧ Below w.heap.size w w' := by
  have X0 := Below.refl w.heap.size w
  refine enter Tryz.func170 rfl Tryz.ntmps170 rfl ?_
  refine w_seq ?_
  refine w_region ?_
  refine t_boxr (by assumption) rfl ?_ rfl rfl
  intro p2 w2 x3 hp2
  replace h := h.below x3
  have X0 := ext_trans X0 x3
  have S := Sep.nil w2
  have B := Below.refl w2.heap.size w2
  have Hb := Nat.le_refl w2.heap.size
  refine t_assign rfl ?_ rfl
  refine t_done ?_
  refine x_seq ?_
  refine w_seq ?_
  refine w_region ?_
  refine t_lit (T := intT) (css := []) (l := []) int_flat S bs_int0 rfl rfl rfl rfl (Nat.zero_le _) litR_nil ?_ rfl rfl
  intro u7 w4 x5 S
  have B := bx Hb B x5
  refine t_assign rfl ?_ rfl
  refine t_done ?_
  refine x_seq ?_
  refine w_seq ?_
  refine w_seq ?_
  refine w_region ?_
  refine t_assign rfl ?_ rfl
  refine t_done ?_
  refine x_seq ?_
  refine w_block ?_
  refine w_loop (X := Nat × Value) (fun x wq => (fun k v => k ≤ i.toNat ∧ Below w2.heap.size w2 wq ∧ Sep w2.heap.size wq [slO intT 3 v ((s.hops.take k).map Hop.mac)]) x.1 x.2) (fun x => (fun k v => [(6, I ((k : Int))), (5, v), (1, I i), (2, p2), (4, .slice none 0 0)]) x.1 x.2) (fun x => (fun k v => i.toNat - k) x.1 x.2) (0, u7) ?_ ⟨rfl, rfl, rfl, rfl, rfl, trivial⟩ ?_
  · exact ⟨by omega, B, S⟩
  · rintro ⟨k, v⟩ w6 hI
    try dsimp only at hI ⊢
    obtain ⟨hk, B, S⟩ := hI
    have hml : ((s.hops.take k).map Hop.mac).length = k := by rw [List.length_map, List.length_take]; omega
    refine w_seq ?_
    refine w_seq ?_
    refine w_region ?_
    refine t_move rfl ?_ rfl
    refine t_move rfl ?_ rfl
    refine t_lss rfl rfl ?_ rfl
    refine t_done ?_
    refine x_seq ?_
    refine w_if rfl ?_ ?_
    · intro hlt
      refine w_skip ?_
      refine x_seq ?_
      refine w_seq ?_
      refine w_block ?_
      refine w_region ?_
      refine t_move rfl ?_ rfl
      refine t_fld ln_seg_2 (by assumption) fb_seg_2 rfl ?_ rfl
      intro p14 hp14
      refine t_lds (by assumption) ab_s_hop B rfl ?_ rfl
      intro v15 hv15
      refine t_move rfl ?_ rfl
      obtain ⟨e17, he17⟩ : ∃ e, (s.hops)[k]? = some e := getx (by omega)
      refine t_idx e_hop (k := k) (by assumption) he17 B rfl rfl (by first | rfl | omega) ?_ rfl
      intro p17 hp17
      refine t_fld ln_hop_4 (by assumption) fb_hop_4 rfl ?_ rfl
      intro p18 hp18
      refine t_ldi (by assumption) ab_int B rfl ?_ rfl
      refine t_lit (T := intT) (l := [e17.mac]) (css := ([e17.mac]).map fun a => [I a]) int_flat S (fun w => bs_int1 _ w) rfl rfl rfl rfl (by simp [maxLen]) (litR_int _) ?_ rfl rfl
      intro u20 w7 x8 S
      have B := bx Hb B x8
      have hR := S.sl
      have S := S.f1
      refine t_cat int_flat e_int S hR rfl rfl rfl (by first | omega | (simp [-List.length_flatMap]; omega)) (by (simp [maxLen, -List.length_flatMap]; try omega)) ?_ rfl
      intro v21 w9 x10 S
      have B := B.trans x10
      clear hR
      have S := S.f1
      have S := S.tail
      refine t_assign rfl ?_ rfl
      refine t_done ?_
      refine x_block_normal ?_
      refine x_seq ?_
      refine w_region ?_
      refine t_move rfl ?_ rfl
      refine t_add rfl rfl (by omega) ?_ rfl
      refine t_assign rfl ?_ rfl
      refine t_done ?_
      refine x_round (X := Nat × Value) (k + 1, v21) ?_ (by exact ⟨rfl, rfl, rfl, rfl, rfl, trivial⟩) (by (try dsimp only); omega)
      try dsimp only
      refine ⟨by omega, B, ?_⟩
      rw [take_succ he17, List.map_append]
      exact S
    · intro hge
      refine w_exit ?_
      refine x_then_exit ?_
      refine x_then_exit ?_
      refine x_block_exit ?_
      refine x_seq ?_
      refine w_seq ?_
      refine w_region ?_
      refine t_move rfl ?_ rfl
      refine t_assign rfl ?_ rfl
      refine t_done ?_
      refine x_seq ?_
      refine w_ret ?_
      refine x_ret1 rfl rfl ?_
      have : k = i.toNat := by omega
      subst this
      obtain ⟨fp, hO⟩ := (S.mono X0.size).head
      exact ⟨_, fp, rfl, hO, ext_trans X0 B⟩
def segBeta (s : Seg) (i : Int) : Int := if inR i 0 s.hops.length then chainAdd s.beta ((s.hops.take i.toNat).map Hop.mac) else 0
theorem spec_BetaAt (s : Seg) (v : Value) (i : Int) (w : World) (h : VA segT w v s) (hz : s.hops.length ≤ 1048576) : Calls Tryz.prog 155 #[v, I i] w fun e w' => e = .returned (I (segBeta s i)) ∧ Below w.heap.size w w' := by
  have hml : ((s.hops.take i.toNat).map Hop.mac).length ≤ 1048576 := by rw [List.length_map, List.length_take]; omega
  have hml2 : (s.hops.take i.toNat).length ≤ 1048576 := by rw [List.length_take]; omega
  have X0 := Below.refl w.heap.size w
  refine enter Tryz.func155 rfl Tryz.ntmps155 rfl ?_
  refine w_seq ?_
  refine w_region ?_
  refine t_boxr (by assumption) rfl ?_ rfl rfl
  intro p2 w11 x12 hp2
  replace h := h.below x12
  have X0 := ext_trans X0 x12
  have S := Sep.nil w11
  have B := Below.refl w11.heap.size w11
  have Hb := Nat.le_refl w11.heap.size
  refine t_assign rfl ?_ rfl
  refine t_done ?_
  refine x_seq ?_
  refine w_seq ?_
  refine w_seq ?_
  refine w_region ?_
  refine t_move rfl ?_ rfl
  refine t_fld ln_seg_2 (by assumption) fb_seg_2 rfl ?_ rfl
  intro p6 hp6
  refine t_lds (by assumption) ab_s_hop B rfl ?_ rfl
  intro v7 hv7
  refine t_len e_hop (by assumption) rfl rfl ?_ rfl
  refine t_calls Tryz.call64 rfl (spec_l1In _ _ _ _) ?_ rfl rfl
  refine t_notb rfl ?_ rfl
  refine t_done ?_
  refine x_seq ?_
  refine w_ifb rfl ?_ ?_
  · intro h1
    refine w_seq ?_
    refine w_region ?_
    refine t_assign rfl ?_ rfl
    refine t_done ?_
    refine x_seq ?_
    refine w_ret ?_
    refine x_then_ret ?_
    refine x_ret1 rfl rfl ?_
    have h1' : inR i 0 s.hops.length = false := by simpa using h1
    exact ⟨ret_int (by simp [segBeta, h1']), ext_trans X0 B⟩
  · intro h1
    have h1' : inR i 0 s.hops.length = true := by simpa using h1
    have r1 := inR_iff.1 h1'
    refine w_skip ?_
    refine x_seq ?_
    refine w_seq ?_
    refine w_draw (.st .take 0 (.st .take 1 (.st .take 2 (.st .take 3 (.st .run 4 (.st .run 5 (.st .take 6 .done))))))) mixed (by kernel_rfl) ?_
    intro w13 x14
    have B := bx Hb B x14
    have S := S.below x14
    refine t_fld ln_seg_1 (by assumption) fb_seg_1 rfl ?_ rfl
    intro p11 hp11
    refine t_ldi (by assumption) ab_int B rfl ?_ rfl
    refine t_lda (by assumption) ab_seg sb_seg B rfl ?_ rfl
    intro v13 hv13
    obtain ⟨v13_2, rfl, hv13_2⟩ := seg_va hv13
    refine t_move rfl ?_ rfl
    refine t_call Tryz.call170 rfl (spec_l9Seals _ _ _ _ (by first | assumption | exact VA.below (by assumption) B | exact seg_mkv (by first | assumption | exact SlR.below (by assumption) B)) (by omega) (by omega)) ?_ rfl rfl
    rintro e w15 ⟨v15, fpv15, rfl, hOv15, x16⟩
    refine ⟨_, rfl, x16, ?_⟩
    have S := S.add (o := slO _ _ _ _) x16 hOv15
    have B := bx Hb B x16
    refine t_calls Tryz.call169 rfl (spec_ChainAdd _ _ _ _ (S.sl) (by omega)) ?_ rfl rfl
    refine t_assign rfl ?_ rfl
    refine t_done' ?_
    refine x_seq ?_
    refine w_ret ?_
    refine x_ret1 rfl rfl ?_
    exact ⟨ret_int (by simp [segBeta, h1']), ext_trans X0 B⟩
theorem impl_copyHops (l : List Hop) (v : Value) (w : World) (h : SlR hopT w v l) (hz : l.length ≤ 1048576) : Calls Tryz.prog 147 #[v] w fun e w' => ∃ v fp, e = .returned v ∧ SlO hopT 86 w.heap.size w' v l fp ∧ Below w.heap.size w w' := by
  have X0 := Below.refl w.heap.size w
  refine enter Tryz.func147 rfl Tryz.ntmps147 rfl ?_
  refine w_seq ?_
  refine w_region ?_
  have S := Sep.nil w
  have B := Below.refl w.heap.size w
  have Hb := Nat.le_refl w.heap.size
  refine t_assign rfl ?_ rfl
  refine t_done ?_
  refine x_seq ?_
  refine w_seq ?_
  refine w_region ?_
  refine t_lit (T := hopT) (css := []) (l := []) hop_flat S bs_hop0 rfl rfl rfl rfl (Nat.zero_le _) litR_nil ?_ rfl rfl
  intro u3 w17 x18 S
  have B := bx Hb B x18
  refine t_move rfl ?_ rfl
  refine t_cat hop_flat e_hop S (by first | assumption | exact SlR.below (by assumption) B) rfl rfl rfl (by first | omega | (simp [-List.length_flatMap]; omega)) (by (simp [maxLen, -List.length_flatMap]; try omega)) ?_ rfl
  intro v5 w19 x20 S
  have B := B.trans x20
  refine t_assign rfl ?_ rfl
  refine t_done ?_
  refine x_seq ?_
  refine w_ret ?_
  refine x_ret1 rfl rfl ?_
  obtain ⟨fp, hO⟩ := (S.mono X0.size).head
  exact ⟨_, fp, rfl, hO, ext_trans X0 B⟩
theorem rev_snoc {l : List Hop} {i : Int} {x : Hop} (h0 : 0 ≤ i) (h : l[i.toNat]? = some x) : (l.drop (i - 1 + 1).toNat).reverse = (l.drop (i + 1).toNat).reverse ++ [x] := by
  have h2 := List.getElem?_eq_some_iff.1 h
  rw [show (i - 1 + 1).toNat = i.toNat by omega, show (i + 1).toNat = i.toNat + 1 by omega, List.drop_eq_getElem_cons h2.1, List.reverse_cons, h2.2]
def makePart (s : Seg) (kind i : Int) : Part := if inR i 0 ((s.hops.length : Int) - 1) && inR kind 1 4 then (if isRev kind then ⟨kind, s.ts, segBeta s s.hops.length, (s.hops.drop i.toNat).reverse⟩ else ⟨kind, s.ts, segBeta s i, s.hops.drop i.toNat⟩) else ⟨0, 0, 0, []⟩
theorem make_none {s : Seg} {kind i : Int} (h : (inR i 0 ((s.hops.length : Int) - 1) && inR kind 1 4) = false) : makePart s kind i = ⟨0, 0, 0, []⟩ := by unfold makePart; rw [h]; rfl
theorem make_rev {s : Seg} {kind i : Int} (h1 : inR i 0 ((s.hops.length : Int) - 1) = true) (h2 : inR kind 1 4 = true) (h3 : isRev kind = true) : makePart s kind i = ⟨kind, s.ts, segBeta s s.hops.length, (s.hops.drop i.toNat).reverse⟩ := by unfold makePart; rw [h1, h2, h3]; rfl
theorem make_fwd {s : Seg} {kind i : Int} (h1 : inR i 0 ((s.hops.length : Int) - 1) = true) (h2 : inR kind 1 4 = true) (h3 : isRev kind = false) : makePart s kind i = ⟨kind, s.ts, segBeta s i, s.hops.drop i.toNat⟩ := by unfold makePart; rw [h1, h2, h3]; rfl
theorem spec_MakePart (s : Seg) (v : Value) (kind i : Int) (w : World) (h : VA segT w v s) (hz : s.hops.length ≤ 1048576) : Calls Tryz.prog 114 #[v, I kind, I i] w fun e w' => ∃ cs fp, e = .returned (.agg cs.toArray) ∧ partT.O w.heap.size w' cs (makePart s kind i) fp ∧ Below w.heap.size w w' := by
  have hdl : (s.hops.drop i.toNat).length ≤ 1048576 := by rw [List.length_drop]; omega
  have X0 := Below.refl w.heap.size w
  refine enter Tryz.func114 rfl Tryz.ntmps114 rfl ?_
  refine w_seq ?_
  refine w_region ?_
  refine t_boxr (by assumption) rfl ?_ rfl rfl
  intro p3 w21 x22 hp3
  replace h := h.below x22
  have X0 := ext_trans X0 x22
  have S := Sep.nil w21
  have B := Below.refl w21.heap.size w21
  have Hb := Nat.le_refl w21.heap.size
  refine t_alloc S z_part rfl ?_ rfl rfl
  intro g6 w23 x24 S
  have B := bx Hb B x24
  refine t_done ?_
  refine x_seq ?_
  refine w_seq ?_
  refine w_seq ?_
  refine w_region ?_
  refine t_move rfl ?_ rfl
  refine t_fld ln_seg_2 (by assumption) fb_seg_2 rfl ?_ rfl
  intro p10 hp10
  refine t_lds (by assumption) ab_s_hop B rfl ?_ rfl
  intro v11 hv11
  refine t_len e_hop (by assumption) rfl rfl ?_ rfl
  refine t_sub rfl rfl (by omega) ?_ rfl
  refine t_calls Tryz.call64 rfl (spec_l1In _ _ _ _) ?_ rfl rfl
  refine t_notb rfl ?_ rfl
  refine t_move rfl ?_ rfl
  refine t_part (t := 16) rfl ?_ ?_
  · intro h1
    have h1' : inR i 0 ((s.hops.length : Int) - 1) = false := by simpa using h1
    rw [make_none (by rw [h1']; rfl)]
    refine t_off rfl rfl rfl ?_ rfl
    refine t_off rfl rfl rfl ?_ rfl
    refine t_off rfl rfl rfl ?_ rfl
    refine t_pickt rfl rfl ?_ rfl
    refine t_done ?_
    refine x_seq ?_
    refine w_yes rfl ?_
    refine w_seq ?_
    refine w_region ?_
    refine t_build (fun w => b_part0 w) rfl ?_ rfl
    refine t_stn S sb_part rfl rfl rfl rfl (by simp [Value.oneCell']) ?_
    intro w25 b26 S
    have B := B.trans b26
    refine t_done ?_
    refine x_seq ?_
    refine w_ret ?_
    refine x_then_ret ?_
    refine x_retc rfl rfl S.box ab_part sb_part rfl ?_
    have S := Sep.addNil (T := hopT) (e := 86) S
    have S := S.partShut (x := ⟨0, 0, 0, []⟩)
    obtain ⟨fp, hO⟩ := (S.mono X0.size).head
    exact ⟨_, fp, rfl, hO, ext_trans X0 B⟩
  intro h1
  have h1' : inR i 0 ((s.hops.length : Int) - 1) = true := by simpa using h1
  have r1 := inR_iff.1 h1'
  refine t_on rfl rfl ?_
  refine t_move rfl ?_ rfl
  refine t_on rfl rfl ?_
  refine t_calls Tryz.call64 rfl (spec_l1In _ _ _ _) ?_ rfl rfl
  refine t_on rfl rfl ?_
  refine t_notb rfl ?_ rfl
  refine t_pickf rfl rfl ?_ rfl
  refine t_done ?_
  refine x_seq ?_
  refine w_ifb rfl ?_ ?_
  · intro h2
    have h2' : inR kind 1 4 = false := by simpa using h2
    rw [make_none (by rw [h2']; simp)]
    refine w_seq ?_
    refine w_region ?_
    refine t_build (fun w => b_part0 w) rfl ?_ rfl
    refine t_stn S sb_part rfl rfl rfl rfl (by simp [Value.oneCell']) ?_
    intro w27 b28 S
    have B := B.trans b28
    refine t_done ?_
    refine x_seq ?_
    refine w_ret ?_
    refine x_then_ret ?_
    refine x_retc rfl rfl S.box ab_part sb_part rfl ?_
    have S := Sep.addNil (T := hopT) (e := 86) S
    have S := S.partShut (x := ⟨0, 0, 0, []⟩)
    obtain ⟨fp, hO⟩ := (S.mono X0.size).head
    exact ⟨_, fp, rfl, hO, ext_trans X0 B⟩
  intro h2
  have h2' : inR kind 1 4 = true := by simpa using h2
  refine w_skip ?_
  refine x_seq ?_
  refine w_seq ?_
  refine w_draw (.st .take 0 (.st .take 1 (.st .take 2 (.st .take 3 (.st .take 4 (.alt (.st .run 5 (.st .take 6 (.st .run 7 (.st .fin 8 .done)))) (.st .run 7 (.st .run 5 (.st .take 6 (.st .fin 8 .done)))))))))) mixed (by kernel_rfl) ?_
  intro w29 x30
  have B := bx Hb B x30
  have S := S.below x30
  refine t_move rfl ?_ rfl
  refine t_fld ln_seg_0 (by assumption) fb_seg_0 rfl ?_ rfl
  intro p23 hp23
  refine t_ldi (by assumption) ab_int B rfl ?_ rfl
  refine t_lda (by assumption) ab_seg sb_seg B rfl ?_ rfl
  intro v25 hv25
  obtain ⟨v25_2, rfl, hv25_2⟩ := seg_va hv25
  refine t_move rfl ?_ rfl
  refine t_alt ?_ ?_
  · refine t_callx Tryz.call155 rfl (spec_BetaAt _ _ _ _ (by first | assumption | exact VA.below (by assumption) B | exact seg_mkv (by first | assumption | exact SlR.below (by assumption) B)) (by omega)) ?_ rfl rfl
    intro w31 x32
    have B := bx Hb B x32
    have S := S.below x32
    refine t_build (fun w => b_part3 _ _ _ w) rfl ?_ rfl
    refine t_alloc S z_part rfl ?_ rfl rfl
    intro g7 w33 x34 S
    have B := bx Hb B x34
    refine t_stn S sb_part rfl rfl rfl rfl (by simp [Value.oneCell']) ?_
    intro w35 b36 S
    have B := B.trans b36
    refine t_done' ?_
    refine x_seq ?_
    refine w_seq ?_
    refine w_seq ?_
    refine w_region ?_
    refine t_move rfl ?_ rfl
    refine t_calls Tryz.call136 rfl (spec_IsReversed _ _) ?_ rfl rfl
    refine t_notb rfl ?_ rfl
    refine t_done ?_
    refine x_seq ?_
    refine w_ifb rfl ?_ ?_
    · intro h3
      rw [make_fwd h1' h2' (by simpa using h3)]
      refine w_seq ?_
      refine w_region ?_
      refine t_lit (T := hopT) (css := []) (l := []) hop_flat S bs_hop0 rfl rfl rfl rfl (Nat.zero_le _) litR_nil ?_ rfl rfl
      intro u32 w37 x38 S
      have B := bx Hb B x38
      refine t_fld ln_seg_2 (by assumption) fb_seg_2 rfl ?_ rfl
      intro p33 hp33
      refine t_lds (by assumption) ab_s_hop B rfl ?_ rfl
      intro v34 hv34
      refine t_move rfl ?_ rfl
      refine t_sld e_hop (k := (i.toNat)) (by assumption) rfl rfl (by first | rfl | omega) (by omega) ?_ rfl
      intro v36 hv36
      refine t_cat hop_flat e_hop S (by first | assumption | exact SlR.below (by assumption) B) rfl rfl rfl (by first | omega | (simp [-List.length_flatMap]; omega)) (by (simp [maxLen, -List.length_flatMap]; try omega)) ?_ rfl
      intro v37 w39 x40 S
      have B := B.trans x40
      refine t_fldx fb_part_3 rfl rfl ?_ rfl
      obtain ⟨Av37, cv37, rfl, _⟩ := S.sl.form
      have S := S.f1
      refine t_st1 S sb_s_hop rfl rfl rfl rfl rfl ?_
      intro w41 b42 S
      have B := B.trans b42
      refine t_done ?_
      refine x_seq ?_
      refine w_seq ?_
      refine w_region ?_
      refine t_bxn S.box ab_part sb_part rfl rfl ?_ rfl
      have S := S.f2
      refine t_stn S sb_part rfl rfl rfl rfl (by intro zz hu; have hu : zz ∈ ([I kind, I s.ts, I (segBeta s i), .slice Av37 (([]) ++ (s.hops.drop (i.toNat))).length cv37] : List Value) := hu; simp only [List.mem_cons, List.not_mem_nil, or_false] at hu; rcases hu with rfl | rfl | rfl | rfl <;> first | rfl | exact (SlR.cells (by first | assumption | exact S.tail.sl | exact S.tail.tail.sl | exact S.tail.tail.tail.sl | exact S.tail.tail.tail.tail.sl | exact S.tail.tail.tail.tail.tail.sl | exact S.tail.tail.tail.tail.tail.tail.sl | exact S.tail.tail.tail.tail.tail.tail.tail.sl | exact S.tail.tail.tail.tail.tail.tail.tail.tail.sl | exact S.tail.tail.tail.tail.tail.tail.tail.tail.tail.sl | exact S.tail.tail.tail.tail.tail.tail.tail.tail.tail.tail.sl | exact S.tail.tail.tail.tail.tail.tail.tail.tail.tail.tail.tail.sl | exact S.tail.tail.tail.tail.tail.tail.tail.tail.tail.tail.tail.tail.sl | exact S.tail.tail.tail.tail.tail.tail.tail.tail.tail.tail.tail.tail.tail.sl)).2) ?_
      intro w43 b44 S
      have B := B.trans b44
      refine t_done ?_
      refine x_seq ?_
      refine w_ret ?_
      refine x_then_ret ?_
      refine x_retc rfl rfl S.box ab_part sb_part rfl ?_
      have S := S.f2
      have S := S.partShut (x := ⟨kind, s.ts, segBeta s i, s.hops.drop i.toNat⟩)
      obtain ⟨fp, hO⟩ := (S.mono X0.size).head
      exact ⟨_, fp, rfl, hO, ext_trans X0 B⟩
    · intro h3
      rw [make_rev h1' h2' (by simpa using h3)]
      refine w_skip ?_
      refine x_seq ?_
      refine w_seq ?_
      refine w_region ?_
      refine t_lda (by assumption) ab_seg sb_seg B rfl ?_ rfl
      intro v40 hv40
      obtain ⟨v40_2, rfl, hv40_2⟩ := seg_va hv40
      refine t_fld ln_seg_2 (by assumption) fb_seg_2 rfl ?_ rfl
      intro p41 hp41
      refine t_lds (by assumption) ab_s_hop B rfl ?_ rfl
      intro v42 hv42
      refine t_len e_hop (by assumption) rfl rfl ?_ rfl
      refine t_callx Tryz.call155 rfl (spec_BetaAt _ _ _ _ (by first | assumption | exact VA.below (by assumption) B | exact seg_mkv (by first | assumption | exact SlR.below (by assumption) B)) (by omega)) ?_ rfl rfl
      intro w45 x46
      have B := bx Hb B x46
      have S := S.below x46
      refine t_fldx fb_part_2 rfl rfl ?_ rfl
      refine t_st1 S sb_int rfl rfl rfl rfl rfl ?_
      intro w47 b48 S
      have B := B.trans b48
      refine t_done ?_
      refine x_seq ?_
      refine w_seq ?_
      refine w_seq ?_
      refine w_region ?_
      refine t_fld ln_seg_2 (by assumption) fb_seg_2 rfl ?_ rfl
      intro p46 hp46
      refine t_lds (by assumption) ab_s_hop B rfl ?_ rfl
      intro v47 hv47
      refine t_len e_hop (by assumption) rfl rfl ?_ rfl
      refine t_sub rfl rfl (by omega) ?_ rfl
      refine t_assign rfl ?_ rfl
      refine t_done ?_
      refine x_seq ?_
      refine w_block ?_
      refine w_loop (X := Int × Value) (fun x wq => (fun j u => i - 1 ≤ j ∧ j ≤ (s.hops.length : Int) - 1 ∧ Below w21.heap.size w21 wq ∧ Sep w21.heap.size wq [bxO g7 82 #[I kind, I s.ts, I (segBeta s s.hops.length), u], slO hopT 86 u (s.hops.drop (j + 1).toNat).reverse, bxO g6 82 #[I 0, I 0, I 0, .slice none 0 0]]) x.1 x.2) (fun x => (fun j u => [(8, I j), (2, I i), (3, p3), (6, .pointer (some ⟨g6, 0, none⟩)), (7, .pointer (some ⟨g7, 0, none⟩))]) x.1 x.2) (fun x => (fun j u => (j + 1 - i).toNat) x.1 x.2) ((s.hops.length : Int) - 1, .slice none 0 0) ?_ ⟨rfl, rfl, rfl, rfl, rfl, trivial⟩ ?_
      · refine ⟨by show i - 1 ≤ (s.hops.length : Int) - 1; omega, by show (s.hops.length : Int) - 1 ≤ _; omega, B, ?_⟩
        show Sep _ _ [_, slO hopT _ _ (s.hops.drop ((s.hops.length : Int) - 1 + 1).toNat).reverse, _]
        rw [List.drop_of_length_le (by omega)]
        exact S.addNil.f1
      · rintro ⟨j, u⟩ w49 hI
        try dsimp only at hI ⊢
        obtain ⟨hk, hk2, B, S⟩ := hI
        have hml : (s.hops.drop (j + 1).toNat).reverse.length ≤ 1048576 := by rw [List.length_reverse, List.length_drop]; omega
        refine w_seq ?_
        refine w_seq ?_
        refine w_region ?_
        refine t_move rfl ?_ rfl
        refine t_move rfl ?_ rfl
        refine t_geq rfl rfl ?_ rfl
        refine t_done ?_
        refine x_seq ?_
        refine w_if rfl ?_ ?_
        · intro hlt
          refine w_skip ?_
          refine x_seq ?_
          refine w_seq ?_
          refine w_block ?_
          refine w_draw (.st .take 0 (.st .take 1 (.st .take 2 (.st .take 3 (.st .take 4 (.st .take 5 (.st .take 6 (.st .run 7 (.st .fin 8 (.st .fin 9 (.st .fin 10 .done))))))))))) mixed (by kernel_rfl) ?_
          intro w50 x51
          have B := bx Hb B x51
          have S := S.below x51
          refine t_fldx fb_part_3 rfl rfl ?_ rfl
          refine t_bx1 S.box ab_s_hop rfl rfl ?_ rfl
          refine t_fld ln_seg_2 (by assumption) fb_seg_2 rfl ?_ rfl
          intro p57 hp57
          refine t_lds (by assumption) ab_s_hop B rfl ?_ rfl
          intro v58 hv58
          refine t_move rfl ?_ rfl
          obtain ⟨e60, he60⟩ : ∃ e, (s.hops)[(j.toNat)]? = some e := getx (by omega)
          refine t_idx e_hop (k := (j.toNat)) (by assumption) he60 B rfl rfl (by first | rfl | omega) ?_ rfl
          intro p60 hp60
          refine t_lda (by assumption) ab_hop sb_hop B rfl ?_ rfl
          intro v61 hv61
          obtain rfl := hop_va hv61
          refine t_lit (T := hopT) (l := [(e60 : Hop)]) (css := [[I e60.ia, I e60.ing, I e60.eg, I e60.exp, I e60.mac]]) hop_flat S (fun w => bs_hop1 _ _ _ _ _ w) rfl rfl rfl rfl (by simp [maxLen]) (litR_one fun _ => rfl) ?_ rfl rfl
          intro u62 w52 x53 S
          have B := bx Hb B x53
          have hR := S.sl
          have S := S.f2
          refine t_cat hop_flat e_hop S hR rfl rfl rfl (by first | omega | (simp [-List.length_flatMap]; omega)) (by (simp [maxLen, -List.length_flatMap]; try omega)) ?_ rfl
          intro v63 w54 x55 S
          have B := B.trans x55
          clear hR
          have S := S.f1
          have S := S.tail
          refine t_fldx fb_part_3 rfl rfl ?_ rfl
          obtain ⟨Av63, cv63, rfl, _⟩ := S.sl.form
          have S := S.f1
          refine t_st1 S sb_s_hop rfl rfl rfl rfl rfl ?_
          intro w56 b57 S
          have B := B.trans b57
          refine t_done' ?_
          refine x_block_normal ?_
          refine x_seq ?_
          refine w_region ?_
          refine t_move rfl ?_ rfl
          refine t_sub rfl rfl (by omega) ?_ rfl
          refine t_assign rfl ?_ rfl
          refine t_done ?_
          refine x_round (X := Int × Value) (j - 1, .slice Av63 (((s.hops.drop (j + 1).toNat).reverse) ++ ([(e60 : Hop)])).length cv63) ?_ (by exact ⟨rfl, rfl, rfl, rfl, rfl, trivial⟩) (by (try dsimp only); omega)
          try dsimp only
          refine ⟨by omega, by omega, B, ?_⟩
          rw [rev_snoc (by omega) he60]
          exact S
        · intro hge
          have hj : j + 1 = i := by omega
          rw [hj] at S
          refine w_exit ?_
          refine x_then_exit ?_
          refine x_then_exit ?_
          refine x_block_exit ?_
          refine x_seq ?_
          refine w_seq ?_
          refine w_region ?_
          refine t_bxn S.box ab_part sb_part rfl rfl ?_ rfl
          have S := S.f2
          refine t_stn S sb_part rfl rfl rfl rfl (by intro zz hu; have hu : zz ∈ ([I kind, I s.ts, I ((segBeta s s.hops.length)), u] : List Value) := hu; simp only [List.mem_cons, List.not_mem_nil, or_false] at hu; rcases hu with rfl | rfl | rfl | rfl <;> first | rfl | exact (SlR.cells (by first | assumption | exact S.tail.sl | exact S.tail.tail.sl | exact S.tail.tail.tail.sl | exact S.tail.tail.tail.tail.sl | exact S.tail.tail.tail.tail.tail.sl | exact S.tail.tail.tail.tail.tail.tail.sl | exact S.tail.tail.tail.tail.tail.tail.tail.sl | exact S.tail.tail.tail.tail.tail.tail.tail.tail.sl | exact S.tail.tail.tail.tail.tail.tail.tail.tail.tail.sl | exact S.tail.tail.tail.tail.tail.tail.tail.tail.tail.tail.sl | exact S.tail.tail.tail.tail.tail.tail.tail.tail.tail.tail.tail.sl | exact S.tail.tail.tail.tail.tail.tail.tail.tail.tail.tail.tail.tail.sl | exact S.tail.tail.tail.tail.tail.tail.tail.tail.tail.tail.tail.tail.tail.sl)).2) ?_
          intro w58 b59 S
          have B := B.trans b59
          refine t_done ?_
          refine x_seq ?_
          refine w_ret ?_
          refine x_retc rfl rfl S.box ab_part sb_part rfl ?_
          have S := S.f2
          have S := S.partShut (x := ⟨kind, s.ts, segBeta s s.hops.length, (s.hops.drop i.toNat).reverse⟩)
          obtain ⟨fp, hO⟩ := (S.mono X0.size).head
          exact ⟨_, fp, rfl, hO, ext_trans X0 B⟩
  · refine t_alloc S z_part rfl ?_ rfl rfl
    intro g7 w60 x61 S
    have B := bx Hb B x61
    refine t_callx Tryz.call155 rfl (spec_BetaAt _ _ _ _ (by first | assumption | exact VA.below (by assumption) B | exact seg_mkv (by first | assumption | exact SlR.below (by assumption) B)) (by omega)) ?_ rfl rfl
    intro w62 x63
    have B := bx Hb B x63
    have S := S.below x63
    refine t_build (fun w => b_part3 _ _ _ w) rfl ?_ rfl
    refine t_stn S sb_part rfl rfl rfl rfl (by simp [Value.oneCell']) ?_
    intro w64 b65 S
    have B := B.trans b65
    refine t_done' ?_
    refine x_seq ?_
    refine w_seq ?_
    refine w_seq ?_
    refine w_region ?_
    refine t_move rfl ?_ rfl
    refine t_calls Tryz.call136 rfl (spec_IsReversed _ _) ?_ rfl rfl
    refine t_notb rfl ?_ rfl
    refine t_done ?_
    refine x_seq ?_
    refine w_ifb rfl ?_ ?_
    · intro h3
      rw [make_fwd h1' h2' (by simpa using h3)]
      refine w_seq ?_
      refine w_region ?_
      refine t_lit (T := hopT) (css := []) (l := []) hop_flat S bs_hop0 rfl rfl rfl rfl (Nat.zero_le _) litR_nil ?_ rfl rfl
      intro u32 w66 x67 S
      have B := bx Hb B x67
      refine t_fld ln_seg_2 (by assumption) fb_seg_2 rfl ?_ rfl
      intro p33 hp33
      refine t_lds (by assumption) ab_s_hop B rfl ?_ rfl
      intro v34 hv34
      refine t_move rfl ?_ rfl
      refine t_sld e_hop (k := (i.toNat)) (by assumption) rfl rfl (by first | rfl | omega) (by omega) ?_ rfl
      intro v36 hv36
      refine t_cat hop_flat e_hop S (by first | assumption | exact SlR.below (by assumption) B) rfl rfl rfl (by first | omega | (simp [-List.length_flatMap]; omega)) (by (simp [maxLen, -List.length_flatMap]; try omega)) ?_ rfl
      intro v37 w68 x69 S
      have B := B.trans x69
      refine t_fldx fb_part_3 rfl rfl ?_ rfl
      obtain ⟨Av37, cv37, rfl, _⟩ := S.sl.form
      have S := S.f1
      refine t_st1 S sb_s_hop rfl rfl rfl rfl rfl ?_
      intro w70 b71 S
      have B := B.trans b71
      refine t_done ?_
      refine x_seq ?_
      refine w_seq ?_
      refine w_region ?_
      refine t_bxn S.box ab_part sb_part rfl rfl ?_ rfl
      have S := S.f2
      refine t_stn S sb_part rfl rfl rfl rfl (by intro zz hu; have hu : zz ∈ ([I kind, I s.ts, I (segBeta s i), .slice Av37 (([]) ++ (s.hops.drop (i.toNat))).length cv37] : List Value) := hu; simp only [List.mem_cons, List.not_mem_nil, or_false] at hu; rcases hu with rfl | rfl | rfl | rfl <;> first | rfl | exact (SlR.cells (by first | assumption | exact S.tail.sl | exact S.tail.tail.sl | exact S.tail.tail.tail.sl | exact S.tail.tail.tail.tail.sl | exact S.tail.tail.tail.tail.tail.sl | exact S.tail.tail.tail.tail.tail.tail.sl | exact S.tail.tail.tail.tail.tail.tail.tail.sl | exact S.tail.tail.tail.tail.tail.tail.tail.tail.sl | exact S.tail.tail.tail.tail.tail.tail.tail.tail.tail.sl | exact S.tail.tail.tail.tail.tail.tail.tail.tail.tail.tail.sl | exact S.tail.tail.tail.tail.tail.tail.tail.tail.tail.tail.tail.sl | exact S.tail.tail.tail.tail.tail.tail.tail.tail.tail.tail.tail.tail.sl | exact S.tail.tail.tail.tail.tail.tail.tail.tail.tail.tail.tail.tail.tail.sl)).2) ?_
      intro w72 b73 S
      have B := B.trans b73
      refine t_done ?_
      refine x_seq ?_
      refine w_ret ?_
      refine x_then_ret ?_
      refine x_retc rfl rfl S.box ab_part sb_part rfl ?_
      have S := S.f2
      have S := S.partShut (x := ⟨kind, s.ts, segBeta s i, s.hops.drop i.toNat⟩)
      obtain ⟨fp, hO⟩ := (S.mono X0.size).head
      exact ⟨_, fp, rfl, hO, ext_trans X0 B⟩
    · intro h3
      rw [make_rev h1' h2' (by simpa using h3)]
      refine w_skip ?_
      refine x_seq ?_
      refine w_seq ?_
      refine w_region ?_
      refine t_lda (by assumption) ab_seg sb_seg B rfl ?_ rfl
      intro v40 hv40
      obtain ⟨v40_2, rfl, hv40_2⟩ := seg_va hv40
      refine t_fld ln_seg_2 (by assumption) fb_seg_2 rfl ?_ rfl
      intro p41 hp41
      refine t_lds (by assumption) ab_s_hop B rfl ?_ rfl
      intro v42 hv42
      refine t_len e_hop (by assumption) rfl rfl ?_ rfl
      refine t_callx Tryz.call155 rfl (spec_BetaAt _ _ _ _ (by first | assumption | exact VA.below (by assumption) B | exact seg_mkv (by first | assumption | exact SlR.below (by assumption) B)) (by omega)) ?_ rfl rfl
      intro w74 x75
      have B := bx Hb B x75
      have S := S.below x75
      refine t_fldx fb_part_2 rfl rfl ?_ rfl
      refine t_st1 S sb_int rfl rfl rfl rfl rfl ?_
      intro w76 b77 S
      have B := B.trans b77
      refine t_done ?_
      refine x_seq ?_
      refine w_seq ?_
      refine w_seq ?_
      refine w_region ?_
      refine t_fld ln_seg_2 (by assumption) fb_seg_2 rfl ?_ rfl
      intro p46 hp46
      refine t_lds (by assumption) ab_s_hop B rfl ?_ rfl
      intro v47 hv47
      refine t_len e_hop (by assumption) rfl rfl ?_ rfl
      refine t_sub rfl rfl (by omega) ?_ rfl
      refine t_assign rfl ?_ rfl
      refine t_done ?_
      refine x_seq ?_
      refine w_block ?_
      refine w_loop (X := Int × Value) (fun x wq => (fun j u => i - 1 ≤ j ∧ j ≤ (s.hops.length : Int) - 1 ∧ Below w21.heap.size w21 wq ∧ Sep w21.heap.size wq [bxO g7 82 #[I kind, I s.ts, I (segBeta s s.hops.length), u], slO hopT 86 u (s.hops.drop (j + 1).toNat).reverse, bxO g6 82 #[I 0, I 0, I 0, .slice none 0 0]]) x.1 x.2) (fun x => (fun j u => [(8, I j), (2, I i), (3, p3), (6, .pointer (some ⟨g6, 0, none⟩)), (7, .pointer (some ⟨g7, 0, none⟩))]) x.1 x.2) (fun x => (fun j u => (j + 1 - i).toNat) x.1 x.2) ((s.hops.length : Int) - 1, .slice none 0 0) ?_ ⟨rfl, rfl, rfl, rfl, rfl, trivial⟩ ?_
      · refine ⟨by show i - 1 ≤ (s.hops.length : Int) - 1; omega, by show (s.hops.length : Int) - 1 ≤ _; omega, B, ?_⟩
        show Sep _ _ [_, slO hopT _ _ (s.hops.drop ((s.hops.length : Int) - 1 + 1).toNat).reverse, _]
        rw [List.drop_of_length_le (by omega)]
        exact S.addNil.f1
      · rintro ⟨j, u⟩ w78 hI
        try dsimp only at hI ⊢
        obtain ⟨hk, hk2, B, S⟩ := hI
        have hml : (s.hops.drop (j + 1).toNat).reverse.length ≤ 1048576 := by rw [List.length_reverse, List.length_drop]; omega
        refine w_seq ?_
        refine w_seq ?_
        refine w_region ?_
        refine t_move rfl ?_ rfl
        refine t_move rfl ?_ rfl
        refine t_geq rfl rfl ?_ rfl
        refine t_done ?_
        refine x_seq ?_
        refine w_if rfl ?_ ?_
        · intro hlt
          refine w_skip ?_
          refine x_seq ?_
          refine w_seq ?_
          refine w_block ?_
          refine w_draw (.st .take 0 (.st .take 1 (.st .take 2 (.st .take 3 (.st .take 4 (.st .take 5 (.st .take 6 (.st .run 7 (.st .fin 8 (.st .fin 9 (.st .fin 10 .done))))))))))) mixed (by kernel_rfl) ?_
          intro w79 x80
          have B := bx Hb B x80
          have S := S.below x80
          refine t_fldx fb_part_3 rfl rfl ?_ rfl
          refine t_bx1 S.box ab_s_hop rfl rfl ?_ rfl
          refine t_fld ln_seg_2 (by assumption) fb_seg_2 rfl ?_ rfl
          intro p57 hp57
          refine t_lds (by assumption) ab_s_hop B rfl ?_ rfl
          intro v58 hv58
          refine t_move rfl ?_ rfl
          obtain ⟨e60, he60⟩ : ∃ e, (s.hops)[(j.toNat)]? = some e := getx (by omega)
          refine t_idx e_hop (k := (j.toNat)) (by assumption) he60 B rfl rfl (by first | rfl | omega) ?_ rfl
          intro p60 hp60
          refine t_lda (by assumption) ab_hop sb_hop B rfl ?_ rfl
          intro v61 hv61
          obtain rfl := hop_va hv61
          refine t_lit (T := hopT) (l := [(e60 : Hop)]) (css := [[I e60.ia, I e60.ing, I e60.eg, I e60.exp, I e60.mac]]) hop_flat S (fun w => bs_hop1 _ _ _ _ _ w) rfl rfl rfl rfl (by simp [maxLen]) (litR_one fun _ => rfl) ?_ rfl rfl
          intro u62 w81 x82 S
          have B := bx Hb B x82
          have hR := S.sl
          have S := S.f2
          refine t_cat hop_flat e_hop S hR rfl rfl rfl (by first | omega | (simp [-List.length_flatMap]; omega)) (by (simp [maxLen, -List.length_flatMap]; try omega)) ?_ rfl
          intro v63 w83 x84 S
          have B := B.trans x84
          clear hR
          have S := S.f1
          have S := S.tail
          refine t_fldx fb_part_3 rfl rfl ?_ rfl
          obtain ⟨Av63, cv63, rfl, _⟩ := S.sl.form
          have S := S.f1
          refine t_st1 S sb_s_hop rfl rfl rfl rfl rfl ?_
          intro w85 b86 S
          have B := B.trans b86
          refine t_done' ?_
          refine x_block_normal ?_
          refine x_seq ?_
          refine w_region ?_
          refine t_move rfl ?_ rfl
          refine t_sub rfl rfl (by omega) ?_ rfl
          refine t_assign rfl ?_ rfl
          refine t_done ?_
          refine x_round (X := Int × Value) (j - 1, .slice Av63 (((s.hops.drop (j + 1).toNat).reverse) ++ ([(e60 : Hop)])).length cv63) ?_ (by exact ⟨rfl, rfl, rfl, rfl, rfl, trivial⟩) (by (try dsimp only); omega)
          try dsimp only
          refine ⟨by omega, by omega, B, ?_⟩
          rw [rev_snoc (by omega) he60]
          exact S
        · intro hge
          have hj : j + 1 = i := by omega
          rw [hj] at S
          refine w_exit ?_
          refine x_then_exit ?_
          refine x_then_exit ?_
          refine x_block_exit ?_
          refine x_seq ?_
          refine w_seq ?_
          refine w_region ?_
          refine t_bxn S.box ab_part sb_part rfl rfl ?_ rfl
          have S := S.f2
          refine t_stn S sb_part rfl rfl rfl rfl (by intro zz hu; have hu : zz ∈ ([I kind, I s.ts, I ((segBeta s s.hops.length)), u] : List Value) := hu; simp only [List.mem_cons, List.not_mem_nil, or_false] at hu; rcases hu with rfl | rfl | rfl | rfl <;> first | rfl | exact (SlR.cells (by first | assumption | exact S.tail.sl | exact S.tail.tail.sl | exact S.tail.tail.tail.sl | exact S.tail.tail.tail.tail.sl | exact S.tail.tail.tail.tail.tail.sl | exact S.tail.tail.tail.tail.tail.tail.sl | exact S.tail.tail.tail.tail.tail.tail.tail.sl | exact S.tail.tail.tail.tail.tail.tail.tail.tail.sl | exact S.tail.tail.tail.tail.tail.tail.tail.tail.tail.sl | exact S.tail.tail.tail.tail.tail.tail.tail.tail.tail.tail.sl | exact S.tail.tail.tail.tail.tail.tail.tail.tail.tail.tail.tail.sl | exact S.tail.tail.tail.tail.tail.tail.tail.tail.tail.tail.tail.tail.sl | exact S.tail.tail.tail.tail.tail.tail.tail.tail.tail.tail.tail.tail.tail.sl)).2) ?_
          intro w87 b88 S
          have B := B.trans b88
          refine t_done ?_
          refine x_seq ?_
          refine w_ret ?_
          refine x_retc rfl rfl S.box ab_part sb_part rfl ?_
          have S := S.f2
          have S := S.partShut (x := ⟨kind, s.ts, segBeta s s.hops.length, (s.hops.drop i.toNat).reverse⟩)
          obtain ⟨fp, hO⟩ := (S.mono X0.size).head
          exact ⟨_, fp, rfl, hO, ext_trans X0 B⟩
end Go.Proofs.YtdaecknfahgddaaGreat
namespace Go.Proofs.YtdaecknfahgddaaGreat
open Go.RowKit
set_option linter.unusedVariables false
set_option maxRecDepth 20000
theorem sz_parts_mem {l : List Part} {x : Part} (h : x ∈ l) : l.length + sz_part x ≤ sz_parts l := by
  unfold sz_parts
  have := le_sum_of_mem (List.mem_map_of_mem (f := sz_part) h)
  omega
end Go.Proofs.YtdaecknfahgddaaGreat
namespace Go.Proofs.YtdaecknfahgddaaGreat
open Go.RowKit
set_option linter.unusedVariables false
set_option maxRecDepth 20000
/-- The last place below n where the AS is r. -/
def lastI (l : List Hop) (r : Int) : Nat → Int
  | 0 => -1
  | n + 1 => match l[n]? with
    | some x => if x.ia = r then (n : Int) else lastI l r n
    | none => lastI l r n
theorem lastI_yes {l : List Hop} {r : Int} {i : Int} {x : Hop} (h0 : 0 ≤ i) (h : l[i.toNat]? = some x) (e : x.ia = r) : lastI l r (i + 1).toNat = i := by
  rw [show (i + 1).toNat = i.toNat + 1 by omega, lastI, h]
  simp only [e, if_true]
  omega
theorem lastI_no {l : List Hop} {r : Int} {i : Int} {x : Hop} (h0 : 0 ≤ i) (h : l[i.toNat]? = some x) (e : x.ia ≠ r) : lastI l r (i + 1).toNat = lastI l r (i - 1 + 1).toNat := by
  rw [show (i + 1).toNat = i.toNat + 1 by omega, show (i - 1 + 1).toNat = i.toNat by omega, lastI, h]
  simp only [e, if_false]
theorem spec_SegmentASes (p : Seg) (v : Value) (w : World) (h : VA segT w v p) (hz : p.hops.length ≤ 1048576) : Calls Tryz.prog 153 #[v] w fun e w' => ∃ v fp, e = .returned v ∧ SlO intT 3 w.heap.size w' v (p.hops.map Hop.ia) fp ∧ Below w.heap.size w w' := by
  have X0 := Below.refl w.heap.size w
  refine enter Tryz.func153 rfl Tryz.ntmps153 rfl ?_
  refine w_seq ?_
  refine w_region ?_
  refine t_boxr (by assumption) rfl ?_ rfl rfl
  intro p1 w1 x2 hp1
  replace h := h.below x2
  have X0 := ext_trans X0 x2
  have S := Sep.nil w1
  have B := Below.refl w1.heap.size w1
  have Hb := Nat.le_refl w1.heap.size
  refine t_assign rfl ?_ rfl
  refine t_done ?_
  refine x_seq ?_
  refine w_seq ?_
  refine w_region ?_
  refine t_lit (T := intT) (css := []) (l := []) int_flat S bs_int0 rfl rfl rfl rfl (Nat.zero_le _) litR_nil ?_ rfl rfl
  intro u5 w3 x4 S
  have B := bx Hb B x4
  refine t_assign rfl ?_ rfl
  refine t_done ?_
  refine x_seq ?_
  refine w_seq ?_
  refine w_seq ?_
  refine w_region ?_
  refine t_assign rfl ?_ rfl
  refine t_done ?_
  refine x_seq ?_
  refine w_block ?_
  refine w_loop (X := Nat × Value) (fun x wq => (fun k v => k ≤ p.hops.length ∧ Below w1.heap.size w1 wq ∧ Sep w1.heap.size wq [slO intT 3 v ((p.hops.take k).map Hop.ia)]) x.1 x.2) (fun x => (fun k v => [(4, I ((k : Int))), (3, v), (1, p1), (2, .slice none 0 0)]) x.1 x.2) (fun x => (fun k v => p.hops.length - k) x.1 x.2) (0, u5) ?_ ⟨rfl, rfl, rfl, rfl, trivial⟩ ?_
  · exact ⟨by omega, B, S⟩
  · rintro ⟨k, v⟩ w5 hI
    try dsimp only at hI ⊢
    obtain ⟨hk, B, S⟩ := hI
    have hml : ((p.hops.take k).map Hop.ia).length = k := by rw [List.length_map, List.length_take]; omega
    refine w_seq ?_
    refine w_seq ?_
    refine w_region ?_
    refine t_move rfl ?_ rfl
    refine t_fld ln_seg_2 (by assumption) fb_seg_2 rfl ?_ rfl
    intro p7 hp7
    refine t_lds (by assumption) ab_s_hop B rfl ?_ rfl
    intro v8 hv8
    refine t_len e_hop (by assumption) rfl rfl ?_ rfl
    refine t_lss rfl rfl ?_ rfl
    refine t_done ?_
    refine x_seq ?_
    refine w_if rfl ?_ ?_
    · intro hlt
      refine w_skip ?_
      refine x_seq ?_
      refine w_seq ?_
      refine w_block ?_
      refine w_region ?_
      refine t_move rfl ?_ rfl
      refine t_fld ln_seg_2 (by assumption) fb_seg_2 rfl ?_ rfl
      intro p14 hp14
      refine t_lds (by assumption) ab_s_hop B rfl ?_ rfl
      intro v15 hv15
      refine t_move rfl ?_ rfl
      obtain ⟨e17, he17⟩ : ∃ e, (p.hops)[k]? = some e := getx (by omega)
      refine t_idx e_hop (k := k) (by assumption) he17 B rfl rfl (by first | rfl | omega) ?_ rfl
      intro p17 hp17
      refine t_fld ln_hop_0 (by assumption) fb_hop_0 rfl ?_ rfl
      intro p18 hp18
      refine t_ldi (by assumption) ab_int B rfl ?_ rfl
      refine t_lit (T := intT) (l := [e17.ia]) (css := ([e17.ia]).map fun a => [I a]) int_flat S (fun w => bs_int1 _ w) rfl rfl rfl rfl (by simp [maxLen]) (litR_int _) ?_ rfl rfl
      intro u20 w6 x7 S
      have B := bx Hb B x7
      have hR := S.sl
      have S := S.f1
      refine t_cat int_flat e_int S hR rfl rfl rfl (by first | omega | (simp [-List.length_flatMap]; omega)) (by (simp [maxLen, -List.length_flatMap]; try omega)) ?_ rfl
      intro v21 w8 x9 S
      have B := B.trans x9
      clear hR
      have S := S.f1
      have S := S.tail
      refine t_assign rfl ?_ rfl
      refine t_done ?_
      refine x_block_normal ?_
      refine x_seq ?_
      refine w_region ?_
      refine t_move rfl ?_ rfl
      refine t_add rfl rfl (by omega) ?_ rfl
      refine t_assign rfl ?_ rfl
      refine t_done ?_
      refine x_round (X := Nat × Value) (k + 1, v21) ?_ (by exact ⟨rfl, rfl, rfl, rfl, trivial⟩) (by (try dsimp only); omega)
      try dsimp only
      refine ⟨by omega, B, ?_⟩
      rw [take_succ he17, List.map_append]
      exact S
    · intro hge
      refine w_exit ?_
      refine x_then_exit ?_
      refine x_then_exit ?_
      refine x_block_exit ?_
      refine x_seq ?_
      refine w_seq ?_
      refine w_region ?_
      refine t_move rfl ?_ rfl
      refine t_assign rfl ?_ rfl
      refine t_done ?_
      refine x_seq ?_
      refine w_ret ?_
      refine x_ret1 rfl rfl ?_
      have : k = p.hops.length := by omega
      subst this
      rw [List.take_length] at S
      obtain ⟨fp, hO⟩ := (S.mono X0.size).head
      exact ⟨_, fp, rfl, hO, ext_trans X0 B⟩
def meet (up down : Seg) : Nat → Path
  | 0 => []
  | n + 1 => match up.hops[n]? with
    | none => []
    | some x => if 0 ≤ lastI down.hops x.ia down.hops.length then [makePart up 1 n, makePart down 4 (lastI down.hops x.ia down.hops.length)] else meet up down n
def joinUD (up down : Seg) : Path := meet up down up.hops.length
theorem meet_yes {up down : Seg} {i : Int} {x : Hop} (h0 : 0 ≤ i) (h : up.hops[i.toNat]? = some x) (e : 0 ≤ lastI down.hops x.ia down.hops.length) : meet up down (i + 1).toNat = [makePart up 1 i, makePart down 4 (lastI down.hops x.ia down.hops.length)] := by
  rw [show (i + 1).toNat = i.toNat + 1 by omega, meet, h]
  simp only [e, if_true]
  rw [show (i.toNat : Int) = i by omega]
theorem meet_no {up down : Seg} {i : Int} {x : Hop} (h0 : 0 ≤ i) (h : up.hops[i.toNat]? = some x) (e : ¬ 0 ≤ lastI down.hops x.ia down.hops.length) : meet up down (i + 1).toNat = meet up down (i - 1 + 1).toNat := by
  rw [show (i + 1).toNat = i.toNat + 1 by omega, show (i - 1 + 1).toNat = i.toNat by omega, meet, h]
  simp only [e, if_false]
theorem spec_l22Meet (s t : Seg) (v u : Value) (w : World) (h : VA segT w v s) (h' : VA segT w u t) (hz : s.hops.length ≤ 1048576) (hz' : t.hops.length ≤ 1048576) : Calls Tryz.prog 113 #[v, u] w fun e w' => ∃ cs fp, e = .returned (.agg cs.toArray) ∧ pathT.O w.heap.size w' cs (joinUD s t) fp ∧ Below w.heap.size w w' := by
  have hml : (s.hops.map Hop.ia).length = s.hops.length := List.length_map ..
  have hml2 : (t.hops.map Hop.ia).length = t.hops.length := List.length_map ..
  have X0 := Below.refl w.heap.size w
  refine enter Tryz.func113 rfl Tryz.ntmps113 rfl ?_
  refine w_seq ?_
  refine w_region ?_
  refine t_boxr (by assumption) rfl ?_ rfl rfl
  intro p2 w10 x11 hp2
  replace h := h.below x11
  replace h' := h'.below x11
  have X0 := ext_trans X0 x11
  refine t_boxr (by assumption) rfl ?_ rfl rfl
  intro p3 w12 x13 hp3
  replace h := h.below x13
  replace h' := h'.below x13
  replace hp2 := hp2.below x13
  have X0 := ext_trans X0 x13
  have S := Sep.nil w12
  have B := Below.refl w12.heap.size w12
  have Hb := Nat.le_refl w12.heap.size
  refine t_alloc S z_path rfl ?_ rfl rfl
  intro g4 w14 x15 S
  have B := bx Hb B x15
  refine t_done ?_
  refine x_seq ?_
  refine w_seq ?_
  refine w_region ?_
  refine t_lda (by assumption) ab_seg sb_seg B rfl ?_ rfl
  intro v9 hv9
  obtain ⟨v9_2, rfl, hv9_2⟩ := seg_va hv9
  refine t_call Tryz.call153 rfl (spec_SegmentASes _ _ _ (by first | assumption | exact VA.below (by assumption) B | exact seg_mkv (by first | assumption | exact SlR.below (by assumption) B)) (by omega)) ?_ rfl rfl
  rintro e w16 ⟨v10, fpv10, rfl, hOv10, x17⟩
  refine ⟨_, rfl, x17, ?_⟩
  have S := S.add (o := slO _ _ _ _) x17 hOv10
  have B := bx Hb B x17
  refine t_assign rfl ?_ rfl
  refine t_done ?_
  refine x_seq ?_
  refine w_seq ?_
  refine w_region ?_
  refine t_lda (by assumption) ab_seg sb_seg B rfl ?_ rfl
  intro v11 hv11
  obtain ⟨v11_2, rfl, hv11_2⟩ := seg_va hv11
  refine t_call Tryz.call153 rfl (spec_SegmentASes _ _ _ (by first | assumption | exact VA.below (by assumption) B | exact seg_mkv (by first | assumption | exact SlR.below (by assumption) B)) (by omega)) ?_ rfl rfl
  rintro e w18 ⟨v12, fpv12, rfl, hOv12, x19⟩
  refine ⟨_, rfl, x19, ?_⟩
  have S := S.add (o := slO _ _ _ _) x19 hOv12
  have B := bx Hb B x19
  refine t_assign rfl ?_ rfl
  refine t_done ?_
  refine x_seq ?_
  refine w_seq ?_
  refine w_seq ?_
  refine w_region ?_
  refine t_move rfl ?_ rfl
  refine t_len e_int (S.tail.sl) rfl rfl ?_ rfl
  refine t_sub rfl rfl (by omega) ?_ rfl
  refine t_assign rfl ?_ rfl
  refine t_done ?_
  refine x_seq ?_
  refine w_block ?_
  refine w_loop (X := Int) (fun i wq => -1 ≤ i ∧ i ≤ (s.hops.length : Int) - 1 ∧ meet s t (i + 1).toNat = joinUD s t ∧ Below w12.heap.size w12 wq ∧ Sep w12.heap.size wq [bxO g4 30 #[.slice none 0 0], slO intT 3 v10 (s.hops.map Hop.ia), slO intT 3 v12 (t.hops.map Hop.ia)]) (fun i => [(7, I i), (2, p2), (3, p3), (4, .pointer (some ⟨g4, 0, none⟩)), (5, v10), (6, v12)]) (fun i => (i + 1).toNat) (((s.hops.map Hop.ia).length : Int) - 1) ?_ ⟨rfl, rfl, rfl, rfl, rfl, rfl, trivial⟩ ?_
  · exact ⟨by omega, by omega, by rw [show (((s.hops.map Hop.ia).length : Int) - 1 + 1).toNat = s.hops.length by omega]; rfl, B, S.f1.f2⟩
  · rintro i w20 hI
    try dsimp only at hI ⊢
    obtain ⟨hk, hk2, hl, B, S⟩ := hI
    refine w_seq ?_
    refine w_seq ?_
    refine w_region ?_
    refine t_move rfl ?_ rfl
    refine t_geq rfl rfl ?_ rfl
    refine t_done ?_
    refine x_seq ?_
    refine w_if rfl ?_ ?_
    · intro hlt
      obtain ⟨x, hx⟩ : ∃ e, s.hops[i.toNat]? = some e := getx (by omega)
      have hxm : (s.hops.map Hop.ia)[i.toNat]? = some x.ia := by rw [List.getElem?_map, hx]; rfl
      refine w_skip ?_
      refine x_seq ?_
      refine w_seq ?_
      refine w_block ?_
      refine w_seq ?_
      refine w_region ?_
      refine t_move rfl ?_ rfl
      refine t_len e_int (S.tail.tail.sl) rfl rfl ?_ rfl
      refine t_sub rfl rfl (by omega) ?_ rfl
      refine t_assign rfl ?_ rfl
      refine t_done ?_
      refine x_seq ?_
      refine w_block ?_
      refine w_loop (X := Int) (fun k wq => -1 ≤ k ∧ k ≤ (t.hops.length : Int) - 1 ∧ lastI t.hops x.ia (k + 1).toNat = lastI t.hops x.ia t.hops.length ∧ Below w12.heap.size w12 wq ∧ Sep w12.heap.size wq [bxO g4 30 #[.slice none 0 0], slO intT 3 v10 (s.hops.map Hop.ia), slO intT 3 v12 (t.hops.map Hop.ia)]) (fun k => [(8, I k), (7, I i), (2, p2), (3, p3), (4, .pointer (some ⟨g4, 0, none⟩)), (5, v10), (6, v12)]) (fun k => (k + 1).toNat) (((t.hops.map Hop.ia).length : Int) - 1) ?_ ⟨rfl, rfl, rfl, rfl, rfl, rfl, rfl, trivial⟩ ?_
      · exact ⟨by omega, by omega, by rw [show (((t.hops.map Hop.ia).length : Int) - 1 + 1).toNat = t.hops.length by omega], B, S⟩
      · rintro k w21 hI
        try dsimp only at hI ⊢
        obtain ⟨hj, hj2, hm, B, S⟩ := hI
        refine w_seq ?_
        refine w_seq ?_
        refine w_region ?_
        refine t_move rfl ?_ rfl
        refine t_geq rfl rfl ?_ rfl
        refine t_done ?_
        refine x_seq ?_
        refine w_if rfl ?_ ?_
        · intro hlt2
          obtain ⟨y, hy⟩ : ∃ e, t.hops[k.toNat]? = some e := getx (by omega)
          have hym : (t.hops.map Hop.ia)[k.toNat]? = some y.ia := by rw [List.getElem?_map, hy]; rfl
          refine w_skip ?_
          refine x_seq ?_
          refine w_seq ?_
          refine w_block ?_
          refine w_seq ?_
          refine w_draw (.st .take 0 (.st .take 1 (.st .take 2 (.st .take 3 (.st .take 4 (.st .take 5 (.st .take 6 (.st .take 7 (.st .take 8 .done))))))))) mixed (by kernel_rfl) ?_
          intro w22 x23
          have B := bx Hb B x23
          have S := S.below x23
          refine t_move rfl ?_ rfl
          refine t_move rfl ?_ rfl
          refine t_idx e_int (k := (i.toNat)) (S.tail.sl) hxm (Below.refl _ _) rfl rfl (by first | rfl | omega) ?_ rfl
          intro p29 hp29
          refine t_ldi (by assumption) ab_int (Below.refl _ _) rfl ?_ rfl
          refine t_move rfl ?_ rfl
          refine t_move rfl ?_ rfl
          refine t_idx e_int (k := (k.toNat)) (S.tail.tail.sl) hym (Below.refl _ _) rfl rfl (by first | rfl | omega) ?_ rfl
          intro p33 hp33
          refine t_ldi (by assumption) ab_int (Below.refl _ _) rfl ?_ rfl
          refine t_eql rfl rfl ?_ rfl
          refine t_done' ?_
          refine x_seq ?_
          refine w_if rfl ?_ ?_
          · intro he
            have hL : lastI t.hops x.ia t.hops.length = k := by rw [← hm, lastI_yes (by omega) hy he.symm]
            have hM := meet_yes (down := t) (by omega) hx (by omega)
            rw [hL] at hM
            rw [← hl, hM]
            refine w_seq ?_
            refine w_draw (.st .take 0 (.st .take 1 (.st .take 3 (.st .take 4 (.st .run 2 (.st .run 5 (.st .run 6 (.st .take 7 (.st .fin 8 .done))))))))) mixed (by kernel_rfl) ?_
            intro w24 x25
            have B := bx Hb B x25
            have S := S.below x25
            refine t_lda (by assumption) ab_seg sb_seg B rfl ?_ rfl
            intro v36 hv36
            obtain ⟨v36_2, rfl, hv36_2⟩ := seg_va hv36
            refine t_move rfl ?_ rfl
            refine t_lda (by assumption) ab_seg sb_seg B rfl ?_ rfl
            intro v39 hv39
            obtain ⟨v39_2, rfl, hv39_2⟩ := seg_va hv39
            refine t_move rfl ?_ rfl
            refine t_call Tryz.call114 rfl (spec_MakePart _ _ _ _ _ (by first | assumption | exact VA.below (by assumption) B | exact seg_mkv (by first | assumption | exact SlR.below (by assumption) B)) (by omega)) ?_ rfl rfl
            rintro e w26 ⟨cs38, fp38, rfl, hO38, x27⟩
            refine ⟨_, rfl, x27, ?_⟩
            have S := S.add (o := tyO partT _ _) x27 hO38
            have B := bx Hb B x27
            obtain ⟨u38_3, heq, S2⟩ := S.partOpen
            subst heq
            have S := S2
            clear S2
            refine t_call Tryz.call114 rfl (spec_MakePart _ _ _ _ _ (by first | assumption | exact VA.below (by assumption) B | exact seg_mkv (by first | assumption | exact SlR.below (by assumption) B)) (by omega)) ?_ rfl rfl
            rintro e w28 ⟨cs41, fp41, rfl, hO41, x29⟩
            refine ⟨_, rfl, x29, ?_⟩
            have S := S.add (o := tyO partT _ _) x29 hO41
            have B := bx Hb B x29
            obtain ⟨u41_3, heq, S2⟩ := S.partOpen
            subst heq
            have S := S2
            clear S2
            have S := S.partShut (x := makePart t 4 k)
            have S := S.f1
            have S := S.partShut (x := makePart s 1 i)
            refine t_lit2 S (fun w => bs_part2 _ _ _ _ _ _ _ _ w) rfl rfl ?_ rfl rfl
            intro u42 w30 x31 S
            have B := bx Hb B x31
            obtain ⟨Au42, cu42, rfl, _⟩ := S.sl.form
            refine t_build (fun w => b_path _ _ _ w) rfl ?_ rfl
            have S := S.f1
            refine t_stn S sb_path rfl rfl rfl rfl (by intro zz hu; have hu : zz ∈ ([.slice Au42 ([makePart s 1 i, makePart t 4 k]).length cu42] : List Value) := hu; simp only [List.mem_cons, List.not_mem_nil, or_false] at hu; rcases hu with rfl <;> first | rfl | exact (SlR.cells (by first | assumption | exact S.tail.sl | exact S.tail.tail.sl | exact S.tail.tail.tail.sl | exact S.tail.tail.tail.tail.sl | exact S.tail.tail.tail.tail.tail.sl | exact S.tail.tail.tail.tail.tail.tail.sl | exact S.tail.tail.tail.tail.tail.tail.tail.sl | exact S.tail.tail.tail.tail.tail.tail.tail.tail.sl | exact S.tail.tail.tail.tail.tail.tail.tail.tail.tail.sl | exact S.tail.tail.tail.tail.tail.tail.tail.tail.tail.tail.sl | exact S.tail.tail.tail.tail.tail.tail.tail.tail.tail.tail.tail.sl | exact S.tail.tail.tail.tail.tail.tail.tail.tail.tail.tail.tail.tail.sl | exact S.tail.tail.tail.tail.tail.tail.tail.tail.tail.tail.tail.tail.tail.sl)).2) ?_
            intro w32 b33 S
            have B := B.trans b33
            refine t_done' ?_
            refine x_seq ?_
            refine w_ret ?_
            refine x_block_ret ?_
            refine x_then_ret ?_
            refine x_then_ret ?_
            refine x_block_ret ?_
            refine x_block_ret ?_
            refine x_then_ret ?_
            refine x_then_ret ?_
            refine x_block_ret ?_
            refine x_then_ret ?_
            refine x_retc rfl rfl S.box ab_path sb_path rfl ?_
            have S := S.f1
            have S := S.pathShut (x := [makePart s 1 i, makePart t 4 k])
            obtain ⟨fp, hO⟩ := (S.mono X0.size).head
            exact ⟨_, fp, rfl, hO, ext_trans X0 B⟩
          · intro he
            refine w_skip ?_
            refine x_block_normal ?_
            refine x_seq ?_
            refine w_region ?_
            refine t_move rfl ?_ rfl
            refine t_sub rfl rfl (by omega) ?_ rfl
            refine t_assign rfl ?_ rfl
            refine t_done ?_
            refine x_round (X := Int) (k - 1) ?_ (by exact ⟨rfl, rfl, rfl, rfl, rfl, rfl, rfl, trivial⟩) (by (try dsimp only); omega)
            try dsimp only
            exact ⟨by omega, by omega, by rw [← lastI_no (by omega) hy (fun e => he e.symm)]; exact hm, B, S⟩
        · intro hge2
          refine w_exit ?_
          refine x_then_exit ?_
          refine x_then_exit ?_
          refine x_block_exit ?_
          refine x_block_normal ?_
          refine x_seq ?_
          refine w_region ?_
          refine t_move rfl ?_ rfl
          refine t_sub rfl rfl (by omega) ?_ rfl
          refine t_assign rfl ?_ rfl
          refine t_done ?_
          refine x_round (X := Int) (i - 1) ?_ (by exact ⟨rfl, rfl, rfl, rfl, rfl, rfl, trivial⟩) (by (try dsimp only); omega)
          try dsimp only
          have : k = -1 := by omega
          subst this
          have hL : lastI t.hops x.ia t.hops.length = -1 := by rw [← hm]; rfl
          exact ⟨by omega, by omega, by rw [← meet_no (by omega) hx (by omega)]; exact hl, B, S⟩
    · intro hge
      refine w_exit ?_
      refine x_then_exit ?_
      refine x_then_exit ?_
      refine x_block_exit ?_
      refine x_seq ?_
      refine w_seq ?_
      refine w_region ?_
      refine t_build (fun w => b_path0 w) rfl ?_ rfl
      refine t_stn S sb_path rfl rfl rfl rfl (by simp [Value.oneCell']) ?_
      intro w34 b35 S
      have B := B.trans b35
      refine t_done ?_
      refine x_seq ?_
      refine w_ret ?_
      refine x_retc rfl rfl S.box ab_path sb_path rfl ?_
      have : i = -1 := by omega
      subst this
      have S := Sep.addNil (T := partT) (e := 82) S
      have S := S.pathShut (x := [])
      obtain ⟨fp, hO⟩ := (S.mono X0.size).head
      exact ⟨_, fp, rfl, by rw [← hl]; exact hO, ext_trans X0 B⟩
theorem make_len (s : Seg) (k i : Int) : (makePart s k i).hops.length ≤ s.hops.length := by
  unfold makePart
  split
  · split
    · show ((s.hops.drop i.toNat).reverse).length ≤ _; rw [List.length_reverse, List.length_drop]; omega
    · show (s.hops.drop i.toNat).length ≤ _; rw [List.length_drop]; omega
  · exact Nat.zero_le _
end Go.Proofs.YtdaecknfahgddaaGreat
namespace Go.Proofs.YtdaecknfahgddaaGreat
open Go.RowKit
set_option linter.unusedVariables false
set_option maxRecDepth 20000
section
variable {P : Program} {n : Nat} {ops : Array Oper} {Q : Exit → Act → World → Prop} {L : Frm} {w : World} {m : Md} {r : IT} {d : Nat} {ty : TypeId} {pos : String} {af : Array Edge}
theorem x_ret0 {fn : Func} {R : Ending → World → Prop} (hr : fn.results = #[]) (h : R (.returned (.tuple #[])) w) : WX n (bodyPost P fn R) .ret L w := by
  intro a ha
  exact bodyPost_ret (by simp [results, hr]) ha.defers h
end
end Go.Proofs.YtdaecknfahgddaaGreat
namespace Go.Proofs.YtdaecknfahgddaaGreat
open Go.RowKit
set_option linter.unusedVariables false
set_option maxRecDepth 20000
def betaStep (rev : Bool) (b : Int) (h : Hop) : Int := if rev then subM b h.mac else addM b h.mac
def betaFold (p : Part) (l : List Hop) : Int := l.foldl (betaStep (isRev p.kind)) p.beta
def betaAfter (p : Part) (i : Int) : Int := if inR i 0 p.hops.length then betaFold p (p.hops.take i.toNat) else 0
theorem betaFold_succ {p : Part} {l : List Hop} {k : Nat} {x : Hop} (h : l[k]? = some x) : betaFold p (l.take (k + 1)) = betaStep (isRev p.kind) (betaFold p (l.take k)) x := by
  unfold betaFold; rw [take_succ h, List.foldl_append]; rfl
theorem impl_BetaAfter (p : Part) (v : Value) (i : Int) (w : World) (h : VA partT w v p) (hz : p.hops.length ≤ 1048576) : Calls Tryz.prog 127 #[v, I i] w fun e w' => e = .returned (I (betaAfter p i)) ∧ Below w.heap.size w w' := by
  have X0 := Below.refl w.heap.size w
  refine enter Tryz.func127 rfl Tryz.ntmps127 rfl ?_
  refine w_seq ?_
  refine w_region ?_
  refine t_boxr (by assumption) rfl ?_ rfl rfl
  intro p2 w1 x2 hp2
  replace h := h.below x2
  have X0 := ext_trans X0 x2
  have S := Sep.nil w1
  have B := Below.refl w1.heap.size w1
  have Hb := Nat.le_refl w1.heap.size
  refine t_assign rfl ?_ rfl
  refine t_done ?_
  refine x_seq ?_
  refine w_seq ?_
  refine w_seq ?_
  refine w_region ?_
  refine t_move rfl ?_ rfl
  refine t_fld ln_part_3 (by assumption) fb_part_3 rfl ?_ rfl
  intro p9 hp9
  refine t_lds (by assumption) ab_s_hop B rfl ?_ rfl
  intro v10 hv10
  refine t_len e_hop (by assumption) rfl rfl ?_ rfl
  refine t_calls Tryz.call61 rfl (impl_InRange _ _ _ _) ?_ rfl rfl
  refine t_notb rfl ?_ rfl
  refine t_done ?_
  refine x_seq ?_
  refine w_ifb rfl ?_ ?_
  · intro h1
    have h1' : inR i 0 p.hops.length = false := by simpa using h1
    refine w_seq ?_
    refine w_region ?_
    refine t_assign rfl ?_ rfl
    refine t_done ?_
    refine x_seq ?_
    refine w_ret ?_
    refine x_then_ret ?_
    refine x_ret1 rfl rfl ?_
    exact ⟨ret_int (by simp [betaAfter, h1']), X0⟩
  · intro h1
    have h1' : inR i 0 p.hops.length = true := by simpa using h1
    have r1 := inR_iff.1 h1'
    obtain ⟨n, rfl⟩ : ∃ n : Nat, i = n := ⟨i.toNat, by omega⟩
    have hl : (p.hops.take n).length = n := by rw [List.length_take]; omega
    refine w_skip ?_
    refine x_seq ?_
    refine w_seq ?_
    refine w_region ?_
    refine t_fld ln_part_2 (by assumption) fb_part_2 rfl ?_ rfl
    intro p14 hp14
    refine t_ldi (by assumption) ab_int B rfl ?_ rfl
    refine t_assign rfl ?_ rfl
    refine t_done ?_
    refine x_seq ?_
    refine w_seq ?_
    refine w_seq ?_
    refine w_region ?_
    refine t_fld ln_part_3 (by assumption) fb_part_3 rfl ?_ rfl
    intro p16 hp16
    refine t_lds (by assumption) ab_s_hop B rfl ?_ rfl
    intro v17 hv17
    refine t_move rfl ?_ rfl
    refine t_slt e_hop (k := n) (by assumption) rfl rfl (by first | rfl | omega) (by omega) ?_ rfl
    intro v19 hv19
    refine t_len e_hop (by assumption) rfl rfl ?_ rfl
    refine t_move rfl ?_ rfl
    refine t_done ?_
    refine x_seq ?_
    refine w_block ?_
    refine w_loop (X := Nat × Int) (fun x wq => (fun k b => k ≤ n ∧ b = betaFold p ((p.hops.take n).take k) ∧ Below w1.heap.size w1 wq ∧ Sep w1.heap.size wq []) x.1 x.2) (fun x => (fun k b => [(21, I ((k : Int))), (5, I b), (2, p2), (4, I 0), (19, v19), (20, I (((p.hops.take n).length : Int)))]) x.1 x.2) (fun x => (fun k b => n - k) x.1 x.2) (0, p.beta) ?_ ⟨rfl, rfl, rfl, rfl, rfl, rfl, trivial⟩ ?_
    · exact ⟨by omega, rfl, B, S⟩
    · rintro ⟨k, b⟩ w3 hI
      try dsimp only at hI ⊢
      obtain ⟨hk, hb, B, S⟩ := hI
      refine w_seq ?_
      refine w_region ?_
      refine t_lss rfl rfl ?_ rfl
      refine t_done ?_
      refine x_seq ?_
      refine w_seq ?_
      refine w_if rfl ?_ ?_
      · intro hlt
        refine w_skip ?_
        refine x_seq ?_
        refine w_seq ?_
        refine w_block ?_
        refine w_seq ?_
        refine w_region ?_
        obtain ⟨e23, he23⟩ : ∃ e, (p.hops.take n)[k]? = some e := getx (by omega)
        refine t_idx e_hop (k := k) (by assumption) he23 B rfl rfl (by first | rfl | omega) ?_ rfl
        intro p23 hp23
        refine t_lda (by assumption) ab_hop sb_hop B rfl ?_ rfl
        intro v24 hv24
        obtain rfl := hop_va hv24
        refine t_alloc S z_hop rfl ?_ rfl rfl
        intro g7 w4 x5 S
        have B := bx Hb B x5
        refine t_stn S sb_hop rfl rfl rfl rfl (by intro zz hu; have hu : zz ∈ ([I e23.ia, I e23.ing, I e23.eg, I e23.exp, I e23.mac] : List Value) := hu; simp only [List.mem_cons, List.not_mem_nil, or_false] at hu; rcases hu with rfl | rfl | rfl | rfl | rfl <;> rfl) ?_
        intro w6 b7 S
        have B := B.trans b7
        refine t_done ?_
        refine x_seq ?_
        refine w_seq ?_
        refine w_region ?_
        refine t_fld ln_part_0 (by assumption) fb_part_0 rfl ?_ rfl
        intro p25 hp25
        refine t_ldi (by assumption) ab_int B rfl ?_ rfl
        refine t_calls Tryz.call128 rfl (impl_IsReversed _ _) ?_ rfl rfl
        refine t_done ?_
        refine x_seq ?_
        have hs := betaFold_succ (p := p) he23
        refine w_ifb rfl ?_ ?_
        · intro hr
          refine w_region ?_
          refine t_move rfl ?_ rfl
          refine t_fldx fb_hop_4 rfl rfl ?_ rfl
          refine t_bx1 S.box ab_int rfl rfl ?_ rfl
          refine t_calls Tryz.call160 rfl (impl_SubMod _ _ _) ?_ rfl rfl
          refine t_assign rfl ?_ rfl
          refine t_done ?_
          refine x_block_normal ?_
          refine x_seq ?_
          refine w_region ?_
          refine t_add rfl rfl (by omega) ?_ rfl
          refine t_move rfl ?_ rfl
          refine t_done ?_
          have S := S.tail
          refine x_round (X := Nat × Int) (k + 1, subM b e23.mac) ?_ (by exact ⟨rfl, rfl, rfl, rfl, rfl, rfl, trivial⟩) (by (try dsimp only); omega)
          try dsimp only
          exact ⟨by omega, by rw [hs, ← hb, betaStep, hr]; rfl, B, S⟩
        · intro hr
          refine w_region ?_
          refine t_move rfl ?_ rfl
          refine t_fldx fb_hop_4 rfl rfl ?_ rfl
          refine t_bx1 S.box ab_int rfl rfl ?_ rfl
          refine t_calls Tryz.call161 rfl (impl_AddMod _ _ _) ?_ rfl rfl
          refine t_assign rfl ?_ rfl
          refine t_done ?_
          refine x_block_normal ?_
          refine x_seq ?_
          refine w_region ?_
          refine t_add rfl rfl (by omega) ?_ rfl
          refine t_move rfl ?_ rfl
          refine t_done ?_
          have S := S.tail
          refine x_round (X := Nat × Int) (k + 1, addM b e23.mac) ?_ (by exact ⟨rfl, rfl, rfl, rfl, rfl, rfl, trivial⟩) (by (try dsimp only); omega)
          try dsimp only
          exact ⟨by omega, by rw [hs, ← hb, betaStep, hr]; rfl, B, S⟩
      · intro hge
        refine w_exit ?_
        refine x_then_exit ?_
        refine x_then_exit ?_
        refine x_block_exit ?_
        refine x_seq ?_
        refine w_seq ?_
        refine w_region ?_
        refine t_move rfl ?_ rfl
        refine t_assign rfl ?_ rfl
        refine t_done ?_
        refine x_seq ?_
        refine w_ret ?_
        refine x_ret1 rfl rfl ?_
        refine ⟨ret_int ?_, ext_trans X0 B⟩
        rw [betaAfter, h1', if_pos rfl, hb, List.take_of_length_le (by omega)]
        rfl
theorem spec_BetaAfter (p : Part) (v : Value) (i : Int) (w : World) (h : VA partT w v p) (hz : p.hops.length ≤ 1048576) : Calls Tryz.prog 164 #[v, I i] w fun e w' => e = .returned (I (betaAfter p i)) ∧ Below w.heap.size w w' := by
  have X0 := Below.refl w.heap.size w
  refine enter Tryz.func164 rfl Tryz.ntmps164 rfl ?_
  refine w_seq ?_
  refine w_region ?_
  refine t_boxr (by assumption) rfl ?_ rfl rfl
  intro p2 w8 x9 hp2
  replace h := h.below x9
  have X0 := ext_trans X0 x9
  have S := Sep.nil w8
  have B := Below.refl w8.heap.size w8
  have Hb := Nat.le_refl w8.heap.size
  refine t_assign rfl ?_ rfl
  refine t_done ?_
  refine x_seq ?_
  refine w_seq ?_
  refine w_seq ?_
  refine w_region ?_
  refine t_move rfl ?_ rfl
  refine t_fld ln_part_3 (by assumption) fb_part_3 rfl ?_ rfl
  intro p8 hp8
  refine t_lds (by assumption) ab_s_hop B rfl ?_ rfl
  intro v9 hv9
  refine t_len e_hop (by assumption) rfl rfl ?_ rfl
  refine t_calls Tryz.call64 rfl (spec_l1In _ _ _ _) ?_ rfl rfl
  refine t_notb rfl ?_ rfl
  refine t_done ?_
  refine x_seq ?_
  refine w_ifb rfl ?_ ?_
  · intro h1
    have h1' : inR i 0 p.hops.length = false := by simpa using h1
    refine w_seq ?_
    refine w_region ?_
    refine t_assign rfl ?_ rfl
    refine t_done ?_
    refine x_seq ?_
    refine w_ret ?_
    refine x_then_ret ?_
    refine x_ret1 rfl rfl ?_
    exact ⟨ret_int (by simp [betaAfter, h1']), X0⟩
  · intro h1
    have h1' : inR i 0 p.hops.length = true := by simpa using h1
    have r1 := inR_iff.1 h1'
    obtain ⟨n, rfl⟩ : ∃ n : Nat, i = n := ⟨i.toNat, by omega⟩
    refine w_skip ?_
    refine x_seq ?_
    refine w_seq ?_
    refine w_region ?_
    refine t_fld ln_part_2 (by assumption) fb_part_2 rfl ?_ rfl
    intro p13 hp13
    refine t_ldi (by assumption) ab_int B rfl ?_ rfl
    refine t_assign rfl ?_ rfl
    refine t_done ?_
    refine x_seq ?_
    refine w_seq ?_
    refine w_seq ?_
    refine w_region ?_
    refine t_assign rfl ?_ rfl
    refine t_done ?_
    refine x_seq ?_
    refine w_block ?_
    refine w_loop (X := Nat × Int) (fun x wq => (fun k b => k ≤ n ∧ b = betaFold p (p.hops.take k) ∧ Below w8.heap.size w8 wq ∧ Sep w8.heap.size wq []) x.1 x.2) (fun x => (fun k b => [(6, I ((k : Int))), (5, I b), (1, I ((n : Int))), (2, p2), (4, I 0)]) x.1 x.2) (fun x => (fun k b => n - k) x.1 x.2) (0, p.beta) ?_ ⟨rfl, rfl, rfl, rfl, rfl, trivial⟩ ?_
    · exact ⟨by omega, rfl, B, S⟩
    · rintro ⟨k, b⟩ w10 hI
      try dsimp only at hI ⊢
      obtain ⟨hk, hb, B, S⟩ := hI
      refine w_seq ?_
      refine w_seq ?_
      refine w_region ?_
      refine t_move rfl ?_ rfl
      refine t_move rfl ?_ rfl
      refine t_lss rfl rfl ?_ rfl
      refine t_done ?_
      refine x_seq ?_
      refine w_if rfl ?_ ?_
      · intro hlt
        refine w_skip ?_
        refine x_seq ?_
        refine w_seq ?_
        refine w_block ?_
        refine w_seq ?_
        refine w_region ?_
        refine t_fld ln_part_0 (by assumption) fb_part_0 rfl ?_ rfl
        intro p20 hp20
        refine t_ldi (by assumption) ab_int B rfl ?_ rfl
        refine t_calls Tryz.call136 rfl (spec_IsReversed _ _) ?_ rfl rfl
        refine t_done ?_
        refine x_seq ?_
        refine w_ifb rfl ?_ ?_
        · intro hr
          refine w_region ?_
          refine t_move rfl ?_ rfl
          refine t_fld ln_part_3 (by assumption) fb_part_3 rfl ?_ rfl
          intro p24 hp24
          refine t_lds (by assumption) ab_s_hop B rfl ?_ rfl
          intro v25 hv25
          refine t_move rfl ?_ rfl
          obtain ⟨e27, he27⟩ : ∃ e, (p.hops)[k]? = some e := getx (by omega)
          refine t_idx e_hop (k := k) (by assumption) he27 B rfl rfl (by first | rfl | omega) ?_ rfl
          intro p27 hp27
          refine t_fld ln_hop_4 (by assumption) fb_hop_4 rfl ?_ rfl
          intro p28 hp28
          refine t_ldi (by assumption) ab_int B rfl ?_ rfl
          refine t_calls Tryz.call175 rfl (spec_SubMod _ _ _) ?_ rfl rfl
          refine t_assign rfl ?_ rfl
          refine t_done ?_
          refine x_block_normal ?_
          refine x_seq ?_
          refine w_region ?_
          refine t_move rfl ?_ rfl
          refine t_add rfl rfl (by omega) ?_ rfl
          refine t_assign rfl ?_ rfl
          refine t_done ?_
          have hs := betaFold_succ (p := p) he27
          refine x_round (X := Nat × Int) (k + 1, subM b e27.mac) ?_ (by exact ⟨rfl, rfl, rfl, rfl, rfl, trivial⟩) (by (try dsimp only); omega)
          try dsimp only
          exact ⟨by omega, by rw [hs, ← hb, betaStep, hr]; rfl, B, S⟩
        · intro hr
          refine w_region ?_
          refine t_move rfl ?_ rfl
          refine t_fld ln_part_3 (by assumption) fb_part_3 rfl ?_ rfl
          intro p32 hp32
          refine t_lds (by assumption) ab_s_hop B rfl ?_ rfl
          intro v33 hv33
          refine t_move rfl ?_ rfl
          obtain ⟨e35, he35⟩ : ∃ e, (p.hops)[k]? = some e := getx (by omega)
          refine t_idx e_hop (k := k) (by assumption) he35 B rfl rfl (by first | rfl | omega) ?_ rfl
          intro p35 hp35
          refine t_fld ln_hop_4 (by assumption) fb_hop_4 rfl ?_ rfl
          intro p36 hp36
          refine t_ldi (by assumption) ab_int B rfl ?_ rfl
          refine t_calls Tryz.call176 rfl (spec_AddMod _ _ _) ?_ rfl rfl
          refine t_assign rfl ?_ rfl
          refine t_done ?_
          refine x_block_normal ?_
          refine x_seq ?_
          refine w_region ?_
          refine t_move rfl ?_ rfl
          refine t_add rfl rfl (by omega) ?_ rfl
          refine t_assign rfl ?_ rfl
          refine t_done ?_
          have hs := betaFold_succ (p := p) he35
          refine x_round (X := Nat × Int) (k + 1, addM b e35.mac) ?_ (by exact ⟨rfl, rfl, rfl, rfl, rfl, trivial⟩) (by (try dsimp only); omega)
          try dsimp only
          exact ⟨by omega, by rw [hs, ← hb, betaStep, hr]; rfl, B, S⟩
      · intro hge
        refine w_exit ?_
        refine x_then_exit ?_
        refine x_then_exit ?_
        refine x_block_exit ?_
        refine x_seq ?_
        refine w_seq ?_
        refine w_region ?_
        refine t_move rfl ?_ rfl
        refine t_assign rfl ?_ rfl
        refine t_done ?_
        refine x_seq ?_
        refine w_ret ?_
        refine x_ret1 rfl rfl ?_
        have : k = n := by omega
        subst this
        refine ⟨ret_int ?_, ext_trans X0 B⟩
        rw [betaAfter, h1', if_pos rfl, hb]
        rfl
/-- What the code of a hop is reckoned with. -/
def hopBeta (p : Part) (i : Int) : Int := if isRev p.kind then betaAfter p (i + 1) else betaAfter p i
theorem spec_l21Beta (p : Part) (v : Value) (i : Int) (w : World) (h : VA partT w v p) (hz : p.hops.length ≤ 1048576) (hi : 0 ≤ i ∧ i ≤ 1048576) : Calls Tryz.prog 131 #[v, I i] w fun e w' => e = .returned (I (hopBeta p i)) ∧ Below w.heap.size w w' := by
  have X0 := Below.refl w.heap.size w
  refine enter Tryz.func131 rfl Tryz.ntmps131 rfl ?_
  refine w_seq ?_
  refine w_region ?_
  refine t_boxr (by assumption) rfl ?_ rfl rfl
  intro p2 w11 x12 hp2
  replace h := h.below x12
  have X0 := ext_trans X0 x12
  have S := Sep.nil w11
  have B := Below.refl w11.heap.size w11
  have Hb := Nat.le_refl w11.heap.size
  refine t_assign rfl ?_ rfl
  refine t_done ?_
  refine x_seq ?_
  refine w_seq ?_
  refine w_seq ?_
  refine w_region ?_
  refine t_fld ln_part_0 (by assumption) fb_part_0 rfl ?_ rfl
  intro p5 hp5
  refine t_ldi (by assumption) ab_int B rfl ?_ rfl
  refine t_calls Tryz.call136 rfl (spec_IsReversed _ _) ?_ rfl rfl
  refine t_done ?_
  refine x_seq ?_
  refine w_ifb rfl ?_ ?_
  · intro hr
    refine w_seq ?_
    refine w_region ?_
    refine t_lda (by assumption) ab_part sb_part B rfl ?_ rfl
    intro v8 hv8
    obtain ⟨v8_3, rfl, hv8_3⟩ := part_va hv8
    refine t_move rfl ?_ rfl
    refine t_add rfl rfl (by omega) ?_ rfl
    refine t_callx Tryz.call164 rfl (spec_BetaAfter _ _ _ _ (by first | assumption | exact VA.below (by assumption) B | exact part_mkv (by first | assumption | exact SlR.below (by assumption) B)) (by omega)) ?_ rfl rfl
    intro w13 x14
    have B := bx Hb B x14
    have S := S.below x14
    refine t_assign rfl ?_ rfl
    refine t_done ?_
    refine x_seq ?_
    refine w_ret ?_
    refine x_then_ret ?_
    refine x_ret1 rfl rfl ?_
    exact ⟨by simp [hopBeta, hr], ext_trans X0 B⟩
  · intro hr
    refine w_skip ?_
    refine x_seq ?_
    refine w_seq ?_
    refine w_region ?_
    refine t_lda (by assumption) ab_part sb_part B rfl ?_ rfl
    intro v12 hv12
    obtain ⟨v12_3, rfl, hv12_3⟩ := part_va hv12
    refine t_move rfl ?_ rfl
    refine t_callx Tryz.call164 rfl (spec_BetaAfter _ _ _ _ (by first | assumption | exact VA.below (by assumption) B | exact part_mkv (by first | assumption | exact SlR.below (by assumption) B)) (by omega)) ?_ rfl rfl
    intro w15 x16
    have B := bx Hb B x16
    have S := S.below x16
    refine t_assign rfl ?_ rfl
    refine t_done ?_
    refine x_seq ?_
    refine w_ret ?_
    refine x_ret1 rfl rfl ?_
    exact ⟨by simp [hopBeta, hr], ext_trans X0 B⟩
def computeMac (key : Int) (l : List Int) : Int := digest ([key] ++ l ++ [key])
def hopMac (key ts beta : Int) (h : Hop) : Int := computeMac key [ts, beta, h.ia, h.ing, h.eg, h.exp]
theorem impl_ComputeMAC (key : Int) (l : List Int) (v : Value) (w : World) (h : SlR intT w v l) (hn : l.length ≤ 1048576) : Calls Tryz.prog 173 #[I key, v] w fun e w' => e = .returned (I (computeMac key l)) ∧ Below w.heap.size w w' := by
  have X0 := Below.refl w.heap.size w
  refine enter Tryz.func173 rfl Tryz.ntmps173 rfl ?_
  refine w_seq ?_
  refine w_region ?_
  have S := Sep.nil w
  have B := Below.refl w.heap.size w
  have Hb := Nat.le_refl w.heap.size
  refine t_assign rfl ?_ rfl
  refine t_done ?_
  refine x_seq ?_
  refine w_seq ?_
  refine w_region ?_
  refine t_move rfl ?_ rfl
  refine t_lit (T := intT) (l := [key]) (css := ([key]).map fun a => [I a]) int_flat S (fun w => bs_int1 _ w) rfl rfl rfl rfl (by simp [maxLen]) (litR_int _) ?_ rfl rfl
  intro u6 w17 x18 S
  have B := bx Hb B x18
  refine t_move rfl ?_ rfl
  refine t_cat int_flat e_int S (by first | assumption | exact SlR.below (by assumption) B) rfl rfl rfl (by first | omega | (simp [-List.length_flatMap]; omega)) (by (simp [maxLen, -List.length_flatMap]; try omega)) ?_ rfl
  intro v8 w19 x20 S
  have B := B.trans x20
  refine t_move rfl ?_ rfl
  refine t_lit (T := intT) (l := [key]) (css := ([key]).map fun a => [I a]) int_flat S (fun w => bs_int1 _ w) rfl rfl rfl rfl (by simp [maxLen]) (litR_int _) ?_ rfl rfl
  intro u10 w21 x22 S
  have B := bx Hb B x22
  have hR := S.sl
  have S := S.f1
  refine t_cat int_flat e_int S hR rfl rfl rfl (by first | omega | (simp [-List.length_flatMap]; omega)) (by (simp [maxLen, -List.length_flatMap]; try omega)) ?_ rfl
  intro v11 w23 x24 S
  have B := B.trans x24
  clear hR
  have S := S.f1
  have S := S.tail
  refine t_calls Tryz.call178 rfl (impl_Digest _ _ _ (S.sl) (by simp; omega)) ?_ rfl rfl
  refine t_assign rfl ?_ rfl
  refine t_done ?_
  refine x_seq ?_
  refine w_ret ?_
  refine x_ret1 rfl rfl ?_
  exact ⟨rfl, ext_trans X0 B⟩
theorem impl_HopMAC (key ts beta : Int) (x : Hop) (w : World) : Calls Tryz.prog 162 #[I key, I ts, I beta, .agg #[I x.ia, I x.ing, I x.eg, I x.exp, I x.mac]] w fun e w' => e = .returned (I (hopMac key ts beta x)) ∧ Below w.heap.size w w' := by
  have h := hop_mkv w x
  have X0 := Below.refl w.heap.size w
  refine enter Tryz.func162 rfl Tryz.ntmps162 rfl ?_
  refine w_seq ?_
  refine w_region ?_
  refine t_boxr (by assumption) rfl ?_ rfl rfl
  intro p7 w25 x26 hp7
  replace h := h.below x26
  have X0 := ext_trans X0 x26
  have S := Sep.nil w25
  have B := Below.refl w25.heap.size w25
  have Hb := Nat.le_refl w25.heap.size
  refine t_assign rfl ?_ rfl
  refine t_done ?_
  refine x_seq ?_
  refine w_seq ?_
  refine w_region ?_
  refine t_move rfl ?_ rfl
  refine t_move rfl ?_ rfl
  refine t_move rfl ?_ rfl
  refine t_fld ln_hop_0 (by assumption) fb_hop_0 rfl ?_ rfl
  intro p12 hp12
  refine t_ldi (by assumption) ab_int B rfl ?_ rfl
  refine t_fld ln_hop_1 (by assumption) fb_hop_1 rfl ?_ rfl
  intro p14 hp14
  refine t_ldi (by assumption) ab_int B rfl ?_ rfl
  refine t_fld ln_hop_2 (by assumption) fb_hop_2 rfl ?_ rfl
  intro p16 hp16
  refine t_ldi (by assumption) ab_int B rfl ?_ rfl
  refine t_fld ln_hop_3 (by assumption) fb_hop_3 rfl ?_ rfl
  intro p18 hp18
  refine t_ldi (by assumption) ab_int B rfl ?_ rfl
  refine t_lit (T := intT) (l := [ts, beta, x.ia, x.ing, x.eg, x.exp]) (css := ([ts, beta, x.ia, x.ing, x.eg, x.exp]).map fun a => [I a]) int_flat S (fun w => bs_int6 _ _ _ _ _ _ w) rfl rfl rfl rfl (by simp [maxLen]) (litR_int _) ?_ rfl rfl
  intro u20 w27 x28 S
  have B := bx Hb B x28
  refine t_callx Tryz.call173 rfl (impl_ComputeMAC _ _ _ _ (S.sl) (by simp)) ?_ rfl rfl
  intro w29 x30
  have B := bx Hb B x30
  have S := S.below x30
  refine t_assign rfl ?_ rfl
  refine t_done ?_
  refine x_seq ?_
  refine w_ret ?_
  refine x_ret1 rfl rfl ?_
  exact ⟨rfl, ext_trans X0 B⟩
theorem spec_ComputeMAC (key : Int) (l : List Int) (v : Value) (w : World) (h : SlR intT w v l) (hn : l.length ≤ 1048576) : Calls Tryz.prog 174 #[I key, v] w fun e w' => e = .returned (I (computeMac key l)) ∧ Below w.heap.size w w' := by
  have X0 := Below.refl w.heap.size w
  refine enter Tryz.func174 rfl Tryz.ntmps174 rfl ?_
  refine w_seq ?_
  refine w_region ?_
  have S := Sep.nil w
  have B := Below.refl w.heap.size w
  have Hb := Nat.le_refl w.heap.size
  refine t_assign rfl ?_ rfl
  refine t_done ?_
  refine x_seq ?_
  refine w_seq ?_
  refine w_region ?_
  refine t_move rfl ?_ rfl
  refine t_lit (T := intT) (l := [key]) (css := ([key]).map fun a => [I a]) int_flat S (fun w => bs_int1 _ w) rfl rfl rfl rfl (by simp [maxLen]) (litR_int _) ?_ rfl rfl
  intro u6 w31 x32 S
  have B := bx Hb B x32
  refine t_move rfl ?_ rfl
  refine t_cat int_flat e_int S (by first | assumption | exact SlR.below (by assumption) B) rfl rfl rfl (by first | omega | (simp [-List.length_flatMap]; omega)) (by (simp [maxLen, -List.length_flatMap]; try omega)) ?_ rfl
  intro v8 w33 x34 S
  have B := B.trans x34
  refine t_move rfl ?_ rfl
  refine t_lit (T := intT) (l := [key]) (css := ([key]).map fun a => [I a]) int_flat S (fun w => bs_int1 _ w) rfl rfl rfl rfl (by simp [maxLen]) (litR_int _) ?_ rfl rfl
  intro u10 w35 x36 S
  have B := bx Hb B x36
  have hR := S.sl
  have S := S.f1
  refine t_cat int_flat e_int S hR rfl rfl rfl (by first | omega | (simp [-List.length_flatMap]; omega)) (by (simp [maxLen, -List.length_flatMap]; try omega)) ?_ rfl
  intro v11 w37 x38 S
  have B := B.trans x38
  clear hR
  have S := S.f1
  have S := S.tail
  refine t_calls Tryz.call179 rfl (spec_Digest _ _ _ (S.sl) (by simp; omega)) ?_ rfl rfl
  refine t_assign rfl ?_ rfl
  refine t_done ?_
  refine x_seq ?_
  refine w_ret ?_
  refine x_ret1 rfl rfl ?_
  exact ⟨rfl, ext_trans X0 B⟩
theorem spec_HopMAC (key ts beta : Int) (x : Hop) (w : World) : Calls Tryz.prog 163 #[I key, I ts, I beta, .agg #[I x.ia, I x.ing, I x.eg, I x.exp, I x.mac]] w fun e w' => e = .returned (I (hopMac key ts beta x)) ∧ Below w.heap.size w w' := by
  have h := hop_mkv w x
  have X0 := Below.refl w.heap.size w
  refine enter Tryz.func163 rfl Tryz.ntmps163 rfl ?_
  refine w_seq ?_
  refine w_region ?_
  refine t_boxr (by assumption) rfl ?_ rfl rfl
  intro p7 w39 x40 hp7
  replace h := h.below x40
  have X0 := ext_trans X0 x40
  have S := Sep.nil w39
  have B := Below.refl w39.heap.size w39
  have Hb := Nat.le_refl w39.heap.size
  refine t_assign rfl ?_ rfl
  refine t_done ?_
  refine x_seq ?_
  refine w_seq ?_
  refine w_region ?_
  refine t_move rfl ?_ rfl
  refine t_move rfl ?_ rfl
  refine t_move rfl ?_ rfl
  refine t_fld ln_hop_0 (by assumption) fb_hop_0 rfl ?_ rfl
  intro p12 hp12
  refine t_ldi (by assumption) ab_int B rfl ?_ rfl
  refine t_fld ln_hop_1 (by assumption) fb_hop_1 rfl ?_ rfl
  intro p14 hp14
  refine t_ldi (by assumption) ab_int B rfl ?_ rfl
  refine t_fld ln_hop_2 (by assumption) fb_hop_2 rfl ?_ rfl
  intro p16 hp16
  refine t_ldi (by assumption) ab_int B rfl ?_ rfl
  refine t_fld ln_hop_3 (by assumption) fb_hop_3 rfl ?_ rfl
  intro p18 hp18
  refine t_ldi (by assumption) ab_int B rfl ?_ rfl
  refine t_lit (T := intT) (l := [ts, beta, x.ia, x.ing, x.eg, x.exp]) (css := ([ts, beta, x.ia, x.ing, x.eg, x.exp]).map fun a => [I a]) int_flat S (fun w => bs_int6 _ _ _ _ _ _ w) rfl rfl rfl rfl (by simp [maxLen]) (litR_int _) ?_ rfl rfl
  intro u20 w41 x42 S
  have B := bx Hb B x42
  refine t_callx Tryz.call174 rfl (spec_ComputeMAC _ _ _ _ (S.sl) (by simp)) ?_ rfl rfl
  intro w43 x44
  have B := bx Hb B x44
  have S := S.below x44
  refine t_assign rfl ?_ rfl
  refine t_done ?_
  refine x_seq ?_
  refine w_ret ?_
  refine x_ret1 rfl rfl ?_
  exact ⟨rfl, ext_trans X0 B⟩
end Go.Proofs.YtdaecknfahgddaaGreat
namespace Go.Proofs.YtdaecknfahgddaaGreat
open Go.RowKit
set_option linter.unusedVariables false
set_option maxRecDepth 20000
def isAS (t : Topo) (r : Int) : Bool := inR r 0 ((t.ases.length : Int) - 1)
def asKey (t : Topo) (r : Int) : Int := match t.ases[r.toNat]? with
  | some a => a.key
  | none => 0
def verifyHop (t : Topo) (ts beta : Int) (h : Hop) : Bool := validHop h && (isAS t h.ia && decide (h.mac = hopMac (asKey t h.ia) ts beta h))
theorem impl_isAS (t : Topo) (v : Value) (r : Int) (w : World) (h : VA topoT w v t) (hz : sz_topo t ≤ 1048576) : Calls Tryz.prog 157 #[v, I r] w fun e w' => e = .returned (.bool (isAS t r)) ∧ Below w.heap.size w w' := by
  have hz' : t.ases.length ≤ 1048576 := by unfold sz_topo at hz; omega
  have X0 := Below.refl w.heap.size w
  refine enter Tryz.func157 rfl Tryz.ntmps157 rfl ?_
  refine w_seq ?_
  refine w_region ?_
  refine t_boxr (by assumption) rfl ?_ rfl rfl
  intro p2 w1 x2 hp2
  replace h := h.below x2
  have X0 := ext_trans X0 x2
  have S := Sep.nil w1
  have B := Below.refl w1.heap.size w1
  have Hb := Nat.le_refl w1.heap.size
  refine t_assign rfl ?_ rfl
  refine t_done ?_
  refine x_seq ?_
  refine w_seq ?_
  refine w_region ?_
  refine t_move rfl ?_ rfl
  refine t_fld ln_topo_0 (by assumption) fb_topo_0 rfl ?_ rfl
  intro p6 hp6
  refine t_lds (by assumption) ab_s_asn B rfl ?_ rfl
  intro v7 hv7
  refine t_len e_asn (by assumption) rfl rfl ?_ rfl
  refine t_sub rfl rfl (by omega) ?_ rfl
  refine t_calls Tryz.call61 rfl (impl_InRange _ _ _ _) ?_ rfl rfl
  refine t_assign rfl ?_ rfl
  refine t_done ?_
  refine x_seq ?_
  refine w_ret ?_
  refine x_ret1 rfl rfl ?_
  exact ⟨rfl, ext_trans X0 B⟩
theorem spec_l5Realm (t : Topo) (v : Value) (r : Int) (w : World) (h : VA topoT w v t) (hz : sz_topo t ≤ 1048576) : Calls Tryz.prog 125 #[v, I r] w fun e w' => e = .returned (.bool (isAS t r)) ∧ Below w.heap.size w w' := by
  have hz' : t.ases.length ≤ 1048576 := by unfold sz_topo at hz; omega
  have X0 := Below.refl w.heap.size w
  refine enter Tryz.func125 rfl Tryz.ntmps125 rfl ?_
  refine w_seq ?_
  refine w_region ?_
  refine t_boxr (by assumption) rfl ?_ rfl rfl
  intro p2 w3 x4 hp2
  replace h := h.below x4
  have X0 := ext_trans X0 x4
  have S := Sep.nil w3
  have B := Below.refl w3.heap.size w3
  have Hb := Nat.le_refl w3.heap.size
  refine t_assign rfl ?_ rfl
  refine t_done ?_
  refine x_seq ?_
  refine w_seq ?_
  refine w_region ?_
  refine t_move rfl ?_ rfl
  refine t_fld ln_topo_0 (by assumption) fb_topo_0 rfl ?_ rfl
  intro p6 hp6
  refine t_lds (by assumption) ab_s_asn B rfl ?_ rfl
  intro v7 hv7
  refine t_len e_asn (by assumption) rfl rfl ?_ rfl
  refine t_sub rfl rfl (by omega) ?_ rfl
  refine t_calls Tryz.call64 rfl (spec_l1In _ _ _ _) ?_ rfl rfl
  refine t_assign rfl ?_ rfl
  refine t_done ?_
  refine x_seq ?_
  refine w_ret ?_
  refine x_ret1 rfl rfl ?_
  exact ⟨rfl, ext_trans X0 B⟩
theorem impl_VerifyHop (t : Topo) (v : Value) (ts beta : Int) (x : Hop) (w : World) (h : VA topoT w v t) (hz : sz_topo t ≤ 1048576) : Calls Tryz.prog 129 #[v, I ts, I beta, .agg #[I x.ia, I x.ing, I x.eg, I x.exp, I x.mac]] w fun e w' => e = .returned (.bool (verifyHop t ts beta x)) ∧ Below w.heap.size w w' := by
  have hx := hop_mkv w x
  have X0 := Below.refl w.heap.size w
  refine enter Tryz.func129 rfl Tryz.ntmps129 rfl ?_
  refine w_seq ?_
  refine w_region ?_
  refine t_boxr (by assumption) rfl ?_ rfl rfl
  intro p4 w5 x6 hp4
  replace h := h.below x6
  replace hx := hx.below x6
  have X0 := ext_trans X0 x6
  refine t_boxr (by assumption) rfl ?_ rfl rfl
  intro p7 w7 x8 hp7
  replace h := h.below x8
  replace hx := hx.below x8
  replace hp4 := hp4.below x8
  have X0 := ext_trans X0 x8
  have S := Sep.nil w7
  have B := Below.refl w7.heap.size w7
  have Hb := Nat.le_refl w7.heap.size
  refine t_assign rfl ?_ rfl
  refine t_done ?_
  refine x_seq ?_
  refine w_seq ?_
  refine w_draw (.st .take 0 (.st .run 1 (.st .take 2 (.st .take 3 (.st .take 4 (.st .take 5 (.st .run 6 (.st .take 7 (.st .take 8 (.st .take 9 (.st .take 10 (.st .take 11 (.st .take 12 (.st .take 13 (.st .take 14 (.st .take 15 (.st .take 16 (.st .take 17 (.st .take 18 (.st .take 19 (.st .take 20 (.st .run 21 (.st .take 22 (.st .take 23 (.st .take 24 .done))))))))))))))))))))))))) mixed (by kernel_rfl) ?_
  intro w9 x10
  have B := bx Hb B x10
  have S := S.below x10
  refine t_lda (by assumption) ab_hop sb_hop B rfl ?_ rfl
  intro v9 hv9
  obtain rfl := hop_va hv9
  refine t_callx Tryz.call156 rfl (impl_ValidHop _ _) ?_ rfl rfl
  intro w11 x12
  have B := bx Hb B x12
  have S := S.below x12
  refine t_move rfl ?_ rfl
  refine t_part (t := 11) rfl ?_ ?_
  · intro h1
    refine t_on rfl rfl ?_
    refine t_lda (by assumption) ab_topo sb_topo B rfl ?_ rfl
    intro v12 hv12
    obtain ⟨v12_0, v12_1, rfl, hv12_0, hv12_1⟩ := topo_va hv12
    refine t_on rfl rfl ?_
    refine t_fld ln_hop_0 (by assumption) fb_hop_0 rfl ?_ rfl
    intro p13 hp13
    refine t_on rfl rfl ?_
    refine t_ldi (by assumption) ab_int B rfl ?_ rfl
    refine t_on rfl rfl ?_
    refine t_callx Tryz.call157 rfl (impl_isAS _ _ _ _ (by first | assumption | exact VA.below (by assumption) B | exact topo_mkv (by first | assumption | exact SlR.below (by assumption) B) (by first | assumption | exact SlR.below (by assumption) B)) (by omega)) ?_ rfl rfl
    intro w13 x14
    have B := bx Hb B x14
    have S := S.below x14
    refine t_pickt rfl rfl ?_ rfl
    refine t_move rfl ?_ rfl
    refine t_part (t := 17) rfl ?_ ?_
    · intro h2
      have r2 := inR_iff.1 h2
      refine t_on rfl rfl ?_
      refine t_fld ln_hop_4 (by assumption) fb_hop_4 rfl ?_ rfl
      intro p18 hp18
      refine t_on rfl rfl ?_
      refine t_ldi (by assumption) ab_int B rfl ?_ rfl
      refine t_on rfl rfl ?_
      refine t_fld ln_topo_0 (by assumption) fb_topo_0 rfl ?_ rfl
      intro p20 hp20
      refine t_on rfl rfl ?_
      refine t_lds (by assumption) ab_s_asn B rfl ?_ rfl
      intro v21 hv21
      refine t_on rfl rfl ?_
      refine t_fld ln_hop_0 (by assumption) fb_hop_0 rfl ?_ rfl
      intro p22 hp22
      refine t_on rfl rfl ?_
      refine t_ldi (by assumption) ab_int B rfl ?_ rfl
      refine t_on rfl rfl ?_
      obtain ⟨e24, he24⟩ : ∃ e, (t.ases)[x.ia.toNat]? = some e := getx (by omega)
      refine t_idx e_asn (k := x.ia.toNat) (by assumption) he24 B rfl rfl (by first | rfl | omega) ?_ rfl
      intro p24 hp24
      refine t_on rfl rfl ?_
      refine t_fld ln_asn_2 (by assumption) fb_asn_2 rfl ?_ rfl
      intro p25 hp25
      refine t_on rfl rfl ?_
      refine t_ldi (by assumption) ab_int B rfl ?_ rfl
      refine t_on rfl rfl ?_
      refine t_move rfl ?_ rfl
      refine t_on rfl rfl ?_
      refine t_move rfl ?_ rfl
      refine t_on rfl rfl ?_
      refine t_lda (by assumption) ab_hop sb_hop B rfl ?_ rfl
      intro v29 hv29
      obtain rfl := hop_va hv29
      refine t_on rfl rfl ?_
      refine t_callx Tryz.call162 rfl (impl_HopMAC _ _ _ _ _) ?_ rfl rfl
      intro w15 x16
      have B := bx Hb B x16
      have S := S.below x16
      refine t_on rfl rfl ?_
      refine t_eql rfl rfl ?_ rfl
      refine t_pickt rfl rfl ?_ rfl
      refine t_assign rfl ?_ rfl
      refine t_done' ?_
      refine x_seq ?_
      refine w_ret ?_
      refine x_ret1 rfl rfl ?_
      exact ⟨ret_bool (by simp [verifyHop, h1, h2, asKey, he24]), ext_trans X0 B⟩
    · intro h2
      refine t_off rfl rfl rfl ?_ rfl
      refine t_off rfl rfl rfl ?_ rfl
      refine t_off rfl rfl rfl ?_ rfl
      refine t_off rfl rfl rfl ?_ rfl
      refine t_off rfl rfl rfl ?_ rfl
      refine t_off rfl rfl rfl ?_ rfl
      refine t_off rfl rfl rfl ?_ rfl
      refine t_off rfl rfl rfl ?_ rfl
      refine t_off rfl rfl rfl ?_ rfl
      refine t_off rfl rfl rfl ?_ rfl
      refine t_off rfl rfl rfl ?_ rfl
      refine t_off rfl rfl rfl ?_ rfl
      refine t_off rfl rfl rfl ?_ rfl
      refine t_off rfl rfl rfl ?_ rfl
      refine t_pickf rfl rfl ?_ rfl
      refine t_assign rfl ?_ rfl
      refine t_done' ?_
      refine x_seq ?_
      refine w_ret ?_
      refine x_ret1 rfl rfl ?_
      exact ⟨ret_bool (by simp [verifyHop, h1, h2]), ext_trans X0 B⟩
  · intro h1
    refine t_off rfl rfl rfl ?_ rfl
    refine t_off rfl rfl rfl ?_ rfl
    refine t_off rfl rfl rfl ?_ rfl
    refine t_off rfl rfl rfl ?_ rfl
    refine t_pickf rfl rfl ?_ rfl
    refine t_move rfl ?_ rfl
    refine t_off rfl rfl rfl ?_ rfl
    refine t_off rfl rfl rfl ?_ rfl
    refine t_off rfl rfl rfl ?_ rfl
    refine t_off rfl rfl rfl ?_ rfl
    refine t_off rfl rfl rfl ?_ rfl
    refine t_off rfl rfl rfl ?_ rfl
    refine t_off rfl rfl rfl ?_ rfl
    refine t_off rfl rfl rfl ?_ rfl
    refine t_off rfl rfl rfl ?_ rfl
    refine t_off rfl rfl rfl ?_ rfl
    refine t_off rfl rfl rfl ?_ rfl
    refine t_off rfl rfl rfl ?_ rfl
    refine t_off rfl rfl rfl ?_ rfl
    refine t_off rfl rfl rfl ?_ rfl
    refine t_pickf rfl rfl ?_ rfl
    refine t_assign rfl ?_ rfl
    refine t_done' ?_
    refine x_seq ?_
    refine w_ret ?_
    refine x_ret1 rfl rfl ?_
    exact ⟨ret_bool (by simp [verifyHop, h1]), ext_trans X0 B⟩
theorem spec_VerifyHop (t : Topo) (v : Value) (ts beta : Int) (x : Hop) (w : World) (h : VA topoT w v t) (hz : sz_topo t ≤ 1048576) : Calls Tryz.prog 130 #[v, I ts, I beta, .agg #[I x.ia, I x.ing, I x.eg, I x.exp, I x.mac]] w fun e w' => e = .returned (.bool (verifyHop t ts beta x)) ∧ Below w.heap.size w w' := by
  have hx := hop_mkv w x
  have X0 := Below.refl w.heap.size w
  refine enter Tryz.func130 rfl Tryz.ntmps130 rfl ?_
  refine w_seq ?_
  refine w_region ?_
  refine t_boxr (by assumption) rfl ?_ rfl rfl
  intro p4 w17 x18 hp4
  replace h := h.below x18
  replace hx := hx.below x18
  have X0 := ext_trans X0 x18
  refine t_boxr (by assumption) rfl ?_ rfl rfl
  intro p7 w19 x20 hp7
  replace h := h.below x20
  replace hx := hx.below x20
  replace hp4 := hp4.below x20
  have X0 := ext_trans X0 x20
  have S := Sep.nil w19
  have B := Below.refl w19.heap.size w19
  have Hb := Nat.le_refl w19.heap.size
  refine t_assign rfl ?_ rfl
  refine t_done ?_
  refine x_seq ?_
  refine w_seq ?_
  refine w_draw (.st .take 0 (.st .run 1 (.st .take 2 (.st .take 3 (.st .take 4 (.st .take 5 (.st .run 6 (.st .take 7 (.st .take 8 (.st .take 9 (.st .take 10 (.st .take 11 (.st .take 12 (.st .take 13 (.st .take 14 (.st .take 15 (.st .take 16 (.st .take 17 (.st .take 18 (.st .take 19 (.st .take 20 (.st .run 21 (.st .take 22 (.st .take 23 (.st .take 24 .done))))))))))))))))))))))))) mixed (by kernel_rfl) ?_
  intro w21 x22
  have B := bx Hb B x22
  have S := S.below x22
  refine t_lda (by assumption) ab_hop sb_hop B rfl ?_ rfl
  intro v9 hv9
  obtain rfl := hop_va hv9
  refine t_callx Tryz.call124 rfl (spec_ValidHop _ _) ?_ rfl rfl
  intro w23 x24
  have B := bx Hb B x24
  have S := S.below x24
  refine t_move rfl ?_ rfl
  refine t_part (t := 11) rfl ?_ ?_
  · intro h1
    refine t_on rfl rfl ?_
    refine t_lda (by assumption) ab_topo sb_topo B rfl ?_ rfl
    intro v12 hv12
    obtain ⟨v12_0, v12_1, rfl, hv12_0, hv12_1⟩ := topo_va hv12
    refine t_on rfl rfl ?_
    refine t_fld ln_hop_0 (by assumption) fb_hop_0 rfl ?_ rfl
    intro p13 hp13
    refine t_on rfl rfl ?_
    refine t_ldi (by assumption) ab_int B rfl ?_ rfl
    refine t_on rfl rfl ?_
    refine t_callx Tryz.call125 rfl (spec_l5Realm _ _ _ _ (by first | assumption | exact VA.below (by assumption) B | exact topo_mkv (by first | assumption | exact SlR.below (by assumption) B) (by first | assumption | exact SlR.below (by assumption) B)) (by omega)) ?_ rfl rfl
    intro w25 x26
    have B := bx Hb B x26
    have S := S.below x26
    refine t_pickt rfl rfl ?_ rfl
    refine t_move rfl ?_ rfl
    refine t_part (t := 17) rfl ?_ ?_
    · intro h2
      have r2 := inR_iff.1 h2
      refine t_on rfl rfl ?_
      refine t_fld ln_hop_4 (by assumption) fb_hop_4 rfl ?_ rfl
      intro p18 hp18
      refine t_on rfl rfl ?_
      refine t_ldi (by assumption) ab_int B rfl ?_ rfl
      refine t_on rfl rfl ?_
      refine t_fld ln_topo_0 (by assumption) fb_topo_0 rfl ?_ rfl
      intro p20 hp20
      refine t_on rfl rfl ?_
      refine t_lds (by assumption) ab_s_asn B rfl ?_ rfl
      intro v21 hv21
      refine t_on rfl rfl ?_
      refine t_fld ln_hop_0 (by assumption) fb_hop_0 rfl ?_ rfl
      intro p22 hp22
      refine t_on rfl rfl ?_
      refine t_ldi (by assumption) ab_int B rfl ?_ rfl
      refine t_on rfl rfl ?_
      obtain ⟨e24, he24⟩ : ∃ e, (t.ases)[x.ia.toNat]? = some e := getx (by omega)
      refine t_idx e_asn (k := x.ia.toNat) (by assumption) he24 B rfl rfl (by first | rfl | omega) ?_ rfl
      intro p24 hp24
      refine t_on rfl rfl ?_
      refine t_fld ln_asn_2 (by assumption) fb_asn_2 rfl ?_ rfl
      intro p25 hp25
      refine t_on rfl rfl ?_
      refine t_ldi (by assumption) ab_int B rfl ?_ rfl
      refine t_on rfl rfl ?_
      refine t_move rfl ?_ rfl
      refine t_on rfl rfl ?_
      refine t_move rfl ?_ rfl
      refine t_on rfl rfl ?_
      refine t_lda (by assumption) ab_hop sb_hop B rfl ?_ rfl
      intro v29 hv29
      obtain rfl := hop_va hv29
      refine t_on rfl rfl ?_
      refine t_callx Tryz.call163 rfl (spec_HopMAC _ _ _ _ _) ?_ rfl rfl
      intro w27 x28
      have B := bx Hb B x28
      have S := S.below x28
      refine t_on rfl rfl ?_
      refine t_eql rfl rfl ?_ rfl
      refine t_pickt rfl rfl ?_ rfl
      refine t_assign rfl ?_ rfl
      refine t_done' ?_
      refine x_seq ?_
      refine w_ret ?_
      refine x_ret1 rfl rfl ?_
      exact ⟨ret_bool (by simp [verifyHop, h1, h2, asKey, he24]), ext_trans X0 B⟩
    · intro h2
      refine t_off rfl rfl rfl ?_ rfl
      refine t_off rfl rfl rfl ?_ rfl
      refine t_off rfl rfl rfl ?_ rfl
      refine t_off rfl rfl rfl ?_ rfl
      refine t_off rfl rfl rfl ?_ rfl
      refine t_off rfl rfl rfl ?_ rfl
      refine t_off rfl rfl rfl ?_ rfl
      refine t_off rfl rfl rfl ?_ rfl
      refine t_off rfl rfl rfl ?_ rfl
      refine t_off rfl rfl rfl ?_ rfl
      refine t_off rfl rfl rfl ?_ rfl
      refine t_off rfl rfl rfl ?_ rfl
      refine t_off rfl rfl rfl ?_ rfl
      refine t_off rfl rfl rfl ?_ rfl
      refine t_pickf rfl rfl ?_ rfl
      refine t_assign rfl ?_ rfl
      refine t_done' ?_
      refine x_seq ?_
      refine w_ret ?_
      refine x_ret1 rfl rfl ?_
      exact ⟨ret_bool (by simp [verifyHop, h1, h2]), ext_trans X0 B⟩
  · intro h1
    refine t_off rfl rfl rfl ?_ rfl
    refine t_off rfl rfl rfl ?_ rfl
    refine t_off rfl rfl rfl ?_ rfl
    refine t_off rfl rfl rfl ?_ rfl
    refine t_pickf rfl rfl ?_ rfl
    refine t_move rfl ?_ rfl
    refine t_off rfl rfl rfl ?_ rfl
    refine t_off rfl rfl rfl ?_ rfl
    refine t_off rfl rfl rfl ?_ rfl
    refine t_off rfl rfl rfl ?_ rfl
    refine t_off rfl rfl rfl ?_ rfl
    refine t_off rfl rfl rfl ?_ rfl
    refine t_off rfl rfl rfl ?_ rfl
    refine t_off rfl rfl rfl ?_ rfl
    refine t_off rfl rfl rfl ?_ rfl
    refine t_off rfl rfl rfl ?_ rfl
    refine t_off rfl rfl rfl ?_ rfl
    refine t_off rfl rfl rfl ?_ rfl
    refine t_off rfl rfl rfl ?_ rfl
    refine t_off rfl rfl rfl ?_ rfl
    refine t_pickf rfl rfl ?_ rfl
    refine t_assign rfl ?_ rfl
    refine t_done' ?_
    refine x_seq ?_
    refine w_ret ?_
    refine x_ret1 rfl rfl ?_
    exact ⟨ret_bool (by simp [verifyHop, h1]), ext_trans X0 B⟩
def verifyPart (t : Topo) (p : Part) : Bool := (p.hops.zipIdx).all fun x => verifyHop t p.ts (hopBeta p x.2) x.1
theorem verify_all {t : Topo} {p : Part} (h : ∀ (k : Nat) x, p.hops[k]? = some x → verifyHop t p.ts (hopBeta p k) x = true) : verifyPart t p = true := by
  unfold verifyPart
  rw [List.all_eq_true]
  rintro ⟨x, k⟩ hm
  exact h k x (by simpa using List.mem_zipIdx_iff_getElem?.1 hm)
theorem verify_bad {t : Topo} {p : Part} {k : Nat} {x : Hop} (hx : p.hops[k]? = some x) (hf : verifyHop t p.ts (hopBeta p k) x = false) : verifyPart t p = false := by
  unfold verifyPart
  rw [List.all_eq_false]
  exact ⟨(x, k), by rw [List.mem_zipIdx_iff_getElem?]; exact hx, by simp [hf]⟩
theorem verify_step {α : Type} {l : List α} {f : Nat → α → Bool} {k : Nat} {x : α} (ha : ∀ (j : Nat) y, j < k → l[j]? = some y → f j y = true) (hx : l[k]? = some x) (hf : f k x = true) {j : Nat} {y : α} (hj : j < k + 1) (hy : l[j]? = some y) : f j y = true := by
  rcases Nat.lt_or_ge j k with h | h
  · exact ha j y h hy
  · have : j = k := by omega
    subst this
    rw [hx] at hy
    cases hy
    exact hf
theorem impl_VerifyPart (t : Topo) (v : Value) (p : Part) (u : Value) (w : World) (h : VA topoT w v t) (hp : VA partT w u p) (hz : sz_topo t ≤ 1048576) (hz' : p.hops.length ≤ 1048576) : Calls Tryz.prog 69 #[v, u] w fun e w' => e = .returned (.bool (verifyPart t p)) ∧ Below w.heap.size w w' := by
  have X0 := Below.refl w.heap.size w
  refine enter Tryz.func69 rfl Tryz.ntmps69 rfl ?_
  refine w_seq ?_
  refine w_region ?_
  refine t_boxr (by assumption) rfl ?_ rfl rfl
  intro p2 w29 x30 hp2
  replace h := h.below x30
  replace hp := hp.below x30
  have X0 := ext_trans X0 x30
  refine t_boxr (by assumption) rfl ?_ rfl rfl
  intro p3 w31 x32 hp3
  replace h := h.below x32
  replace hp := hp.below x32
  replace hp2 := hp2.below x32
  have X0 := ext_trans X0 x32
  have S := Sep.nil w31
  have B := Below.refl w31.heap.size w31
  have Hb := Nat.le_refl w31.heap.size
  refine t_assign rfl ?_ rfl
  refine t_done ?_
  refine x_seq ?_
  refine w_seq ?_
  refine w_seq ?_
  refine w_region ?_
  refine t_fld ln_part_3 (by assumption) fb_part_3 rfl ?_ rfl
  intro p8 hp8
  refine t_lds (by assumption) ab_s_hop B rfl ?_ rfl
  intro v9 hv9
  refine t_len e_hop (by assumption) rfl rfl ?_ rfl
  refine t_move rfl ?_ rfl
  refine t_done ?_
  refine x_seq ?_
  refine w_block ?_
  refine w_loop (X := Nat) (fun k wq => k ≤ p.hops.length ∧ (∀ (j : Nat) y, j < k → p.hops[j]? = some y → verifyHop t p.ts (hopBeta p j) y = true) ∧ Below w31.heap.size w31 wq ∧ Sep w31.heap.size wq []) (fun k => [(11, I ((k : Int))), (2, p2), (3, p3), (9, v9), (10, I ((p.hops.length : Int)))]) (fun k => p.hops.length - k) (0) ?_ ⟨rfl, rfl, rfl, rfl, rfl, trivial⟩ ?_
  · exact ⟨by omega, by omega, B, S⟩
  · rintro k w33 hI
    try dsimp only at hI ⊢
    obtain ⟨hk, ha, B, S⟩ := hI
    refine w_seq ?_
    refine w_region ?_
    refine t_lss rfl rfl ?_ rfl
    refine t_done ?_
    refine x_seq ?_
    refine w_seq ?_
    refine w_if rfl ?_ ?_
    · intro hlt
      refine w_skip ?_
      refine x_seq ?_
      refine w_seq ?_
      refine w_block ?_
      refine w_seq ?_
      refine w_region ?_
      refine t_move rfl ?_ rfl
      obtain ⟨e14, he14⟩ : ∃ e, (p.hops)[k]? = some e := getx (by omega)
      refine t_idx e_hop (k := k) (by assumption) he14 B rfl rfl (by first | rfl | omega) ?_ rfl
      intro p14 hp14
      refine t_lda (by assumption) ab_hop sb_hop B rfl ?_ rfl
      intro v15 hv15
      obtain rfl := hop_va hv15
      refine t_alloc S z_hop rfl ?_ rfl rfl
      intro g6 w34 x35 S
      have B := bx Hb B x35
      refine t_assign rfl ?_ rfl
      refine t_stn S sb_hop rfl rfl rfl rfl (by intro zz hu; have hu : zz ∈ ([I e14.ia, I e14.ing, I e14.eg, I e14.exp, I e14.mac] : List Value) := hu; simp only [List.mem_cons, List.not_mem_nil, or_false] at hu; rcases hu with rfl | rfl | rfl | rfl | rfl <;> rfl) ?_
      intro w36 b37 S
      have B := B.trans b37
      refine t_done ?_
      refine x_seq ?_
      refine w_seq ?_
      refine w_region ?_
      refine t_lda (by assumption) ab_part sb_part B rfl ?_ rfl
      intro v16 hv16
      obtain ⟨v16_3, rfl, hv16_3⟩ := part_va hv16
      refine t_move rfl ?_ rfl
      refine t_callx Tryz.call127 rfl (impl_BetaAfter _ _ _ _ (by first | assumption | exact VA.below (by assumption) B | exact part_mkv (by first | assumption | exact SlR.below (by assumption) B)) (by omega)) ?_ rfl rfl
      intro w38 x39
      have B := bx Hb B x39
      have S := S.below x39
      refine t_assign rfl ?_ rfl
      refine t_done ?_
      refine x_seq ?_
      refine w_seq ?_
      refine w_seq ?_
      refine w_region ?_
      refine t_fld ln_part_0 (by assumption) fb_part_0 rfl ?_ rfl
      intro p19 hp19
      refine t_ldi (by assumption) ab_int B rfl ?_ rfl
      refine t_calls Tryz.call128 rfl (impl_IsReversed _ _) ?_ rfl rfl
      refine t_done ?_
      refine x_seq ?_
      refine w_ifb rfl ?_ ?_
      · intro hr
        have hB : hopBeta p k = betaAfter p (k + 1) := by simp [hopBeta, hr]
        refine w_region ?_
        refine t_lda (by assumption) ab_part sb_part B rfl ?_ rfl
        intro v22 hv22
        obtain ⟨v22_3, rfl, hv22_3⟩ := part_va hv22
        refine t_move rfl ?_ rfl
        refine t_add rfl rfl (by omega) ?_ rfl
        refine t_callx Tryz.call127 rfl (impl_BetaAfter _ _ _ _ (by first | assumption | exact VA.below (by assumption) B | exact part_mkv (by first | assumption | exact SlR.below (by assumption) B)) (by omega)) ?_ rfl rfl
        intro w40 x41
        have B := bx Hb B x41
        have S := S.below x41
        refine t_assign rfl ?_ rfl
        refine t_done ?_
        refine x_seq ?_
        refine w_seq ?_
        refine w_region ?_
        refine t_lda (by assumption) ab_topo sb_topo B rfl ?_ rfl
        intro v26 hv26
        obtain ⟨v26_0, v26_1, rfl, hv26_0, hv26_1⟩ := topo_va hv26
        refine t_fld ln_part_1 (by assumption) fb_part_1 rfl ?_ rfl
        intro p27 hp27
        refine t_ldi (by assumption) ab_int B rfl ?_ rfl
        refine t_move rfl ?_ rfl
        refine t_bxn S.box ab_hop sb_hop rfl rfl ?_ rfl
        refine t_callx Tryz.call129 rfl (impl_VerifyHop _ _ _ _ _ _ (by first | assumption | exact VA.below (by assumption) B | exact topo_mkv (by first | assumption | exact SlR.below (by assumption) B) (by first | assumption | exact SlR.below (by assumption) B)) (by omega)) ?_ rfl rfl
        intro w42 x43
        have B := bx Hb B x43
        have S := S.below x43
        refine t_notb rfl ?_ rfl
        refine t_done ?_
        refine x_seq ?_
        refine w_ifb rfl ?_ ?_
        · intro hv
          refine w_seq ?_
          refine w_region ?_
          refine t_assign rfl ?_ rfl
          refine t_done ?_
          refine x_seq ?_
          refine w_ret ?_
          refine x_block_ret ?_
          refine x_then_ret ?_
          refine x_then_ret ?_
          refine x_block_ret ?_
          refine x_then_ret ?_
          refine x_ret1 rfl rfl ?_
          exact ⟨ret_bool (verify_bad he14 (by rw [hB]; simpa using hv)).symm, ext_trans X0 B⟩
        · intro hv
          refine w_skip ?_
          refine x_block_normal ?_
          refine x_seq ?_
          refine w_region ?_
          refine t_add rfl rfl (by omega) ?_ rfl
          refine t_move rfl ?_ rfl
          refine t_done ?_
          have S := S.tail
          refine x_round (X := Nat) (k + 1) ?_ (by exact ⟨rfl, rfl, rfl, rfl, rfl, trivial⟩) (by (try dsimp only); omega)
          try dsimp only
          exact ⟨by omega, fun j y hj hy => verify_step ha he14 (by rw [hB]; simpa using hv) hj hy, B, S⟩
      · intro hr
        have hB : hopBeta p k = betaAfter p k := by simp [hopBeta, hr]
        refine w_skip ?_
        refine x_seq ?_
        refine w_seq ?_
        refine w_region ?_
        refine t_lda (by assumption) ab_topo sb_topo B rfl ?_ rfl
        intro v26 hv26
        obtain ⟨v26_0, v26_1, rfl, hv26_0, hv26_1⟩ := topo_va hv26
        refine t_fld ln_part_1 (by assumption) fb_part_1 rfl ?_ rfl
        intro p27 hp27
        refine t_ldi (by assumption) ab_int B rfl ?_ rfl
        refine t_move rfl ?_ rfl
        refine t_bxn S.box ab_hop sb_hop rfl rfl ?_ rfl
        refine t_callx Tryz.call129 rfl (impl_VerifyHop _ _ _ _ _ _ (by first | assumption | exact VA.below (by assumption) B | exact topo_mkv (by first | assumption | exact SlR.below (by assumption) B) (by first | assumption | exact SlR.below (by assumption) B)) (by omega)) ?_ rfl rfl
        intro w44 x45
        have B := bx Hb B x45
        have S := S.below x45
        refine t_notb rfl ?_ rfl
        refine t_done ?_
        refine x_seq ?_
        refine w_ifb rfl ?_ ?_
        · intro hv
          refine w_seq ?_
          refine w_region ?_
          refine t_assign rfl ?_ rfl
          refine t_done ?_
          refine x_seq ?_
          refine w_ret ?_
          refine x_block_ret ?_
          refine x_then_ret ?_
          refine x_then_ret ?_
          refine x_block_ret ?_
          refine x_then_ret ?_
          refine x_ret1 rfl rfl ?_
          exact ⟨ret_bool (verify_bad he14 (by rw [hB]; simpa using hv)).symm, ext_trans X0 B⟩
        · intro hv
          refine w_skip ?_
          refine x_block_normal ?_
          refine x_seq ?_
          refine w_region ?_
          refine t_add rfl rfl (by omega) ?_ rfl
          refine t_move rfl ?_ rfl
          refine t_done ?_
          have S := S.tail
          refine x_round (X := Nat) (k + 1) ?_ (by exact ⟨rfl, rfl, rfl, rfl, rfl, trivial⟩) (by (try dsimp only); omega)
          try dsimp only
          exact ⟨by omega, fun j y hj hy => verify_step ha he14 (by rw [hB]; simpa using hv) hj hy, B, S⟩
    · intro hge
      refine w_exit ?_
      refine x_then_exit ?_
      refine x_then_exit ?_
      refine x_block_exit ?_
      refine x_seq ?_
      refine w_seq ?_
      refine w_region ?_
      refine t_assign rfl ?_ rfl
      refine t_done ?_
      refine x_seq ?_
      refine w_ret ?_
      refine x_ret1 rfl rfl ?_
      exact ⟨ret_bool (verify_all fun j y hy => ha j y (by have := (List.getElem?_eq_some_iff.1 hy).1; omega) hy).symm, ext_trans X0 B⟩
theorem spec_VerifyPart (t : Topo) (v : Value) (p : Part) (u : Value) (w : World) (h : VA topoT w v t) (hp : VA partT w u p) (hz : sz_topo t ≤ 1048576) (hz' : p.hops.length ≤ 1048576) : Calls Tryz.prog 70 #[v, u] w fun e w' => e = .returned (.bool (verifyPart t p)) ∧ Below w.heap.size w w' := by
  have X0 := Below.refl w.heap.size w
  refine enter Tryz.func70 rfl Tryz.ntmps70 rfl ?_
  refine w_seq ?_
  refine w_region ?_
  refine t_boxr (by assumption) rfl ?_ rfl rfl
  intro p2 w46 x47 hp2
  replace h := h.below x47
  replace hp := hp.below x47
  have X0 := ext_trans X0 x47
  refine t_boxr (by assumption) rfl ?_ rfl rfl
  intro p3 w48 x49 hp3
  replace h := h.below x49
  replace hp := hp.below x49
  replace hp2 := hp2.below x49
  have X0 := ext_trans X0 x49
  have S := Sep.nil w48
  have B := Below.refl w48.heap.size w48
  have Hb := Nat.le_refl w48.heap.size
  refine t_assign rfl ?_ rfl
  refine t_done ?_
  refine x_seq ?_
  refine w_seq ?_
  refine w_seq ?_
  refine w_region ?_
  refine t_assign rfl ?_ rfl
  refine t_done ?_
  refine x_seq ?_
  refine w_block ?_
  refine w_loop (X := Nat) (fun k wq => k ≤ p.hops.length ∧ (∀ (j : Nat) y, j < k → p.hops[j]? = some y → verifyHop t p.ts (hopBeta p j) y = true) ∧ Below w48.heap.size w48 wq ∧ Sep w48.heap.size wq []) (fun k => [(5, I ((k : Int))), (2, p2), (3, p3)]) (fun k => p.hops.length - k) (0) ?_ ⟨rfl, rfl, rfl, trivial⟩ ?_
  · exact ⟨by omega, by omega, B, S⟩
  · rintro k w50 hI
    try dsimp only at hI ⊢
    obtain ⟨hk, ha, B, S⟩ := hI
    refine w_seq ?_
    refine w_seq ?_
    refine w_region ?_
    refine t_move rfl ?_ rfl
    refine t_fld ln_part_3 (by assumption) fb_part_3 rfl ?_ rfl
    intro p7 hp7
    refine t_lds (by assumption) ab_s_hop B rfl ?_ rfl
    intro v8 hv8
    refine t_len e_hop (by assumption) rfl rfl ?_ rfl
    refine t_lss rfl rfl ?_ rfl
    refine t_done ?_
    refine x_seq ?_
    refine w_if rfl ?_ ?_
    · intro hlt
      refine w_skip ?_
      refine x_seq ?_
      refine w_seq ?_
      refine w_block ?_
      refine w_seq ?_
      refine w_draw (.st .take 0 (.st .take 1 (.st .take 2 (.st .take 3 (.st .take 4 (.st .take 6 (.st .take 7 (.st .take 8 (.st .take 9 (.st .take 10 (.st .run 5 (.st .run 11 (.st .take 12 .done))))))))))))) mixed (by kernel_rfl) ?_
      intro w51 x52
      have B := bx Hb B x52
      have S := S.below x52
      refine t_lda (by assumption) ab_topo sb_topo B rfl ?_ rfl
      intro v13 hv13
      obtain ⟨v13_0, v13_1, rfl, hv13_0, hv13_1⟩ := topo_va hv13
      refine t_fld ln_part_1 (by assumption) fb_part_1 rfl ?_ rfl
      intro p14 hp14
      refine t_ldi (by assumption) ab_int B rfl ?_ rfl
      refine t_lda (by assumption) ab_part sb_part B rfl ?_ rfl
      intro v16 hv16
      obtain ⟨v16_3, rfl, hv16_3⟩ := part_va hv16
      refine t_move rfl ?_ rfl
      refine t_fld ln_part_3 (by assumption) fb_part_3 rfl ?_ rfl
      intro p19 hp19
      refine t_lds (by assumption) ab_s_hop B rfl ?_ rfl
      intro v20 hv20
      refine t_move rfl ?_ rfl
      obtain ⟨e22, he22⟩ : ∃ e, (p.hops)[k]? = some e := getx (by omega)
      refine t_idx e_hop (k := k) (by assumption) he22 B rfl rfl (by first | rfl | omega) ?_ rfl
      intro p22 hp22
      refine t_lda (by assumption) ab_hop sb_hop B rfl ?_ rfl
      intro v23 hv23
      obtain rfl := hop_va hv23
      refine t_callx Tryz.call131 rfl (spec_l21Beta _ _ _ _ (by first | assumption | exact VA.below (by assumption) B | exact part_mkv (by first | assumption | exact SlR.below (by assumption) B)) (by omega) (by omega)) ?_ rfl rfl
      intro w53 x54
      have B := bx Hb B x54
      have S := S.below x54
      refine t_callx Tryz.call130 rfl (spec_VerifyHop _ _ _ _ _ _ (by first | assumption | exact VA.below (by assumption) B | exact topo_mkv (by first | assumption | exact SlR.below (by assumption) B) (by first | assumption | exact SlR.below (by assumption) B)) (by omega)) ?_ rfl rfl
      intro w55 x56
      have B := bx Hb B x56
      have S := S.below x56
      refine t_notb rfl ?_ rfl
      refine t_done' ?_
      refine x_seq ?_
      refine w_ifb rfl ?_ ?_
      · intro hv
        refine w_seq ?_
        refine w_region ?_
        refine t_assign rfl ?_ rfl
        refine t_done ?_
        refine x_seq ?_
        refine w_ret ?_
        refine x_block_ret ?_
        refine x_then_ret ?_
        refine x_then_ret ?_
        refine x_block_ret ?_
        refine x_then_ret ?_
        refine x_ret1 rfl rfl ?_
        exact ⟨ret_bool (verify_bad he22 (by simpa using hv)).symm, ext_trans X0 B⟩
      · intro hv
        refine w_skip ?_
        refine x_block_normal ?_
        refine x_seq ?_
        refine w_region ?_
        refine t_move rfl ?_ rfl
        refine t_add rfl rfl (by omega) ?_ rfl
        refine t_assign rfl ?_ rfl
        refine t_done ?_
        refine x_round (X := Nat) (k + 1) ?_ (by exact ⟨rfl, rfl, rfl, trivial⟩) (by (try dsimp only); omega)
        try dsimp only
        exact ⟨by omega, fun j y hj hy => verify_step ha he22 (by simpa using hv) hj hy, B, S⟩
    · intro hge
      refine w_exit ?_
      refine x_then_exit ?_
      refine x_then_exit ?_
      refine x_block_exit ?_
      refine x_seq ?_
      refine w_seq ?_
      refine w_region ?_
      refine t_assign rfl ?_ rfl
      refine t_done ?_
      refine x_seq ?_
      refine w_ret ?_
      refine x_ret1 rfl rfl ?_
      exact ⟨ret_bool (verify_all fun j y hy => ha j y (by have := (List.getElem?_eq_some_iff.1 hy).1; omega) hy).symm, ext_trans X0 B⟩
end Go.Proofs.YtdaecknfahgddaaGreat
namespace Go.Proofs.YtdaecknfahgddaaGreat
open Go.RowKit
set_option linter.unusedVariables false
theorem et_step : ElemT Tryz.prog 47 78 3 24 := ElemT.mk' Tryz.underlying47 (z := .agg #[I 0, I 0, I 0]) (by kernel_rfl) rfl (by omega)
end Go.Proofs.YtdaecknfahgddaaGreat
namespace Go.Proofs.YtdaecknfahgddaaGreat
open Go.RowKit
set_option linter.unusedVariables false
def hopIa (x : Part) (j : Nat) : Int := match x.hops[j]? with
  | none => 0
  | some h => h.ia
def lastOf (l : List Stp) : Stp := (l[l.length - 1]?).getD ⟨0, 0, 0⟩
def firstOf (l : List Stp) : Stp := (l[0]?).getD ⟨0, 0, 0⟩
/-- Whether hop j of part i is the same AS as_ the last step so far. -/
def joinAt (i : Nat) (x : Part) (l : List Stp) (j : Nat) : Bool := decide (0 < i) && (decide (j = 0) && (decide (0 < l.length) && ((lastOf l).ia == hopIa x j)))
def addHop (i : Nat) (x : Part) (l : List Stp) (j : Nat) : List Stp :=
  if joinAt i x l j then l.set (l.length - 1) { lastOf l with eg := partOut x j } else l ++ [⟨hopIa x j, partIn x j, partOut x j⟩]
def hopsTo (i : Nat) (x : Part) (l : List Stp) (j : Nat) : List Stp := (List.range j).foldl (addHop i x) l
def addPart (p : Path) (l : List Stp) (i : Nat) : List Stp := match p[i]? with
  | none => l
  | some x => hopsTo i x l x.hops.length
def rawSteps (p : Path) (k : Nat) : List Stp := (List.range k).foldl (addPart p) []
def cutFirst (l : List Stp) : List Stp := l.set 0 { firstOf l with ing := 0 }
def cutLast (l : List Stp) : List Stp := l.set (l.length - 1) { lastOf l with eg := 0 }
def pathSteps (p : Path) : List Stp := cutLast (cutFirst (rawSteps p p.length))
theorem hopsTo_succ (i : Nat) (x : Part) (l : List Stp) (j : Nat) : hopsTo i x l (j + 1) = addHop i x (hopsTo i x l j) j := by
  unfold hopsTo; rw [List.range_succ, List.foldl_append]; rfl
theorem rawSteps_succ {p : Path} {k : Nat} {x : Part} (h : p[k]? = some x) : rawSteps p (k + 1) = hopsTo k x (rawSteps p k) x.hops.length := by
  unfold rawSteps; rw [List.range_succ, List.foldl_append]
  show addPart p _ k = _
  unfold addPart; rw [h]
theorem addHop_len (i : Nat) (x : Part) (l : List Stp) (j : Nat) : (addHop i x l j).length ≤ l.length + 1 := by
  unfold addHop; split <;> simp
theorem hopsTo_len (i : Nat) (x : Part) (l : List Stp) (j : Nat) : (hopsTo i x l j).length ≤ l.length + j := by
  induction j with
  | zero => simp [hopsTo]
  | succ j ih => rw [hopsTo_succ]; have := addHop_len i x (hopsTo i x l j) j; omega
theorem rawSteps_len (p : Path) (k : Nat) : (rawSteps p k).length ≤ ((p.take k).map fun x => x.hops.length).sum := by
  induction k with
  | zero => simp [rawSteps]
  | succ k ih =>
    cases h : p[k]? with
    | none =>
      have e : rawSteps p (k + 1) = rawSteps p k := by
        unfold rawSteps; rw [List.range_succ, List.foldl_append]
        show addPart p _ k = _
        unfold addPart; rw [h]
      have h2 : p.length ≤ k := List.getElem?_eq_none_iff.1 h
      rw [e, List.take_of_length_le (by omega)]
      rw [List.take_of_length_le (by omega)] at ih
      exact ih
    | some x =>
      rw [rawSteps_succ h, take_succ h, List.map_append, List.sum_append]
      have := hopsTo_len k x (rawSteps p k) x.hops.length
      simp only [List.map_cons, List.map_nil, List.sum_cons, List.sum_nil]
      omega
theorem take_hops_le (p : Path) (k : Nat) : ((p.take k).map fun x => x.hops.length).sum ≤ sz_path p := by
  have h1 : (p.map fun x => x.hops.length).sum = ((p.take k).map fun x => x.hops.length).sum + ((p.drop k).map fun x => x.hops.length).sum := by
    rw [← List.sum_append, ← List.map_append, List.take_append_drop]
  have h2 : sz_path p = List.length p + (p.map fun x => x.hops.length).sum := rfl
  omega
/-- The bound that each append needs. -/
theorem hopsTo_bound {p : Path} {k : Nat} {x : Part} (h : p[k]? = some x) {j : Nat} (hj : j ≤ x.hops.length) : (hopsTo k x (rawSteps p k) j).length ≤ sz_path p := by
  have h1 := hopsTo_len k x (rawSteps p k) j
  have h2 := rawSteps_len p k
  have h3 := take_hops_le p (k + 1)
  rw [take_succ h, List.map_append, List.sum_append] at h3
  simp only [List.map_cons, List.map_nil, List.sum_cons, List.sum_nil] at h3
  omega
theorem rawSteps_bound (p : Path) (k : Nat) : (rawSteps p k).length ≤ sz_path p := Nat.le_trans (rawSteps_len p k) (take_hops_le p k)
theorem pathSteps_len (p : Path) : (pathSteps p).length ≤ sz_path p := by
  have := rawSteps_bound p p.length
  simpa [pathSteps, cutLast, cutFirst] using this
theorem hops_le_path {p : Path} {x : Part} (h : x ∈ p) : x.hops.length ≤ sz_path p := by
  have := le_sum_of_mem (List.mem_map.2 ⟨x, h, rfl⟩ : sz_part x ∈ p.map sz_part)
  show _ ≤ List.length p + _
  have e : sz_part x = x.hops.length := rfl
  omega
theorem lastOf_at {l : List Stp} {s : Stp} (h : l[l.length - 1]? = some s) : lastOf l = s := by unfold lastOf; rw [h]; rfl
theorem firstOf_at {l : List Stp} {s : Stp} (h : l[0]? = some s) : firstOf l = s := by unfold firstOf; rw [h]; rfl
theorem hopIa_at {x : Part} {j : Nat} {y : Hop} (h : x.hops[j]? = some y) : hopIa x j = y.ia := by unfold hopIa; rw [h]
theorem addHop_join {i : Nat} {x : Part} {l : List Stp} {j : Nat} (h : joinAt i x l j = true) : addHop i x l j = l.set (l.length - 1) { lastOf l with eg := partOut x j } := by unfold addHop; rw [h]; rfl
theorem addHop_new {i : Nat} {x : Part} {l : List Stp} {j : Nat} (h : joinAt i x l j = false) : addHop i x l j = l ++ [⟨hopIa x j, partIn x j, partOut x j⟩] := by unfold addHop; rw [h]; rfl
theorem take_set {α : Type} (l : List α) (a : α) (h : 0 < l.length) : l.take (l.length - 1) ++ [a] = l.set (l.length - 1) a := by
  rw [List.set_eq_take_append_cons_drop, if_pos (by omega), List.drop_eq_nil_of_le (by omega)]
end Go.Proofs.YtdaecknfahgddaaGreat
namespace Go.Proofs.YtdaecknfahgddaaGreat
open Go.RowKit
set_option linter.unusedVariables false
theorem step_put2 {base : Nat} {w : World} {cs : List Value} {s : Stp} {f : List Nat} (h : stepT.O base w cs s f) (v : Int) : stepT.O base w (cs.set 2 (I v)) { s with eg := v } f := by
  have e : cs = [I s.ia, I s.ing, I s.eg] := h.1
  subst e
  exact ⟨rfl, h.2⟩
theorem step_put1 {base : Nat} {w : World} {cs : List Value} {s : Stp} {f : List Nat} (h : stepT.O base w cs s f) (v : Int) : stepT.O base w (cs.set 1 (I v)) { s with ing := v } f := by
  have e : cs = [I s.ia, I s.ing, I s.eg] := h.1
  subst e
  exact ⟨rfl, h.2⟩
set_option maxRecDepth 100000 in
set_option maxHeartbeats 4000000 in
theorem impl_PathSteps (p : Path) (cs : List Value) (w : World) (h : pathT.R w cs p) (hz : sz_path p ≤ 1048576) (hl : lenOk_path p) (hg : rng_path p) :
    Calls Tryz.prog 28 #[.agg cs.toArray] w fun r w' => ∃ v fp, r = .returned v ∧ SlO stepT 78 w.heap.size w' v (pathSteps p) fp ∧ Below w.heap.size w w' := by
  obtain ⟨A, c, rfl, ⟨h, _⟩⟩ := path_form h
  obtain ⟨n, H⟩ : ∃ n, Hid (n = p.length) := ⟨_, rfl⟩
  have hn : n ≤ 1048576 := by rw [H.out]; have : sz_path p = List.length p + (p.map sz_part).sum := rfl; omega
  have Hz := hid hz
  clear hz hl hg
  rw [← H.out] at h ⊢
  have hb0 : Below w.heap.size w (w.alloc (.cells #[.slice A n c] 30)) := ext_alloc1 _ _
  go_enter Tryz.func28, Tryz.ntmps28
  go_wp2
  go_loopw [3, 12] (fun v i wr => ∃ k : Nat, k ≤ n ∧ i = I k ∧ Below w.heap.size w wr ∧ ∃ fp, SlO stepT 78 w.heap.size wr v (rawSteps p k) fp) (fun _ i _ => n - (intOf i).toNat)
  case atStart => exact ⟨0, by omega, rfl, hb0, [], SlO.nil⟩
  case round =>
    obtain ⟨k, hk, rfl, hb, fp, hO⟩ := hrel
    clear hb0
    obtain ⟨wo, rfl⟩ : ∃ wo : World, wo = wr := ⟨_, rfl⟩
    by_cases hlt : k < n
    · obtain ⟨g, o, q, x, B, d, e, hg, hxk, hin, hd, c0, c1, c2, c3⟩ := part_at h (by rw [← H.out]; exact hlt)
      rw [← H.out] at e
      cases e
      replace c0 := ck hb c0
      replace c1 := ck hb c1
      replace c2 := ck hb c2
      replace c3 := ck hb c3
      have hm2 : x.hops.length ≤ 1048576 := Nat.le_trans (hops_le_path (List.mem_of_getElem? hxk.out)) Hz.out
      obtain ⟨m, Hm⟩ : ∃ m, Hid (m = x.hops.length) := ⟨_, rfl⟩
      rw [← Hm.out] at hin hd hm2 c3
      have Hbd : Hid (∀ j, j ≤ m → (hopsTo k x (rawSteps p k) j).length ≤ 1048576) := fun j hj => Nat.le_trans (hopsTo_bound hxk.out (by rw [← Hm.out]; exact hj)) Hz.out
      have hsuc : Hid (rawSteps p (k + 1) = hopsTo k x (rawSteps p k) m) := by show _ = _; rw [Hm.out]; exact rawSteps_succ hxk.out
      obtain ⟨l0, Hl0⟩ : ∃ l0, Hid (l0 = rawSteps p k) := ⟨_, rfl⟩
      rw [← Hl0.out] at hO hsuc Hbd
      have hz0 : w.heap.size ≤ wo.heap.size := hb.size
      have C0 := hid c0
      have C1 := hid c1
      have C2 := hid c2
      have C3 := hid c3
      have hOa := hid (hO.alloc (.cells #[I x.kind, I x.ts, I x.beta, .slice B m d] 82))
      have hfr := hid fun hm => Nat.lt_irrefl _ (hO.size_ok wo.heap.size hm).2
      have hba := hid (ext_alloc hb (.cells #[I x.kind, I x.ts, I x.beta, .slice B m d] 82))
      go_wp2
      clear c0 c1 c2 c3 hO
      go_loopw [3, 20] (fun v i wr => ∃ j : Nat, j ≤ m ∧ i = I j ∧ Below w.heap.size w wr ∧ wo.heap.size + 1 ≤ wr.heap.size ∧ (wr.cell? ⟨wo.heap.size, 0, none⟩ = some (I x.kind) ∧ wr.cell? ⟨wo.heap.size, 1, none⟩ = some (I x.ts) ∧ wr.cell? ⟨wo.heap.size, 2, none⟩ = some (I x.beta) ∧ wr.cell? ⟨wo.heap.size, 3, none⟩ = some (.slice B m d)) ∧ ∃ fp, SlO stepT 78 w.heap.size wr v (hopsTo k x l0 j) fp ∧ wo.heap.size ∉ fp) (fun _ i _ => m - (intOf i).toNat)
      case atStart => exact ⟨0, by omega, rfl, hba.out, by simp, ⟨by simp, by simp, by simp, by simp⟩, fp, hOa.out, hfr.out⟩
      case round =>
        obtain ⟨j, hj, rfl, hbi, hs2, ⟨q0, q1, q2, q3⟩, fpi, hOi, hni⟩ := hrel
        clear hOa hfr hba
        obtain ⟨wi, rfl⟩ : ∃ wi : World, wi = wr := ⟨_, rfl⟩
        by_cases hjl : j < m
        · obtain ⟨g', o', q', y, e', hg', hyj, b0, b1, b2, b3, b4⟩ := hop_at hin (by rw [← Hm.out]; exact hjl)
          rw [← Hm.out] at e'
          cases e'
          replace b0 := ck hbi b0
          replace b1 := ck hbi b1
          replace b2 := ck hbi b2
          replace b3 := ck hbi b3
          replace b4 := ck hbi b4
          obtain ⟨li, Hli⟩ : ∃ li, Hid (li = hopsTo k x l0 j) := ⟨_, rfl⟩
          have hlen : li.length ≤ 1048576 := by rw [Hli.out]; exact Hbd.out j hj
          have Hnx : Hid (hopsTo k x l0 (j + 1) = addHop k x li j) := by show _ = _; rw [hopsTo_succ, Hli.out]
          rw [← Hli.out] at hOi
          obtain ⟨Av, cv, ev, _⟩ := hOi.form
          subst ev
          obtain ⟨wj, Hwj⟩ : ∃ wj, Hid (wj = wi.alloc (.cells #[I y.ia, I y.ing, I y.eg, I y.exp, I y.mac] 86)) := ⟨_, rfl⟩
          have Hsz : Hid (wj.heap.size = wi.heap.size + 1) := by show _ = _; rw [Hwj.out]; simp
          have hij : Below wi.heap.size wi wj := by rw [Hwj.out]; exact ext_alloc1 _ _
          have HS : Hid (∀ w', Below wj.heap.size wj w' → (w'.cell? ⟨wo.heap.size, 0, none⟩ = some (I x.kind) ∧ w'.cell? ⟨wo.heap.size, 1, none⟩ = some (I x.ts) ∧ w'.cell? ⟨wo.heap.size, 2, none⟩ = some (I x.beta) ∧ w'.cell? ⟨wo.heap.size, 3, none⟩ = some (.slice (some ⟨g', o', none⟩) m d) ∧ w'.cell? ⟨wi.heap.size, 0, none⟩ = some (I y.ia))) := fun w' hw => by
            have hx := ext_trans hij hw
            exact ⟨ck hx q0, ck hx q1, ck hx q2, ck hx q3, ck hw (by rw [Hwj.out]; simp)⟩
          have hR : ∀ w' : World, Below wj.heap.size wj w' → partT.R w' [I x.kind, I x.ts, I x.beta, .slice (some ⟨g', o', none⟩) m d] x := fun w' hw => by
            have := part_mk (d := x) (A3 := some ⟨g', o', none⟩) (cA3 := d) (w := w') (by rw [← Hm.out]; exact hin.below (ext_trans hbi (ext_trans hij hw)))
            rw [← Hm.out] at this
            exact this
          obtain ⟨vi, Hvi⟩ : ∃ vi, Hid (vi = partIn x j) := ⟨_, rfl⟩
          obtain ⟨vo, Hvo⟩ : ∃ vo, Hid (vo = partOut x j) := ⟨_, rfl⟩
          have HI : Hid (∀ w', Below wj.heap.size wj w' → Calls Tryz.prog 81 #[.agg #[I x.kind, I x.ts, I x.beta, .slice (some ⟨g', o', none⟩) m d], I j] w' fun e w'' => e = .returned (I vi) ∧ Below w'.heap.size w' w'') := fun w' hw => by
            have := impl_PartIngress x _ j w' (hR w' hw) (by rw [← Hm.out]; exact hm2) (by omega)
            rw [Int.toNat_natCast, ← Hvi.out] at this
            exact this
          have HE : Hid (∀ w', Below wj.heap.size wj w' → Calls Tryz.prog 80 #[.agg #[I x.kind, I x.ts, I x.beta, .slice (some ⟨g', o', none⟩) m d], I j] w' fun e w'' => e = .returned (I vo) ∧ Below w'.heap.size w' w'') := fun w' hw => by
            have := impl_PartEgress x _ j w' (hR w' hw) (by rw [← Hm.out]; exact hm2) (by omega)
            rw [Int.toNat_natCast, ← Hvo.out] at this
            exact this
          have hOj : Hid (SlO stepT 78 w.heap.size wj (.slice Av li.length cv) li fpi) := hOi.below hij
          have Hni := hid hni
          have Hni2 : Hid (wi.heap.size ∉ fpi) := fun hm => Nat.lt_irrefl _ (hOi.size_ok _ hm).2
          clear hR
          rcases Nat.eq_zero_or_pos k with hk0 | hk0
          · have g1 : decide (0 < k) = false := by simp; omega
            have g1' : decide ((0 : Int) < k) = false := by simp; omega
            have hJ : Hid (joinAt k x li j = false) := by show _ = _; simp [joinAt, hk0]
            clear hk0
            go_wp2
            rw [← Hwj.out]
            go_quiet (fail)
            go_wp2
            go_region_held3 (fun w' => (w'.cell? ⟨wo.heap.size, 0, none⟩ = some (I x.kind) ∧ w'.cell? ⟨wo.heap.size, 1, none⟩ = some (I x.ts) ∧ w'.cell? ⟨wo.heap.size, 2, none⟩ = some (I x.beta) ∧ w'.cell? ⟨wo.heap.size, 3, none⟩ = some (.slice (some ⟨g', o', none⟩) m d) ∧ w'.cell? ⟨wi.heap.size, 0, none⟩ = some (I y.ia)))
              (first | exact HS.out _ ((below_drewN (Below.refl _ _) _).drew) | exact HS.out _ x1 | exact HS.out _ x2 | exact HS.out _ (ext_alloc x2 _) | exact z3 | go_keep)
              (first | (go_at_call 81; refine (HI.out _ ((below_drewN (Below.refl _ _) _).drew)).mono ?_; rintro e w1 ⟨rfl, hb1⟩; have x1 := ext_trans ((below_drewN (Below.refl _ wj) _).drew) hb1) | (go_at_call 80; refine (HE.out _ x1).mono ?_; rintro e w2 ⟨rfl, hb2⟩; have x2 := ext_trans x1 hb2) | (refine step_cat step_flat (.tmp 55) (.tmp 65) et_step ((hOj.out.below x2).alloc _) (lit_one w2 78 (⟨y.ia, vi, vo⟩ : Stp) 1 w2.heap.size (Nat.le_refl _) rfl #[I y.ia, I vi, I vo] (fun _ => rfl)) (by simp; omega) (by simp [maxLen]; omega) (by have := x2.size; have := hbi.size; have := Hsz.out; simp; omega) (by rfl) (by rfl) (by rfl) (by rfl) ?_; intro v3 w3 fp3 hO3 hfp3 hkp3; have z2 := HS.out _ (ext_alloc x2 (.cells #[I y.ia, I vi, I vo] 78)); have z3 := And.intro (hkp3.ck z2.1 Hni.out) (And.intro (hkp3.ck z2.2.1 Hni.out) (And.intro (hkp3.ck z2.2.2.1 Hni.out) (And.intro (hkp3.ck z2.2.2.2.1 Hni.out) (hkp3.ck z2.2.2.2.2 Hni2.out))))))
            have y3 : Below w.heap.size w w3 := (ext_trans hbi (ext_trans hij (ext_alloc x2 _))).trans (hkp3.below (fun b hb => (hOj.out.size_ok b hb).1) (by have := x2.size; have := hbi.size; have := Hsz.out; simp; omega))
            have z4 : wo.heap.size + 1 ≤ w3.heap.size := by have := hkp3.size; have := x2.size; have := Hsz.out; simp at *; omega
            go_wp2
            go_roundw
            case rel =>
              refine ⟨j + 1, by omega, by go_num, y3, z4, ⟨z3.1, z3.2.1, z3.2.2.1, z3.2.2.2.1⟩, fp3, by rw [Hnx.out, addHop_new hJ.out, hopIa_at hyj.out, ← Hvi.out, ← Hvo.out]; exact hO3, fun hm => ?_⟩
              rcases hfp3 _ hm with hm | hm
              · exact Hni.out hm
              · have := x2.size; have := Hsz.out; simp at hm; omega
            case measure => simp [intOf]; omega
          · have g1 : decide (0 < k) = true := by simp; omega
            have g1' : decide ((0 : Int) < k) = true := by simp; omega
            rcases Nat.eq_zero_or_pos j with hj0 | hj0
            · have g2 : ((j : Int) == 0) = true := by simp; omega
              have g2' : (j == 0) = true := by simp; omega
              rcases Nat.eq_zero_or_pos li.length with hl0 | hl0
              · have g3 : decide ((1 : Int) ≤ (li.length : Int)) = false := by simp; omega
                have hJ : Hid (joinAt k x li j = false) := by show _ = _; simp [joinAt, hl0]
                clear hj0 hl0 hk0
                go_wp2
                rw [← Hwj.out]
                go_quiet (fail)
                go_wp2
                go_region_held3 (fun w' => (w'.cell? ⟨wo.heap.size, 0, none⟩ = some (I x.kind) ∧ w'.cell? ⟨wo.heap.size, 1, none⟩ = some (I x.ts) ∧ w'.cell? ⟨wo.heap.size, 2, none⟩ = some (I x.beta) ∧ w'.cell? ⟨wo.heap.size, 3, none⟩ = some (.slice (some ⟨g', o', none⟩) m d) ∧ w'.cell? ⟨wi.heap.size, 0, none⟩ = some (I y.ia)))
                  (first | exact HS.out _ ((below_drewN (Below.refl _ _) _).drew) | exact HS.out _ x1 | exact HS.out _ x2 | exact HS.out _ (ext_alloc x2 _) | exact z3 | go_keep)
                  (first | (go_at_call 81; refine (HI.out _ ((below_drewN (Below.refl _ _) _).drew)).mono ?_; rintro e w1 ⟨rfl, hb1⟩; have x1 := ext_trans ((below_drewN (Below.refl _ wj) _).drew) hb1) | (go_at_call 80; refine (HE.out _ x1).mono ?_; rintro e w2 ⟨rfl, hb2⟩; have x2 := ext_trans x1 hb2) | (refine step_cat step_flat (.tmp 55) (.tmp 65) et_step ((hOj.out.below x2).alloc _) (lit_one w2 78 (⟨y.ia, vi, vo⟩ : Stp) 1 w2.heap.size (Nat.le_refl _) rfl #[I y.ia, I vi, I vo] (fun _ => rfl)) (by simp; omega) (by simp [maxLen]; omega) (by have := x2.size; have := hbi.size; have := Hsz.out; simp; omega) (by rfl) (by rfl) (by rfl) (by rfl) ?_; intro v3 w3 fp3 hO3 hfp3 hkp3; have z2 := HS.out _ (ext_alloc x2 (.cells #[I y.ia, I vi, I vo] 78)); have z3 := And.intro (hkp3.ck z2.1 Hni.out) (And.intro (hkp3.ck z2.2.1 Hni.out) (And.intro (hkp3.ck z2.2.2.1 Hni.out) (And.intro (hkp3.ck z2.2.2.2.1 Hni.out) (hkp3.ck z2.2.2.2.2 Hni2.out))))))
                have y3 : Below w.heap.size w w3 := (ext_trans hbi (ext_trans hij (ext_alloc x2 _))).trans (hkp3.below (fun b hb => (hOj.out.size_ok b hb).1) (by have := x2.size; have := hbi.size; have := Hsz.out; simp; omega))
                have z4 : wo.heap.size + 1 ≤ w3.heap.size := by have := hkp3.size; have := x2.size; have := Hsz.out; simp at *; omega
                go_wp2
                go_roundw
                case rel =>
                  refine ⟨j + 1, by omega, by go_num, y3, z4, ⟨z3.1, z3.2.1, z3.2.2.1, z3.2.2.2.1⟩, fp3, by rw [Hnx.out, addHop_new hJ.out, hopIa_at hyj.out, ← Hvi.out, ← Hvo.out]; exact hO3, fun hm => ?_⟩
                  rcases hfp3 _ hm with hm | hm
                  · exact Hni.out hm
                  · have := x2.size; have := Hsz.out; simp at hm; omega
                case measure => simp [intOf]; omega
              · have g3 : decide ((1 : Int) ≤ (li.length : Int)) = true := by simp; omega
                obtain ⟨L, HL⟩ : ∃ L, li.length = L + 1 := ⟨li.length - 1, by omega⟩
                obtain ⟨gs, os, qs, sl, es, hgs, hsl, s0, s1, s2⟩ := step_at (k := L) hOi.read (by omega)
                have hL : lastOf li = sl := lastOf_at (by rw [HL]; exact hsl.out)
                obtain ⟨ga, ca, ea, hga, hgb, hgc, hgd, hgf⟩ := hOi.addr (by omega)
                cases ea
                cases es
                rw [Nat.zero_add] at s0 s1 s2
                have hL2 : L ≤ 1048576 := by omega
                have hL3 : L < L + 1 := Nat.lt_succ_self L
                rw [HL] at hOi hOj g3 ⊢
                replace s0 := ck hij s0
                replace s1 := ck hij s1
                replace s2 := ck hij s2
                have t0 : wj.cell? ⟨wi.heap.size, 0, none⟩ = some (I y.ia) := by rw [Hwj.out]; simp
                have HL' := hid HL
                cases g4 : (sl.ia == y.ia)
                · have hJ : Hid (joinAt k x li j = false) := by show _ = _; simp only [joinAt, hL, hopIa_at hyj.out, g4, Bool.and_false]
                  clear hj0 hk0 hl0 HL hL
                  go_wp2
                  rw [← Hwj.out]
                  go_quiet (fail)
                  go_wp2
                  go_region_held3 (fun w' => (w'.cell? ⟨wo.heap.size, 0, none⟩ = some (I x.kind) ∧ w'.cell? ⟨wo.heap.size, 1, none⟩ = some (I x.ts) ∧ w'.cell? ⟨wo.heap.size, 2, none⟩ = some (I x.beta) ∧ w'.cell? ⟨wo.heap.size, 3, none⟩ = some (.slice (some ⟨g', o', none⟩) m d) ∧ w'.cell? ⟨wi.heap.size, 0, none⟩ = some (I y.ia)))
                    (first | exact HS.out _ ((below_drewN (Below.refl _ _) _).drew) | exact HS.out _ x1 | exact HS.out _ x2 | exact HS.out _ (ext_alloc x2 _) | exact z3 | go_keep)
                    (first | (go_at_call 81; refine (HI.out _ ((below_drewN (Below.refl _ _) _).drew)).mono ?_; rintro e w1 ⟨rfl, hb1⟩; have x1 := ext_trans ((below_drewN (Below.refl _ wj) _).drew) hb1) | (go_at_call 80; refine (HE.out _ x1).mono ?_; rintro e w2 ⟨rfl, hb2⟩; have x2 := ext_trans x1 hb2) | (refine step_cat step_flat (.tmp 55) (.tmp 65) et_step ((hOj.out.below x2).alloc _) (lit_one w2 78 (⟨y.ia, vi, vo⟩ : Stp) 1 w2.heap.size (Nat.le_refl _) rfl #[I y.ia, I vi, I vo] (fun _ => rfl)) (by simp; omega) (by simp [maxLen]; omega) (by have := x2.size; have := hbi.size; have := Hsz.out; simp; omega) (by rfl) (by rfl) (by rfl) (by rfl) ?_; intro v3 w3 fp3 hO3 hfp3 hkp3; have z2 := HS.out _ (ext_alloc x2 (.cells #[I y.ia, I vi, I vo] 78)); have z3 := And.intro (hkp3.ck z2.1 Hni.out) (And.intro (hkp3.ck z2.2.1 Hni.out) (And.intro (hkp3.ck z2.2.2.1 Hni.out) (And.intro (hkp3.ck z2.2.2.2.1 Hni.out) (hkp3.ck z2.2.2.2.2 Hni2.out))))))
                  have y3 : Below w.heap.size w w3 := (ext_trans hbi (ext_trans hij (ext_alloc x2 _))).trans (hkp3.below (fun b hb => (hOj.out.size_ok b hb).1) (by have := x2.size; have := hbi.size; have := Hsz.out; simp; omega))
                  have z4 : wo.heap.size + 1 ≤ w3.heap.size := by have := hkp3.size; have := x2.size; have := Hsz.out; simp at *; omega
                  go_wp2
                  go_roundw
                  case rel =>
                    refine ⟨j + 1, by omega, by go_num, y3, z4, ⟨z3.1, z3.2.1, z3.2.2.1, z3.2.2.2.1⟩, fp3, by rw [Hnx.out, addHop_new hJ.out, hopIa_at hyj.out, ← Hvi.out, ← Hvo.out]; exact hO3, fun hm => ?_⟩
                    rcases hfp3 _ hm with hm | hm
                    · exact Hni.out hm
                    · have := x2.size; have := Hsz.out; simp at hm; omega
                  case measure => simp [intOf]; omega
                · have hJ : Hid (joinAt k x li j = true) := by show _ = _; simp only [joinAt, hL, hopIa_at hyj.out, g4]; simp; omega
                  have HLa := hid hL
                  clear hj0 hk0 hl0 HL hL
                  go_wp2
                  rw [← Hwj.out]
                  go_quiet (fail)
                  replace q0 := ck hij q0
                  replace q1 := ck hij q1
                  replace q2 := ck hij q2
                  replace q3 := ck hij q3
                  go_wp2_with (fail)
                  refine (HE.out _ (below_drewN (Below.refl _ _) _)).mono ?_
                  rintro e w1 ⟨rfl, hb1⟩
                  have x1 := ext_trans (below_drewN (Below.refl _ wj) _) hb1
                  have hO1 := hOj.out.below x1
                  obtain ⟨gb, cb, eb, _, _, _, _, hfz⟩ := hO1.addr (by rw [HL'.out]; omega)
                  rw [HL'.out] at eb
                  cases eb
                  have hfz' := hfz (L * 3 + 2)
                  obtain ⟨u2, hu2⟩ : ∃ u, w1.cell? ⟨gs, L * 3 + 2, none⟩ = some u := ⟨_, ck x1 s2⟩
                  have K2 : Kept fpi wj (w1.setCell ⟨gs, L * 3 + 2, none⟩ (I vo)) := (Kept.of_below x1 fpi).setCell hga (I vo)
                  have HK2 := hid K2
                  clear K2
                  go_wp2
                  go_roundw
                  case rel =>
                    refine ⟨j + 1, by omega, by go_num, (ext_trans hbi hij).trans (HK2.out.below (fun b hb => (hOj.out.size_ok b hb).1) (by have := hbi.size; have := Hsz.out; omega)), Nat.le_trans (by have := Hsz.out; omega) HK2.out.size, ⟨HK2.out.ck q0 Hni.out, HK2.out.ck q1 Hni.out, HK2.out.ck q2 Hni.out, HK2.out.ck q3 Hni.out⟩, fpi, ?_, Hni.out⟩
                    have := SlO.put (i := L) (j := 2) (a := sl) (a' := { sl with eg := vo }) (u := I vo) hO1 HL'.out.symm (fun _ _ _ _ _ h => h) hsl.out (by show 2 < 3; omega) (fun w cs f hh => step_put2 hh vo)
                    rw [Hnx.out, addHop_join hJ.out, HLa.out, HL'.out, ← Hvo.out]
                    exact this
                  case measure => simp [intOf]; omega
            · have g2 : ((j : Int) == 0) = false := by simp; omega
              have g2' : (j == 0) = false := by simp; omega
              have hJ : Hid (joinAt k x li j = false) := by show _ = _; simp [joinAt]; omega
              clear hj0 hk0
              go_wp2
              rw [← Hwj.out]
              go_quiet (fail)
              go_wp2
              go_region_held3 (fun w' => (w'.cell? ⟨wo.heap.size, 0, none⟩ = some (I x.kind) ∧ w'.cell? ⟨wo.heap.size, 1, none⟩ = some (I x.ts) ∧ w'.cell? ⟨wo.heap.size, 2, none⟩ = some (I x.beta) ∧ w'.cell? ⟨wo.heap.size, 3, none⟩ = some (.slice (some ⟨g', o', none⟩) m d) ∧ w'.cell? ⟨wi.heap.size, 0, none⟩ = some (I y.ia)))
                (first | exact HS.out _ ((below_drewN (Below.refl _ _) _).drew) | exact HS.out _ x1 | exact HS.out _ x2 | exact HS.out _ (ext_alloc x2 _) | exact z3 | go_keep)
                (first | (go_at_call 81; refine (HI.out _ ((below_drewN (Below.refl _ _) _).drew)).mono ?_; rintro e w1 ⟨rfl, hb1⟩; have x1 := ext_trans ((below_drewN (Below.refl _ wj) _).drew) hb1) | (go_at_call 80; refine (HE.out _ x1).mono ?_; rintro e w2 ⟨rfl, hb2⟩; have x2 := ext_trans x1 hb2) | (refine step_cat step_flat (.tmp 55) (.tmp 65) et_step ((hOj.out.below x2).alloc _) (lit_one w2 78 (⟨y.ia, vi, vo⟩ : Stp) 1 w2.heap.size (Nat.le_refl _) rfl #[I y.ia, I vi, I vo] (fun _ => rfl)) (by simp; omega) (by simp [maxLen]; omega) (by have := x2.size; have := hbi.size; have := Hsz.out; simp; omega) (by rfl) (by rfl) (by rfl) (by rfl) ?_; intro v3 w3 fp3 hO3 hfp3 hkp3; have z2 := HS.out _ (ext_alloc x2 (.cells #[I y.ia, I vi, I vo] 78)); have z3 := And.intro (hkp3.ck z2.1 Hni.out) (And.intro (hkp3.ck z2.2.1 Hni.out) (And.intro (hkp3.ck z2.2.2.1 Hni.out) (And.intro (hkp3.ck z2.2.2.2.1 Hni.out) (hkp3.ck z2.2.2.2.2 Hni2.out))))))
              have y3 : Below w.heap.size w w3 := (ext_trans hbi (ext_trans hij (ext_alloc x2 _))).trans (hkp3.below (fun b hb => (hOj.out.size_ok b hb).1) (by have := x2.size; have := hbi.size; have := Hsz.out; simp; omega))
              have z4 : wo.heap.size + 1 ≤ w3.heap.size := by have := hkp3.size; have := x2.size; have := Hsz.out; simp at *; omega
              go_wp2
              go_roundw
              case rel =>
                refine ⟨j + 1, by omega, by go_num, y3, z4, ⟨z3.1, z3.2.1, z3.2.2.1, z3.2.2.2.1⟩, fp3, by rw [Hnx.out, addHop_new hJ.out, hopIa_at hyj.out, ← Hvi.out, ← Hvo.out]; exact hO3, fun hm => ?_⟩
                rcases hfp3 _ hm with hm | hm
                · exact Hni.out hm
                · have := x2.size; have := Hsz.out; simp at hm; omega
              case measure => simp [intOf]; omega
        · have hjm : j = m := by omega
          subst hjm
          go_wp2
          go_roundw
          case rel => exact ⟨k + 1, by omega, by go_num, hbi, fpi, by rw [hsuc.out]; exact hOi⟩
          case measure => simp [intOf]; omega
    · have hkn : k = n := by omega
      subst hkn
      rw [H.out] at hO
      obtain ⟨l, Hl⟩ : ∃ l, Hid (l = rawSteps p p.length) := ⟨_, rfl⟩
      have Hps : Hid (pathSteps p = cutLast (cutFirst l)) := by show _ = _; rw [Hl.out]; rfl
      have hlen : l.length ≤ 1048576 := by rw [Hl.out]; exact Nat.le_trans (rawSteps_bound _ _) Hz.out
      rw [← Hl.out] at hO
      obtain ⟨Av, cv, ev, _⟩ := hO.form
      subst ev
      rcases Nat.eq_zero_or_pos l.length with hl0 | hl0
      · have hlz : l = [] := List.length_eq_zero_iff.1 hl0
        subst hlz
        go_wp2
        go_ret
        exact ⟨_, fp, rfl, by rw [Hps.out]; exact hO, hb⟩
      · obtain ⟨L, HL⟩ : ∃ L, l.length = L + 1 := ⟨l.length - 1, by omega⟩
        have hL2 : L ≤ 1048576 := by omega
        obtain ⟨g, ca, ea, hga, hgb, hgc, hgd, hgf⟩ := hO.addr (by omega)
        cases ea
        have f1 := hgf 1
        obtain ⟨g1, o1, q1, sf, e1, _, hsf, r0, r1, r2⟩ := step_at (k := 0) hO.read (by omega)
        cases e1
        simp only [Nat.zero_mul, Nat.zero_add, Nat.add_zero] at r0 r1 r2
        have hO1 := SlO.put (i := 0) (j := 1) (a := sf) (a' := { sf with ing := 0 }) (u := I 0) hO rfl (fun _ _ _ _ _ h => h) hsf.out (by show 1 < 3; omega) (fun w cs f hh => step_put1 hh 0)
        have e2 : l.set 0 { sf with ing := 0 } = cutFirst l := by unfold cutFirst; rw [firstOf_at hsf.out]
        rw [e2] at hO1
        have hcl : (cutFirst l).length = l.length := by unfold cutFirst; simp
        obtain ⟨g2, o2, q2, sg, e2', _, hsg, t0, t1, t2⟩ := step_at (k := L) hO1.read (by omega)
        rw [hcl] at e2'
        cases e2'
        have hO2 := SlO.put (i := L) (j := 2) (a := sg) (a' := { sg with eg := 0 }) (u := I 0) hO1 hcl.symm (fun _ _ _ _ _ h => h) hsg.out (by show 2 < 3; omega) (fun w cs f hh => step_put2 hh 0)
        have e3 : (cutFirst l).set L { sg with eg := 0 } = cutLast (cutFirst l) := by
          have hh : (cutFirst l).length - 1 = L := by omega
          unfold cutLast
          rw [lastOf_at (by rw [hh]; exact hsg.out), hh]
        rw [e3, ← Hps.out] at hO2
        obtain ⟨g3, c3, e4, _, _, _, _, hf3⟩ := hO1.addr (by omega)
        rw [hcl] at e4
        cases e4
        have f2 := hf3 (L * 3 + 2)
        have HL' := hid HL
        rw [HL] at hO hO1 hO2 ⊢
        have HO2 := hid hO2
        have hb2 := hid ((hb.setCell (p := ⟨g, 0 * stepT.size + 1, none⟩) hgb (I 0)).setCell (p := ⟨g, L * stepT.size + 2, none⟩) hgb (I 0))
        clear hl0 HL hO2 hO1 hO e2 e3 hcl
        simp only [show stepT.size = 3 from rfl, Nat.zero_mul, Nat.zero_add] at t0 t1 t2 f2 HO2 hb2
        go_wp2
        go_ret
        exact ⟨_, fp, rfl, HO2.out, hb2.out⟩
end Go.Proofs.YtdaecknfahgddaaGreat
namespace Go.Proofs.YtdaecknfahgddaaGreat
open Go.RowKit
set_option linter.unusedVariables false
/-- A box of three cells, just made, behind a call that came after. -/
theorem nb3 {w w2 : World} {z0 z1 z2 : Value} {t : TypeId} (hb : Below (w.alloc (.cells #[z0, z1, z2] t)).heap.size (w.alloc (.cells #[z0, z1, z2] t)) w2) :
    w2.cell? ⟨w.heap.size, 0, none⟩ = some z0 ∧ w2.cell? ⟨w.heap.size, 1, none⟩ = some z1 ∧ w2.cell? ⟨w.heap.size, 2, none⟩ = some z2 ∧ w2.frozen? ⟨w.heap.size, 0, none⟩ = false ∧ w2.frozen? ⟨w.heap.size, 1, none⟩ = false ∧ w2.frozen? ⟨w.heap.size, 2, none⟩ = false :=
  ⟨ck hb (show (w.alloc (.cells #[z0, z1, z2] t)).cell? ⟨w.heap.size, 0, none⟩ = some z0 by simp), ck hb (show (w.alloc (.cells #[z0, z1, z2] t)).cell? ⟨w.heap.size, 1, none⟩ = some z1 by simp), ck hb (show (w.alloc (.cells #[z0, z1, z2] t)).cell? ⟨w.heap.size, 2, none⟩ = some z2 by simp),
   by rw [hb.frozen (p := ⟨w.heap.size, 0, none⟩) (by simp)]; simp, by rw [hb.frozen (p := ⟨w.heap.size, 1, none⟩) (by simp)]; simp, by rw [hb.frozen (p := ⟨w.heap.size, 2, none⟩) (by simp)]; simp⟩
theorem nb3d {w w2 : World} {z0 z1 z2 : Value} {t : TypeId} (hb : Below (w.drew.alloc (.cells #[z0, z1, z2] t)).heap.size (w.drew.alloc (.cells #[z0, z1, z2] t)) w2) :
    w2.cell? ⟨w.heap.size, 0, none⟩ = some z0 ∧ w2.cell? ⟨w.heap.size, 1, none⟩ = some z1 ∧ w2.cell? ⟨w.heap.size, 2, none⟩ = some z2 ∧ w2.frozen? ⟨w.heap.size, 0, none⟩ = false ∧ w2.frozen? ⟨w.heap.size, 1, none⟩ = false ∧ w2.frozen? ⟨w.heap.size, 2, none⟩ = false := nb3 (w := w.drew) hb
theorem box3 {w2 : World} {g : Nat} {z0 z1 z2 a b c : Value} (h0 : w2.cell? ⟨g, 0, none⟩ = some z0) (h1 : w2.cell? ⟨g, 1, none⟩ = some z1) (h2 : w2.cell? ⟨g, 2, none⟩ = some z2) (h3 : w2.frozen? ⟨g, 1, none⟩ = false) :
    (((w2.setCell ⟨g, 0, none⟩ a).setCell ⟨g, 1, none⟩ b).setCell ⟨g, 2, none⟩ c).cell? ⟨g, 0, none⟩ = some a ∧
    (((w2.setCell ⟨g, 0, none⟩ a).setCell ⟨g, 1, none⟩ b).setCell ⟨g, 2, none⟩ c).cell? ⟨g, 1, none⟩ = some b ∧
    (((w2.setCell ⟨g, 0, none⟩ a).setCell ⟨g, 1, none⟩ b).setCell ⟨g, 2, none⟩ c).cell? ⟨g, 2, none⟩ = some c ∧
    (((w2.setCell ⟨g, 0, none⟩ a).setCell ⟨g, 1, none⟩ b).setCell ⟨g, 2, none⟩ c).frozen? ⟨g, 1, none⟩ = false := by
  have n1 : ∀ i j : Nat, i ≠ j → (⟨g, i, none⟩ : Addr) ≠ ⟨g, j, none⟩ := fun i j h e => h (by injection e)
  refine ⟨?_, ?_, ?_, by simp [h3]⟩
  · rw [World.cell?_setCell_other (h := n1 2 0 (by omega)), World.cell?_setCell_other (h := n1 1 0 (by omega))]
    exact World.cell?_setCell_same (h := h0) ..
  · rw [World.cell?_setCell_other (h := n1 2 1 (by omega))]
    exact World.cell?_setCell_same (h := by rw [World.cell?_setCell_other (h := n1 0 1 (by omega))]; exact h1) ..
  · exact World.cell?_setCell_same (h := by rw [World.cell?_setCell_other (h := n1 1 2 (by omega)), World.cell?_setCell_other (h := n1 0 2 (by omega))]; exact h2) ..
theorem step_put0 {base : Nat} {w : World} {cs : List Value} {s : Stp} {f : List Nat} (h : stepT.O base w cs s f) (v : Int) : stepT.O base w (cs.set 0 (I v)) { s with ia := v } f := by
  have e : cs = [I s.ia, I s.ing, I s.eg] := h.1
  subst e
  exact ⟨rfl, h.2⟩
/-- A store of a whole step. -/
theorem put3 {base : Nat} {w : World} {g n c : Nat} {l : List Stp} {fp : List Nat} (h : SlO stepT 78 base w (.slice (some ⟨g, 0, none⟩) n c) l fp) (hn : n = l.length) {i : Nat} {s : Stp} (hi : l[i]? = some s) (a b d : Int) :
    SlO stepT 78 base (((w.setCell ⟨g, i * 3, none⟩ (I a)).setCell ⟨g, i * 3 + 1, none⟩ (I b)).setCell ⟨g, i * 3 + 2, none⟩ (I d)) (.slice (some ⟨g, 0, none⟩) n c) (l.set i ⟨a, b, d⟩) fp := by
  have hlt := (List.getElem?_eq_some_iff.1 hi).1
  have h1 := SlO.put (i := i) (j := 0) (a := s) (a' := { s with ia := a }) (u := I a) h hn (fun _ _ _ _ _ h => h) hi (by show 0 < 3; omega) (fun w cs f hh => step_put0 hh a)
  have h2 := SlO.put (i := i) (j := 1) (a := { s with ia := a }) (a' := { s with ia := a, ing := b }) (u := I b) h1 (by simp [hn]) (fun _ _ _ _ _ h => h) (by rw [List.getElem?_set_self hlt]) (by show 1 < 3; omega) (fun w cs f hh => step_put1 hh b)
  have h3 := SlO.put (i := i) (j := 2) (a := { s with ia := a, ing := b }) (a' := ⟨a, b, d⟩) (u := I d) h2 (by simp [hn]) (fun _ _ _ _ _ h => h) (by rw [List.getElem?_set_self (by simpa using hlt)]) (by show 2 < 3; omega) (fun w cs f hh => step_put2 hh d)
  rw [List.set_set, List.set_set] at h3
  exact h3
set_option maxRecDepth 100000 in
set_option maxHeartbeats 8000000 in
theorem spec_PathSteps (p : Path) (cs : List Value) (w : World) (h : pathT.R w cs p) (hz : sz_path p ≤ 1048576) (hl : lenOk_path p) (hg : rng_path p) :
    Calls Tryz.prog 29 #[.agg cs.toArray] w fun r w' => ∃ v fp, r = .returned v ∧ SlO stepT 78 w.heap.size w' v (pathSteps p) fp ∧ Below w.heap.size w w' := by
  obtain ⟨A, c, rfl, ⟨h, _⟩⟩ := path_form h
  obtain ⟨n, H⟩ : ∃ n, Hid (n = p.length) := ⟨_, rfl⟩
  have hn : n ≤ 1048576 := by rw [H.out]; have : sz_path p = List.length p + (p.map sz_part).sum := rfl; omega
  have Hz := hid hz
  clear hz hl hg
  rw [← H.out] at h ⊢
  have hb0 : Below w.heap.size w ((w.alloc (.cells #[.slice A n c] 30)).alloc (.cells #[] 78)) := ext_alloc (ext_alloc1 _ _) _
  have P0 : Hid (((w.alloc (.cells #[.slice A n c] 30)).alloc (.cells #[] 78)).cell? ⟨w.heap.size, 0, none⟩ = some (.slice A n c)) := by show _ = _; simp
  have hE : SlO stepT 78 (w.heap.size + 1) ((w.alloc (.cells #[.slice A n c] 30)).alloc (.cells #[] 78)) (.slice (some ⟨w.heap.size + 1, 0, none⟩) 0 0) [] [w.heap.size + 1] := by
    have := SlO.empty stepT 78 (w.alloc (.cells #[.slice A n c] 30))
    simpa using this
  have HE := hid hE
  clear hE
  go_enter Tryz.func29, Tryz.ntmps29
  go_wp2
  go_loopw [3, 4] (fun v i wr => ∃ k : Nat, k ≤ n ∧ i = I k ∧ Below w.heap.size w wr ∧ w.heap.size + 1 ≤ wr.heap.size ∧ wr.cell? ⟨w.heap.size, 0, none⟩ = some (.slice A n c) ∧ ∃ fp, SlO stepT 78 (w.heap.size + 1) wr v (rawSteps p k) fp) (fun _ i _ => n - (intOf i).toNat)
  case atStart => exact ⟨0, by omega, rfl, hb0, by simp, P0.out, _, HE.out⟩
  case round =>
    obtain ⟨k, hk, rfl, hb, hs1, p0, fp, hO⟩ := hrel
    clear hb0 P0 HE
    obtain ⟨wo, rfl⟩ : ∃ wo : World, wo = wr := ⟨_, rfl⟩
    by_cases hlt : k < n
    · obtain ⟨g, o, q, x, B, d, e, hg, hxk, hin, hd, c0, c1, c2, c3⟩ := part_at h (by rw [← H.out]; exact hlt)
      rw [← H.out] at e
      cases e
      have hm2 : x.hops.length ≤ 1048576 := Nat.le_trans (hops_le_path (List.mem_of_getElem? hxk.out)) Hz.out
      obtain ⟨m, Hm⟩ : ∃ m, Hid (m = x.hops.length) := ⟨_, rfl⟩
      rw [← Hm.out] at hin hd hm2 c3
      have Hbd : Hid (∀ j, j ≤ m → (hopsTo k x (rawSteps p k) j).length ≤ 1048576) := fun j hj => Nat.le_trans (hopsTo_bound hxk.out (by rw [← Hm.out]; exact hj)) Hz.out
      have hsuc : Hid (rawSteps p (k + 1) = hopsTo k x (rawSteps p k) m) := by show _ = _; rw [Hm.out]; exact rawSteps_succ hxk.out
      obtain ⟨l0, Hl0⟩ : ∃ l0, Hid (l0 = rawSteps p k) := ⟨_, rfl⟩
      rw [← Hl0.out] at hO hsuc Hbd
      have C0 := hid c0
      have C1 := hid c1
      have C2 := hid c2
      have C3 := hid c3
      clear c0 c1 c2 c3
      have HO := hid hO
      clear hO
      go_wp2
      go_loopw [3, 5] (fun v i wr => ∃ j : Nat, j ≤ m ∧ i = I j ∧ Below w.heap.size w wr ∧ w.heap.size + 1 ≤ wr.heap.size ∧ wr.cell? ⟨w.heap.size, 0, none⟩ = some (.slice (some ⟨g, o, none⟩) n c) ∧ ∃ fp, SlO stepT 78 (w.heap.size + 1) wr v (hopsTo k x l0 j) fp) (fun _ i _ => m - (intOf i).toNat)
      case atStart => exact ⟨0, by omega, rfl, hb, hs1, p0, fp, HO.out⟩
      case round =>
        obtain ⟨j, hj, rfl, hbi, hs2, q0, fpi, hOi⟩ := hrel
        clear HO p0 hb hs1
        obtain ⟨wi, rfl⟩ : ∃ wi : World, wi = wr := ⟨_, rfl⟩
        have d3 := ck hbi C3.out
        by_cases hjl : j < m
        · obtain ⟨g', o', q', y, e', hg', hyj, b0, b1, b2, b3, b4⟩ := hop_at hin (by rw [← Hm.out]; exact hjl)
          rw [← Hm.out] at e'
          cases e'
          have HS : Hid (∀ w', Below wi.heap.size wi w' → (w'.cell? ⟨w.heap.size, 0, none⟩ = some (.slice (some ⟨g, o, none⟩) n c) ∧ w'.cell? ⟨g, o + k * 4, none⟩ = some (I x.kind) ∧ w'.cell? ⟨g, o + k * 4 + 1, none⟩ = some (I x.ts) ∧ w'.cell? ⟨g, o + k * 4 + 2, none⟩ = some (I x.beta) ∧ w'.cell? ⟨g, o + k * 4 + 3, none⟩ = some (.slice (some ⟨g', o', none⟩) m d) ∧ w'.cell? ⟨g', o' + j * 5, none⟩ = some (I y.ia))) := fun w' hw => by
            have hx := ext_trans hbi hw
            exact ⟨ck hw q0, ck hx C0.out, ck hx C1.out, ck hx C2.out, ck hw d3, ck hx b0⟩
          clear b0 b1 b2 b3 b4
          obtain ⟨li, Hli⟩ : ∃ li, Hid (li = hopsTo k x l0 j) := ⟨_, rfl⟩
          have hlen : li.length ≤ 1048576 := by rw [Hli.out]; exact Hbd.out j hj
          have Hnx : Hid (hopsTo k x l0 (j + 1) = addHop k x li j) := by show _ = _; rw [hopsTo_succ, Hli.out]
          rw [← Hli.out] at hOi
          obtain ⟨Av, cv, ev, _⟩ := hOi.form
          subst ev
          have hR : ∀ w' : World, Below wi.heap.size wi w' → partT.R w' [I x.kind, I x.ts, I x.beta, .slice (some ⟨g', o', none⟩) m d] x := fun w' hw => by
            have := part_mk (d := x) (A3 := some ⟨g', o', none⟩) (cA3 := d) (w := w') (by rw [← Hm.out]; exact hin.below (ext_trans hbi hw))
            rw [← Hm.out] at this
            exact this
          obtain ⟨vi, Hvi⟩ : ∃ vi, Hid (vi = partIn x j) := ⟨_, rfl⟩
          obtain ⟨vo, Hvo⟩ : ∃ vo, Hid (vo = partOut x j) := ⟨_, rfl⟩
          have HI : Hid (∀ w', Below wi.heap.size wi w' → Calls Tryz.prog 82 #[.agg #[I x.kind, I x.ts, I x.beta, .slice (some ⟨g', o', none⟩) m d], I j] w' fun e w'' => e = .returned (I vi) ∧ Below w'.heap.size w' w'') := fun w' hw => by
            have := spec_PartIngress x _ j w' (hR w' hw) (by rw [← Hm.out]; exact hm2) (by omega)
            rw [Int.toNat_natCast, ← Hvi.out] at this
            exact this
          have HE : Hid (∀ w', Below wi.heap.size wi w' → Calls Tryz.prog 83 #[.agg #[I x.kind, I x.ts, I x.beta, .slice (some ⟨g', o', none⟩) m d], I j] w' fun e w'' => e = .returned (I vo) ∧ Below w'.heap.size w' w'') := fun w' hw => by
            have := spec_PartEgress x _ j w' (hR w' hw) (by rw [← Hm.out]; exact hm2) (by omega)
            rw [Int.toNat_natCast, ← Hvo.out] at this
            exact this
          clear hR
          go_upto_region 8 with fail
          go_cut [6] (fun s6 wx => ∃ g6, s6 = .pointer (some ⟨g6, 0, none⟩) ∧ wi.heap.size ≤ g6 ∧ Below wi.heap.size wi wx ∧ wx.cell? ⟨g6, 0, none⟩ = some (I y.ia) ∧ wx.cell? ⟨g6, 1, none⟩ = some (I vi) ∧ wx.cell? ⟨g6, 2, none⟩ = some (I vo) ∧ wx.frozen? ⟨g6, 1, none⟩ = false)
          case first =>
            go_region_held3 (fun w' => w'.cell? ⟨w.heap.size, 0, none⟩ = some (.slice (some ⟨g, o, none⟩) n c) ∧ w'.cell? ⟨g, o + k * 4, none⟩ = some (I x.kind) ∧ w'.cell? ⟨g, o + k * 4 + 1, none⟩ = some (I x.ts) ∧ w'.cell? ⟨g, o + k * 4 + 2, none⟩ = some (I x.beta) ∧ w'.cell? ⟨g, o + k * 4 + 3, none⟩ = some (.slice (some ⟨g', o', none⟩) m d) ∧ w'.cell? ⟨g', o' + j * 5, none⟩ = some (I y.ia))
              (first | exact HS.out _ x2 | exact HS.out _ x1 | exact HS.out _ (Below.refl _ _).drew | exact HS.out _ (ext_alloc x2 _) | exact HS.out _ (ext_alloc x1 _) | exact HS.out _ (ext_alloc (Below.refl _ _).drew _) | exact HS.out _ (below_set (below_set (below_set x2 x1.size _) x1.size _) x1.size _) | exact HS.out _ (below_set (below_set (below_set x2 (Nat.le_refl _) _) (Nat.le_refl _) _) (Nat.le_refl _) _) | go_keep | (trace_state; fail))
              (first
                | (go_at_call 82; refine (HI.out _ ?_).mono ?_; (first | exact (Below.refl _ _).drew | exact ext_alloc (Below.refl _ _).drew _); rintro e w1 ⟨rfl, hb1⟩; have x1 : Below wi.heap.size wi w1 := (by (first | exact ext_trans (Below.refl _ wi).drew hb1 | exact ext_trans (ext_alloc (Below.refl _ wi).drew _) hb1)))
                | (go_at_call 83; refine (HE.out _ ?_).mono ?_; (first | exact x1 | exact ext_alloc x1 _); rintro e w2 ⟨rfl, hb2⟩; have x2 : Below wi.heap.size wi w2 := (by (first | exact ext_trans x1 hb2 | exact ext_trans (ext_alloc x1 _) hb2)); (first | (have T := nb3 hb2; obtain ⟨t0, t1, t2, t3, t4, t5⟩ := T) | (have T := nb3d (ext_trans hb1 hb2); obtain ⟨t0, t1, t2, t3, t4, t5⟩ := T) | skip)))
            all_goals (go_wp2_with fail; go_meet)
            all_goals (first
              | exact ⟨_, rfl, x2.size, ext_alloc x2 _, by simp, by simp, by simp, by simp⟩
              | exact ⟨_, rfl, x1.size, below_set (below_set (below_set x2 x1.size _) x1.size _) x1.size _, box3 t0 t1 t2 t4⟩
              | exact ⟨wi.heap.size, rfl, Nat.le_refl _, below_set (below_set (below_set x2 (Nat.le_refl _) _) (Nat.le_refl _) _) (Nat.le_refl _) _, box3 t0 t1 t2 t4⟩
              | trace_state)
          case rest =>
            obtain ⟨g6, rfl, hg6, hbc, t0, t1, t2, tf⟩ := hcut
            have hOc := hOi.below hbc
            have Hq0 := hid (ck hbc q0)
            have Hd3 := hid (ck hbc d3)
            have hwc := hbc.size
            have Hlo := hid fun b hb => (hOi.size_ok b hb).1
            have hgn : Hid (g6 ∉ fpi) := fun hm => by have := (hOi.size_ok _ hm).2; omega
            have Hxc := hid (ext_trans hbi hbc)
            have hlt6 : g6 < wc.heap.size := World.block_lt_of_cell? wc _ t0
            clear HS HI HE q0 d3 hbi hOi
            obtain ⟨wq, rfl⟩ : ∃ wq : World, wq = wc := ⟨_, rfl⟩
            go_upto_region 10 with fail
            go_cut [3, 7, 76] (fun s3 s7 s76 wx => s3 = .slice Av li.length cv ∧ s7 = I (li.length : Int) ∧ s76 = .bool (joinAt k x li j) ∧ ∃ nn, wx = wq.drewN nn)
            case first =>
              rcases Nat.eq_zero_or_pos k with hk0 | hk0
              · have g1 : decide (0 < k) = false := by simp; omega
                have g1' : decide ((0 : Int) < k) = false := by simp; omega
                have hJ : Hid (joinAt k x li j = false) := by show _ = _; simp [joinAt, hk0]
                clear hk0
                go_quiet (fail)
                go_wp2_with fail
                go_meet
                exact ⟨rfl, rfl, by rw [hJ.out], _, rfl⟩
              · have g1 : decide (0 < k) = true := by simp; omega
                have g1' : decide ((0 : Int) < k) = true := by simp; omega
                rcases Nat.eq_zero_or_pos j with hj0 | hj0
                · have g2 : ((j : Int) == 0) = true := by simp; omega
                  have g2' : (j == 0) = true := by simp; omega
                  rcases Nat.eq_zero_or_pos li.length with hl0 | hl0
                  · have g3 : decide ((0 : Int) < (li.length : Int)) = false := decide_eq_false (by omega)
                    have g3' : decide (0 < li.length) = false := decide_eq_false (by omega)
                    have hJ : Hid (joinAt k x li j = false) := by show _ = _; simp [joinAt, hl0]
                    clear hj0 hl0 hk0
                    go_quiet (fail)
                    go_wp2_with fail
                    go_meet
                    exact ⟨rfl, rfl, by rw [hJ.out], _, rfl⟩
                  · obtain ⟨L, HL⟩ : ∃ L, li.length = L + 1 := ⟨li.length - 1, by omega⟩
                    obtain ⟨gs, os, qs, sl, es, hgs, hsl, s0, s1, s2⟩ := step_at (k := L) hOc.read (by omega)
                    have hL : lastOf li = sl := lastOf_at (by rw [HL]; exact hsl.out)
                    cases es
                    have g3 : decide ((0 : Int) < ((L + 1 : Nat) : Int)) = true := decide_eq_true (by omega)
                    have g3' : decide (0 < L + 1) = true := by simp
                    have hL2 : L ≤ 1048576 := by omega
                    have hL3 : L < L + 1 := Nat.lt_succ_self L
                    rw [HL] at hOc ⊢
                    have hJ : Hid (joinAt k x li j = (sl.ia == y.ia)) := by show _ = _; simp only [joinAt, hL, hopIa_at hyj.out, HL]; simp [hk0, hj0]
                    have HL' := hid HL
                    clear hj0 hk0 hl0 HL hL
                    go_quiet (fail)
                    go_wp2_with fail
                    go_meet
                    exact ⟨by rw [HL'.out], by rw [HL'.out], by rw [hJ.out], _, rfl⟩
                · have g2 : ((j : Int) == 0) = false := by simp; omega
                  have g2' : (j == 0) = false := by simp; omega
                  have hJ : Hid (joinAt k x li j = false) := by show _ = _; simp [joinAt]; omega
                  clear hj0 hk0
                  go_quiet (fail)
                  go_wp2_with fail
                  go_meet
                  exact ⟨rfl, rfl, by rw [hJ.out], _, rfl⟩
            case rest =>
              obtain ⟨rfl, rfl, rfl, nn, rfl⟩ := hcut
              cases hJ : joinAt k x li j
              · have HJ := hid hJ
                clear hJ
                go_wp2_with ((at_builtin; refine wpList_cat step_flat (.tmp 88) (.tmp 90) et_step (SlO.alloc (hOc.drewN nn) _) (lit_one (wq.drewN nn) 78 (⟨y.ia, vi, vo⟩ : Stp) 1 wq.heap.size (Nat.le_refl _) rfl #[I y.ia, I vi, I vo] (fun _ => rfl)) ?_ ?_ ?_ rfl rfl rfl rfl ?_))
                · simp; omega
                · simp [maxLen]; omega
                · have := Hxc.out.size; simp; omega
                · intro v1 w1 fp1 hO1 hfp1 hkp1
                  have hq := Hxc.out.size
                  have x1 : Below w.heap.size w w1 := (ext_alloc (below_drewN Hxc.out nn) _).trans (hkp1.below (fun b hb => by have := Hlo.out b hb; omega) (by simp; omega))
                  have pc := hkp1.ck (ck (ext_alloc1 _ _) (ck (below_drewN (Below.refl _ _) nn) Hq0.out)) (fun hm => by have := Hlo.out _ hm; omega)
                  have z1 : w.heap.size + 1 ≤ w1.heap.size := by have := hkp1.size; simp at this; omega
                  go_wp2
                  go_roundw
                  case rel => exact ⟨j + 1, by omega, by go_num, x1, z1, pc, fp1, by rw [Hnx.out, addHop_new HJ.out, hopIa_at hyj.out, ← Hvi.out, ← Hvo.out]; exact hO1⟩
                  case measure => simp [intOf]; omega
              · obtain ⟨hk0, hj0, hl0, hia⟩ : 0 < k ∧ j = 0 ∧ 0 < li.length ∧ (lastOf li).ia = hopIa x j := by
                  have := hJ
                  unfold joinAt at this
                  simp only [Bool.and_eq_true, decide_eq_true_eq, beq_iff_eq] at this
                  exact this
                obtain ⟨L, HL⟩ : ∃ L, li.length = L + 1 := ⟨li.length - 1, by omega⟩
                obtain ⟨gs, os, qs, sl, es, hgs, hsl, s0, s1, s2⟩ := step_at (k := L) hOc.read (by omega)
                have hL : lastOf li = sl := lastOf_at (by rw [HL]; exact hsl.out)
                obtain ⟨ga, ca, ea, hga, hgb, hgc, hgd, hgf⟩ := hOc.addr (by omega)
                cases ea
                cases es
                rw [Nat.zero_add] at s0 s1 s2
                have hcv : L ≤ cv := by omega
                rw [hL, hopIa_at hyj.out] at hia
                have Hfin : Hid (li.take L ++ [(⟨y.ia, sl.ing, vo⟩ : Stp)] = addHop k x li j) := by
                  show _ = _
                  rw [addHop_join hJ, hL, ← Hvo.out]
                  have e := take_set li { sl with eg := vo } (by omega)
                  rw [HL] at e ⊢
                  simp only [Nat.add_sub_cancel] at e ⊢
                  rw [← e, ← hia]
                have hT : (li.take L).length = L := by rw [List.length_take]; omega
                have HL' := hid HL
                have hL2 : L ≤ 1048576 := by omega
                have hL3 : L < L + 1 := Nat.lt_succ_self L
                have HJ := hid hJ
                have hne : g6 ≠ gs := fun e => hgn.out (e ▸ hga)
                rw [HL] at hOc ⊢
                have hOs : SlO stepT 78 (w.heap.size + 1) ((wq.drewN nn).setCell ⟨g6, 1, none⟩ (I sl.ing)) (.slice (some ⟨gs, 0, none⟩) (L + 1) cv) li fpi := (hOc.drewN nn).kept ((Kept.refl [g6] _).setCell (p := ⟨g6, 1, none⟩) (by simp) _) (fun b hb hm => hgn.out (by simp at hm; rw [hm] at hb; exact hb))
                obtain ⟨fpc, hOx, hsub⟩ := hOs.cut (m := L) HL'.out.symm (by omega)
                have HOx := hid hOx
                have Hsub := hid hsub
                clear hJ hj0 hk0 hl0 HL hL hia hOs hOx hsub hgf hgc hgb
                go_wp2_with ((at_builtin; refine wpList_cat step_flat (.tmp 88) (.tmp 90) et_step (SlO.alloc HOx.out _) (lit_one ((wq.drewN nn).setCell ⟨g6, 1, none⟩ (I sl.ing)) 78 (⟨y.ia, sl.ing, vo⟩ : Stp) 1 wq.heap.size (Nat.le_refl _) (by simp) #[I y.ia, I sl.ing, I vo] (fun _ => rfl)) ?_ ?_ ?_ rfl rfl rfl rfl ?_))
                · rw [hT]; simp; omega
                · rw [hT]; simp [maxLen]; omega
                · have := Hxc.out.size; simp; omega
                · intro v1 w1 fp1 hO1 hfp1 hkp1
                  have hq := Hxc.out.size
                  have x1 : Below w.heap.size w w1 := (ext_alloc (ext_set (below_drewN Hxc.out nn) (by omega) _) _).trans (hkp1.below (fun b hb => by have := Hlo.out b (Hsub.out b hb); omega) (by simp; omega))
                  have pc := hkp1.ck (ck (ext_alloc1 _ _) (((Kept.refl [g6] (wq.drewN nn)).setCell (p := ⟨g6, 1, none⟩) (by simp) (I sl.ing)).ck (ck (below_drewN (Below.refl _ _) nn) Hq0.out) (by simp; omega))) (fun hm => by have := Hlo.out _ (Hsub.out _ hm); omega)
                  have z1 : w.heap.size + 1 ≤ w1.heap.size := by have := hkp1.size; simp at this; omega
                  go_wp2
                  go_roundw
                  case rel => exact ⟨j + 1, by omega, by go_num, x1, z1, pc, fp1, by rw [Hnx.out, ← Hfin.out]; exact hO1⟩
                  case measure => simp [intOf]; omega
        · have hjm : j = m := by omega
          subst hjm
          go_wp2
          go_roundw
          case rel => exact ⟨k + 1, by omega, by go_num, hbi, hs2, q0, fpi, by rw [hsuc.out]; exact hOi⟩
          case measure => simp [intOf]; omega
    · have hkn : k = n := by omega
      subst hkn
      rw [H.out] at hO
      obtain ⟨l, Hl⟩ : ∃ l, Hid (l = rawSteps p p.length) := ⟨_, rfl⟩
      have Hps : Hid (pathSteps p = cutLast (cutFirst l)) := by show _ = _; rw [Hl.out]; rfl
      have hlen : l.length ≤ 1048576 := by rw [Hl.out]; exact Nat.le_trans (rawSteps_bound _ _) Hz.out
      rw [← Hl.out] at hO
      obtain ⟨Av, cv, ev, _⟩ := hO.form
      subst ev
      rcases Nat.eq_zero_or_pos l.length with hl0 | hl0
      · have hlz : l = [] := List.length_eq_zero_iff.1 hl0
        subst hlz
        go_wp2
        go_ret
        exact ⟨_, fp, rfl, by rw [Hps.out]; exact hO.mono (by omega), hb⟩
      · obtain ⟨L, HL⟩ : ∃ L, l.length = L + 1 := ⟨l.length - 1, by omega⟩
        have hL2 : L ≤ 1048576 := by omega
        obtain ⟨g, ca, ea, hga, hgb, hgc, hgd, hgf⟩ := hO.addr (by omega)
        cases ea
        have f0 := hgf 0
        have f1 := hgf 1
        have f2 := hgf 2
        obtain ⟨g1, o1, q1, sf, e1, _, hsf, r0, r1, r2⟩ := step_at (k := 0) hO.read (by omega)
        cases e1
        simp only [Nat.zero_mul, Nat.zero_add, Nat.add_zero] at r0 r1 r2
        have hO1 := put3 (i := 0) hO rfl hsf.out sf.ia 0 sf.eg
        simp only [Nat.zero_mul, Nat.zero_add] at hO1
        have e2 : l.set 0 (⟨sf.ia, 0, sf.eg⟩ : Stp) = cutFirst l := by unfold cutFirst; rw [firstOf_at hsf.out]
        rw [e2] at hO1
        have hcl : (cutFirst l).length = l.length := by unfold cutFirst; simp
        obtain ⟨W1, HW1⟩ : ∃ W1, Hid (W1 = ((wo.setCell ⟨g, 0, none⟩ (I sf.ia)).setCell ⟨g, 1, none⟩ (I 0)).setCell ⟨g, 2, none⟩ (I sf.eg)) := ⟨_, rfl⟩
        rw [← HW1.out] at hO1
        have hgw : w.heap.size ≤ g := by omega
        have X1 : Below w.heap.size w W1 := by rw [HW1.out]; exact ext_set (ext_set (ext_set hb hgw _) hgw _) hgw _
        obtain ⟨g2, o2, q2, sg, e2', _, hsg, t0, t1, t2⟩ := step_at (k := L) hO1.read (by omega)
        rw [hcl] at e2'
        cases e2'
        rw [Nat.zero_add] at t0 t1 t2
        have hO2 := put3 (i := L) hO1 hcl.symm hsg.out sg.ia sg.ing 0
        have e3 : (cutFirst l).set L (⟨sg.ia, sg.ing, 0⟩ : Stp) = cutLast (cutFirst l) := by
          have hh : (cutFirst l).length - 1 = L := by omega
          unfold cutLast
          rw [lastOf_at (by rw [hh]; exact hsg.out), hh]
        rw [e3, ← Hps.out] at hO2
        obtain ⟨g3, c3, e4, _, _, _, hg3, hf3⟩ := hO1.addr (by omega)
        rw [hcl] at e4
        cases e4
        have k0 := hf3 (L * 3)
        have k1 := hf3 (L * 3 + 1)
        have k2 := hf3 (L * 3 + 2)
        have hgW : g < W1.heap.size := World.block_lt_of_cell? W1 _ t0
        have hX2 := hid (ext_set (ext_set (ext_set X1 hgw (j := L * 3) (I sg.ia)) hgw (j := L * 3 + 1) (I sg.ing)) hgw (j := L * 3 + 2) (I 0))
        rw [HL] at hO hO1 hO2 ⊢
        have HO2 := hid (hO2.mono (base' := w.heap.size) (by omega))
        clear hO2 hO1 hO e2 e3 hl0
        go_upto_region 18 with fail
        rw [← HW1.out]
        clear r0 r1 r2 f0 f1 f2 hgf hf3
        go_wp2
        go_ret
        refine ⟨_, fp, rfl, ?_, ?_⟩
        · exact (HO2.out.alloc _).alloc _
        · exact ext_alloc (ext_alloc hX2.out _) _
end Go.Proofs.YtdaecknfahgddaaGreat
namespace Go.Proofs.YtdaecknfahgddaaGreat
open Go.RowKit
set_option linter.unusedVariables false
theorem impl_hasInt (l : List Int) (v : Value) (x : Int) (w : World) (h : SlR intT w v l) (hn : l.length ≤ 16777216) : Calls Tryz.prog 67 #[v, I x] w fun e w' => e = .returned (.bool (l.contains x)) ∧ w = w' := by
  obtain ⟨A, c, rfl, _⟩ := h.form
  obtain ⟨n, H⟩ : ∃ n, Hid (n = l.length) := ⟨_, rfl⟩
  obtain ⟨r, Hr⟩ : ∃ r, Hid (r = l.contains x) := ⟨_, rfl⟩
  rw [← Hr.out]
  rw [← H.out] at h hn ⊢
  go_enter Tryz.func67, Tryz.ntmps67
  go_wp2
  go_loop [9] (fun i => ∃ k : Nat, k ≤ n ∧ i = I k ∧ (l.take k).contains x = false) (fun i => n - (intOf i).toNat)
  case atStart => exact ⟨0, by omega, rfl, rfl⟩
  case round =>
    obtain ⟨k, hk, rfl, hc⟩ := hrel
    have Hc := hid hc
    clear hc
    by_cases hlt : k < n
    · obtain ⟨g, o, q, y, e, hg, hyk, c0⟩ := int_at h (by rw [← H.out]; exact hlt)
      rw [← H.out] at e
      cases e
      cases hb : (y == x)
      · have HS : Hid ((l.take (k + 1)).contains x = false) := by
          show _ = _
          rw [take_succ hyk.out, List.contains_eq_mem, decide_eq_false_iff_not, List.mem_append, List.mem_singleton]
          have h1 := Hc.out
          rw [List.contains_eq_mem, decide_eq_false_iff_not] at h1
          have h2 : ¬ y = x := by simpa using hb
          rintro (h | h)
          · exact h1 h
          · exact h2 h.symm
        go_wp2
        go_round
        case rel => exact ⟨k + 1, by omega, by go_num, HS.out⟩
        case measure => simp [intOf]; omega
      · have HT : Hid (r = true) := by
          show _ = _
          have h2 : y = x := by simpa using hb
          rw [Hr.out, List.contains_eq_mem, decide_eq_true_eq, ← h2]
          exact List.mem_of_getElem? hyk.out
        go_wp2
        go_ret
        exact ⟨by rw [HT.out]; rfl, rfl⟩
    · have hkn : k = n := by omega
      have HT : Hid (r = false) := by
        show _ = _
        have h1 := Hc.out
        rw [List.take_of_length_le (by rw [← H.out]; omega)] at h1
        rw [Hr.out, h1]
      go_wp2
      go_ret
      exact ⟨by rw [HT.out]; rfl, rfl⟩
theorem spec_l9Has (l : List Int) (v : Value) (x : Int) (w : World) (h : SlR intT w v l) (hn : l.length ≤ 16777216) : Calls Tryz.prog 68 #[v, I x] w fun e w' => e = .returned (.bool (l.contains x)) ∧ w = w' := by
  obtain ⟨A, c, rfl, _⟩ := h.form
  obtain ⟨n, H⟩ : ∃ n, Hid (n = l.length) := ⟨_, rfl⟩
  obtain ⟨r, Hr⟩ : ∃ r, Hid (r = l.contains x) := ⟨_, rfl⟩
  rw [← Hr.out]
  rw [← H.out] at h hn ⊢
  go_enter Tryz.func68, Tryz.ntmps68
  go_wp2
  go_loop [5] (fun i => ∃ k : Nat, k ≤ n ∧ i = I k ∧ (l.take k).contains x = false) (fun i => n - (intOf i).toNat)
  case atStart => exact ⟨0, by omega, rfl, rfl⟩
  case round =>
    obtain ⟨k, hk, rfl, hc⟩ := hrel
    have Hc := hid hc
    clear hc
    by_cases hlt : k < n
    · obtain ⟨g, o, q, y, e, hg, hyk, c0⟩ := int_at h (by rw [← H.out]; exact hlt)
      rw [← H.out] at e
      cases e
      cases hb : (y == x)
      · have HS : Hid ((l.take (k + 1)).contains x = false) := by
          show _ = _
          rw [take_succ hyk.out, List.contains_eq_mem, decide_eq_false_iff_not, List.mem_append, List.mem_singleton]
          have h1 := Hc.out
          rw [List.contains_eq_mem, decide_eq_false_iff_not] at h1
          have h2 : ¬ y = x := by simpa using hb
          rintro (h | h)
          · exact h1 h
          · exact h2 h.symm
        go_wp2
        go_round
        case rel => exact ⟨k + 1, by omega, by go_num, HS.out⟩
        case measure => simp [intOf]; omega
      · have HT : Hid (r = true) := by
          show _ = _
          have h2 : y = x := by simpa using hb
          rw [Hr.out, List.contains_eq_mem, decide_eq_true_eq, ← h2]
          exact List.mem_of_getElem? hyk.out
        go_wp2
        go_ret
        exact ⟨by rw [HT.out]; rfl, rfl⟩
    · have hkn : k = n := by omega
      have HT : Hid (r = false) := by
        show _ = _
        have h1 := Hc.out
        rw [List.take_of_length_le (by rw [← H.out]; omega)] at h1
        rw [Hr.out, h1]
      go_wp2
      go_ret
      exact ⟨by rw [HT.out]; rfl, rfl⟩
/-- The number of an interface. -/
def nm (a b : Int) : Int := wrap64 (wrap64 (8 * a) + b)
def stepNums (s : Stp) : List Int := (if s.ing = 0 then [] else [nm s.ia s.ing]) ++ (if s.eg = 0 then [] else [nm s.ia s.eg])
def nums (l : List Stp) : List Int := l.flatMap stepNums
theorem nums_len (l : List Stp) : (nums l).length ≤ 2 * l.length := by
  induction l with
  | nil => simp [nums]
  | cons a t ih =>
    have h1 : (stepNums a).length ≤ 2 := by unfold stepNums; split <;> split <;> simp
    have h2 : nums (a :: t) = stepNums a ++ nums t := rfl
    rw [h2, List.length_append, List.length_cons]
    omega
theorem nums_snoc {l : List Stp} {k : Nat} {s : Stp} (h : l[k]? = some s) : nums (l.take (k + 1)) = nums (l.take k) ++ stepNums s := by
  rw [take_succ h]; unfold nums; rw [List.flatMap_append]; simp
theorem nums_take_len (l : List Stp) (k : Nat) : (nums (l.take k)).length ≤ 2 * l.length := by
  have h1 := nums_len (l.take k)
  have h2 : (l.take k).length ≤ l.length := by rw [List.length_take]; omega
  omega
theorem sn00 {s : Stp} (h1 : (s.ing != 0) = false) (h2 : (s.eg != 0) = false) : stepNums s = [] := by
  have e1 : s.ing = 0 := (by simpa using h1)
  have e2 : s.eg = 0 := (by simpa using h2)
  simp [stepNums, e1, e2]
theorem sn01 {s : Stp} (h1 : (s.ing != 0) = false) (h2 : (s.eg != 0) = true) : stepNums s = [nm s.ia s.eg] := by
  have e1 : s.ing = 0 := (by simpa using h1)
  have e2 : ¬ s.eg = 0 := (by simpa using h2)
  simp [stepNums, e1, e2]
theorem sn10 {s : Stp} (h1 : (s.ing != 0) = true) (h2 : (s.eg != 0) = false) : stepNums s = [nm s.ia s.ing] := by
  have e1 : ¬ s.ing = 0 := (by simpa using h1)
  have e2 : s.eg = 0 := (by simpa using h2)
  simp [stepNums, e1, e2]
theorem sn11 {s : Stp} (h1 : (s.ing != 0) = true) (h2 : (s.eg != 0) = true) : stepNums s = [nm s.ia s.ing] ++ [nm s.ia s.eg] := by
  have e1 : ¬ s.ing = 0 := (by simpa using h1)
  have e2 : ¬ s.eg = 0 := (by simpa using h2)
  simp [stepNums, e1, e2]
theorem one_int (w : World) (a : Int) : intT.R w [I a] a := rfl
theorem nm_w (a b : Int) : IntKind.i64.wrap (IntKind.i64.wrap (8 * a) + b) = nm a b := by
  have h : ∀ x, IntKind.i64.wrap x = wrap64 x := fun x => Go.IntWalk.i64_left x
  unfold nm; rw [h, h]
set_option maxRecDepth 100000 in
set_option maxHeartbeats 4000000 in
theorem impl_numbered (l : List Stp) (v : Value) (w : World) (h : SlR stepT w v l) (hn : l.length ≤ 1048576) :
    Calls Tryz.prog 79 #[v] w fun r w' => ∃ v' fp, r = .returned v' ∧ SlO intT 3 w.heap.size w' v' (nums l) fp ∧ Below w.heap.size w w' := by
  obtain ⟨A, c, rfl, _⟩ := h.form
  obtain ⟨n, H⟩ : ∃ n, Hid (n = l.length) := ⟨_, rfl⟩
  rw [← H.out] at h hn ⊢
  go_enter Tryz.func79, Tryz.ntmps79
  go_wp2
  go_loopw [3, 8] (fun v i wr => ∃ k : Nat, k ≤ n ∧ i = I k ∧ Below w.heap.size w wr ∧ ∃ fp, SlO intT 3 w.heap.size wr v (nums (l.take k)) fp) (fun _ i _ => n - (intOf i).toNat)
  case atStart => exact ⟨0, by omega, rfl, Below.refl _ _, [], SlO.nil⟩
  case round =>
    obtain ⟨k, hk, rfl, hb, fp, hO⟩ := hrel
    by_cases hlt : k < n
    · obtain ⟨g, o, q, s, e, hg, hsk, c0, c1, c2⟩ := step_at (h.below hb) (by rw [← H.out]; exact hlt)
      rw [← H.out] at e
      cases e
      have hl : (nums (l.take k)).length ≤ 2097152 := by have := nums_take_len l k; have := H.out; omega
      have HN : Hid (nums (l.take (k + 1)) = nums (l.take k) ++ stepNums s) := nums_snoc hsk.out
      obtain ⟨li, Hli⟩ : ∃ li, Hid (li = nums (l.take k)) := ⟨_, rfl⟩
      rw [← Hli.out] at hO hl HN
      obtain ⟨Av, cv, ev, _⟩ := hO.form
      subst ev
      have hlo := hid fun b hb => (hO.size_ok b hb)
      have hws := hb.size
      obtain ⟨a1, Ha1⟩ : ∃ a, Hid (a = nm s.ia s.ing) := ⟨_, rfl⟩
      obtain ⟨a2, Ha2⟩ : ∃ a, Hid (a = nm s.ia s.eg) := ⟨_, rfl⟩
      cases g1 : (s.ing != 0) <;> cases g2 : (s.eg != 0)
      · have HQ : Hid (stepNums s = []) := sn00 g1 g2
        go_wp2
        go_roundw
        case rel => exact ⟨k + 1, by omega, by go_num, ext_alloc hb _, fp, by rw [HN.out, HQ.out, List.append_nil]; exact hO.alloc _⟩
        case measure => simp [intOf]; omega
      · have HQ : Hid (stepNums s = [a2]) := by show _ = _; rw [Ha2.out]; exact sn01 g1 g2
        go_wp2_with ((at_builtin; refine wpList_cat int_flat (.tmp 27) (.tmp 34) et_int (SlO.alloc (SlO.alloc hO _) _) (lit_read (wr.alloc _) 3 I one_int [nm s.ia s.eg] 1 (Nat.le_refl _) (wr.heap.size + 1) 1 (by simp) rfl _ rfl) ?_ ?_ ?_ rfl rfl rfl rfl ?_))
        · simp; omega
        · simp [maxLen]; omega
        · simp; omega
        · intro v1 w1 fp1 hO1 hfp1 hkp1
          have x1 : Below w.heap.size w w1 := (ext_alloc (ext_alloc hb _) _).trans (hkp1.below (fun b hb => (hlo.out b hb).1) (by simp; omega))
          go_wp2
          go_roundw
          case rel => exact ⟨k + 1, by omega, by go_num, x1, fp1, by rw [HN.out, HQ.out, Ha2.out]; exact hO1⟩
          case measure => simp [intOf]; omega
      · have HQ : Hid (stepNums s = [a1]) := by show _ = _; rw [Ha1.out]; exact sn10 g1 g2
        go_wp2_with ((at_builtin; refine wpList_cat int_flat (.tmp 15) (.tmp 22) et_int (SlO.alloc (SlO.alloc hO _) _) (lit_read (wr.alloc _) 3 I one_int [nm s.ia s.ing] 1 (Nat.le_refl _) (wr.heap.size + 1) 1 (by simp) rfl _ rfl) ?_ ?_ ?_ rfl rfl rfl rfl ?_))
        · simp; omega
        · simp [maxLen]; omega
        · simp; omega
        · intro v1 w1 fp1 hO1 hfp1 hkp1
          have x1 : Below w.heap.size w w1 := (ext_alloc (ext_alloc hb _) _).trans (hkp1.below (fun b hb => (hlo.out b hb).1) (by simp; omega))
          have b2 : w1.cell? ⟨wr.heap.size, 2, none⟩ = some (I s.eg) := hkp1.ck (ck (ext_alloc1 _ _) (by simp)) (fun hm => by have := (hlo.out _ hm).2; omega)
          go_wp2
          go_roundw
          case rel => exact ⟨k + 1, by omega, by go_num, x1, fp1, by rw [HN.out, HQ.out, Ha1.out]; exact hO1⟩
          case measure => simp [intOf]; omega
      · have HQ : Hid (stepNums s = [a1] ++ [a2]) := by show _ = _; rw [Ha1.out, Ha2.out]; exact sn11 g1 g2
        go_wp2_with ((at_builtin; refine wpList_cat int_flat (.tmp 15) (.tmp 22) et_int (SlO.alloc (SlO.alloc hO _) _) (lit_read (wr.alloc _) 3 I one_int [nm s.ia s.ing] 1 (Nat.le_refl _) (wr.heap.size + 1) 1 (by simp) rfl _ rfl) ?_ ?_ ?_ rfl rfl rfl rfl ?_))
        · simp; omega
        · simp [maxLen]; omega
        · simp; omega
        · intro v1 w1 fp1 hO1 hfp1 hkp1
          have x1 : Below w.heap.size w w1 := (ext_alloc (ext_alloc hb _) _).trans (hkp1.below (fun b hb => (hlo.out b hb).1) (by simp; omega))
          have b0 : w1.cell? ⟨wr.heap.size, 0, none⟩ = some (I s.ia) := hkp1.ck (ck (ext_alloc1 _ _) (by simp)) (fun hm => by have := (hlo.out _ hm).2; omega)
          have b2 : w1.cell? ⟨wr.heap.size, 2, none⟩ = some (I s.eg) := hkp1.ck (ck (ext_alloc1 _ _) (by simp)) (fun hm => by have := (hlo.out _ hm).2; omega)
          have hx := x1.size
          have hlo1 := hid fun b hb => (hO1.size_ok b hb)
          have hl1 : (li ++ [nm s.ia s.ing]).length ≤ 2097153 := by simp; omega
          go_wp2_with ((at_builtin; refine wpList_cat int_flat (.tmp 27) (.tmp 34) et_int (SlO.alloc hO1 _) (lit_read w1 3 I one_int [nm s.ia s.eg] 1 (Nat.le_refl _) w1.heap.size 1 rfl rfl _ rfl) ?_ ?_ ?_ rfl rfl rfl rfl ?_))
          · simp at hl1 ⊢; omega
          · simp [maxLen] at hl1 ⊢; omega
          · simp; omega
          · intro v2 w2 fp2 hO2 hfp2 hkp2
            have x2 : Below w.heap.size w w2 := (ext_alloc x1 _).trans (hkp2.below (fun b hb => (hlo1.out b hb).1) (by simp; omega))
            go_wp2
            go_roundw
            case rel => exact ⟨k + 1, by omega, by go_num, x2, fp2, by rw [HN.out, HQ.out, Ha1.out, Ha2.out]; exact hO2⟩
            case measure => simp [intOf]; omega
    · have hkn : k = n := by omega
      subst hkn
      rw [H.out, List.take_length] at hO
      go_wp2
      go_ret
      exact ⟨_, fp, rfl, hO, hb⟩
set_option maxRecDepth 100000 in
theorem impl_InterfacesUsed (p : Path) (cs : List Value) (w : World) (h : pathT.R w cs p) (hz : sz_path p ≤ 1048576) (hl : lenOk_path p) (hg : rng_path p) :
    Calls Tryz.prog 25 #[.agg cs.toArray] w fun r w' => ∃ v fp, r = .returned v ∧ SlO intT 3 w.heap.size w' v (nums (pathSteps p)) fp ∧ Below w.heap.size w w' := by
  have h0 := h
  obtain ⟨A, c, rfl, _⟩ := path_form h
  have hsl := Nat.le_trans (pathSteps_len p) hz
  have HC := hid fun w' (hw : Below w.heap.size w w') => impl_PathSteps p _ w' (pathT.kp h0 hw) hz hl hg
  clear hz hl hg h h0
  have hb0 : Below w.heap.size w (w.alloc (.cells #[.slice A (List.length p) c] 30)) := ext_alloc1 _ _
  go_enter Tryz.func25, Tryz.ntmps25
  go_wp2_with (fail)
  refine (HC.out _ hb0).mono ?_
  rintro e w1 ⟨v1, fp1, rfl, hO1, hb1⟩
  go_wp2_with (fail)
  refine (impl_numbered _ _ _ hO1.read hsl).mono ?_
  rintro e w2 ⟨v2, fp2, rfl, hO2, hb2⟩
  have x1 := ext_trans hb0 hb1
  have hs := x1.size
  go_wp2_with (fail)
  go_ret
  exact ⟨_, fp2, rfl, hO2.mono hs, ext_trans x1 hb2⟩
set_option maxRecDepth 100000 in
set_option maxHeartbeats 4000000 in
theorem spec_InterfacesUsed (p : Path) (cs : List Value) (w : World) (h : pathT.R w cs p) (hz : sz_path p ≤ 1048576) (hl : lenOk_path p) (hg : rng_path p) :
    Calls Tryz.prog 26 #[.agg cs.toArray] w fun r w' => ∃ v fp, r = .returned v ∧ SlO intT 3 w.heap.size w' v (nums (pathSteps p)) fp ∧ Below w.heap.size w w' := by
  have h0 := h
  obtain ⟨A, c, rfl, _⟩ := path_form h
  have hn := Nat.le_trans (pathSteps_len p) hz
  have HC := hid fun w' (hw : Below w.heap.size w w') => spec_PathSteps p _ w' (pathT.kp h0 hw) hz hl hg
  clear hz hl hg h h0
  obtain ⟨l, Hl⟩ : ∃ l, Hid (l = pathSteps p) := ⟨_, rfl⟩
  rw [← Hl.out] at HC hn ⊢
  have hb0 : Below w.heap.size w ((w.alloc (.cells #[.slice A (List.length p) c] 30)).alloc (.cells #[] 3)) := ext_alloc (ext_alloc1 _ _) _
  have hE : SlO intT 3 (w.heap.size + 1) ((w.alloc (.cells #[.slice A (List.length p) c] 30)).alloc (.cells #[] 3)) (.slice (some ⟨w.heap.size + 1, 0, none⟩) 0 0) [] [w.heap.size + 1] := by
    have := SlO.empty intT 3 (w.alloc (.cells #[.slice A (List.length p) c] 30))
    simpa using this
  have HE := hid hE
  clear hE
  go_enter Tryz.func26, Tryz.ntmps26
  go_wp2_with (fail)
  refine (HC.out _ hb0).mono ?_
  rintro e w1 ⟨v1, fps, rfl, hO1, hb1⟩
  have hE1 := hid (HE.out.below hb1)
  have X1 := ext_trans hb0 hb1
  have hfs : Hid (∀ b ∈ fps, w.heap.size + 2 ≤ b ∧ b < w1.heap.size) := fun b hb => by have := hO1.size_ok b hb; simp at this; omega
  have hs1 : w.heap.size + 2 ≤ w1.heap.size := by have := hb1.size; simp at this; omega
  obtain ⟨A, c, rfl, _⟩ := hO1.form
  obtain ⟨n, H⟩ : ∃ n, Hid (n = l.length) := ⟨_, rfl⟩
  have HO1 := hid hO1
  rw [← H.out] at hn HO1 ⊢
  clear hb1 hb0 HE HC hO1
  go_wp2
  go_loopw [3, 5] (fun v i wr => ∃ k : Nat, k ≤ n ∧ i = I k ∧ Below w.heap.size w wr ∧ w1.heap.size ≤ wr.heap.size ∧ (∃ B, SlO stepT 78 B wr (.slice A n c) l fps) ∧ ∃ fp, SlO intT 3 (w.heap.size + 1) wr v (nums (l.take k)) fp ∧ ∀ b ∈ fp, b = w.heap.size + 1 ∨ w1.heap.size ≤ b) (fun _ i _ => n - (intOf i).toNat)
  case atStart => exact ⟨0, by omega, rfl, X1, Nat.le_refl _, ⟨_, HO1.out⟩, _, hE1.out, fun b hb => .inl (by simpa using hb)⟩
  case round =>
    obtain ⟨k, hk, rfl, hb, hsz, ⟨B0, hS⟩, fp, hO, hsep⟩ := hrel
    clear X1 hE1 HO1
    by_cases hlt : k < n
    · obtain ⟨g, o, q, s, e, hg, hsk, c0, c1, c2⟩ := step_at hS.read (by rw [← H.out]; exact hlt)
      rw [← H.out] at e
      cases e
      have hgf : g ∈ fps := by obtain ⟨ga, ca, ea, hga, _⟩ := hS.addr (by rw [← H.out]; omega); rw [← H.out] at ea; cases ea; exact hga
      have hgr := hfs.out g hgf
      have hgn : g ∉ fp := fun hm => by rcases hsep g hm with h | h <;> omega
      have hl : (nums (l.take k)).length ≤ 2097152 := by have := nums_take_len l k; have := H.out; omega
      have HN : Hid (nums (l.take (k + 1)) = nums (l.take k) ++ stepNums s) := nums_snoc hsk.out
      obtain ⟨li, Hli⟩ : ∃ li, Hid (li = nums (l.take k)) := ⟨_, rfl⟩
      rw [← Hli.out] at hO hl HN
      obtain ⟨Av, cv, ev, _⟩ := hO.form
      subst ev
      have hlo := hid fun b hb => (hO.size_ok b hb)
      have hws := hb.size
      have Hsep := hid hsep
      have HS := hid hS
      have Hfd : Hid (∀ b ∈ fps, b ∉ fp) := fun b hb hm => by have := hfs.out b hb; rcases hsep b hm with h | h <;> omega
      clear hsep hS
      obtain ⟨wo, rfl⟩ : ∃ wo : World, wo = wr := ⟨_, rfl⟩
      cases g1 : (s.ing != 0)
      · cases g2 : (s.eg != 0)
        · have HQ : Hid (stepNums s = []) := sn00 g1 g2
          go_wp2
          go_roundw
          case rel => exact ⟨k + 1, by omega, by go_num, hb, hsz, ⟨_, HS.out⟩, fp, by rw [HN.out, HQ.out, List.append_nil]; exact hO, Hsep.out⟩
          case measure => simp [intOf]; omega
        · have HQ : Hid (stepNums s = [nm s.ia s.eg]) := sn01 g1 g2
          go_wp2
          go_region_held3 (fun w' => w'.cell? ⟨g, o + k * 3, none⟩ = some (I s.ia) ∧ w'.cell? ⟨g, o + k * 3 + 1, none⟩ = some (I s.ing) ∧ w'.cell? ⟨g, o + k * 3 + 2, none⟩ = some (I s.eg))
            (first | exact ⟨c0, c1, c2⟩ | exact ⟨ck (ext_alloc1 _ _) c0, ck (ext_alloc1 _ _) c1, ck (ext_alloc1 _ _) c2⟩ | exact ⟨a0, a1, a2⟩ | go_keep)
            ((refine step_cat int_flat (.tmp 42) (.tmp 55) et_int (SlO.drew (SlO.alloc hO _)) ((lit_read wo 3 I one_int [IntKind.i64.wrap (IntKind.i64.wrap (8 * s.ia) + s.eg)] 1 (Nat.le_refl _) wo.heap.size 1 rfl rfl #[.int .i64 (IntKind.i64.wrap (IntKind.i64.wrap (8 * s.ia) + s.eg))] rfl).below (below_drew _)) (by simp; omega) (by simp [maxLen]; omega) (by simp; omega) (by rfl) (by rfl) (by rfl) (by rfl) ?_; intro v2 w2 fp2 hO2 hfp2 hkp2; rw [nm_w] at hO2; have a0 := hkp2.ck (show (World.drew (World.alloc wo _)).cell? ⟨g, o + k * 3, none⟩ = some (I s.ia) from ck (ext_alloc1 _ _) c0) hgn; have a1 := hkp2.ck (show (World.drew (World.alloc wo _)).cell? ⟨g, o + k * 3 + 1, none⟩ = some (I s.ing) from ck (ext_alloc1 _ _) c1) hgn; have a2 := hkp2.ck (show (World.drew (World.alloc wo _)).cell? ⟨g, o + k * 3 + 2, none⟩ = some (I s.eg) from ck (ext_alloc1 _ _) c2) hgn))
          have x2 : Below w.heap.size w w2 := ((ext_alloc hb _).drew).trans (hkp2.below (fun b hb => by have := (hlo.out b hb).1; omega) (by simp; omega))
          have hS2 := (HS.out.alloc (.cells #[.int .i64 (IntKind.i64.wrap (IntKind.i64.wrap (8 * s.ia) + s.eg))] 3)).drew.kept hkp2 Hfd.out
          have hz2 : wo.heap.size ≤ w2.heap.size := by have := hkp2.size; simp at this; omega
          go_wp2
          go_roundw
          case rel => exact ⟨k + 1, by omega, by go_num, x2, by omega, ⟨_, hS2⟩, fp2, by rw [HN.out, HQ.out]; exact hO2, fun b hb => by
            rcases hfp2 b hb with h | h
            · exact Hsep.out b h
            · right; simp at h; omega⟩
          case measure => simp [intOf]; omega
      · go_wp2
        go_region_held3 (fun w' => w'.cell? ⟨g, o + k * 3, none⟩ = some (I s.ia) ∧ w'.cell? ⟨g, o + k * 3 + 1, none⟩ = some (I s.ing) ∧ w'.cell? ⟨g, o + k * 3 + 2, none⟩ = some (I s.eg))
          (first | exact ⟨c0, c1, c2⟩ | exact ⟨ck (ext_alloc1 _ _) c0, ck (ext_alloc1 _ _) c1, ck (ext_alloc1 _ _) c2⟩ | exact ⟨a0, a1, a2⟩ | go_keep)
          ((refine step_cat int_flat (.tmp 21) (.tmp 34) et_int (SlO.drew (SlO.alloc hO _)) ((lit_read wo 3 I one_int [IntKind.i64.wrap (IntKind.i64.wrap (8 * s.ia) + s.ing)] 1 (Nat.le_refl _) wo.heap.size 1 rfl rfl #[.int .i64 (IntKind.i64.wrap (IntKind.i64.wrap (8 * s.ia) + s.ing))] rfl).below (below_drew _)) (by simp; omega) (by simp [maxLen]; omega) (by simp; omega) (by rfl) (by rfl) (by rfl) (by rfl) ?_; intro v2 w2 fp2 hO2 hfp2 hkp2; rw [nm_w] at hO2; have a0 := hkp2.ck (show (World.drew (World.alloc wo _)).cell? ⟨g, o + k * 3, none⟩ = some (I s.ia) from ck (ext_alloc1 _ _) c0) hgn; have a1 := hkp2.ck (show (World.drew (World.alloc wo _)).cell? ⟨g, o + k * 3 + 1, none⟩ = some (I s.ing) from ck (ext_alloc1 _ _) c1) hgn; have a2 := hkp2.ck (show (World.drew (World.alloc wo _)).cell? ⟨g, o + k * 3 + 2, none⟩ = some (I s.eg) from ck (ext_alloc1 _ _) c2) hgn))
        have x2 : Below w.heap.size w w2 := ((ext_alloc hb _).drew).trans (hkp2.below (fun b hb => by have := (hlo.out b hb).1; omega) (by simp; omega))
        have hS2 := hid ((HS.out.alloc (.cells #[.int .i64 (IntKind.i64.wrap (IntKind.i64.wrap (8 * s.ia) + s.ing))] 3)).drew.kept hkp2 Hfd.out)
        have hz2 : wo.heap.size ≤ w2.heap.size := by have := hkp2.size; simp at this; omega
        have Hsep2 : Hid (∀ b ∈ fp2, b = w.heap.size + 1 ∨ w1.heap.size ≤ b) := fun b hb => by
          rcases hfp2 b hb with h | h
          · exact Hsep.out b h
          · right; simp at h; omega
        cases g2 : (s.eg != 0)
        · have HQ : Hid (stepNums s = [nm s.ia s.ing]) := sn10 g1 g2
          go_wp2
          go_roundw
          case rel => exact ⟨k + 1, by omega, by go_num, x2, by omega, ⟨_, hS2.out⟩, fp2, by rw [HN.out, HQ.out]; exact hO2, Hsep2.out⟩
          case measure => simp [intOf]; omega
        · have HQ : Hid (stepNums s = [nm s.ia s.ing] ++ [nm s.ia s.eg]) := sn11 g1 g2
          have hgn2 : g ∉ fp2 := fun hm => by rcases Hsep2.out g hm with h | h <;> omega
          have hlo2 := hid fun b hb => (hO2.size_ok b hb)
          have hl2 : (li ++ [nm s.ia s.ing]).length ≤ 2097153 := by simp; omega
          have hx2 := x2.size
          obtain ⟨li2, Hli2⟩ : ∃ li2, Hid (li2 = li ++ [nm s.ia s.ing]) := ⟨_, rfl⟩
          rw [← Hli2.out] at hO2 hl2
          obtain ⟨Av2, cv2, ev2, _⟩ := hO2.form
          subst ev2
          have Hfd2 : Hid (∀ b ∈ fps, b ∉ fp2) := fun b hb hm => by have := hfs.out b hb; rcases Hsep2.out b hm with h | h <;> omega
          clear hkp2 hfp2 hO c0 c1 c2
          go_wp2
          go_region_held3 (fun w' => w'.cell? ⟨g, o + k * 3, none⟩ = some (I s.ia) ∧ w'.cell? ⟨g, o + k * 3 + 1, none⟩ = some (I s.ing) ∧ w'.cell? ⟨g, o + k * 3 + 2, none⟩ = some (I s.eg))
            (first | exact ⟨a0, a1, a2⟩ | exact ⟨ck (ext_alloc1 _ _) a0, ck (ext_alloc1 _ _) a1, ck (ext_alloc1 _ _) a2⟩ | exact ⟨b0, b1, b2⟩ | go_keep)
            ((refine step_cat int_flat (.tmp 42) (.tmp 55) et_int (SlO.drew (SlO.alloc hO2 _)) ((lit_read w2 3 I one_int [IntKind.i64.wrap (IntKind.i64.wrap (8 * s.ia) + s.eg)] 1 (Nat.le_refl _) w2.heap.size 1 rfl rfl #[.int .i64 (IntKind.i64.wrap (IntKind.i64.wrap (8 * s.ia) + s.eg))] rfl).below (below_drew _)) (by simp; omega) (by simp [maxLen]; omega) (by simp; omega) (by rfl) (by rfl) (by rfl) (by rfl) ?_; intro v3 w3 fp3 hO3 hfp3 hkp3; rw [nm_w] at hO3; have b0 := hkp3.ck (show (World.drew (World.alloc w2 _)).cell? ⟨g, o + k * 3, none⟩ = some (I s.ia) from ck (ext_alloc1 _ _) a0) hgn2; have b1 := hkp3.ck (show (World.drew (World.alloc w2 _)).cell? ⟨g, o + k * 3 + 1, none⟩ = some (I s.ing) from ck (ext_alloc1 _ _) a1) hgn2; have b2 := hkp3.ck (show (World.drew (World.alloc w2 _)).cell? ⟨g, o + k * 3 + 2, none⟩ = some (I s.eg) from ck (ext_alloc1 _ _) a2) hgn2))
          have x3 : Below w.heap.size w w3 := ((ext_alloc x2 _).drew).trans (hkp3.below (fun b hb => by have := (hlo2.out b hb).1; omega) (by simp; omega))
          have hS3 := (hS2.out.alloc (.cells #[.int .i64 (IntKind.i64.wrap (IntKind.i64.wrap (8 * s.ia) + s.eg))] 3)).drew.kept hkp3 Hfd2.out
          have hz3 : w2.heap.size ≤ w3.heap.size := by have := hkp3.size; simp at this; omega
          go_wp2
          go_roundw
          case rel => exact ⟨k + 1, by omega, by go_num, x3, by omega, ⟨_, hS3⟩, fp3, by rw [HN.out, HQ.out, ← List.append_assoc, ← Hli2.out]; exact hO3, fun b hb => by
            rcases hfp3 b hb with h | h
            · exact Hsep2.out b h
            · right; simp at h; omega⟩
          case measure => simp [intOf]; omega
    · have hkn : k = n := by omega
      subst hkn
      rw [H.out, List.take_length] at hO
      go_wp2
      go_ret
      exact ⟨_, fp, rfl, hO.mono (by omega), hb⟩
end Go.Proofs.YtdaecknfahgddaaGreat
