/- append onto an empty literal: only new memory. -/
import Derived.Test.YtfgobdejlfojiaaEng2
namespace Go.Proofs.Ytfgobdejlfojiaa
open Go.RowKit
set_option linter.unusedVariables false

theorem app0_eq {P : Program} (w : World) {t ty e : TypeId} {size bytes : Nat} (et : ElemT P t e size bytes) {A0 A : Option Addr} {m c : Nat} (hm : 0 < m) (hby : m * bytes ≤ 140737488355328) (h63 : m ≤ maxLen) :
    (Builtin.append_ #[t, t] ty #[.slice A0 0 0, .slice A m c]).run P w = (Builtin.append_ #[t, t] ty #[.slice none 0 0, .slice A m c]).run P w := by
  obtain ⟨ht, ⟨i, z, hi, hz, hsize, hby', hzs⟩, hsz⟩ := et
  subst hby'
  simp only [maxLen] at h63
  have h0 : ¬ m = 0 := by omega
  have h1 : ¬ (9223372036854775807 : Int) < (m : Int) := by omega
  have h2 : ¬ 281474976710656 < Builtin.nextslicecap m 0 * i.bytes := by have := growslice_fits (need := m) (old := 0) hm hby; omega
  cases A0 <;> simp [Builtin.append_, run_underlying ht, sizeOf, typeInfo, hi, Builtin.lenOf, Builtin.firstCells, h0, h1, h2, loadCells, loadCellsFrom]
/-- append of owned elements onto an empty literal: only new memory. -/
theorem t_mv0 {P : Program} {n : Nat} {ops : Array Oper} {Q : Exit → Act → World → Prop} {L : Frm} {w : World} {r : IT} {d : Nat} {ty : TypeId} {pos : String} {af : Array Edge} {b : Nat} {os : List Ow}
    {α : Type} {T : Ty α} {t e : TypeId} {bytes : Nat} (et : ElemT P t e T.size bytes) {s x : Operand} {ar : Array TypeId} {A0 A : Option Addr} {c mm : Nat} {css : List (List Value)} {l' : List α} (S : Sep b w (slO T e (.slice A0 0 0) ([] : List α) :: elsO T css l' :: os)) (hr : Rd w A css.flatten) (hm : mm = l'.length) (hs : ev L s = some (.slice A0 0 0)) (hx : ev L x = some (.slice A mm c)) (har : ar = #[t, t])
    (hby : l'.length * bytes ≤ 140737488355328) (h63 : l'.length ≤ maxLen)
    (k : ∀ v' w', Ext w w' → Sep b w' (slO T e v' ([] ++ l') :: os) → WT P n ops Q r ((d, v') :: L) w') (hn : Nat.blt d n = true) : WT P n ops Q (.st .run ⟨some d, .call ⟨.builtin .append, #[s, x], ar⟩, ty, pos, af, none⟩ r) L w := by
  intro a ha
  subst har
  subst hm
  have hb := S.base
  obtain ⟨h1, fp, f, g, rfl, hf0, ⟨f2, g2, rfl, ⟨fps2, q1, q2, q4, q5, q6⟩, m2, m3⟩, h6⟩ := S
  have hR : ∀ (i : Nat) cs a, css[i]? = some cs → l'[i]? = some a → T.R w cs a := fun i cs a hi ha => by
    have hlt : i < fps2.length := by rw [q2]; exact (List.getElem?_eq_some_iff.1 ha).1
    exact T.read _ _ _ _ _ (q4 i cs a _ hi ha (List.getElem?_eq_getElem hlt))
  have hall : ∀ (i : Nat) cs, css[i]? = some cs → cs.length = T.size := fun i cs hi => by
    have hl : i < css.length := (List.getElem?_eq_some_iff.1 hi).1
    exact T.len _ _ _ (hR i cs _ hi (List.getElem?_eq_getElem (by omega)))
  have h11 : ∀ u ∈ css.flatten, u.oneCell' = true := fun u hu => by
    obtain ⟨cs, hcs, hu⟩ := List.mem_flatten.1 hu
    obtain ⟨i, hi, rfl⟩ := List.getElem_of_mem hcs
    exact T.one _ _ _ (hR i _ _ (List.getElem?_eq_getElem hi) (List.getElem?_eq_getElem (by omega))) u hu
  have hnil : w.ownsRow b e T.size (.slice none 0 0) 0 [] := World.ownsRow_nil w b e T.size
  simp only [wpT, Region.wanted, if_true]
  rcases Nat.eq_zero_or_pos l'.length with hz | hz
  · have hl0 : l' = [] := List.eq_nil_of_length_eq_zero hz
    subst hl0
    obtain ⟨ht, ⟨i, z, hi, hzz, hsize, hbb, hzs⟩, hsz⟩ := et
    have hrun : (execOp a.eval ⟨some d, .call ⟨.builtin .append, #[s, x], #[t, t]⟩, ty, pos, af, none⟩).run P w = .ok (.value (.slice A0 0 0)) w := by
      cases A0 <;> cases A <;> simp [execOp, resolve, invoke, builtin, ha.ev hs, ha.ev hx, Builtin.append_, run_underlying ht, sizeOf, typeInfo, hi, Builtin.lenOf, Builtin.firstCells, loadCells, loadCellsFrom, storeCells]
    unfold Oper.wp
    rw [hrun]
    refine ⟨Below.refl _ _, k _ w (Below.refl _ _) ?_ _ (ha.put hn _)⟩
    exact ⟨hb, f ++ g2, f, g2, rfl, hf0, m2, fun z hz hy => h6 z hz (List.mem_append.2 (.inr hy))⟩
  · obtain ⟨v', w', hrun, ho', hg', hv'⟩ := run_app (P := P) w (ty := ty) (c := c) et hnil hr (by rw [flatten_len hall, q1]) h11 (by rw [Nat.zero_add]; exact hby) (by rw [Nat.zero_add]; exact h63) hb
    rw [← app0_eq (A0 := A0) w et hz hby h63] at hrun
    obtain ⟨fp', g1, g2', g3⟩ := SlO.grow (T := T) (e := e) (base := b) (v := .slice none 0 0) (l := []) (css := []) (fps := []) (fp := []) (css' := css) (fps' := fps2) (l' := l') (m := l'.length) rfl rfl hnil (fun i cs a f hi => by simp at hi) rfl List.nodup_nil q1 q2 q4 (by rw [← q5]; exact q6) (fun y _ hy => by cases hy) rfl ho' hg' hv'
    rw [← q5] at g2'
    have hE : Ext w w' := ⟨g3.os, g3.tape, g3.output, g3.size, fun y hy => g3.block y hy (fun h => by cases h)⟩
    unfold Oper.wp execOp
    simp only [resolve, invoke, builtin, Sem.run_bind, Sem.run_pure, Result.andThen_ok, List.map_toArray, List.map_cons, List.map_nil, ha.ev hs, ha.ev hx, hrun]
    refine ⟨hE, k v' w' hE ⟨Nat.le_trans hb g3.size, fp' ++ g2, fp', g2, rfl, g1, m2.keep fun y hy => hE.block y (m2.lt y hy).2, fun z hz' hy => ?_⟩ _ (ha.put hn v')⟩
    rcases g2' z hz' with h | h | h
    · cases h
    · exact m3 z h hy
    · have := (m2.lt z hy).2; omega
end Go.Proofs.Ytfgobdejlfojiaa
