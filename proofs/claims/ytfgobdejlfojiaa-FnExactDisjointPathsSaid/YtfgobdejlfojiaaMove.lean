/- Elements of one's own that move from one slice into another. -/
import Derived.Test.YtfgobdejlfojiaaHole
import Derived.Test.YtfgobdejlfojiaaSepN
namespace Go.Proofs.Ytfgobdejlfojiaa
open Go.RowKit
set_option linter.unusedVariables false

/-- The elements of a slice, without the slice. -/
def elsO {α : Type} (T : Ty α) (css : List (List Value)) (l : List α) : Ow where
  P b w fp := ∃ fps : List (List Nat), css.length = l.length ∧ fps.length = l.length ∧ (∀ (i : Nat) cs a f, css[i]? = some cs → l[i]? = some a → fps[i]? = some f → T.O b w cs a f) ∧ fp = fps.flatten ∧ fp.Nodup
  lt := by
    rintro b w fp ⟨fps, h1, h2, h4, rfl, h6⟩ x hx
    obtain ⟨f, hf, hxf⟩ := List.mem_flatten.1 hx
    obtain ⟨i, hi, rfl⟩ := List.getElem_of_mem hf
    exact T.lt _ _ _ _ _ (h4 i _ _ _ (List.getElem?_eq_getElem (by omega)) (List.getElem?_eq_getElem (by omega)) (List.getElem?_eq_getElem hi)) x hxf
  keep := by
    rintro b w w' fp ⟨fps, h1, h2, h4, rfl, h6⟩ hk
    exact ⟨fps, h1, h2, fun i cs a f hc ha hf => T.okeep _ _ _ _ _ _ (h4 i cs a f hc ha hf) fun x hx => hk x (List.mem_flatten.2 ⟨f, List.mem_of_getElem? hf, hx⟩), rfl, h6⟩
  mono := by
    rintro b b' w fp hb ⟨fps, h1, h2, h4, h5, h6⟩
    exact ⟨fps, h1, h2, fun i cs a f hc ha hf => T.mono _ _ _ _ _ _ hb (h4 i cs a f hc ha hf), h5, h6⟩

/-- The slice, without what its elements lead to. -/
def rowO (e : TypeId) (size : Nat) (v : Value) (css : List (List Value)) : Ow where
  P b w fp := w.ownsRow b e size v css.length css.flatten ∧ fp = v.ownBlock.toList
  lt := by
    rintro b w fp ⟨h, rfl⟩ x hx
    exact h.lt x (by simpa using hx)
  keep := by
    rintro b w w' fp ⟨h, rfl⟩ hk
    exact ⟨own_keep h hk, rfl⟩
  mono := by
    rintro b b' w fp hb ⟨h, h2⟩
    exact ⟨own_mono hb h, h2⟩

section
variable {α : Type} {T : Ty α} {b : Nat} {w : World} {os : List Ow} {e : TypeId} {v : Value} {l : List α} {css : List (List Value)}
theorem Sep.unrow (S : Sep b w (slO T e v l :: os)) : ∃ css, css.length = l.length ∧ (∀ (i : Nat) cs, css[i]? = some cs → cs.length = T.size) ∧ Sep b w (elsO T css l :: rowO e T.size v css :: os) := by
  obtain ⟨hb, fp, f, g, rfl, ⟨css, fps, h1, h2, h3, h4, h5, h6⟩, hg, hfg⟩ := S
  have hall : ∀ (i : Nat) cs, css[i]? = some cs → cs.length = T.size := fun i cs hi => by
    have hl : i < css.length := (List.getElem?_eq_some_iff.1 hi).1
    exact T.len _ _ _ (T.read _ _ _ _ _ (h4 i cs _ _ hi (List.getElem?_eq_getElem (by omega)) (List.getElem?_eq_getElem (by omega))))
  subst h5
  rw [List.nodup_append] at h6
  refine ⟨css, h1, hall, hb, fps.flatten ++ (v.ownBlock.toList ++ g), _, _, rfl, ⟨fps, h1, h2, h4, rfl, h6.2.1⟩, ⟨_, g, rfl, ⟨by rw [h1]; exact h3, rfl⟩, hg, fun x hx hy => hfg x (List.mem_append.2 (.inl hx)) hy⟩, fun x hx hy => ?_⟩
  rcases List.mem_append.1 hy with hy | hy
  · exact h6.2.2 x hy x hx rfl
  · exact hfg x (List.mem_append.2 (.inr hx)) hy
theorem Sep.elsCut (k : Nat) (S : Sep b w (elsO T css l :: os)) : Sep b w (elsO T (css.take k) (l.take k) :: elsO T (css.drop k) (l.drop k) :: os) := by
  refine S.two fun f hf => ?_
  obtain ⟨fps, h1, h2, h4, rfl, h6⟩ := hf
  have hfl : fps.flatten = (fps.take k).flatten ++ (fps.drop k).flatten := by rw [← List.flatten_append, List.take_append_drop]
  have h6' := h6
  rw [hfl, List.nodup_append] at h6'
  refine ⟨_, _, hfl, h6, ⟨fps.take k, by simp [h1], by simp [h2], fun i cs a f hc ha hf => ?_, rfl, h6'.1⟩, ⟨fps.drop k, by simp [h1], by simp [h2], fun i cs a f hc ha hf => ?_, rfl, h6'.2.1⟩⟩
  · rw [List.getElem?_take] at hc ha hf
    split at hc
    · rename_i hik
      rw [if_pos hik] at ha hf
      exact h4 i cs a f hc ha hf
    · cases hc
  · rw [List.getElem?_drop] at hc ha hf
    exact h4 _ cs a f hc ha hf
theorem Sep.elsOne {a : α} (S : Sep b w (elsO T css [a] :: os)) : ∃ cs, css = [cs] ∧ Sep b w (tyO T cs a :: os) := by
  obtain ⟨fp, fps, h1, h2, _⟩ := S.head
  obtain ⟨cs, rfl⟩ : ∃ cs, css = [cs] := List.length_eq_one_iff.1 h1
  refine ⟨cs, rfl, S.conv fun f hf => ?_⟩
  obtain ⟨fps, h1, h2, h4, rfl, h6⟩ := hf
  obtain ⟨f, rfl⟩ : ∃ f, fps = [f] := List.length_eq_one_iff.1 h2
  have := h4 0 _ _ _ rfl rfl rfl
  simpa [tyO] using this
theorem Sep.rowForm {size : Nat} (S : Sep b w (rowO e size v css :: os)) : ∃ A c, v = .slice A css.length c ∧ css.length ≤ c ∧ Rd w A css.flatten := by
  obtain ⟨fp, h3, _⟩ := S.head
  rcases h3.2 with ⟨hv, hn⟩ | ⟨g, cap, cur, hv, hb, hg, hn, r⟩
  · have : css = [] := List.eq_nil_of_length_eq_zero (by omega)
    subst this
    exact ⟨none, 0, hv, Nat.le_refl _, Rd.nil⟩
  · subst hv
    exact ⟨_, cap, rfl, hn, Rd.of_own h3⟩
theorem Rd.take {A : Option Addr} {xs : List Value} (h : Rd w A xs) (k : Nat) : Rd w A (xs.take k) := by
  intro hp
  rw [List.length_take] at hp
  obtain ⟨g, o, rfl, hg⟩ := h (by omega)
  refine ⟨g, o, rfl, fun j u hu => hg j u ?_⟩
  rw [List.getElem?_take] at hu
  split at hu
  · exact hu
  · cases hu
theorem Rd.cutTake {A : Option Addr} {size : Nat} (h : Rd w A css.flatten) (hall : ∀ (i : Nat) cs, css[i]? = some cs → cs.length = size) (k : Nat) : Rd w A (css.take k).flatten := by
  rw [flatten_take hall]
  exact h.take _
theorem Rd.cutDrop {A : Option Addr} {size c : Nat} (h : Rd w A css.flatten) (hall : ∀ (i : Nat) cs, css[i]? = some cs → cs.length = size) (hc : css.length ≤ c) (k : Nat) : Rd w (if c = k then A else A.map (·.add (k * size))) (css.drop k).flatten := by
  intro hp
  rw [flatten_drop hall] at hp ⊢
  rw [List.length_drop] at hp
  obtain ⟨g, o, rfl, hg⟩ := h (by omega)
  have hne : ¬ c = k := by
    intro hck
    have h8 : css.flatten.length = css.length * size := flatten_len hall
    have h9 : css.length * size ≤ k * size := Nat.mul_le_mul_right _ (by omega)
    omega
  rw [if_neg hne]
  refine ⟨g, o + k * size, by simp [Addr.add_lit], fun j u hu => ?_⟩
  rw [Nat.add_assoc]
  exact hg _ u (by rw [List.getElem?_drop] at hu; exact hu)
theorem Sep.rowLen {A : Option Addr} {n c size : Nat} (S : Sep b w (rowO e size (.slice A n c) css :: os)) : n = css.length ∧ css.length ≤ c := by
  obtain ⟨A', c', h, hc, r⟩ := S.rowForm
  cases h
  exact ⟨rfl, hc⟩
theorem Sep.rowTake {A : Option Addr} {n c size : Nat} (S : Sep b w (rowO e size (.slice A n c) css :: os)) (hall : ∀ (i : Nat) cs, css[i]? = some cs → cs.length = size) (k : Nat) : Rd w A (css.take k).flatten := by
  obtain ⟨A', c', h, hc, r⟩ := S.rowForm
  cases h
  exact r.cutTake hall k
theorem Sep.rowDrop {A : Option Addr} {n c size : Nat} (S : Sep b w (rowO e size (.slice A n c) css :: os)) (hall : ∀ (i : Nat) cs, css[i]? = some cs → cs.length = size) (k : Nat) : Rd w (if c = k then A else A.map (·.add (k * size))) (css.drop k).flatten := by
  obtain ⟨A', c', h, hc, r⟩ := S.rowForm
  cases h
  exact r.cutDrop hall hc k
theorem flat_cut {fps : List (List Nat)} {i : Nat} (h : fps[i]? = some []) : fps.flatten = (fps.take i).flatten ++ (fps.drop (i + 1)).flatten := by
  have hlt := (List.getElem?_eq_some_iff.1 h).1
  have h2 : fps = fps.take i ++ [] :: fps.drop (i + 1) := by
    have := (List.getElem?_eq_some_iff.1 h).2
    rw [← this, ← List.drop_eq_getElem_cons hlt, List.take_append_drop]
  conv => lhs; rw [h2]
  simp
/-- A slice from which an element has gone for good: the elements before, those behind, and the slice. -/
theorem Sep.holeOut {i : Nat} {cs : List Value} (S : Sep b w (holeO T e v l i cs :: os)) : ∃ css, css.length = l.length ∧ (∀ (j : Nat) cs, css[j]? = some cs → cs.length = T.size) ∧ Sep b w (elsO T (css.take i) (l.take i) :: elsO T (css.drop (i + 1)) (l.drop (i + 1)) :: rowO e T.size v css :: os) := by
  obtain ⟨hb, fp, f, g, rfl, ⟨css, fps, h1, h2, h3, h4, h5, h6, h7, rfl, h9⟩, hg, hfg⟩ := S
  have hall : ∀ (j : Nat) cs, css[j]? = some cs → cs.length = T.size := fun j cs' hj => by
    have hl : j < css.length := (List.getElem?_eq_some_iff.1 hj).1
    by_cases hji : j = i
    · subst hji
      rw [h3] at hj
      cases hj
      exact h5
    · exact T.len _ _ _ (T.read _ _ _ _ _ (h7 j cs' _ _ hji hj (List.getElem?_eq_getElem (by omega)) (List.getElem?_eq_getElem (by omega))))
  have hf := flat_cut h4
  rw [List.nodup_append] at h9
  have h92 := h9.2.1
  rw [hf, List.nodup_append] at h92
  refine ⟨css, h1, hall, hb, (fps.take i).flatten ++ ((fps.drop (i + 1)).flatten ++ (v.ownBlock.toList ++ g)), _, _, rfl, ⟨fps.take i, by simp [h1], by simp [h2], ?_, rfl, h92.1⟩, ⟨_, _, rfl, ⟨fps.drop (i + 1), by simp [h1], by simp [h2], ?_, rfl, h92.2.1⟩, ⟨_, g, rfl, ⟨by rw [h1]; exact h6, rfl⟩, hg, fun x hx hy => hfg x (List.mem_append.2 (.inl hx)) hy⟩, ?_⟩, ?_⟩
  · intro k c' a f' hc ha hf'
    rw [List.getElem?_take] at hc ha hf'
    split at hc
    · rename_i hik
      rw [if_pos hik] at ha hf'
      exact h7 k c' a f' (by omega) hc ha hf'
    · cases hc
  · intro k c' a f' hc ha hf'
    rw [List.getElem?_drop] at hc ha hf'
    exact h7 _ c' a f' (by omega) hc ha hf'
  · intro x hx hy
    have hxf : x ∈ fps.flatten := by rw [hf]; exact List.mem_append.2 (.inr hx)
    rcases List.mem_append.1 hy with hy | hy
    · exact h9.2.2 x hy x hxf rfl
    · exact hfg x (List.mem_append.2 (.inr hxf)) hy
  · intro x hx hy
    have hxf : x ∈ fps.flatten := by rw [hf]; exact List.mem_append.2 (.inl hx)
    rcases List.mem_append.1 hy with hy | hy
    · exact h92.2.2 x hx x hy rfl
    · rcases List.mem_append.1 hy with hy | hy
      · exact h9.2.2 x hy x hxf rfl
      · exact hfg x (List.mem_append.2 (.inr hxf)) hy
end

section
variable {P : Program} {n : Nat} {ops : Array Oper} {Q : Exit → Act → World → Prop} {L : Frm} {w : World} {m : Md} {r : IT} {d : Nat} {ty : TypeId} {pos : String} {af : Array Edge} {b : Nat} {os : List Ow}
/-- A cut of a slice, its value told. -/
theorem t_sltv {t e : TypeId} {size bytes : Nat} (et : ElemT P t e size bytes) {A : Option Addr} {nn c : Nat} {xo hi : Operand} {k : Nat} {i : Int} (hx : ev L xo = some (.slice A nn c)) (hi' : ev L hi = some (I i)) (hik : i = ((k : Nat) : Int)) (hk : k ≤ c)
    (kk : WT P n ops Q r ((d, .slice A k c) :: L) w) (hn : Nat.blt d n = true) : WT P n ops Q (.st m ⟨some d, .slice t xo none (some hi) none, ty, pos, af, none⟩ r) L w := by
  obtain ⟨inf, z, hinf, _, hsz, _, _⟩ := et.info
  subst hik
  refine t_read (v := .slice A k c) (fun a ha _ _ _ w' _ => ?_) kk hn
  have hc : (0 : Int) ≤ (k : Int) ∧ (k : Int) ≤ (c : Int) := by omega
  cases A <;> simp [execOp, ha.ev hx, ha.ev hi', Instr.sliceAt, Instr.slice, Instr.sliceBounds, Instr.sliceBound, asIntOf, run_underlying et.und, hk, sizeOf, typeInfo, hinf, Addr.add]
theorem t_sldv {t e : TypeId} {size bytes : Nat} (et : ElemT P t e size bytes) {A : Option Addr} {nn c : Nat} {xo lo : Operand} {k : Nat} {i : Int} (hx : ev L xo = some (.slice A nn c)) (hi' : ev L lo = some (I i)) (hik : i = ((k : Nat) : Int)) (hk : k ≤ nn) (hc : nn ≤ c)
    (kk : WT P n ops Q r ((d, .slice (if c = k then A else A.map (·.add (k * size))) (nn - k) (c - k)) :: L) w) (hn : Nat.blt d n = true) : WT P n ops Q (.st m ⟨some d, .slice t xo (some lo) none none, ty, pos, af, none⟩ r) L w := by
  obtain ⟨inf, z, hinf, _, hsz, _, _⟩ := et.info
  subst hik
  refine t_read (fun a ha _ _ _ w' _ => ?_) kk hn
  have hc' : (0 : Int) ≤ (k : Int) ∧ (k : Int) ≤ (nn : Int) := by omega
  simp [execOp, ha.ev hx, ha.ev hi', Instr.sliceAt, Instr.slice, Instr.sliceBounds, Instr.sliceBound, asIntOf, run_underlying et.und, hk, sizeOf, typeInfo, hinf, hsz]
/-- append of elements that are owned: they go over into the slice. -/
theorem t_mv {α : Type} {T : Ty α} {t e : TypeId} {bytes : Nat} (et : ElemT P t e T.size bytes) {s x : Operand} {ar : Array TypeId} {v : Value} {A : Option Addr} {c mm : Nat} {css : List (List Value)} {l l' : List α} (S : Sep b w (slO T e v l :: elsO T css l' :: os)) (hr : Rd w A css.flatten) (hm : mm = l'.length) (hs : ev L s = some v) (hx : ev L x = some (.slice A mm c)) (har : ar = #[t, t])
    (hby : (l.length + l'.length) * bytes ≤ 140737488355328) (h63 : l.length + l'.length ≤ maxLen)
    (k : ∀ v' w', Below b w w' → Sep b w' (slO T e v' (l ++ l') :: os) → WT P n ops Q r ((d, v') :: L) w') (hn : Nat.blt d n = true) : WT P n ops Q (.st .fin ⟨some d, .call ⟨.builtin .append, #[s, x], ar⟩, ty, pos, af, none⟩ r) L w := by
  intro a ha
  subst har
  subst hm
  have hb := S.base
  obtain ⟨h1, fp, f, g, rfl, ⟨css0, fps, k1, k2, k3, k4, k5, k6⟩, ⟨f2, g2, rfl, ⟨fps2, q1, q2, q4, q5, q6⟩, m2, m3⟩, h6⟩ := S
  have hfl : ∀ y ∈ f, b ≤ y ∧ y < w.heap.size := SlO.size_ok ⟨css0, fps, k1, k2, k3, k4, k5, k6⟩
  have hR : ∀ (i : Nat) cs a, css[i]? = some cs → l'[i]? = some a → T.R w cs a := fun i cs a hi ha => by
    have hlt : i < fps2.length := by rw [q2]; exact (List.getElem?_eq_some_iff.1 ha).1
    exact T.read _ _ _ _ _ (q4 i cs a _ hi ha (List.getElem?_eq_getElem hlt))
  have hall : ∀ (i : Nat) cs, css[i]? = some cs → cs.length = T.size := fun i cs hi => by
    have hl : i < css.length := (List.getElem?_eq_some_iff.1 hi).1
    exact T.len _ _ _ (hR i cs _ hi (List.getElem?_eq_getElem (by omega)))
  have h11 : ∀ u ∈ css.flatten, u.oneCell' = true := fun u hu => by
    obtain ⟨cs, hcs, hu⟩ := List.mem_flatten.1 hu
    obtain ⟨i, hi, rfl⟩ := List.getElem_of_mem hcs
    exact T.one _ _ _ (hR i _ _ (List.getElem?_eq_getElem hi) (List.getElem?_eq_getElem (by omega))) u hu
  have hd : ∀ z ∈ f2, z ∉ f := fun z hz hf => h6 z hf (List.mem_append.2 (.inl hz))
  simp only [wpT, Region.wanted, if_true]
  refine wp_app s x et k3 hr (by rw [flatten_len hall, q1]) h11 hby h63 hb rfl (ha.ev hs) (ha.ev hx) fun v' w' ho' hg' hv' => ?_
  obtain ⟨fp', g1, g2', g3⟩ := SlO.grow (css' := css) (fps' := fps2) (l' := l') (m := l'.length) k1 k2 k3 k4 k5 k6 q1 q2 q4 (by rw [← q5]; exact q6) (by rw [← q5]; exact hd) rfl ho' hg' hv'
  rw [← q5] at g2'
  have hB : Below b w w' := g3.below (fun y hy => (hfl y hy).1) hb
  refine k v' w' hB ⟨Nat.le_trans hb g3.size, fp' ++ g2, fp', g2, rfl, g1, m2.keep fun y hy => g3.block y (m2.lt y hy).2 (fun hf => h6 y hf (List.mem_append.2 (.inr hy))), fun z hz hy => ?_⟩ _ (ha.put hn v')
  rcases g2' z hz with h | h | h
  · exact h6 z h (List.mem_append.2 (.inr hy))
  · exact m3 z h hy
  · have := (m2.lt z hy).2; omega
/-- A slice literal of nothing. -/
theorem t_lit0 {α : Type} {T : Ty α} {t e : TypeId} {C : Array Value} (S : Sep b w os)
    (hb : ∀ w, (Instr.buildSlice t 0 #[]).run P w = .ok (.slice (some ⟨w.heap.size, 0, none⟩) 0 0) (w.alloc (.cells C e))) (hC : C = #[])
    (k : ∀ A0 w', Ext w w' → Sep b w' (slO T e (.slice A0 0 0) ([] : List α) :: os) → WT P n ops Q r ((d, .slice A0 0 0) :: L) w') (hm : m.isTake = false) (hn : Nat.blt d n = true) : WT P n ops Q (.st m ⟨some d, .buildSlice t 0 #[], ty, pos, af, none⟩ r) L w := by
  subst hC
  have he := ext_new w (.cells #[] e)
  have hO : SlO T e w.heap.size (w.alloc (.cells #[] e)) (.slice (some ⟨w.heap.size, 0, none⟩) 0 0) ([] : List α) [w.heap.size] := by
    refine ⟨[], [], rfl, rfl, ?_, (fun i cs a f hi ha hf => by simp at hi), rfl, by simp⟩
    have := World.ownsRow_lit (base := w.heap.size) (e := e) (size := T.size) w (#[] : Array Value) 0 (Nat.le_refl _) (by simp [maxLen]) (by simp)
    simpa using this
  refine t_make he (fun a ha _ _ _ => ?_) (k _ _ he (S.add he hO)) hm hn
  simp [execOp, hb]
end
end Go.Proofs.Ytfgobdejlfojiaa
