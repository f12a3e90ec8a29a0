/- More words for memory: a store into an owned slice of plain elements, a shorter slice of it, a literal of one element. -/
import Derived.Test.YtfgobdejlfojiaaMemB
namespace Go.Proofs.Ytfgobdejlfojiaa
open Go.RowKit
set_option linter.unusedVariables false

/-- Where an owned slice that is not empty lies. -/
theorem SlO.addr {α : Type} {T : Ty α} {e base : Nat} {w : World} {v : Value} {l : List α} {fp : List Nat} (h : SlO T e base w v l fp) (hp : 0 < l.length) :
    ∃ g c, v = .slice (some ⟨g, 0, none⟩) l.length c ∧ g ∈ fp ∧ base ≤ g ∧ g < w.heap.size ∧ l.length ≤ c ∧ ∀ j, w.frozen? ⟨g, j, none⟩ = false := by
  obtain ⟨css, fps, h1, h2, h3, h4, h5, h6⟩ := h
  rcases h3.2 with ⟨hv, hn⟩ | ⟨g, cap, cur, hv, hb, hg, hn, r⟩
  · omega
  · subst hv
    exact ⟨g, cap, rfl, by rw [h5]; simp [Value.ownBlock], hb, (Array.getElem?_eq_some_iff.1 hg).1, hn, fun j => h3.frozenAt j⟩

theorem flatten_set {css : List (List Value)} {size : Nat} (h : ∀ (i : Nat) cs, css[i]? = some cs → cs.length = size) (k : Nat) (cs : List Value) (hk : css[k]? = some cs) (j : Nat) (hj : j < size) (u : Value) :
    css.flatten.set (k * size + j) u = (css.set k (cs.set j u)).flatten := by
  induction css generalizing k with
  | nil => simp at hk
  | cons c t ih =>
    have hc : c.length = size := h 0 c rfl
    cases k with
    | zero =>
      simp at hk
      subst hk
      simp only [List.flatten_cons, Nat.zero_mul, Nat.zero_add, List.set_cons_zero]
      rw [List.set_append_left _ _ (by omega)]
    | succ k =>
      simp at hk
      simp only [List.flatten_cons, List.set_cons_succ]
      rw [List.set_append_right _ _ (by rw [hc, Nat.add_mul, Nat.one_mul]; omega), hc, show (k + 1) * size + j - size = k * size + j by rw [Nat.add_mul, Nat.one_mul]; omega]
      rw [ih (fun i cs hi => h (i + 1) cs hi) k hk]

/-- A store into one cell of one element of an owned slice of plain elements. -/
theorem SlO.put {α : Type} {T : Ty α} {e base : Nat} {w : World} {g n c : Nat} {l : List α} {fp : List Nat} (h : SlO T e base w (.slice (some ⟨g, 0, none⟩) n c) l fp) (hn : n = l.length) (hT : ∀ w w' cs a f, T.O base w cs a f → T.O base w' cs a f) {i j : Nat} {a : α} (hi : l[i]? = some a) (hj : j < T.size) {u : Value} {a' : α}
    (hc : ∀ w cs f, T.O base w cs a f → T.O base w (cs.set j u) a' f) : SlO T e base (w.setCell ⟨g, i * T.size + j, none⟩ u) (.slice (some ⟨g, 0, none⟩) n c) (l.set i a') fp := by
  subst hn
  obtain ⟨css, fps, h1, h2, h3, h4, h5, h6⟩ := h
  have hlt : i < l.length := (List.getElem?_eq_some_iff.1 hi).1
  have hall : ∀ (i : Nat) cs, css[i]? = some cs → cs.length = T.size := fun i cs hi => by
    have hl : i < css.length := (List.getElem?_eq_some_iff.1 hi).1
    exact T.len _ _ _ (T.read _ _ _ _ _ (h4 i cs _ _ hi (List.getElem?_eq_getElem (by omega)) (List.getElem?_eq_getElem (by omega))))
  have hk : css[i]? = some (css[i]'(by omega)) := List.getElem?_eq_getElem (by omega)
  refine ⟨css.set i ((css[i]'(by omega)).set j u), fps, by simp [h1], by simp [h2], ?_, ?_, h5, h6⟩
  · rw [List.length_set, ← flatten_set hall i _ hk j hj u]
    exact own_set h3 _ _
  · intro k cs x f hk' hx hf
    by_cases hki : k = i
    · subst hki
      rw [List.getElem?_set_self (by omega)] at hk' hx
      injection hk' with hk'
      injection hx with hx
      subst hk' hx
      exact hc _ _ _ (hT _ _ _ _ _ (h4 k _ _ _ hk hi hf))
    · rw [List.getElem?_set_ne (by omega)] at hk' hx
      exact hT _ _ _ _ _ (h4 k _ _ _ hk' hx hf)

theorem flatten_take {css : List (List Value)} {size : Nat} (h : ∀ (i : Nat) cs, css[i]? = some cs → cs.length = size) (m : Nat) : (css.take m).flatten = css.flatten.take (m * size) := by
  induction css generalizing m with
  | nil => simp
  | cons a t ih =>
    have ha := h 0 a rfl
    cases m with
    | zero => simp
    | succ m =>
      have hs : (m + 1) * size = a.length + m * size := by rw [ha, Nat.add_mul, Nat.one_mul]; omega
      rw [List.take_succ_cons, List.flatten_cons, List.flatten_cons, ih (fun i cs hi => h (i + 1) cs hi), hs, List.take_length_add_append]

/-- A shorter slice of an owned one of plain elements. -/
theorem SlO.cut {α : Type} {T : Ty α} {e base : Nat} {w : World} {g n c m : Nat} {l : List α} {fp : List Nat} (h : SlO T e base w (.slice (some ⟨g, 0, none⟩) n c) l fp) (hn : n = l.length) (hm : m ≤ n) : ∃ fp', SlO T e base w (.slice (some ⟨g, 0, none⟩) m c) (l.take m) fp' ∧ ∀ b ∈ fp', b ∈ fp := by
  subst hn
  obtain ⟨css, fps, h1, h2, h3, h4, h5, h6⟩ := h
  have hlen : (l.take m).length = m := by rw [List.length_take]; omega
  have hall : ∀ (i : Nat) cs, css[i]? = some cs → cs.length = T.size := fun i cs hi => by
    have hl : i < css.length := (List.getElem?_eq_some_iff.1 hi).1
    exact T.len _ _ _ (T.read _ _ _ _ _ (h4 i cs _ _ hi (List.getElem?_eq_getElem (by omega)) (List.getElem?_eq_getElem (by omega))))
  have hsub : ∀ b ∈ [g] ++ (fps.take m).flatten, b ∈ fp := fun b hb => by
    rw [h5]
    simp only [List.mem_append, Value.ownBlock, Option.toList_some] at hb ⊢
    rcases hb with hb | hb
    · exact .inl hb
    · obtain ⟨f, hf, hbf⟩ := List.mem_flatten.1 hb
      exact .inr (List.mem_flatten.2 ⟨f, List.mem_of_mem_take hf, hbf⟩)
  refine ⟨[g] ++ (fps.take m).flatten, ⟨css.take m, fps.take m, by rw [List.length_take, List.length_take]; omega, by rw [List.length_take, List.length_take]; omega, ?_, ?_, by simp [Value.ownBlock], ?_⟩, hsub⟩
  · rw [hlen, flatten_take hall]
    rcases h3.2 with ⟨hv, _⟩ | ⟨g', cap, cur, hv, hb, hg, hnc, hcm, hcs, htake⟩
    · cases hv
    · cases hv
      refine ⟨?_, .inr ⟨g, c, cur, rfl, hb, hg, by omega, hcm, hcs, ?_⟩⟩
      · rw [List.length_take, h3.1]
        have := Nat.mul_le_mul_right T.size hm
        omega
      · rw [← htake, List.take_take]
        congr 1
        have := Nat.mul_le_mul_right T.size hm
        omega
  · intro i cs x f hi hx hf
    rw [List.getElem?_take] at hi hx hf
    split at hi
    · rename_i him
      rw [if_pos him] at hx hf
      exact h4 i cs x f hi hx hf
    · cases hi
  · have hn6 := h6
    rw [h5] at hn6
    simp only [Value.ownBlock, Option.toList_some, List.singleton_append, List.nodup_cons] at hn6 ⊢
    refine ⟨fun hb => hn6.1 ?_, ?_⟩
    · obtain ⟨f, hf, hbf⟩ := List.mem_flatten.1 hb
      exact List.mem_flatten.2 ⟨f, List.mem_of_mem_take hf, hbf⟩
    · have : fps.flatten = (fps.take m).flatten ++ (fps.drop m).flatten := by rw [← List.flatten_append, List.take_append_drop]
      rw [this] at hn6
      exact (List.nodup_append.1 hn6.2).1

/-- A slice literal of one element, just made. -/
theorem lit_one {α : Type} {T : Ty α} (w : World) (t : TypeId) (a : α) (c g : Nat) (hc : 1 ≤ c) (hg : w.heap.size = g) (cs : Array Value) (hT : ∀ w, T.R w cs.toList a) : SlR T (w.alloc (.cells cs t)) (.slice (some ⟨g, 0, none⟩) 1 c) [a] := by
  subst hg
  refine ⟨_, c, [cs.toList], rfl, hc, rfl, fun _ => ⟨w.heap.size, 0, rfl, fun j u hu => ?_⟩, fun i cs' x hi hx => ?_⟩
  · rw [cell_of_row (w.alloc (.cells cs t)) w.heap.size (0 + j) cs t (0, 0) (heap_alloc_new w _)]
    simpa using hu
  · rcases i with _ | i
    · simp at hi hx
      subst hi hx
      exact hT _
    · simp at hi

end Go.Proofs.Ytfgobdejlfojiaa
