/- More words for memory: appends in regions that draw their order, literals. -/
import Derived.Test.YtfgobdejlfojiaaMem
import Derived.Deep.QuietTactic
import Derived.BigQuiet
namespace Go.Proofs.Ytfgobdejlfojiaa
open Go.RowKit
set_option linter.unusedVariables false

theorem Kept.ck {fp : List Nat} {W w1 : World} (hk : Kept fp W w1) {g o : Nat} {u : Value} (h : W.cell? ⟨g, o, none⟩ = some u) (hg : g ∉ fp) : w1.cell? ⟨g, o, none⟩ = some u := by
  have hlt := World.block_lt_of_cell? W _ h
  rw [World.cell?_of_block (w := W) (hk.block g hlt hg)]
  exact h

/-- An append of plain elements at the operation. -/
theorem wp_cat {P : Program} {w : World} {o : Oper} {act : Act} {K : Act → World → Prop} {Q : Exit → Act → World → Prop} {α : Type} {T : Ty α} (hT : ∀ base w cs a, T.R w cs a → T.O base w cs a []) (s x : Operand) {t e : TypeId} {bytes : Nat} (et : ElemT P t e T.size bytes) {base : Nat} {v : Value} {l : List α} {fp : List Nat} (hO : SlO T e base w v l fp)
    {u : Value} {l' : List α} (hR : SlR T w u l') (hbytes : (l.length + l'.length) * bytes ≤ 140737488355328) (h63 : l.length + l'.length ≤ maxLen) (hbase : base ≤ w.heap.size)
    (ho : o.op = .call { callee := .builtin .append, args := #[s, x], argTypes := #[t, t] }) (hs : act.eval s = v) (hx : act.eval x = u)
    (h : ∀ v' w' fp', SlO T e base w' v' (l ++ l') fp' → (∀ b ∈ fp', b ∈ fp ∨ b = w.heap.size) → Kept fp w w' → K (act.put o.dst v') w') : o.wp P act w K Q := by
  obtain ⟨css, fps, h1, h2, h3, h4, h5, h6⟩ := hO
  obtain ⟨A, c, css', rfl, r1, r2, r3, r4⟩ := hR
  have hall : ∀ (i : Nat) cs, css'[i]? = some cs → cs.length = T.size := fun i cs hi => by
    have hlt : i < l'.length := by rw [← r2]; exact (List.getElem?_eq_some_iff.1 hi).1
    exact T.len _ _ _ (r4 i cs _ hi (List.getElem?_eq_getElem hlt))
  have h11 : ∀ u ∈ css'.flatten, u.oneCell' = true := fun u hu => by
    obtain ⟨cs, hcs, hu⟩ := List.mem_flatten.1 hu
    obtain ⟨i, hi, rfl⟩ := List.getElem_of_mem hcs
    exact T.one _ _ _ (r4 i _ _ (List.getElem?_eq_getElem hi) (List.getElem?_eq_getElem (by omega))) u hu
  refine wp_app s x et h3 r3 (by rw [flatten_len hall, r2]) h11 hbytes h63 hbase ho hs hx fun v' w' ho' hg' hv' => ?_
  obtain ⟨fp', g1, g2, g3⟩ := SlO.grow (css' := css') (fps' := l'.map fun _ => []) (l' := l') (m := l'.length) h1 h2 h3 h4 h5 h6 r2 (by simp) (fun i c' a' f' hi ha hf' => by
    simp at hf'
    obtain ⟨_, _, rfl⟩ := hf'
    exact hT _ _ _ _ (r4 i _ _ hi ha)) (by rw [flat_nil]; exact List.nodup_nil) (by rw [flat_nil]; simp) rfl ho' hg' hv'
  exact h v' w' fp' g1 (fun b hb => by
    rcases g2 b hb with g | g | g
    · exact .inl g
    · rw [flat_nil] at g; cases g
    · exact .inr g) g3

/-- The same in a region that draws its order. -/
theorem step_cat {P : Program} {w : World} {ops : Array Oper} {o : Oper} {act : Act} {K : Act → World → Prop} {Q : Exit → Act → World → Prop} {F : Prop} {α : Type} {T : Ty α} (hT : ∀ base w cs a, T.R w cs a → T.O base w cs a []) (s x : Operand) {t e : TypeId} {bytes : Nat} (et : ElemT P t e T.size bytes) {base : Nat} {v : Value} {l : List α} {fp : List Nat} (hO : SlO T e base w v l fp)
    {u : Value} {l' : List α} (hR : SlR T w u l') (hbytes : (l.length + l'.length) * bytes ≤ 140737488355328) (h63 : l.length + l'.length ≤ maxLen) (hbase : base ≤ w.heap.size)
    (hgd : o.guard = none) (ho : o.op = .call { callee := .builtin .append, args := #[s, x], argTypes := #[t, t] }) (hs : act.eval s = v) (hx : act.eval x = u)
    (h : ∀ v' w' fp', SlO T e base w' v' (l ++ l') fp' → (∀ b ∈ fp', b ∈ fp ∨ b = w.heap.size) → Kept fp w w' → K (act.put o.dst v') w') :
    if Region.wanted o (yielded ops act.tmps) = true then Oper.wp P o act w K Q else F := by
  have hw : Region.wanted o (yielded ops act.tmps) = true := by simp [Region.wanted, hgd]
  rw [if_pos hw]
  exact wp_cat hT s x et hO hR hbytes h63 hbase ho hs hx h

theorem flat_one {α : Type} (f : α → Value) (l : List α) : (l.map fun a => [f a]).flatten = l.map f := by
  induction l with
  | nil => rfl
  | cons a t ih => rw [List.map_cons, List.flatten_cons, ih]; rfl

/-- A slice literal of plain one-cell elements, just made. -/
theorem lit_read {α : Type} {T : Ty α} (w : World) (t : TypeId) (f : α → Value) (hf : ∀ w a, T.R w [f a] a) (l : List α) (c : Nat) (hc : l.length ≤ c) (g n : Nat) (hg : w.heap.size = g) (hn : l.length = n) (cs : Array Value) (hcs : cs = (l.map f).toArray) : SlR T (w.alloc (.cells cs t)) (.slice (some ⟨g, 0, none⟩) n c) l := by
  subst hcs
  subst hg
  subst hn
  refine ⟨_, c, l.map fun a => [f a], rfl, hc, by simp, fun _ => ⟨w.heap.size, 0, rfl, fun j u hu => ?_⟩, fun i cs a hi ha => ?_⟩
  · rw [flat_one] at hu
    rw [cell_of_row (w.alloc (.cells (l.map f).toArray t)) w.heap.size (0 + j) (l.map f).toArray t (0, 0) (heap_alloc_new w _)]
    simpa using hu
  · rw [List.getElem?_map, ha] at hi
    simp at hi
    rw [← hi]
    exact hf _ _

/-- '[]T{}', just made. -/
theorem SlO.empty {α : Type} (T : Ty α) (e : TypeId) (w : World) : SlO T e w.heap.size (w.alloc (.cells #[] e)) (.slice (some ⟨w.heap.size, 0, none⟩) 0 0) [] [w.heap.size] :=
  ⟨[], [], rfl, rfl, World.ownsRow_lit w #[] 0 (Nat.le_refl _) (by simp [maxLen]) (by simp), fun i cs a f h => by simp at h, rfl, by simp⟩

/-- A world that has come of W by new blocks alone. -/
structure Xt (W : World) where
  w : World
  h : Below W.heap.size W w

instance (W : World) : Nonempty (Xt W) := ⟨⟨W, Below.refl _ _⟩⟩

/-- A region that draws its order, whose operations read and whose callees hand back the same value in every such world: one walk, in the order of the text. -/
theorem wp_region_ext {P : Program} {id : Nat} {Q : Exit → Act → World → Prop} {a : Act} {W : World} {l : List Oper} (hm : P.follows .mixedOrders = true) (hB : Region.lexB .any l.toArray = true)
    (h : wpQuiet P l.toArray (fun w' => ∃ n : Xt W, w' = n.w) (fun a' => ∀ w', (∃ n : Xt W, w' = n.w) → Q .normal a' w') l a) : (Code.region id l.toArray true).wp P Q a W :=
  wp_region_quiet (C := fun w' => ∃ n : Xt W, w' = n.w) hm hB ⟨⟨W.drew, (Below.refl _ _).drew⟩, rfl⟩ (by simpa using h)

theorem ext_of {P : Program} {f : FuncId} {args : Array Value} {W : World} (n : Xt W) {v : Value} (h : Calls P f args n.w fun e w' => e = .returned v ∧ Below n.w.heap.size n.w w') : Calls P f args n.w fun e w'' => e = .returned v ∧ ∃ m : Xt W, w'' = m.w :=
  h.mono fun _ w' ⟨he, hb⟩ => ⟨he, ⟨w', ext_trans n.h hb⟩, rfl⟩
theorem ext_of_same {P : Program} {f : FuncId} {args : Array Value} {W : World} (n : Xt W) {v : Value} (h : Calls P f args n.w fun e w' => e = .returned v ∧ n.w = w') : Calls P f args n.w fun e w'' => e = .returned v ∧ ∃ m : Xt W, w'' = m.w :=
  h.mono fun _ w' ⟨he, hb⟩ => ⟨he, n, hb.symm⟩

end Go.Proofs.Ytfgobdejlfojiaa
