/- What a call owns, piece by piece, side by side: boxes, slices, structs. -/
import Derived.Test.YtfgobdejlfojiaaTyp
namespace Go.Proofs.Ytfgobdejlfojiaa
open Go.RowKit
set_option linter.unusedVariables false

/-- A thing that is owned: in the blocks fp, all from b on. -/
structure Ow where
  P : Nat → World → List Nat → Prop
  lt : ∀ {b w fp}, P b w fp → ∀ x ∈ fp, b ≤ x ∧ x < w.heap.size
  keep : ∀ {b w w' fp}, P b w fp → (∀ x ∈ fp, w'.heap[x]? = w.heap[x]?) → P b w' fp
  mono : ∀ {b b' w fp}, b' ≤ b → P b w fp → P b' w fp

def tyO {α : Type} (T : Ty α) (cs : List Value) (a : α) : Ow := ⟨fun b w fp => T.O b w cs a fp, fun h => T.lt _ _ _ _ _ h, fun h k => T.okeep _ _ _ _ _ _ h k, fun hb h => T.mono _ _ _ _ _ _ hb h⟩
def slO {α : Type} (T : Ty α) (e : TypeId) (v : Value) (l : List α) : Ow := ⟨fun b w fp => SlO T e b w v l fp, fun h => h.size_ok, fun h k => h.keep k, fun hb h => h.mono hb⟩
def bxO (g : Nat) (t : TypeId) (C : Array Value) : Ow := ⟨fun b w fp => fp = [g] ∧ b ≤ g ∧ w.heap[g]? = some (.cells C t (0, 0)),
  fun ⟨h1, h2, h3⟩ x hx => by
    subst h1
    simp at hx
    subst hx
    exact ⟨h2, (Array.getElem?_eq_some_iff.1 h3).1⟩,
  fun ⟨h1, h2, h3⟩ k => ⟨h1, h2, by rw [k _ (by rw [h1]; simp)]; exact h3⟩, fun hb ⟨h1, h2, h3⟩ => ⟨h1, by omega, h3⟩⟩

def SepF (b : Nat) (w : World) : List Ow → List Nat → Prop
  | [], fp => fp = []
  | o :: os, fp => ∃ f g, fp = f ++ g ∧ o.P b w f ∧ SepF b w os g ∧ ∀ x ∈ f, x ∉ g

/-- All these are owned, from b on, and none shares a block with another. -/
def Sep (b : Nat) (w : World) (os : List Ow) : Prop := b ≤ w.heap.size ∧ ∃ fp, SepF b w os fp

theorem SepF.lt {b : Nat} {w : World} {os : List Ow} {fp : List Nat} (h : SepF b w os fp) : ∀ x ∈ fp, b ≤ x ∧ x < w.heap.size := by
  induction os generalizing fp with
  | nil => intro x hx; rw [show fp = [] from h] at hx; cases hx
  | cons o os ih =>
    obtain ⟨f, g, rfl, h1, h2, _⟩ := h
    intro x hx
    rcases List.mem_append.1 hx with hx | hx
    · exact o.lt h1 x hx
    · exact ih h2 x hx

theorem SepF.keep {b : Nat} {w w' : World} {os : List Ow} {fp : List Nat} (h : SepF b w os fp) (hk : ∀ x ∈ fp, w'.heap[x]? = w.heap[x]?) : SepF b w' os fp := by
  induction os generalizing fp with
  | nil => exact h
  | cons o os ih =>
    obtain ⟨f, g, rfl, h1, h2, h3⟩ := h
    exact ⟨f, g, rfl, o.keep h1 fun x hx => hk x (List.mem_append.2 (.inl hx)), ih h2 fun x hx => hk x (List.mem_append.2 (.inr hx)), h3⟩

theorem SepF.mono {b b' : Nat} {w : World} {os : List Ow} {fp : List Nat} (hb : b' ≤ b) (h : SepF b w os fp) : SepF b' w os fp := by
  induction os generalizing fp with
  | nil => exact h
  | cons o os ih =>
    obtain ⟨f, g, rfl, h1, h2, h3⟩ := h
    exact ⟨f, g, rfl, o.mono hb h1, ih h2, h3⟩

section
variable {b : Nat} {w w' : World} {o o1 o2 o3 o4 : Ow} {os : List Ow}

theorem Sep.nil (w : World) : Sep w.heap.size w [] := ⟨Nat.le_refl _, [], rfl⟩
theorem Sep.nil' (h : b ≤ w.heap.size) : Sep b w [] := ⟨h, [], rfl⟩
theorem Sep.base (h : Sep b w os) : b ≤ w.heap.size := h.1
theorem Sep.mono {b' : Nat} (h : Sep b w os) (hb : b' ≤ b) : Sep b' w os := by
  obtain ⟨h1, fp, h2⟩ := h
  exact ⟨by omega, fp, h2.mono hb⟩
theorem Sep.below (h : Sep b w os) (x : Ext w w') : Sep b w' os := by
  obtain ⟨h1, fp, h2⟩ := h
  exact ⟨Nat.le_trans h1 x.size, fp, h2.keep fun y hy => x.block y (h2.lt y hy).2⟩
theorem Sep.f1 (h : Sep b w (o1 :: o2 :: os)) : Sep b w (o2 :: o1 :: os) := by
  obtain ⟨h1, fp, f, g, rfl, h2, ⟨f', g', rfl, h3, h4, h5⟩, h6⟩ := h
  refine ⟨h1, f' ++ (f ++ g'), f', f ++ g', rfl, h3, ⟨f, g', rfl, h2, h4, fun x hx hy => h6 x hx (List.mem_append.2 (.inr hy))⟩, fun x hx hy => ?_⟩
  rcases List.mem_append.1 hy with hy | hy
  · exact h6 x hy (List.mem_append.2 (.inl hx))
  · exact h5 x hx hy
theorem Sep.tail (h : Sep b w (o :: os)) : Sep b w os := by
  obtain ⟨h1, fp, f, g, rfl, h2, h3, h6⟩ := h
  exact ⟨h1, g, h3⟩
theorem Sep.under {os' : List Ow} (h : Sep b w (o :: os)) (k : ∀ fp, SepF b w os fp → ∃ fp', SepF b w os' fp' ∧ ∀ x, x ∈ fp' → x ∈ fp) : Sep b w (o :: os') := by
  obtain ⟨h1, fp, f, g, rfl, h2, h3, h6⟩ := h
  obtain ⟨g', h4, h5⟩ := k g h3
  exact ⟨h1, f ++ g', f, g', rfl, h2, h4, fun x hx hy => h6 x hx (h5 x hy)⟩
theorem Sep.f2 (h : Sep b w (o1 :: o2 :: o3 :: os)) : Sep b w (o3 :: o1 :: o2 :: os) := by
  obtain ⟨h1, fp, f, g, rfl, h2, h3, h6⟩ := h
  obtain ⟨_, fp', h7⟩ := Sep.f1 (⟨h1, g, h3⟩ : Sep b w (o2 :: o3 :: os))
  have hg : ∃ f3 g3, SepF b w (o3 :: o2 :: os) (f3 ++ g3) ∧ o3.P b w f3 ∧ SepF b w (o2 :: os) g3 ∧ (∀ x ∈ f3, x ∉ g3) ∧ ∀ x, x ∈ f3 ++ g3 → x ∈ g := by
    obtain ⟨f2, g2, rfl, k1, ⟨f3, g3, rfl, k2, k3, k4⟩, k5⟩ := h3
    refine ⟨f3, f2 ++ g3, ⟨f3, f2 ++ g3, rfl, k2, ⟨f2, g3, rfl, k1, k3, fun x hx hy => k5 x hx (List.mem_append.2 (.inr hy))⟩, ?_⟩, k2, ⟨f2, g3, rfl, k1, k3, fun x hx hy => k5 x hx (List.mem_append.2 (.inr hy))⟩, ?_, ?_⟩
    · intro x hx hy
      rcases List.mem_append.1 hy with hy | hy
      · exact k5 x hy (List.mem_append.2 (.inl hx))
      · exact k4 x hx hy
    · intro x hx hy
      rcases List.mem_append.1 hy with hy | hy
      · exact k5 x hy (List.mem_append.2 (.inl hx))
      · exact k4 x hx hy
    · intro x hx
      simp only [List.mem_append] at hx ⊢
      rcases hx with hx | hx | hx
      · exact .inr (.inl hx)
      · exact .inl hx
      · exact .inr (.inr hx)
  obtain ⟨f3, g3, k0, k1, k2, k3, k4⟩ := hg
  refine Sep.f1 ⟨h1, f ++ (f3 ++ g3), f, f3 ++ g3, rfl, h2, k0, fun x hx hy => h6 x hx (k4 x hy)⟩
theorem Sep.f3 (h : Sep b w (o1 :: o2 :: o3 :: o4 :: os)) : Sep b w (o4 :: o1 :: o2 :: o3 :: os) := by
  obtain ⟨h1, fp, f, g, rfl, h2, ⟨f2, g2, rfl, k1, ⟨f3, g3, rfl, k2, ⟨f4, g4, rfl, k3, k4, k5⟩, k6⟩, k7⟩, h6⟩ := h
  simp only [List.mem_append, not_or] at h6 k7 k6
  refine ⟨h1, f4 ++ (f ++ (f2 ++ (f3 ++ g4))), f4, _, rfl, k3, ⟨f, _, rfl, h2, ⟨f2, _, rfl, k1, ⟨f3, g4, rfl, k2, k4, fun x hx => (k6 x hx).2⟩, ?_⟩, ?_⟩, ?_⟩
  · intro x hx hy
    rcases List.mem_append.1 hy with hy | hy
    · exact (k7 x hx).1 hy
    · exact (k7 x hx).2.2 hy
  · intro x hx hy
    simp only [List.mem_append] at hy
    rcases hy with hy | hy | hy
    · exact (h6 x hx).1 hy
    · exact (h6 x hx).2.1 hy
    · exact (h6 x hx).2.2.2 hy
  · intro x hx hy
    simp only [List.mem_append] at hy
    rcases hy with hy | hy | hy | hy
    · exact (h6 x hy).2.2.1 hx
    · exact (k7 x hy).2.1 hx
    · exact (k6 x hy).1 hx
    · exact k5 x hx hy

/-- Something new beside what there is. -/
theorem Sep.add {fp : List Nat} (h : Sep b w os) (x : Ext w w') (ho : o.P w.heap.size w' fp) : Sep b w' (o :: os) := by
  obtain ⟨h1, g, h2⟩ := h
  refine ⟨Nat.le_trans h1 x.size, fp ++ g, fp, g, rfl, o.mono h1 ho, h2.keep fun y hy => x.block y (h2.lt y hy).2, fun y hy hz => ?_⟩
  have := (o.lt ho y hy).1
  have := (h2.lt y hz).2
  omega
theorem Sep.addNil {α : Type} {T : Ty α} {e : TypeId} (h : Sep b w os) : Sep b w (slO T e (.slice none 0 0) ([] : List α) :: os) := by
  obtain ⟨h1, g, h2⟩ := h
  exact ⟨h1, g, [], g, rfl, SlO.nil, h2, fun x hx => by cases hx⟩
theorem Sep.addFlat {α : Type} {T : Ty α} {cs : List Value} {a : α} (h : Sep b w os) (hO : T.O b w cs a []) : Sep b w (tyO T cs a :: os) := by
  obtain ⟨h1, g, h2⟩ := h
  exact ⟨h1, g, [], g, rfl, hO, h2, fun x hx => by cases hx⟩

theorem Sep.head (h : Sep b w (o :: os)) : ∃ fp, o.P b w fp := by
  obtain ⟨h1, fp, f, g, rfl, h2, h3, h6⟩ := h
  exact ⟨f, h2⟩
theorem Sep.box {g : Nat} {t : TypeId} {C : Array Value} (h : Sep b w (bxO g t C :: os)) : w.heap[g]? = some (.cells C t (0, 0)) := by
  obtain ⟨fp, _, _, h3⟩ := h.head
  exact h3
theorem Sep.sl {α : Type} {T : Ty α} {e : TypeId} {v : Value} {l : List α} (h : Sep b w (slO T e v l :: os)) : SlR T w v l := by
  obtain ⟨fp, h3⟩ := h.head
  exact SlO.read h3
theorem Sep.ty {α : Type} {T : Ty α} {cs : List Value} {a : α} (h : Sep b w (tyO T cs a :: os)) : T.R w cs a := by
  obtain ⟨fp, h3⟩ := h.head
  exact T.read _ _ _ _ _ h3
/-- One thing is turned into another in the same blocks and new ones. -/
theorem Sep.turn {w' : World} {fp' : List Nat → List Nat → Prop} (h : Sep b w (o1 :: os)) (hk : ∀ f, o1.P b w f → ∃ f', o2.P b w' f' ∧ (∀ x ∈ f', x ∈ f ∨ w.heap.size ≤ x) ∧ Kept f w w') : Sep b w' (o2 :: os) := by
  obtain ⟨h1, fp, f, g, rfl, h2, h3, h6⟩ := h
  obtain ⟨f', k1, k2, k3⟩ := hk f h2
  refine ⟨Nat.le_trans h1 k3.size, f' ++ g, f', g, rfl, k1, h3.keep fun x hx => k3.block x (h3.lt x hx).2 (fun hf => h6 x hf hx), fun x hx hy => ?_⟩
  rcases k2 x hx with h | h
  · exact h6 x h hy
  · have := (h3.lt x hy).2; omega
end

/-! ### Boxes -/

theorem cell_box {w : World} {g j : Nat} {t : TypeId} {C : Array Value} {fr : Nat × Nat} (h : w.heap[g]? = some (.cells C t fr)) : w.cell? ⟨g, j, none⟩ = C[j]? := by
  simp [World.cell?, h]
theorem frozen_box {w : World} {g j : Nat} {t : TypeId} {C : Array Value} (h : w.heap[g]? = some (.cells C t (0, 0))) : w.frozen? ⟨g, j, none⟩ = false := by
  simp [World.frozen?, h]
theorem heap_set {w : World} {g j : Nat} {t : TypeId} {C : Array Value} {fr : Nat × Nat} {u : Value} (h : w.heap[g]? = some (.cells C t fr)) : (w.setCell ⟨g, j, none⟩ u).heap[g]? = some (.cells (C.setIfInBounds j u) t fr) := by
  simp [World.setCell, Array.getElem?_modify, h]

section
variable {P : Program} {n : Nat} {ops : Array Oper} {Q : Exit → Act → World → Prop} {L : Frm} {w w0 : World} {m : Md} {r : IT} {d : Nat} {ty : TypeId} {pos : String} {af : Array Edge} {b : Nat} {os : List Ow}

theorem bx {b : Nat} {w0 w w' : World} (hb : b ≤ w0.heap.size) (B : Below b w0 w) (x : Ext w w') : Below b w0 w' := B.trans (x.mono (Nat.le_trans hb B.size))
theorem ext_new (w : World) (o : Obj) : Ext w (w.alloc o) := ext_alloc1 w o

/-- A step that makes memory. -/
theorem t_make {op : Op} {v : Value} {w' : World} (hx : Ext w w') (h : ∀ a, Env n L a → ∀ dst af gd, (execOp a.eval ⟨dst, op, ty, pos, af, gd⟩).run P w = .ok (.value v) w') (k : WT P n ops Q r ((d, v) :: L) w') (hm : m.isTake = false) (hn : Nat.blt d n = true) : WT P n ops Q (.st m ⟨some d, op, ty, pos, af, none⟩ r) L w := by
  intro a ha
  cases m with
  | take => cases hm
  | run =>
    simp only [wpT, Region.wanted, if_true]
    unfold Oper.wp
    rw [h a ha]
    exact ⟨hx, k _ (ha.put hn v)⟩
  | fin =>
    simp only [wpT, Region.wanted, if_true]
    unfold Oper.wp
    rw [h a ha]
    exact k _ (ha.put hn v)

/-- A box that is only read: the pointer leads to the value's data. -/
theorem t_boxr {α : Type} {T : Ty α} {t : TypeId} {xo : Operand} {v : Value} {x : α} (h : VA T w v x) (hx : ev L xo = some v) (k : ∀ p w', Ext w w' → Ptr T w' p x → WT P n ops Q r ((d, p) :: L) w') (hm : m.isTake = false) (hn : Nat.blt d n = true) : WT P n ops Q (.st m ⟨some d, .box t xo, ty, pos, af, none⟩ r) L w := by
  obtain ⟨cs, rfl, h2⟩ := h
  have he := ext_new w (.cells cs.toArray t)
  refine t_make (v := .pointer (some ⟨w.heap.size, 0, none⟩)) he (fun a ha _ _ _ => ?_) (k _ _ he ⟨w.heap.size, 0, cs, rfl, T.keep _ _ _ _ h2 he, fun j u hu => ?_⟩) hm hn
  · simp [execOp, ha.ev hx, Instr.box, newVar, newRow, newObj, Sem.run, Value.cells]
  · rw [cell_box (heap_alloc_new w _)]
    simpa using hu
/-- A box of one's own. -/
theorem t_boxo {t : TypeId} {xo : Operand} {v : Value} {C : Array Value} (S : Sep b w os) (hx : ev L xo = some v) (hC : v.cells = C) (k : ∀ g w', Ext w w' → Sep b w' (bxO g t C :: os) → WT P n ops Q r ((d, .pointer (some ⟨g, 0, none⟩)) :: L) w') (hm : m.isTake = false) (hn : Nat.blt d n = true) : WT P n ops Q (.st m ⟨some d, .box t xo, ty, pos, af, none⟩ r) L w := by
  have he := ext_new w (.cells C t)
  refine t_make (v := .pointer (some ⟨w.heap.size, 0, none⟩)) he (fun a ha _ _ _ => ?_) (k _ _ he (S.add (fp := [w.heap.size]) he ⟨rfl, Nat.le_refl _, heap_alloc_new w _⟩)) hm hn
  simp [execOp, ha.ev hx, Instr.box, newVar, newRow, newObj, Sem.run, hC]
theorem t_alloc {t : TypeId} {C : Array Value} {z : Value} (S : Sep b w os) (hz : (P.info? t).map (·.zero) = some (some z)) (hC : z.cells = C) (k : ∀ g w', Ext w w' → Sep b w' (bxO g t C :: os) → WT P n ops Q r ((d, .pointer (some ⟨g, 0, none⟩)) :: L) w') (hm : m.isTake = false) (hn : Nat.blt d n = true) : WT P n ops Q (.st m ⟨some d, .alloc t, ty, pos, af, none⟩ r) L w := by
  have he := ext_new w (.cells C t)
  refine t_make (v := .pointer (some ⟨w.heap.size, 0, none⟩)) he (fun a ha _ _ _ => ?_) (k _ _ he (S.add (fp := [w.heap.size]) he ⟨rfl, Nat.le_refl _, heap_alloc_new w _⟩)) hm hn
  cases hi : P.info? t with
  | none => rw [hi] at hz; cases hz
  | some inf =>
    rw [hi] at hz
    simp at hz
    simp [execOp, Instr.alloc, zeroValue, typeInfo, hi, hz, newVar, newRow, newObj, program, Sem.run, hC]

/-- A load from a box. -/
theorem t_bx1 {t tb : TypeId} {g j : Nat} {C : Array Value} {xo : Operand} {u : Value} (hb : w.heap[g]? = some (.cells C tb (0, 0))) (ha : aggB P t = some false) (hx : ev L xo = some (.pointer (some ⟨g, j, none⟩))) (hu : C[j]? = some u) (k : WT P n ops Q r ((d, u) :: L) w) (hn : Nat.blt d n = true) : WT P n ops Q (.st m ⟨some d, .load t xo, ty, pos, af, none⟩ r) L w :=
  t_ld1 ha (w0 := w) (by rw [cell_box hb]; exact hu) (Below.refl _ _) hx k hn
theorem t_bxn {t tb : TypeId} {g sz : Nat} {C : Array Value} {xo : Operand} (hb : w.heap[g]? = some (.cells C tb (0, 0))) (ha : aggB P t = some true) (hs : sizeB P t = some sz) (hsz : C.size = sz) (hx : ev L xo = some (.pointer (some ⟨g, 0, none⟩))) (k : WT P n ops Q r ((d, .agg C) :: L) w) (hn : Nat.blt d n = true) : WT P n ops Q (.st m ⟨some d, .load t xo, ty, pos, af, none⟩ r) L w :=
  t_ldn (cs := C.toList) ha (by rw [Array.length_toList, hsz]; exact hs) (w0 := w) (fun j u hu => by rw [cell_box hb]; simpa using hu) (Below.refl _ _) hx (by simpa using k) hn

theorem t_store {op : Op} {w' : World} (h : ∀ a, Env n L a → ∀ dst af gd, (execOp a.eval ⟨dst, op, ty, pos, af, gd⟩).run P w = .ok .skip w') (k : WT P n ops Q r L w') : WT P n ops Q (.st .fin ⟨none, op, ty, pos, af, none⟩ r) L w := by
  intro a ha
  simp only [wpT, Region.wanted, if_true]
  unfold Oper.wp
  rw [h a ha]
  exact k _ ha

theorem run_store1 {w : World} {g j : Nat} {t : TypeId} {C : Array Value} {u c : Value} (h : w.heap[g]? = some (.cells C t (0, 0))) (hc : C[j]? = some c) (hu : u.oneCell' = true) : (store ⟨g, j, none⟩ u).run P w = .ok () (w.setCell ⟨g, j, none⟩ u) := by
  have h1 : w.cell? ⟨g, j, none⟩ = some c := by rw [cell_box h]; exact hc
  have h2 := frozen_box (j := j) h
  cases u <;> simp [Value.oneCell'] at hu <;> simp [store, Sem.run, h1, h2]

/-- A store of one cell into a box. -/
theorem t_st1 {t tb : TypeId} {g j : Nat} {C : Array Value} {po xo : Operand} {u c : Value} (S : Sep b w (bxO g tb C :: os)) (hs : sizeB P t = some 1) (hp : ev L po = some (.pointer (some ⟨g, j, none⟩))) (hx : ev L xo = some u) (hc : C[j]? = some c) (hu : u.oneCell' = true) (huc : u.cells = #[u])
    (k : ∀ w', Below b w w' → Sep b w' (bxO g tb (C.setIfInBounds j u) :: os) → WT P n ops Q r L w') : WT P n ops Q (.st .fin ⟨none, .store t po xo, ty, pos, af, none⟩ r) L w := by
  have hb := S.box
  refine t_store (w' := w.setCell ⟨g, j, none⟩ u) (fun a ha _ _ _ => ?_) (k _ ?_ (S.turn (fp' := fun _ _ => True) fun f hf => ?_))
  · simp [execOp, ha.ev hp, ha.ev hx, Instr.storeAt, Instr.sureAddr, storeVar, huc, run_sizeOf hs, storeCells, Addr.add, run_store1 hb hc hu]
  · obtain ⟨fp, _, hg, _⟩ := S.head
    exact (Below.refl _ _).setCell hg u
  · obtain ⟨h1, h2, h3⟩ := hf
    refine ⟨f, ⟨h1, h2, heap_set h3⟩, fun x hx => .inl hx, (Kept.refl _ _).setCell (by rw [h1]; simp) u⟩

theorem run_storeCells {g : Nat} {t : TypeId} : ∀ (vs : List Value) (i : Nat) (w : World) (C : Array Value), w.heap[g]? = some (.cells C t (0, 0)) → i + vs.length ≤ C.size → (∀ u ∈ vs, u.oneCell' = true) →
    ∃ w' C', (storeCells ⟨g, 0, none⟩ vs i).run P w = .ok () w' ∧ w'.heap[g]? = some (.cells C' t (0, 0)) ∧ C'.size = C.size ∧ Kept [g] w w' ∧ ∀ j, C'[j]? = if i ≤ j ∧ j < i + vs.length then vs[j - i]? else C[j]? := by
  intro vs
  induction vs with
  | nil =>
    intro i w C h _ _
    exact ⟨w, C, by simp [storeCells], h, rfl, Kept.refl _ _, fun j => by rw [if_neg (by simp)]⟩
  | cons u vs ih =>
    intro i w C h hlen h1
    simp only [List.length_cons] at hlen
    have hi : i < C.size := by omega
    have hc : C[i]? = some C[i] := Array.getElem?_eq_getElem hi
    have hrun := run_store1 (P := P) h hc (h1 u (by simp))
    obtain ⟨w', C', k1, k2, k3, k4, k5⟩ := ih (i + 1) (w.setCell ⟨g, i, none⟩ u) (C.setIfInBounds i u) (heap_set h) (by simp; omega) (fun x hx => h1 x (by simp [hx]))
    refine ⟨w', C', ?_, k2, by simpa using k3, ((Kept.refl _ _).setCell (by simp) u).trans k4, fun j => ?_⟩
    · have ha : (⟨g, 0, none⟩ : Addr).add i = ⟨g, i, none⟩ := by rw [Addr.add_lit]; simp
      simp only [storeCells, Sem.run_bind, ha, hrun, Result.andThen_ok, k1]
    · rw [k5 j]
      by_cases hj : j = i
      · subst hj
        rw [if_neg (by omega), if_pos (by simp)]
        simp [hi]
      · by_cases hj2 : i + 1 ≤ j ∧ j < i + 1 + vs.length
        · rw [if_pos hj2, if_pos (by simp; omega), show j - i = (j - (i + 1)) + 1 by omega, List.getElem?_cons_succ]
        · rw [if_neg hj2, if_neg (by simp; omega), Array.getElem?_setIfInBounds_ne (by omega)]

/-- A store of a whole struct into its box. -/
theorem t_stn {t tb : TypeId} {g sz : Nat} {C V : Array Value} {po xo : Operand} (S : Sep b w (bxO g tb C :: os)) (hs : sizeB P t = some sz) (hp : ev L po = some (.pointer (some ⟨g, 0, none⟩))) (hx : ev L xo = some (.agg V)) (hsz : V.size = sz) (hV : V.size = C.size) (hu : ∀ u ∈ V.toList, u.oneCell' = true)
    (k : ∀ w', Below b w w' → Sep b w' (bxO g tb V :: os) → WT P n ops Q r L w') : WT P n ops Q (.st .fin ⟨none, .store t po xo, ty, pos, af, none⟩ r) L w := by
  subst hsz
  have hb := S.box
  obtain ⟨w', C', k1, k2, k3, k4, k5⟩ := run_storeCells (P := P) V.toList 0 w C hb (by simp [hV]) hu
  have hC : C' = V := by
    apply Array.ext_getElem?
    intro j
    rw [k5 j]
    by_cases hj : j < V.size
    · rw [if_pos (by simpa using hj)]; simp
    · rw [if_neg (by simpa using hj), Array.getElem?_eq_none (by omega), Array.getElem?_eq_none (by omega)]
  subst hC
  obtain ⟨fp, _, hg, _⟩ := S.head
  refine t_store (w' := w') (fun a ha _ _ _ => ?_) (k _ (k4.below (by simpa using hg) S.base) (S.turn (fp' := fun _ _ => True) fun f hf => ?_))
  · simp [execOp, ha.ev hp, ha.ev hx, Instr.storeAt, Instr.sureAddr, storeVar, Value.cells, run_sizeOf hs, k1]
  · obtain ⟨h1, h2, h3⟩ := hf
    subst h1
    exact ⟨[g], ⟨rfl, h2, k2⟩, fun x hx => .inl hx, k4⟩

/-! ### Slices of one's own -/

/-- append of plain elements. -/
theorem t_cat {α : Type} {T : Ty α} (hT : ∀ base w cs a, T.R w cs a → T.O base w cs a []) {t e : TypeId} {bytes : Nat} (et : ElemT P t e T.size bytes) {s x : Operand} {ar : Array TypeId} {v u : Value} {l l' : List α} (S : Sep b w (slO T e v l :: os)) (hR : SlR T w u l') (hs : ev L s = some v) (hx : ev L x = some u) (har : ar = #[t, t])
    (hby : (l.length + l'.length) * bytes ≤ 140737488355328) (h63 : l.length + l'.length ≤ maxLen)
    (k : ∀ v' w', Below b w w' → Sep b w' (slO T e v' (l ++ l') :: os) → WT P n ops Q r ((d, v') :: L) w') (hn : Nat.blt d n = true) : WT P n ops Q (.st .fin ⟨some d, .call ⟨.builtin .append, #[s, x], ar⟩, ty, pos, af, none⟩ r) L w := by
  intro a ha
  subst har
  have hb := S.base
  obtain ⟨h1, fp, f, g, rfl, h2, h3, h6⟩ := S
  simp only [wpT, Region.wanted, if_true]
  refine wp_cat hT s x et h2 hR hby h63 hb rfl (ha.ev hs) (ha.ev hx) fun v' w' fp' hO hfp hk => ?_
  have hB : Below b w w' := hk.below (fun y hy => (h2.size_ok y hy).1) hb
  refine k v' w' hB ⟨Nat.le_trans hb hk.size, fp' ++ g, fp', g, rfl, hO, h3.keep fun y hy => hk.block y (h3.lt y hy).2 (fun hf => h6 y hf hy), fun y hy hz => ?_⟩ _ (ha.put hn v')
  rcases hfp y hy with h | h
  · exact h6 y h hz
  · have := (h3.lt y hz).2; omega

/-- append of one element that is owned: it goes over into the slice. -/
theorem t_snoc {α : Type} {T : Ty α} {t e : TypeId} {bytes : Nat} (et : ElemT P t e T.size bytes) {s x : Operand} {ar : Array TypeId} {v : Value} {A : Option Addr} {c : Nat} {cs : List Value} {y : α} {l : List α} (S : Sep b w (slO T e v l :: tyO T cs y :: os)) (hr : Rd w A cs) (hs : ev L s = some v) (hx : ev L x = some (.slice A 1 c)) (har : ar = #[t, t])
    (hby : (l.length + 1) * bytes ≤ 140737488355328) (h63 : l.length + 1 ≤ maxLen)
    (k : ∀ v' w', Below b w w' → Sep b w' (slO T e v' (l ++ [y]) :: os) → WT P n ops Q r ((d, v') :: L) w') (hn : Nat.blt d n = true) : WT P n ops Q (.st .fin ⟨some d, .call ⟨.builtin .append, #[s, x], ar⟩, ty, pos, af, none⟩ r) L w := by
  intro a ha
  subst har
  have hb := S.base
  obtain ⟨h1, fp, f, g, rfl, ⟨css, fps, k1, k2, k3, k4, k5, k6⟩, ⟨f2, g2, rfl, m1, m2, m3⟩, h6⟩ := S
  have hfl : ∀ y ∈ f, b ≤ y ∧ y < w.heap.size := SlO.size_ok ⟨css, fps, k1, k2, k3, k4, k5, k6⟩
  have hel : T.O b w cs y f2 := m1
  have hlen : cs.length = 1 * T.size := by rw [T.len _ _ _ (T.read _ _ _ _ _ hel)]; omega
  have hd : ∀ z ∈ f2, z ∉ f := fun z hz hf => h6 z hf (List.mem_append.2 (.inl hz))
  simp only [wpT, Region.wanted, if_true]
  refine wp_app s x et k3 hr hlen (T.one _ _ _ (T.read _ _ _ _ _ hel)) hby h63 hb rfl (ha.ev hs) (ha.ev hx) fun v' w' ho' hg' hv' => ?_
  obtain ⟨fp', g1, g2', g3⟩ := SlO.grow (css' := [cs]) (fps' := [f2]) (l' := [y]) (m := 1) k1 k2 k3 k4 k5 k6 rfl rfl (fun i c' a' f' hi ha hf' => by
    rcases i with _ | i
    · simp at hi ha hf'
      subst hi ha hf'
      exact hel
    · simp at hi) (by simpa using T.nodup _ _ _ _ _ hel) (by simpa using hd) rfl (by simpa using ho') hg' hv'
  have hB : Below b w w' := g3.below (fun y hy => (hfl y hy).1) hb
  refine k v' w' hB ⟨Nat.le_trans hb g3.size, fp' ++ g2, fp', g2, rfl, g1, m2.keep fun y hy => g3.block y (m2.lt y hy).2 (fun hf => h6 y hf (List.mem_append.2 (.inr hy))), fun z hz hy => ?_⟩ _ (ha.put hn v')
  rcases g2' z hz with h | h | h
  · exact h6 z h (List.mem_append.2 (.inr hy))
  · exact m3 z (by simpa using h) hy
  · have := (m2.lt z hy).2; omega
end

end Go.Proofs.Ytfgobdejlfojiaa
