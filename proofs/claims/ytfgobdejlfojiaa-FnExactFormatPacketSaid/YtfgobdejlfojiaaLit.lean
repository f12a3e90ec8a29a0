/- The engine: struct values, slice literals, results that lie in memory, conversions. -/
import Derived.Test.YtfgobdejlfojiaaLens
namespace Go.Proofs.Ytfgobdejlfojiaa
open Go.RowKit
set_option linter.unusedVariables false

def evp (L : Frm) : List (Nat × Operand) → Option (List (Nat × Value))
  | [] => some []
  | x :: xs => match ev L x.2, evp L xs with
    | some v, some vs => some ((x.1, v) :: vs)
    | _, _ => none

theorem Env.evp {n : Nat} {L : Frm} {a : Act} (h : Env n L a) {xs : List (Nat × Operand)} {vs : List (Nat × Value)} (hx : evp L xs = some vs) : (xs.map fun x => (x.1, a.eval x.2)) = vs := by
  induction xs generalizing vs with
  | nil => cases hx; rfl
  | cons x t ih =>
    unfold Go.Proofs.Ytfgobdejlfojiaa.evp at hx
    split at hx
    · rename_i v vs' h1 h2
      cases hx
      rw [List.map_cons, h.ev h1, ih h2]
    · cases hx

section
variable {P : Program} {n : Nat} {ops : Array Oper} {Q : Exit → Act → World → Prop} {L : Frm} {w w0 : World} {m : Md} {r : IT} {d : Nat} {ty : TypeId} {pos : String} {af : Array Edge} {b : Nat} {os : List Ow}

theorem t_build {t : TypeId} {ps : List (Nat × Operand)} {vs : List (Nat × Value)} {v : Value} (hb : ∀ w, (Instr.build t vs.toArray).run P w = .ok v w) (hv : evp L ps = some vs) (k : WT P n ops Q r ((d, v) :: L) w) (hn : Nat.blt d n = true) : WT P n ops Q (.st m ⟨some d, .build t ps.toArray, ty, pos, af, none⟩ r) L w :=
  t_read (fun a ha _ _ _ w' _ => by
    have h := ha.evp hv
    have e : (ps.toArray.map fun x => (x.1, a.eval x.2)) = vs.toArray := by rw [List.map_toArray, h]
    simp only [execOp]
    rw [show (ps.toArray.map fun x => match x with | (i, x) => (i, a.eval x)) = vs.toArray from e]
    simp [hb]) k hn

/-- A slice literal whose elements are plain: a slice of one's own. -/
theorem t_lit {α : Type} {T : Ty α} (hT : ∀ base w cs a, T.R w cs a → T.O base w cs a []) {t e : TypeId} {len : Nat} {ps : List (Nat × Operand)} {vs : List (Nat × Value)} {C : Array Value} {l : List α} {css : List (List Value)} (S : Sep b w os)
    (hb : ∀ w, (Instr.buildSlice t len vs.toArray).run P w = .ok (.slice (some ⟨w.heap.size, 0, none⟩) len len) (w.alloc (.cells C e))) (hv : evp L ps = some vs) (hC : C.toList = css.flatten) (hl : l.length = len) (hcl : css.length = l.length) (hlen : l.length ≤ maxLen) (hR : ∀ (w : World) (i : Nat) cs a, css[i]? = some cs → l[i]? = some a → T.R w cs a)
    (k : ∀ u w', Ext w w' → Sep b w' (slO T e u l :: os) → WT P n ops Q r ((d, u) :: L) w') (hm : m.isTake = false) (hn : Nat.blt d n = true) : WT P n ops Q (.st m ⟨some d, .buildSlice t len ps.toArray, ty, pos, af, none⟩ r) L w := by
  have he := ext_new w (.cells C e)
  have hall : ∀ (i : Nat) cs, css[i]? = some cs → cs.length = T.size := fun i cs hi => by
    have hlt : i < l.length := by rw [← hcl]; exact (List.getElem?_eq_some_iff.1 hi).1
    exact T.len _ _ _ (hR w i cs _ hi (List.getElem?_eq_getElem hlt))
  have hsz : C.size = l.length * T.size := by rw [← Array.length_toList, hC, flatten_len hall, hcl]
  have hO : SlO T e w.heap.size (w.alloc (.cells C e)) (.slice (some ⟨w.heap.size, 0, none⟩) len len) l [w.heap.size] := by
    subst hl
    refine ⟨css, l.map fun _ => [], hcl, by simp, ?_, fun i cs a f hi ha hf => ?_, ?_, by simp⟩
    · rw [← hC]
      exact World.ownsRow_lit w C l.length (Nat.le_refl _) hlen hsz
    · simp at hf
      obtain ⟨_, _, rfl⟩ := hf
      exact hT _ _ _ _ (hR _ i cs a hi ha)
    · rw [flat_nil]; rfl
  refine t_make he (fun a ha _ _ _ => ?_) (k _ _ he (S.add he hO)) hm hn
  have h := ha.evp hv
  have e' : (ps.toArray.map fun x => (x.1, a.eval x.2)) = vs.toArray := by rw [List.map_toArray, h]
  simp only [execOp]
  rw [show (ps.toArray.map fun x => match x with | (i, x) => (i, a.eval x)) = vs.toArray from e']
  simp [hb]

/-- A slice literal of one element, to be appended: its cells can be read. -/
theorem t_lit1 {t e : TypeId} {ps : List (Nat × Operand)} {vs : List (Nat × Value)} {C : Array Value} (hb : ∀ w, (Instr.buildSlice t 1 vs.toArray).run P w = .ok (.slice (some ⟨w.heap.size, 0, none⟩) 1 1) (w.alloc (.cells C e))) (hv : evp L ps = some vs)
    (k : ∀ A w', Ext w w' → Rd w' A C.toList → WT P n ops Q r ((d, .slice A 1 1) :: L) w') (hm : m.isTake = false) (hn : Nat.blt d n = true) : WT P n ops Q (.st m ⟨some d, .buildSlice t 1 ps.toArray, ty, pos, af, none⟩ r) L w := by
  have he := ext_new w (.cells C e)
  refine t_make he (fun a ha _ _ _ => ?_) (k _ _ he fun _ => ⟨w.heap.size, 0, rfl, fun j u hu => ?_⟩) hm hn
  · have h := ha.evp hv
    have e' : (ps.toArray.map fun x => (x.1, a.eval x.2)) = vs.toArray := by rw [List.map_toArray, h]
    simp only [execOp]
    rw [show (ps.toArray.map fun x => match x with | (i, x) => (i, a.eval x)) = vs.toArray from e']
    simp [hb]
  · rw [cell_box (heap_alloc_new w _)]
    simpa using hu

/-- A slice literal of elements that are owned. -/
theorem t_lit2 {α : Type} {T : Ty α} {t e : TypeId} {ps : List (Nat × Operand)} {vs : List (Nat × Value)} {C : Array Value} {cs1 cs2 : List Value} {x1 x2 : α} (S : Sep b w (tyO T cs1 x1 :: tyO T cs2 x2 :: os))
    (hb : ∀ w, (Instr.buildSlice t 2 vs.toArray).run P w = .ok (.slice (some ⟨w.heap.size, 0, none⟩) 2 2) (w.alloc (.cells C e))) (hv : evp L ps = some vs) (hC : C.toList = cs1 ++ cs2)
    (k : ∀ u w', Ext w w' → Sep b w' (slO T e u [x1, x2] :: os) → WT P n ops Q r ((d, u) :: L) w') (hm : m.isTake = false) (hn : Nat.blt d n = true) : WT P n ops Q (.st m ⟨some d, .buildSlice t 2 ps.toArray, ty, pos, af, none⟩ r) L w := by
  have he := ext_new w (.cells C e)
  obtain ⟨h1, fp, f, g, rfl, h2, ⟨f2, g2, rfl, m1, m2, m3⟩, h6⟩ := S
  have hO1 : T.O b w cs1 x1 f := h2
  have hO2 : T.O b w cs2 x2 f2 := m1
  have hl1 := T.len _ _ _ (T.read _ _ _ _ _ hO1)
  have hl2 := T.len _ _ _ (T.read _ _ _ _ _ hO2)
  have hlt1 := T.lt _ _ _ _ _ hO1
  have hlt2 := T.lt _ _ _ _ _ hO2
  have hO : SlO T e b (w.alloc (.cells C e)) (.slice (some ⟨w.heap.size, 0, none⟩) 2 2) [x1, x2] (w.heap.size :: (f ++ f2)) := by
    refine ⟨[cs1, cs2], [f, f2], rfl, rfl, ?_, fun i cs a f' hi ha hf => ?_, by simp [Value.ownBlock], ?_⟩
    · have := World.ownsRow_lit (base := b) (e := e) (size := T.size) w C 2 h1 (by simp [maxLen]) (by rw [← Array.length_toList, hC, List.length_append]; omega)
      rw [hC] at this
      simpa using this
    · rcases i with _ | _ | i
      · simp at hi ha hf
        subst hi ha hf
        exact T.obelow hO1 he
      · simp at hi ha hf
        subst hi ha hf
        exact T.obelow hO2 he
      · simp at hi
    · rw [List.nodup_cons]
      refine ⟨fun hm => ?_, ?_⟩
      · rcases List.mem_append.1 hm with hm | hm
        · have := (hlt1 _ hm).2; omega
        · have := (hlt2 _ hm).2; omega
      · rw [List.nodup_append]
        exact ⟨T.nodup _ _ _ _ _ hO1, T.nodup _ _ _ _ _ hO2, fun x hx y hy hxy => h6 x hx (List.mem_append.2 (.inl (hxy ▸ hy)))⟩
  have hS : Sep b (w.alloc (.cells C e)) (slO T e (.slice (some ⟨w.heap.size, 0, none⟩) 2 2) [x1, x2] :: os) := by
    refine ⟨Nat.le_trans h1 he.size, _, w.heap.size :: (f ++ f2), g2, rfl, hO, m2.keep fun y hy => he.block y (m2.lt y hy).2, fun y hy hz => ?_⟩
    rcases List.mem_cons.1 hy with hy | hy
    · have := (m2.lt y hz).2; omega
    · rcases List.mem_append.1 hy with hy | hy
      · exact h6 y hy (List.mem_append.2 (.inr hz))
      · exact m3 y hy hz
  refine t_make he (fun a ha _ _ _ => ?_) (k _ _ he hS) hm hn
  have h := ha.evp hv
  have e' : (ps.toArray.map fun x => (x.1, a.eval x.2)) = vs.toArray := by rw [List.map_toArray, h]
  simp only [execOp]
  rw [show (ps.toArray.map fun x => match x with | (i, x) => (i, a.eval x)) = vs.toArray from e']
  simp [hb]

theorem run_loadBox {t tb : TypeId} {g : Nat} {C : Array Value} (hb : w.heap[g]? = some (.cells C tb (0, 0))) (ha : aggB P t = some true) (hs : sizeB P t = some C.size) : (loadVar t ⟨g, 0, none⟩).run P w = .ok (.agg C) w := by
  have hc := run_loadCells (P := P) (w := w) (g := g) (o := 0) (cs := C.toList) (fun j u hu => by rw [cell_box hb]; simpa using hu)
  simp only [Array.length_toList] at hc
  simp [loadVar, run_isAgg ha, run_sizeOf hs, hc]

theorem x_retc {fn : Func} {R : Ending → World → Prop} {t g sz : Nat} {tt tb : TypeId} {C : Array Value} (hr : fn.results = #[.cell t tt]) (hv : look L t = some (.pointer (some ⟨g, 0, none⟩))) (hb : w.heap[g]? = some (.cells C tb (0, 0))) (ha : aggB P tt = some true) (hs : sizeB P tt = some sz) (hsz : C.size = sz) (h : R (.returned (.agg C)) w) : WX n (bodyPost P fn R) .ret L w := by
  intro a hE
  subst hsz
  have h1 := hE.at_ _ _ hv
  refine bodyPost_ret ?_ hE.defers h
  simp [results, hr, h1, asAddr, run_loadBox hb ha hs]
theorem x_retct {fn : Func} {R : Ending → World → Prop} {t g u sz : Nat} {tt tb : TypeId} {C : Array Value} {x : Value} (hr : fn.results = #[.cell t tt, .tmp u]) (hv : look L t = some (.pointer (some ⟨g, 0, none⟩))) (hb : w.heap[g]? = some (.cells C tb (0, 0))) (ha : aggB P tt = some true) (hs : sizeB P tt = some sz) (hsz : C.size = sz) (hx : look L u = some x) (h : R (.returned (.tuple #[.agg C, x])) w) : WX n (bodyPost P fn R) .ret L w := by
  intro a hE
  subst hsz
  have h1 := hE.at_ _ _ hv
  have h2 := hE.at_ _ _ hx
  refine bodyPost_ret ?_ hE.defers h
  simp [results, hr, h1, h2, asAddr, run_loadBox hb ha hs]
theorem x_retctt {fn : Func} {R : Ending → World → Prop} {t g u s sz : Nat} {tt tb : TypeId} {C : Array Value} {x y : Value} (hr : fn.results = #[.cell t tt, .tmp u, .tmp s]) (hv : look L t = some (.pointer (some ⟨g, 0, none⟩))) (hb : w.heap[g]? = some (.cells C tb (0, 0))) (ha : aggB P tt = some true) (hs : sizeB P tt = some sz) (hsz : C.size = sz) (hx : look L u = some x) (hy : look L s = some y) (h : R (.returned (.tuple #[.agg C, x, y])) w) : WX n (bodyPost P fn R) .ret L w := by
  intro a hE
  subst hsz
  have h1 := hE.at_ _ _ hv
  have h2 := hE.at_ _ _ hx
  have h3 := hE.at_ _ _ hy
  refine bodyPost_ret ?_ hE.defers h
  simp [results, hr, h1, h2, h3, asAddr, run_loadBox hb ha hs]

theorem t_conv {s t : TypeId} {x : Operand} {k1 k2 : IntKind} {sd : TypeDesc} {a : Int} (hs : P.underlying s = some sd) (ht : P.underlying t = some (.int k2)) (hx : ev L x = some (.int k1 a)) (k : WT P n ops Q r ((d, .int k2 (k2.wrap a)) :: L) w) (hn : Nat.blt d n = true) : WT P n ops Q (.st m ⟨some d, .convert s t x, ty, pos, af, none⟩ r) L w :=
  t_read (fun e ha _ _ _ w' _ => by simp [execOp, ha.ev hx, convert, run_underlying hs, run_underlying ht, Conv.intToInt]) k hn
end

end Go.Proofs.Ytfgobdejlfojiaa
