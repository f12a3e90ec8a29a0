/- The engine's memory: pointers and values by kinds of data; boxes and owned slices side by side. -/
import Derived.Test.YtfgobdejlfojiaaOps
namespace Go.Proofs.Ytfgobdejlfojiaa
open Go.RowKit
set_option linter.unusedVariables false

/-- The pointer p leads to cells that read as x. -/
def Ptr {α : Type} (T : Ty α) (w : World) (p : Value) (x : α) : Prop :=
  ∃ g o cs, p = .pointer (some ⟨g, o, none⟩) ∧ T.R w cs x ∧ ∀ j u, cs[j]? = some u → w.cell? ⟨g, o + j, none⟩ = some u
/-- The value of a struct reads as x. -/
def VA {α : Type} (T : Ty α) (w : World) (v : Value) (x : α) : Prop := ∃ cs : List Value, v = .agg cs.toArray ∧ T.R w cs x

theorem Ptr.below {α : Type} {T : Ty α} {w w' : World} {p : Value} {x : α} (h : Ptr T w p x) (hb : Below w.heap.size w w') : Ptr T w' p x := by
  obtain ⟨g, o, cs, h1, h2, h3⟩ := h
  exact ⟨g, o, cs, h1, T.keep _ _ _ _ h2 hb, fun j u hu => ck hb (h3 j u hu)⟩
theorem VA.below {α : Type} {T : Ty α} {w w' : World} {v : Value} {x : α} (h : VA T w v x) (hb : Below w.heap.size w w') : VA T w' v x := by
  obtain ⟨cs, h1, h2⟩ := h
  exact ⟨cs, h1, T.keep _ _ _ _ h2 hb⟩

/-- A part of a kind of data: the cells from off on. -/
def Lens {α β : Type} (T : Ty α) (U : Ty β) (off : Nat) (f : α → β) : Prop :=
  ∀ w cs x, T.R w cs x → ∃ cs', U.R w cs' (f x) ∧ ∀ j u, cs'[j]? = some u → cs[off + j]? = some u

theorem Ptr.lens {α β : Type} {T : Ty α} {U : Ty β} {off : Nat} {f : α → β} (ln : Lens T U off f) {w : World} {g o : Nat} {x : α} (h : Ptr T w (.pointer (some ⟨g, o, none⟩)) x) : Ptr U w (.pointer (some ⟨g, o + off, none⟩)) (f x) := by
  obtain ⟨g', o', cs, h1, h2, h3⟩ := h
  cases h1
  obtain ⟨cs', h4, h5⟩ := ln _ _ _ h2
  exact ⟨g, _, cs', rfl, h4, fun j u hu => by rw [Nat.add_assoc]; exact h3 _ _ (h5 j u hu)⟩

/-- Whether a type's values are structs or arrays; a type's size; a field's place. -/
def aggB (P : Program) (t : TypeId) : Option Bool := (P.underlying t).map fun
  | .struct _ | .array _ _ => true
  | _ => false
def sizeB (P : Program) (t : TypeId) : Option Nat := (P.info? t).map (·.size)
def fieldB (P : Program) (s i : Nat) : Option Nat := match P.underlying s with
  | some (.struct fs) => match fs[i]? with
    | some f => match P.info? f.type with
      | some j => if j.size = 0 then none else some f.offset
      | none => none
    | none => none
  | _ => none

theorem run_isAgg {P : Program} {t : TypeId} {b : Bool} (h : aggB P t = some b) (w : World) : (isAgg t).run P w = .ok b w := by
  unfold aggB at h
  cases hu : P.underlying t with
  | none => rw [hu] at h; cases h
  | some u =>
    rw [hu] at h
    unfold isAgg underlying
    cases u <;> (simp at h; subst h; simp [program, Sem.run, hu])
theorem run_sizeOf {P : Program} {t : TypeId} {k : Nat} (h : sizeB P t = some k) (w : World) : (sizeOf t).run P w = .ok k w := by
  unfold sizeB at h
  cases hu : P.info? t with
  | none => rw [hu] at h; cases h
  | some u =>
    rw [hu] at h
    simp at h
    simp [sizeOf, typeInfo, program, Sem.run, hu, h]

theorem run_loadCells {P : Program} {w : World} {g o : Nat} {cs : List Value} (h : ∀ j u, cs[j]? = some u → w.cell? ⟨g, o + j, none⟩ = some u) : (loadCells ⟨g, o, none⟩ cs.length).run P w = .ok cs.toArray w := by
  have key : ∀ (t : List Value) (i : Nat) (acc : Array Value), (∀ j u, t[j]? = some u → w.cell? ⟨g, o + (i + j), none⟩ = some u) → (loadCellsFrom ⟨g, o, none⟩ i t.length acc).run P w = .ok (acc ++ t.toArray) w := by
    intro t
    induction t with
    | nil => intro i acc _; simp [loadCellsFrom]
    | cons c t ih =>
      intro i acc ht
      have h0 : w.cell? ⟨g, o + i, none⟩ = some c := by simpa using ht 0 c rfl
      have ha : (⟨g, o, none⟩ : Addr).add i = ⟨g, o + i, none⟩ := Addr.add_lit _ _ _
      simp only [List.length_cons, loadCellsFrom, Sem.run_bind, load, ha]
      simp only [Sem.run, h0, Result.andThen_ok]
      rw [ih (i + 1) (acc.push c) (fun j u hu => by have := ht (j + 1) u hu; rwa [show i + (j + 1) = i + 1 + j by omega] at this)]
      simp
  have := key cs 0 #[] (fun j u hu => by simpa using h j u hu)
  simpa [loadCells] using this

section
variable {P : Program} {n : Nat} {ops : Array Oper} {Q : Exit → Act → World → Prop} {L : Frm} {w w0 : World} {m : Md} {r : IT} {d : Nat} {ty : TypeId} {pos : String} {af : Array Edge}

/-! ### Reading -/

theorem t_len {α : Type} {T : Ty α} {x : Operand} {t e : TypeId} {ar : Array TypeId} {size bytes : Nat} {v : Value} {l : List α} (et : ElemT P t e size bytes) (h : SlR T w0 v l) (hx : ev L x = some v) (har : ar = #[t]) (k : WT P n ops Q r ((d, I (l.length : Int)) :: L) w) (hn : Nat.blt d n = true) :
    WT P n ops Q (.st m ⟨some d, .call ⟨.builtin .len, #[x], ar⟩, ty, pos, af, none⟩ r) L w := by
  obtain ⟨A, c, rfl, _⟩ := h.form
  subst har
  exact t_read (fun a ha _ _ _ w' _ => by simp [execOp, resolve, invoke, builtin, ha.ev hx, Builtin.len_, run_underlying et.und, goInt]) k hn

theorem t_idx {α : Type} {T : Ty α} {t e : TypeId} {bytes : Nat} (et : ElemT P t e T.size bytes) {v : Value} {l : List α} {k : Nat} {x : α} {i : Int} {xo io : Operand} (h : SlR T w0 v l) (hk : l[k]? = some x) (B : Ext w0 w) (hx : ev L xo = some v) (hi : ev L io = some (I i)) (hik : i = ((k : Nat) : Int))
    (kk : ∀ p, Ptr T w0 p x → WT P n ops Q r ((d, p) :: L) w) (hn : Nat.blt d n = true) : WT P n ops Q (.st m ⟨some d, .indexAddr t xo io, ty, pos, af, none⟩ r) L w := by
  have hlt : k < l.length := (List.getElem?_eq_some_iff.1 hk).1
  obtain ⟨g, o, c, cs, rfl, h1, h2, h3, h4⟩ := SlR.at_ h hlt
  have hxk : l[k] = x := by rw [List.getElem?_eq_getElem hlt] at hk; exact Option.some.inj hk
  rw [hxk] at h3
  obtain ⟨inf, z, hinf, _, hsz, _, _⟩ := et.info
  refine t_read (fun a ha _ _ _ w' _ => ?_) (kk (.pointer (some ⟨g, o + k * T.size, none⟩)) ⟨g, _, cs, rfl, h3, h4⟩) hn
  subst hik
  have hc : (0 : Int) ≤ (k : Int) ∧ (k : Int) < (l.length : Int) := by omega
  simp [execOp, ha.ev hx, ha.ev hi, Instr.indexAt, asIntOf, run_underlying et.und, hc, sizeOf, typeInfo, hinf, hsz, Addr.add_lit, hlt]

theorem t_fld {α β : Type} {T : Ty α} {U : Ty β} {off : Nat} {f : α → β} {s i : Nat} {p : Value} {x : α} {xo : Operand} (ln : Lens T U off f) (h : Ptr T w0 p x) (hf : fieldB P s i = some off) (hx : ev L xo = some p)
    (kk : ∀ p', Ptr U w0 p' (f x) → WT P n ops Q r ((d, p') :: L) w) (hn : Nat.blt d n = true) : WT P n ops Q (.st m ⟨some d, .fieldAddr s xo i, ty, pos, af, none⟩ r) L w := by
  obtain ⟨g, o, cs, rfl, h1⟩ := id h
  refine t_read (fun a ha _ _ _ w' _ => ?_) (kk _ (Ptr.lens ln h)) hn
  unfold fieldB at hf
  split at hf
  · rename_i fs hu
    split at hf
    · rename_i fd hfd
      split at hf
      · rename_i inf hinf
        split at hf
        · cases hf
        · rename_i hne
          cases hf
          simp [execOp, ha.ev hx, Instr.fieldAt, run_underlying hu, hfd, Instr.sureAddr, fieldPlace, sizeOf, typeInfo, hinf, hne, Addr.add_lit]
      · cases hf
    · cases hf
  · cases hf

/-- The same at an address that is known. -/
theorem t_fldx {g o o' off : Nat} {s i : Nat} {xo : Operand} (hf : fieldB P s i = some off) (hx : ev L xo = some (.pointer (some ⟨g, o, none⟩))) (ho : o + off = o')
    (kk : WT P n ops Q r ((d, .pointer (some ⟨g, o', none⟩)) :: L) w) (hn : Nat.blt d n = true) : WT P n ops Q (.st m ⟨some d, .fieldAddr s xo i, ty, pos, af, none⟩ r) L w := by
  subst ho
  refine t_read (fun a ha _ _ _ w' _ => ?_) kk hn
  unfold fieldB at hf
  split at hf
  · rename_i fs hu
    split at hf
    · rename_i fd hfd
      split at hf
      · rename_i inf hinf
        split at hf
        · cases hf
        · rename_i hne
          cases hf
          simp [execOp, ha.ev hx, Instr.fieldAt, run_underlying hu, hfd, Instr.sureAddr, fieldPlace, sizeOf, typeInfo, hinf, hne, Addr.add_lit]
      · cases hf
    · cases hf
  · cases hf

/-- A load of one cell. -/
theorem t_ld1 {t : TypeId} {g o : Nat} {xo : Operand} {u : Value} (ha : aggB P t = some false) (hc : w0.cell? ⟨g, o, none⟩ = some u) (B : Ext w0 w) (hx : ev L xo = some (.pointer (some ⟨g, o, none⟩))) (k : WT P n ops Q r ((d, u) :: L) w) (hn : Nat.blt d n = true) : WT P n ops Q (.st m ⟨some d, .load t xo, ty, pos, af, none⟩ r) L w :=
  t_read (fun a hE _ _ _ w' hw' => by
    have hc' := ck (ext_trans B hw') hc
    simp [execOp, hE.ev hx, Instr.loadAt, Instr.sureAddr, loadVar, run_isAgg ha, load, Sem.run, hc']) k hn
/-- A load of a struct's cells. -/
theorem t_ldn {t : TypeId} {g o : Nat} {xo : Operand} {cs : List Value} (ha : aggB P t = some true) (hs : sizeB P t = some cs.length) (hc : ∀ j u, cs[j]? = some u → w0.cell? ⟨g, o + j, none⟩ = some u) (B : Ext w0 w) (hx : ev L xo = some (.pointer (some ⟨g, o, none⟩))) (k : WT P n ops Q r ((d, .agg cs.toArray) :: L) w) (hn : Nat.blt d n = true) : WT P n ops Q (.st m ⟨some d, .load t xo, ty, pos, af, none⟩ r) L w :=
  t_read (fun a hE _ _ _ w' hw' => by
    have hc' := run_loadCells (P := P) (fun j u hu => ck (ext_trans B hw') (hc j u hu))
    simp [execOp, hE.ev hx, Instr.loadAt, Instr.sureAddr, loadVar, run_isAgg ha, run_sizeOf hs, hc']) k hn

theorem t_ldi {t : TypeId} {xo : Operand} {p : Value} {a : Int} (h : Ptr intT w0 p a) (ha : aggB P t = some false) (B : Ext w0 w) (hx : ev L xo = some p) (k : WT P n ops Q r ((d, I a) :: L) w) (hn : Nat.blt d n = true) : WT P n ops Q (.st m ⟨some d, .load t xo, ty, pos, af, none⟩ r) L w := by
  obtain ⟨g, o, cs, rfl, h2, h3⟩ := h
  have h2' : cs = [I a] := h2
  subst h2'
  exact t_ld1 ha (by simpa using h3 0 _ rfl) B hx k hn
theorem t_ldu {t : TypeId} {xo : Operand} {p : Value} {a : UInt8} (h : Ptr byteT w0 p a) (ha : aggB P t = some false) (B : Ext w0 w) (hx : ev L xo = some p) (k : WT P n ops Q r ((d, .int .u8 (a.toNat : Int)) :: L) w) (hn : Nat.blt d n = true) : WT P n ops Q (.st m ⟨some d, .load t xo, ty, pos, af, none⟩ r) L w := by
  obtain ⟨g, o, cs, rfl, h2, h3⟩ := h
  have h2' : cs = [.int .u8 (a.toNat : Int)] := h2
  subst h2'
  exact t_ld1 ha (by simpa using h3 0 _ rfl) B hx k hn
def boolT : Ty Bool := flatT 1 (fun b => [.bool b]) (by omega) (fun _ => rfl) (fun _ u hu => by simp at hu; rw [hu]; rfl)
theorem t_ldb {t : TypeId} {xo : Operand} {p : Value} {a : Bool} (h : Ptr boolT w0 p a) (ha : aggB P t = some false) (B : Ext w0 w) (hx : ev L xo = some p) (k : WT P n ops Q r ((d, .bool a) :: L) w) (hn : Nat.blt d n = true) : WT P n ops Q (.st m ⟨some d, .load t xo, ty, pos, af, none⟩ r) L w := by
  obtain ⟨g, o, cs, rfl, h2, h3⟩ := h
  have h2' : cs = [.bool a] := h2
  subst h2'
  exact t_ld1 ha (by simpa using h3 0 _ rfl) B hx k hn
theorem t_lds {α : Type} {T : Ty α} {e : TypeId} {t : TypeId} {xo : Operand} {p : Value} {l : List α} (h : Ptr (slT T e) w0 p l) (ha : aggB P t = some false) (B : Ext w0 w) (hx : ev L xo = some p) (k : ∀ v, SlR T w0 v l → WT P n ops Q r ((d, v) :: L) w) (hn : Nat.blt d n = true) : WT P n ops Q (.st m ⟨some d, .load t xo, ty, pos, af, none⟩ r) L w := by
  obtain ⟨g, o, cs, rfl, ⟨v, rfl, hv⟩, h3⟩ := h
  exact t_ld1 ha (by simpa using h3 0 _ rfl) B hx (k v hv) hn
theorem t_lda {α : Type} {T : Ty α} {t : TypeId} {xo : Operand} {p : Value} {x : α} (h : Ptr T w0 p x) (ha : aggB P t = some true) (hs : sizeB P t = some T.size) (B : Ext w0 w) (hx : ev L xo = some p) (k : ∀ v, VA T w0 v x → WT P n ops Q r ((d, v) :: L) w) (hn : Nat.blt d n = true) : WT P n ops Q (.st m ⟨some d, .load t xo, ty, pos, af, none⟩ r) L w := by
  obtain ⟨g, o, cs, rfl, h2, h3⟩ := h
  exact t_ldn ha (by rw [T.len _ _ _ h2]; exact hs) h3 B hx (k _ ⟨cs, rfl, h2⟩) hn

/-- A field of a struct's value. -/
theorem t_slt {α : Type} {T : Ty α} {t e : TypeId} {bytes : Nat} (et : ElemT P t e T.size bytes) {v : Value} {l : List α} {xo hi : Operand} {k : Nat} {i : Int} (h : SlR T w0 v l) (hx : ev L xo = some v) (hi' : ev L hi = some (I i)) (hik : i = ((k : Nat) : Int)) (hk : k ≤ l.length)
    (kk : ∀ v', SlR T w0 v' (l.take k) → WT P n ops Q r ((d, v') :: L) w) (hn : Nat.blt d n = true) : WT P n ops Q (.st m ⟨some d, .slice t xo none (some hi) none, ty, pos, af, none⟩ r) L w := by
  obtain ⟨A, c, css, rfl, h1, h2, h3, h4⟩ := h
  obtain ⟨inf, z, hinf, _, hsz, _, _⟩ := et.info
  have hall : ∀ (i : Nat) cs, css[i]? = some cs → cs.length = T.size := fun i cs hi => by
    have hlt : i < l.length := by rw [← h2]; exact (List.getElem?_eq_some_iff.1 hi).1
    exact T.len _ _ _ (h4 i cs _ hi (List.getElem?_eq_getElem hlt))
  subst hik
  have hlen : (l.take k).length = k := by rw [List.length_take]; omega
  refine t_read (v := .slice A k c) (fun a ha _ _ _ w' _ => ?_) (kk _ ⟨A, c, css.take k, by rw [hlen], by omega, by rw [hlen, List.length_take]; omega, fun hp => ?_, fun i cs x hi hx => ?_⟩) hn
  · have hc : (0 : Int) ≤ (k : Int) ∧ (k : Int) ≤ (c : Int) := by omega
    have hkc : k ≤ c := by omega
    cases A <;> simp [execOp, ha.ev hx, ha.ev hi', Instr.sliceAt, Instr.slice, Instr.sliceBounds, Instr.sliceBound, asIntOf, run_underlying et.und, hkc, sizeOf, typeInfo, hinf, Addr.add]
  · rw [flatten_take hall] at hp ⊢
    have hp' : 0 < css.flatten.length := by rw [List.length_take] at hp; omega
    obtain ⟨g, o, rfl, hg⟩ := h3 hp'
    refine ⟨g, o, rfl, fun j u hu => hg j u ?_⟩
    rw [List.getElem?_take] at hu
    split at hu
    · exact hu
    · cases hu
  · rw [List.getElem?_take] at hi hx
    split at hi
    · rename_i hik
      rw [if_pos hik] at hx
      exact h4 i cs x hi hx
    · cases hi

theorem flatten_drop {css : List (List Value)} {size : Nat} (h : ∀ (i : Nat) cs, css[i]? = some cs → cs.length = size) (m : Nat) : (css.drop m).flatten = css.flatten.drop (m * size) := by
  induction css generalizing m with
  | nil => simp
  | cons a t ih =>
    have ha := h 0 a rfl
    cases m with
    | zero => simp
    | succ m =>
      have hs : (m + 1) * size = a.length + m * size := by rw [ha, Nat.add_mul, Nat.one_mul]; omega
      rw [List.drop_succ_cons, List.flatten_cons, ih (fun i cs hi => h (i + 1) cs hi), hs, ← List.drop_drop, List.drop_left]

theorem SlR.drop {α : Type} {T : Ty α} {w : World} {A : Option Addr} {c k n' : Nat} {l : List α} (h : SlR T w (.slice A n' c) l) (hk : k ≤ l.length) : SlR T w (.slice (if c = k then A else A.map (·.add (k * T.size))) (l.length - k) (c - k)) (l.drop k) := by
  obtain ⟨A', c', css, e, h1, h2, h3, h4⟩ := h
  cases e
  have hall : ∀ (i : Nat) cs, css[i]? = some cs → cs.length = T.size := fun i cs hi => by
    have hlt : i < l.length := by rw [← h2]; exact (List.getElem?_eq_some_iff.1 hi).1
    exact T.len _ _ _ (h4 i cs _ hi (List.getElem?_eq_getElem hlt))
  refine ⟨_, _, css.drop k, by rw [List.length_drop], by rw [List.length_drop]; omega, by rw [List.length_drop, List.length_drop, h2], fun hp => ?_, fun i cs x hi hx => ?_⟩
  · rw [flatten_drop hall] at hp ⊢
    rw [List.length_drop] at hp
    obtain ⟨g, o, rfl, hg⟩ := h3 (by omega)
    have hne : ¬ c = k := by
      intro hck
      have : css.flatten.length = css.length * T.size := flatten_len hall
      have h9 : css.length = k := by omega
      rw [this, h9] at hp
      omega
    rw [if_neg hne]
    refine ⟨g, o + k * T.size, by simp [Addr.add_lit], fun j u hu => ?_⟩
    rw [Nat.add_assoc]
    exact hg _ u (by rw [List.getElem?_drop] at hu; exact hu)
  · rw [List.getElem?_drop] at hi hx
    exact h4 _ _ _ hi hx

theorem t_sld {α : Type} {T : Ty α} {t e : TypeId} {bytes : Nat} (et : ElemT P t e T.size bytes) {v : Value} {l : List α} {xo lo : Operand} {k : Nat} {i : Int} (h : SlR T w0 v l) (hx : ev L xo = some v) (hi' : ev L lo = some (I i)) (hik : i = ((k : Nat) : Int)) (hk : k ≤ l.length)
    (kk : ∀ v', SlR T w0 v' (l.drop k) → WT P n ops Q r ((d, v') :: L) w) (hn : Nat.blt d n = true) : WT P n ops Q (.st m ⟨some d, .slice t xo (some lo) none none, ty, pos, af, none⟩ r) L w := by
  obtain ⟨A, c, rfl, h1⟩ := h.form
  obtain ⟨inf, z, hinf, _, hsz, _, _⟩ := et.info
  subst hik
  refine t_read (fun a ha _ _ _ w' _ => ?_) (kk _ (h.drop hk)) hn
  have hc : (0 : Int) ≤ (k : Int) ∧ (k : Int) ≤ (l.length : Int) := by omega
  simp [execOp, ha.ev hx, ha.ev hi', Instr.sliceAt, Instr.slice, Instr.sliceBounds, Instr.sliceBound, asIntOf, run_underlying et.und, hk, sizeOf, typeInfo, hinf, hsz]
end

end Go.Proofs.Ytfgobdejlfojiaa
