/- What LawFnJoins needs of the texts below it, part 1: contracts of functions, plain lemmas. (Put together by slim.py.) -/
import Derived.Below
import Derived.Carry
import Derived.Laws.OwnMore
import Derived.Deep.AppendLies
import Derived.Deep.Draws
import Derived.Maps.AppendAt
import Derived.OwnWalk
import Derived.RegionTactic
import Derived.Deep.QuietTactic
import Derived.BigQuiet
import Derived.OrdersHeld
import Derived.Test.YtljkgpembicloaaGreatProg
import Derived.KernelRfl
import Derived.Test.YtljkgpembicloaaGreatRows
import Derived.WalkKit
import Derived.WalkSpells
import Derived.WalkLawsBesides
import Derived.StillTailTactics
import Derived.Deep.RegionHeld3
import Derived.BigGuard
import Derived.Laws.Bits128
import Derived.Laws.Shifts
import Derived.Deep.DeepCutAuto
import Derived.Laws.StructEq
import Derived.Laws.Concat
import Derived.Laws.BytesArg
import Derived.Laws.BytesString
import Derived.Laws.Strings
import Derived.JoinedOf
import Derived.ProofKit
import Derived.OpenShut
import Derived.ChangeOld
import Derived.Deep.Slices
import Derived.Deep.Fields
import Derived.ChangeSame
namespace Go.Proofs.YtljkgpembicloaaGreat
open Go.RowKit
set_option linter.unusedVariables false
set_option maxRecDepth 100000
theorem hid {p : Prop} (h : p) : Hid p := h
abbrev I (n : Int) : Value := .int .i64 n
/-- The cells xs lie behind the address A. -/
def Rd (w : World) (A : Option Addr) (xs : List Value) : Prop :=
  0 < xs.length → ∃ g o, A = some ⟨g, o, none⟩ ∧ ∀ j u, xs[j]? = some u → w.cell? ⟨g, o + j, none⟩ = some u
theorem Rd.below {w w' : World} {A : Option Addr} {xs : List Value} (h : Rd w A xs) (hb : Below w.heap.size w w') : Rd w' A xs := by
  intro hx; obtain ⟨g, o, rfl, h3⟩ := h hx; exact ⟨g, o, rfl, fun j u hu => by rw [hb.cell (World.block_lt_of_cell? w _ (h3 j u hu))]; exact h3 j u hu⟩
theorem Rd.nil {w : World} {A : Option Addr} : Rd w A [] := fun h => absurd h (by simp)
theorem flatten_at {css : List (List Value)} {size : Nat} (h : ∀ (i : Nat) cs, css[i]? = some cs → cs.length = size) (k : Nat) (cs : List Value) (hk : css[k]? = some cs) (j : Nat) (hj : j < size) :
    css.flatten[k * size + j]? = cs[j]? := by
  induction css generalizing k with
  | nil => simp at hk
  | cons c t ih =>
    have hc : c.length = size := h 0 c rfl; cases k with
    | zero =>
      simp at hk
      subst hk
      simp only [List.flatten_cons, Nat.zero_mul, Nat.zero_add]
      rw [List.getElem?_append_left (by omega)]
    | succ k =>
      simp at hk
      simp only [List.flatten_cons]
      rw [List.getElem?_append_right (by rw [hc, Nat.add_mul, Nat.one_mul]; omega), hc, show (k + 1) * size + j - size = k * size + j by rw [Nat.add_mul, Nat.one_mul]; omega]; exact ih (fun i cs hi => h (i + 1) cs hi) k hk
theorem flatten_len {css : List (List Value)} {size : Nat} (h : ∀ (i : Nat) cs, css[i]? = some cs → cs.length = size) : css.flatten.length = css.length * size := by
  induction css with
  | nil => simp
  | cons c t ih =>
    rw [List.flatten_cons, List.length_append, ih (fun i cs hi => h (i + 1) cs hi), h 0 c rfl, List.length_cons, Nat.add_mul, Nat.one_mul, Nat.add_comm]
/-- Every block of w that is not in fp is as_ it was; the streams are as_ they were. -/
structure Kept (fp : List Nat) (w w' : World) : Prop where
  os : w'.os = w.os
  tape : w'.tape = w.tape
  output : w'.output = w.output
  size : w.heap.size ≤ w'.heap.size
  block : ∀ k, k < w.heap.size → k ∉ fp → w'.heap[k]? = w.heap[k]?
theorem Kept.below {fp : List Nat} {w w' : World} (h : Kept fp w w') {B : Nat} (hB : ∀ b ∈ fp, B ≤ b) (hw : B ≤ w.heap.size) : Below B w w' :=
  ⟨h.os, h.tape, h.output, h.size, fun k hk => h.block k (by omega) (fun hm => by have := hB k hm; omega)⟩
theorem Kept.of_below {w w' : World} (h : Below w.heap.size w w') (fp : List Nat) : Kept fp w w' :=
  ⟨h.os, h.tape, h.output, h.size, fun k hk _ => h.block k hk⟩
theorem Kept.refl (fp : List Nat) (w : World) : Kept fp w w := ⟨rfl, rfl, rfl, Nat.le_refl _, fun _ _ _ => rfl⟩
theorem Kept.trans {fp : List Nat} {a b c : World} (h : Kept fp a b) (k : Kept fp b c) : Kept fp a c :=
  ⟨k.os.trans h.os, k.tape.trans h.tape, k.output.trans h.output, Nat.le_trans h.size k.size, fun i hi' hx => (k.block i (Nat.lt_of_lt_of_le hi' h.size) hx).trans (h.block i hi' hx)⟩
theorem Kept.setCell {fp : List Nat} {a w : World} (h : Kept fp a w) {p : Addr} (h1 : p.block ∈ fp) (u : Value) : Kept fp a (w.setCell p u) :=
  ⟨h.os, h.tape, h.output, by simpa [World.setCell] using h.size, fun k hk hx => (Below.heap_setCell w p u k (fun e => hx (e ▸ h1))).trans (h.block k hk hx)⟩
theorem below_drew (w : World) : Below w.heap.size w w.drew := (Below.refl _ _).drew
theorem below_drewN {B : Nat} {a w : World} (h : Below B a w) (n : Nat) : Below B a (w.drewN n) := ⟨h.os, h.tape, h.output, h.size, h.block⟩
/-- A cell that is there stays as_ it is. -/
theorem ck {w w' : World} (hb : Below w.heap.size w w') {a : Addr} {u : Value} (h : w.cell? a = some u) : w'.cell? a = some u := by
  rw [hb.cell (World.block_lt_of_cell? w a h)]; exact h
theorem ext_trans {a b c : World} (h : Below a.heap.size a b) (k : Below b.heap.size b c) : Below a.heap.size a c := h.trans (k.mono h.size)
theorem ext_alloc {a b : World} (h : Below a.heap.size a b) (o : Obj) : Below a.heap.size a (b.alloc o) := h.alloc h.size o
theorem ext_alloc1 (w : World) (o : Obj) : Below w.heap.size w (w.alloc o) := (Below.refl _ _).alloc (Nat.le_refl _) o
theorem le_sum_of_mem {l : List Nat} {x : Nat} (h : x ∈ l) : x ≤ l.sum := by
  induction l with
  | nil => cases h
  | cons a t ih =>
    rw [List.sum_cons]
    rcases List.mem_cons.1 h with rfl | h
    · omega
    · have := ih h; omega
/-- A slice type t over elements e. -/
structure ElemT (P : Program) (t e : TypeId) (size bytes : Nat) : Prop where
  und : P.underlying t = some (.slice e)
  info : ∃ i z, P.info? e = some i ∧ i.zero = some z ∧ i.size = size ∧ i.bytes = bytes ∧ z.cells.size = size
  pos : 0 < size
theorem ElemT.mk' {P : Program} {t e : TypeId} {size bytes : Nat} {z : Value} (h : P.underlying t = some (.slice e)) (hi : (P.info? e).map (fun i => (i.zero, i.size, i.bytes)) = some (some z, size, bytes)) (hz : z.cells.size = size) (hp : 0 < size) : ElemT P t e size bytes := by
  obtain ⟨i, h1, h2, h3, h4⟩ := info_parts hi; exact ⟨h, ⟨i, z, h1, h2, h3, h4, hz⟩, hp⟩
/-- 'append(v, x...)' onto a row that the call owns, whatever x: nil, empty, cells behind an address. -/
theorem run_app {P : Program} (w : World) {t ty e : TypeId} {size bytes : Nat} (et : ElemT P t e size bytes) {base : Nat} {v : Value} {n : Nat} {xs : List Value} (hown : w.ownsRow base e size v n xs)
    {A : Option Addr} {m c : Nat} {news : List Value} (hr : Rd w A news) (hl : news.length = m * size) (h1 : ∀ u ∈ news, u.oneCell' = true) (hbytes : (n + m) * bytes ≤ 140737488355328) (h63 : n + m ≤ maxLen) (hbase : base ≤ w.heap.size) :
    ∃ v' w', (Builtin.append_ #[t, t] ty #[v, .slice A m c]).run P w = .ok v' w' ∧ w'.ownsRow base e size v' (n + m) (xs ++ news) ∧ w.grownBy w' v.ownBlock ∧ (v'.ownBlock = v.ownBlock ∨ v'.ownBlock = some w.heap.size) := by
  obtain ⟨ht, ⟨i, z, hi, hz, hsize, hby, hzs⟩, hsz⟩ := et; cases A with
  | none =>
    have hn : news = [] := by
      cases hc : news with
      | nil => rfl
      | cons a b => obtain ⟨g, o, h, _⟩ := hr (by rw [hc]; simp); cases h
    subst hn
    have hm : m = 0 := by
      rcases Nat.eq_zero_or_pos m with h | h
      · exact h
      · have := Nat.mul_pos h hsz
        simp at hl
        omega
    subst hm; refine ⟨v, w, ?_, by simpa using hown, ⟨rfl, rfl, rfl, Nat.le_refl _, fun _ _ _ => rfl⟩, .inl rfl⟩
    rcases hown.2 with ⟨rfl, rfl⟩ | ⟨g, cap, cur, rfl, _, _, hnc, _⟩
    · simp [Builtin.append_, run_underlying ht, sizeOf, typeInfo, hi, Builtin.lenOf, Builtin.firstCells]
    · simp [Builtin.append_, run_underlying ht, sizeOf, typeInfo, hi, Builtin.lenOf, Builtin.firstCells, hnc, storeCells]
  | some ad =>
    have hcells : ∀ j u, news[j]? = some u → w.cell? (ad.add j) = some u := by
      intro j u hu
      have hp : 0 < news.length := by have := (List.getElem?_eq_some_iff.1 hu).1; omega
      obtain ⟨g, o, h, hc⟩ := hr hp
      injection h with h
      subst h; rw [Addr.add_lit]; exact hc j u hu
    obtain ⟨v', w', hrun, h2, h3, _, h5⟩ := run_append_own_at (P := P) w base t ty e i z size bytes ht hi hz hsize hby hzs hsz v n xs hown ad m c news hl hcells h1 h63 hbytes hbase; exact ⟨v', w', hrun, h2, h3, h5⟩
theorem wp_app {P : Program} {w : World} {o : Oper} {a : Act} {K : Act → World → Prop} {Q : Exit → Act → World → Prop} (s x : Operand) {t e : TypeId} {size bytes : Nat} (et : ElemT P t e size bytes) {base : Nat} {v : Value} {n : Nat} {xs : List Value} (hown : w.ownsRow base e size v n xs)
    {A : Option Addr} {m c : Nat} {news : List Value} (hr : Rd w A news) (hl : news.length = m * size) (h1 : ∀ u ∈ news, u.oneCell' = true) (hbytes : (n + m) * bytes ≤ 140737488355328) (h63 : n + m ≤ maxLen) (hbase : base ≤ w.heap.size)
    (ho : o.op = .call { callee := .builtin .append, args := #[s, x], argTypes := #[t, t] }) (hs : a.eval s = v) (hx : a.eval x = .slice A m c)
    (h : ∀ v' w', w'.ownsRow base e size v' (n + m) (xs ++ news) → w.grownBy w' v.ownBlock → (v'.ownBlock = v.ownBlock ∨ v'.ownBlock = some w.heap.size) → K (a.put o.dst v') w') : o.wp P a w K Q := by
  obtain ⟨v', w', hrun, h2, h3, h4⟩ := run_app (P := P) w (ty := o.type) (c := c) et hown hr hl h1 hbytes h63 hbase
  unfold Oper.wp execOp
  simp only [ho, resolve, invoke, builtin, Sem.run_bind, Sem.run_pure, Result.andThen_ok, List.map_toArray, List.map_cons, List.map_nil, hs, hx, hrun]
  exact h v' w' h2 h3 h4
/-- The same at the head of a list of operations: for the walk. -/
theorem wpList_app {P : Program} {w : World} {ops : Array Oper} {rest : List Oper} {o : Oper} {a : Act} {Q : Exit → Act → World → Prop} (s x : Operand) {t e : TypeId} {size bytes : Nat} (et : ElemT P t e size bytes) {base : Nat} {v : Value} {n : Nat} {xs : List Value} (hown : w.ownsRow base e size v n xs)
    {A : Option Addr} {m c : Nat} {news : List Value} (hr : Rd w A news) (hl : news.length = m * size) (h1 : ∀ u ∈ news, u.oneCell' = true) (hbytes : (n + m) * bytes ≤ 140737488355328) (h63 : n + m ≤ maxLen) (hbase : base ≤ w.heap.size)
    (hgd : o.guard = none) (ho : o.op = .call { callee := .builtin .append, args := #[s, x], argTypes := #[t, t] }) (hs : a.eval s = v) (hx : a.eval x = .slice A m c)
    (h : ∀ v' w', w'.ownsRow base e size v' (n + m) (xs ++ news) → w.grownBy w' v.ownBlock → (v'.ownBlock = v.ownBlock ∨ v'.ownBlock = some w.heap.size) → wpList P ops Q rest (a.put o.dst v') w') : wpList P ops Q (o :: rest) a w :=
  wpList_plain hgd fun _ hK => wp_app s x et hown hr hl h1 hbytes h63 hbase ho hs hx fun v' w' h2 h3 h4 => hK _ _ (h v' w' h2 h3 h4)
theorem own_set {w : World} {base g : Nat} {e : TypeId} {size n cap : Nat} {xs : List Value} (h : w.ownsRow base e size (.slice (some ⟨g, 0, none⟩) n cap) n xs) (j : Nat) (u : Value) : (w.setCell ⟨g, j, none⟩ u).ownsRow base e size (.slice (some ⟨g, 0, none⟩) n cap) n (xs.set j u) :=
  (h.stored j u).1
/-- What is owned is read. -/
theorem Rd.of_own {w : World} {base : Nat} {e : TypeId} {size n c : Nat} {A : Option Addr} {xs : List Value} (h : w.ownsRow base e size (.slice A n c) n xs) : Rd w A xs := by
  intro hx
  rcases h.2 with ⟨h1, h2⟩ | ⟨g, cap, cur, hv, hb, hg, r⟩
  · have := h.1
    subst h2
    simp at this
    subst this
    simp at hx
  · have hA : A = some ⟨g, 0, none⟩ := by injection hv
    subst hA; refine ⟨g, 0, rfl, fun j u hu => ?_⟩; have := h.cells (g := g) rfl j u hu; rw [Addr.add_lit] at this; exact this
/-- A kind of data: how many cells an element takes, when cells read as_ it, and when the cells and all that they lead to are owned, in the blocks fp, all from base on. -/
structure Ty (α : Type) where
  size : Nat
  R : World → List Value → α → Prop
  O : Nat → World → List Value → α → List Nat → Prop
  pos : 0 < size
  len : ∀ w cs a, R w cs a → cs.length = size
  one : ∀ w cs a, R w cs a → ∀ u ∈ cs, u.oneCell' = true
  keep : ∀ w w' cs a, R w cs a → Below w.heap.size w w' → R w' cs a
  okeep : ∀ base w w' cs a fp, O base w cs a fp → (∀ b ∈ fp, w'.heap[b]? = w.heap[b]?) → O base w' cs a fp
  read : ∀ base w cs a fp, O base w cs a fp → R w cs a
  lt : ∀ base w cs a fp, O base w cs a fp → ∀ b ∈ fp, base ≤ b ∧ b < w.heap.size
  nodup : ∀ base w cs a fp, O base w cs a fp → fp.Nodup
  mono : ∀ base base' w cs a fp, base' ≤ base → O base w cs a fp → O base' w cs a fp
/-- The slice value v reads as_ l. -/
def SlR {α : Type} (T : Ty α) (w : World) (v : Value) (l : List α) : Prop :=
  ∃ (A : Option Addr) (c : Nat) (css : List (List Value)), v = .slice A l.length c ∧ l.length ≤ c ∧ css.length = l.length ∧ Rd w A css.flatten ∧ ∀ (i : Nat) cs a, css[i]? = some cs → l[i]? = some a → T.R w cs a
/-- The slice value v reads as_ l, and all of it lies in the blocks fp, from base on, each met once. -/
def SlO {α : Type} (T : Ty α) (e : TypeId) (base : Nat) (w : World) (v : Value) (l : List α) (fp : List Nat) : Prop :=
  ∃ (css : List (List Value)) (fps : List (List Nat)), css.length = l.length ∧ fps.length = l.length ∧ w.ownsRow base e T.size v l.length css.flatten ∧
    (∀ (i : Nat) cs a f, css[i]? = some cs → l[i]? = some a → fps[i]? = some f → T.O base w cs a f) ∧ fp = v.ownBlock.toList ++ fps.flatten ∧ fp.Nodup
section
variable {α : Type} {T : Ty α} {w w' : World} {v : Value} {l : List α} {e base : Nat} {fp : List Nat}
theorem SlR.below (h : SlR T w v l) (hb : Below w.heap.size w w') : SlR T w' v l := by
  obtain ⟨A, c, css, h1, h2, h3, h4, h5⟩ := h; exact ⟨A, c, css, h1, h2, h3, h4.below hb, fun i cs a hi ha => T.keep _ _ _ _ (h5 i cs a hi ha) hb⟩
theorem SlR.form (h : SlR T w v l) : ∃ A c, v = .slice A l.length c ∧ l.length ≤ c := by
  obtain ⟨A, c, css, e, h1, _⟩ := h; exact ⟨A, c, e, h1⟩
/-- What stands at place k. -/
theorem SlR.at_ (h : SlR T w v l) {k : Nat} (hk : k < l.length) :
    ∃ g o c cs, v = .slice (some ⟨g, o, none⟩) l.length c ∧ g < w.heap.size ∧ cs.length = T.size ∧ T.R w cs (l[k]) ∧ ∀ j u, cs[j]? = some u → w.cell? ⟨g, o + k * T.size + j, none⟩ = some u := by
  obtain ⟨A, c, css, rfl, h1, h2, h3, h4⟩ := h
  have hall : ∀ (i : Nat) cs, css[i]? = some cs → cs.length = T.size := fun i cs hi => by
    have hlt : i < l.length := by rw [← h2]; exact (List.getElem?_eq_some_iff.1 hi).1
    exact T.len _ _ _ (h4 i cs _ hi (List.getElem?_eq_getElem hlt))
  have hkc : css[k]? = some (css[k]'(by omega)) := List.getElem?_eq_getElem (by omega); have h6 := h4 k _ _ hkc (List.getElem?_eq_getElem hk); have h5 := T.len _ _ _ h6
  have hpos : 0 < css.flatten.length := by
    rw [flatten_len hall, h2]; exact Nat.mul_pos (by omega) T.pos
  obtain ⟨g, o, rfl, hg3⟩ := h3 hpos
  have hat : ∀ j u, (css[k]'(by omega))[j]? = some u → w.cell? ⟨g, o + k * T.size + j, none⟩ = some u := fun j u hu => by
    have hj : j < T.size := by rw [← h5]; exact (List.getElem?_eq_some_iff.1 hu).1
    rw [Nat.add_assoc]; exact hg3 _ u (by rw [flatten_at hall k _ hkc j hj]; exact hu)
  have hp := T.pos; exact ⟨g, o, c, _, rfl, World.block_lt_of_cell? w _ (hat 0 _ (List.getElem?_eq_getElem (by omega))), h5, h6, hat⟩
theorem SlO.size_ok (h : SlO T e base w v l fp) : ∀ b ∈ fp, base ≤ b ∧ b < w.heap.size := by
  obtain ⟨css, fps, h1, h2, h3, h4, rfl, h6⟩ := h; intro b hb; rw [List.mem_append] at hb
  rcases hb with hb | hb
  · exact h3.lt b (by simpa using hb)
  · obtain ⟨f, hf, hbf⟩ := List.mem_flatten.1 hb
    obtain ⟨i, hi, rfl⟩ := List.getElem_of_mem hf; exact T.lt _ _ _ _ _ (h4 i _ _ _ (List.getElem?_eq_getElem (by omega)) (List.getElem?_eq_getElem (by omega)) (List.getElem?_eq_getElem hi)) b hbf
theorem SlO.keep (h : SlO T e base w v l fp) (hk : ∀ b ∈ fp, w'.heap[b]? = w.heap[b]?) : SlO T e base w' v l fp := by
  obtain ⟨css, fps, h1, h2, h3, h4, h5, h6⟩ := h; refine ⟨css, fps, h1, h2, ?_, fun i cs a f hi ha hf => T.okeep _ _ _ _ _ _ (h4 i cs a f hi ha hf) fun b hb => hk b ?_, h5, h6⟩
  · refine ⟨h3.1, ?_⟩
    rcases h3.2 with hn | ⟨g, cap, cur, rfl, hb, hgg, rest⟩
    · exact .inl hn
    · exact .inr ⟨g, cap, cur, rfl, hb, by rw [hk g (by rw [h5]; simp [Value.ownBlock])]; exact hgg, rest⟩
  · rw [h5, List.mem_append]
    exact .inr (List.mem_flatten.2 ⟨f, List.mem_of_getElem? hf, hb⟩)
theorem SlO.below (h : SlO T e base w v l fp) (hb : Below w.heap.size w w') : SlO T e base w' v l fp :=
  h.keep fun b hb' => hb.block b (h.size_ok b hb').2
theorem SlO.read (h : SlO T e base w v l fp) : SlR T w v l := by
  obtain ⟨css, fps, h1, h2, h3, h4, h5, h6⟩ := h
  have hR : ∀ (i : Nat) cs a, css[i]? = some cs → l[i]? = some a → T.R w cs a := fun i cs a hi ha => by
    have hlt : i < fps.length := by rw [h2]; exact (List.getElem?_eq_some_iff.1 ha).1
    exact T.read _ _ _ _ _ (h4 i cs a _ hi ha (List.getElem?_eq_getElem hlt))
  rcases h3.2 with ⟨hv, hn⟩ | ⟨g, cap, cur, hv, hb, hg, hn, r⟩
  · refine ⟨none, 0, css, by rw [hv, hn], by omega, h1, ?_, hR⟩
    have : css = [] := List.eq_nil_of_length_eq_zero (by omega); subst this; exact Rd.nil
  · subst hv
    exact ⟨_, cap, css, rfl, hn, h1, Rd.of_own h3, hR⟩
theorem SlO.mono {base' : Nat} (h : SlO T e base w v l fp) (hb : base' ≤ base) : SlO T e base' w v l fp := by
  obtain ⟨css, fps, h1, h2, h3, h4, h5, h6⟩ := h; refine ⟨css, fps, h1, h2, ⟨h3.1, ?_⟩, fun i cs a f hi ha hf => T.mono _ _ _ _ _ _ hb (h4 i cs a f hi ha hf), h5, h6⟩
  rcases h3.2 with hn | ⟨g, cap, cur, rfl, hg, hgg, rest⟩
  · exact .inl hn
  · exact .inr ⟨g, cap, cur, rfl, by omega, hgg, rest⟩
theorem SlO.nil : SlO T e base w (.slice none 0 0) [] [] := ⟨[], [], rfl, rfl, World.ownsRow_nil _ _ _ _, fun i cs a f hi => by simp at hi, rfl, List.nodup_nil⟩
end
theorem SlO.nodup {α : Type} {T : Ty α} {e base : Nat} {w : World} {v : Value} {l : List α} {fp : List Nat} (h : SlO T e base w v l fp) : fp.Nodup := by
  obtain ⟨_, _, _, _, _, _, _, h6⟩ := h; exact h6
/-- Elements of plain cells. -/
def flatT {α : Type} (size : Nat) (f : α → List Value) (hp : 0 < size) (hl : ∀ a, (f a).length = size) (h1 : ∀ a, ∀ u ∈ f a, u.oneCell' = true) : Ty α where
  size := size
  R := fun _ cs a => cs = f a
  O := fun _ _ cs a fp => cs = f a ∧ fp = []
  pos := hp
  len := fun _ _ a h => by rw [h]; exact hl a
  one := fun _ _ a h => by rw [h]; exact h1 a
  keep := fun _ _ _ _ h _ => h
  okeep := fun _ _ _ _ _ _ h _ => h
  read := fun _ _ _ _ _ h => h.1
  lt := fun _ _ _ _ _ h b hb => by rw [h.2] at hb; cases hb
  nodup := fun _ _ _ _ _ h => by rw [h.2]; exact List.nodup_nil
  mono := fun _ _ _ _ _ _ _ h => h
/-- Slices of elements. -/
def slT {α : Type} (T : Ty α) (e : TypeId) : Ty (List α) where
  size := 1
  R := fun w cs l => ∃ v, cs = [v] ∧ SlR T w v l
  O := fun base w cs l fp => ∃ v, cs = [v] ∧ SlO T e base w v l fp
  pos := by omega
  len := fun _ _ _ ⟨_, h, _⟩ => by rw [h]; rfl
  one := fun _ _ _ ⟨v, h, h2⟩ u hu => by
    obtain ⟨A, c, e, _⟩ := h2.form; rw [h] at hu
    simp at hu
    subst hu; rw [e]
    rfl
  keep := fun _ _ _ _ ⟨v, h, h2⟩ hb => ⟨v, h, h2.below hb⟩
  okeep := fun _ _ _ _ _ _ ⟨v, h, h2⟩ hk => ⟨v, h, h2.keep hk⟩
  read := fun _ _ _ _ _ ⟨v, h, h2⟩ => ⟨v, h, h2.read⟩
  lt := fun _ _ _ _ _ ⟨_, _, h2⟩ => h2.size_ok
  nodup := fun _ _ _ _ _ ⟨_, _, h2⟩ => h2.nodup
  mono := fun _ _ _ _ _ _ hb ⟨v, h, h2⟩ => ⟨v, h, h2.mono hb⟩
/-- Two kinds side by side. -/
def prodT {α β γ : Type} (T : Ty α) (U : Ty β) (p : γ → α) (q : γ → β) : Ty γ where
  size := T.size + U.size
  R := fun w cs c => ∃ xs ys, cs = xs ++ ys ∧ T.R w xs (p c) ∧ U.R w ys (q c)
  O := fun base w cs c fp => ∃ xs ys f g, cs = xs ++ ys ∧ T.O base w xs (p c) f ∧ U.O base w ys (q c) g ∧ fp = f ++ g ∧ fp.Nodup
  pos := by have := T.pos; omega
  len := fun w cs c ⟨xs, ys, h, h1, h2⟩ => by rw [h, List.length_append, T.len _ _ _ h1, U.len _ _ _ h2]
  one := fun w cs c ⟨xs, ys, h, h1, h2⟩ u hu => by
    rw [h, List.mem_append] at hu
    rcases hu with hu | hu
    · exact T.one _ _ _ h1 u hu
    · exact U.one _ _ _ h2 u hu
  keep := fun _ _ _ _ ⟨xs, ys, h, h1, h2⟩ hb => ⟨xs, ys, h, T.keep _ _ _ _ h1 hb, U.keep _ _ _ _ h2 hb⟩
  okeep := fun _ _ _ _ _ _ ⟨xs, ys, f, g, h, h1, h2, h3, h4⟩ hk => ⟨xs, ys, f, g, h, T.okeep _ _ _ _ _ _ h1 fun b hb => hk b (by rw [h3]; simp [hb]), U.okeep _ _ _ _ _ _ h2 fun b hb => hk b (by rw [h3]; simp [hb]), h3, h4⟩
  read := fun _ _ _ _ _ ⟨xs, ys, f, g, h, h1, h2, _, _⟩ => ⟨xs, ys, h, T.read _ _ _ _ _ h1, U.read _ _ _ _ _ h2⟩
  lt := fun _ _ _ _ _ ⟨xs, ys, f, g, h, h1, h2, h3, _⟩ b hb => by
    rw [h3, List.mem_append] at hb
    rcases hb with hb | hb
    · exact T.lt _ _ _ _ _ h1 b hb
    · exact U.lt _ _ _ _ _ h2 b hb
  nodup := fun _ _ _ _ _ ⟨xs, ys, f, g, h, h1, h2, h3, h4⟩ => h4
  mono := fun _ _ _ _ _ _ hb ⟨xs, ys, f, g, h, h1, h2, h3, h4⟩ => ⟨xs, ys, f, g, h, T.mono _ _ _ _ _ _ hb h1, U.mono _ _ _ _ _ _ hb h2, h3, h4⟩
/-- What an append does to an owned slice: from the law of the row to the law of the data. -/
theorem SlO.grow {α : Type} {T : Ty α} {e base : Nat} {w w' : World} {v v' : Value} {l l' : List α} {css css' : List (List Value)} {fps fps' : List (List Nat)} {fp : List Nat} {m : Nat}
  (h1 : css.length = l.length) (h2 : fps.length = l.length) (h3 : w.ownsRow base e T.size v l.length css.flatten) (h4 : ∀ (i : Nat) cs a f, css[i]? = some cs → l[i]? = some a → fps[i]? = some f → T.O base w cs a f) (h5 : fp = v.ownBlock.toList ++ fps.flatten) (h6 : fp.Nodup)
  (k1 : css'.length = l'.length) (k2 : fps'.length = l'.length) (k4 : ∀ (i : Nat) cs a f, css'[i]? = some cs → l'[i]? = some a → fps'[i]? = some f → T.O base w cs a f) (k6 : fps'.flatten.Nodup) (hd : ∀ b ∈ fps'.flatten, b ∉ fp) (hm : m = l'.length)
  (ho : w'.ownsRow base e T.size v' (l.length + m) (css.flatten ++ css'.flatten)) (hg : w.grownBy w' v.ownBlock) (hv : v'.ownBlock = v.ownBlock ∨ v'.ownBlock = some w.heap.size) :
  ∃ fp', SlO T e base w' v' (l ++ l') fp' ∧ (∀ b ∈ fp', b ∈ fp ∨ b ∈ fps'.flatten ∨ b = w.heap.size) ∧ Kept fp w w' := by
 have hlt : ∀ b ∈ fps.flatten, b < w.heap.size := fun b hb => by
  obtain ⟨f, hf, hbf⟩ := List.mem_flatten.1 hb; obtain ⟨i, hi, rfl⟩ := List.getElem_of_mem hf; exact (T.lt _ _ _ _ _ (h4 i _ _ _ (List.getElem?_eq_getElem (by omega)) (List.getElem?_eq_getElem (by omega)) (List.getElem?_eq_getElem hi)) b hbf).2
 have hlt' : ∀ b ∈ fps'.flatten, b < w.heap.size := fun b hb => by
  obtain ⟨f, hf, hbf⟩ := List.mem_flatten.1 hb; obtain ⟨i, hi, rfl⟩ := List.getElem_of_mem hf; exact (T.lt _ _ _ _ _ (k4 i _ _ _ (List.getElem?_eq_getElem (by omega)) (List.getElem?_eq_getElem (by omega)) (List.getElem?_eq_getElem hi)) b hbf).2
 have hnd : (v.ownBlock.toList ++ fps.flatten).Nodup := h5 ▸ h6
 have hnot : ∀ b ∈ fps.flatten, some b ≠ v.ownBlock := fun b hb hq => by
  rw [← hq] at hnd
  simp at hnd
  exact hnd.1 _ (List.mem_flatten.1 hb).choose_spec.1 (List.mem_flatten.1 hb).choose_spec.2
 have hnot' : ∀ b ∈ fps'.flatten, some b ≠ v.ownBlock := fun b hb hq => hd b hb (by rw [h5, ← hq]; simp)
 refine ⟨v'.ownBlock.toList ++ (fps ++ fps').flatten, ⟨css ++ css', fps ++ fps', by simp [h1, k1], by simp [h2, k2], ?_, ?_, rfl, ?_⟩, ?_, ?_⟩
 ·rw [List.flatten_append, List.length_append, ← hm]; exact ho
 ·intro i cs a f hi ha hf
  by_cases hil : i < l.length
  ·rw [List.getElem?_append_left (by omega)] at hi ha hf
   refine T.okeep _ _ _ _ _ _ (h4 i cs a f hi ha hf) fun b hb => ?_
   have hb' : b ∈ fps.flatten := List.mem_flatten.2 ⟨f, List.mem_of_getElem? hf, hb⟩; exact hg.block b (hlt b hb') (hnot b hb')
  ·rw [List.getElem?_append_right (by omega)] at hi ha hf; rw [h1] at hi; rw [h2] at hf
   refine T.okeep _ _ _ _ _ _ (k4 _ cs a f hi ha hf) fun b hb => ?_
   have hb' : b ∈ fps'.flatten := List.mem_flatten.2 ⟨f, List.mem_of_getElem? hf, hb⟩; exact hg.block b (hlt' b hb') (hnot' b hb')
 ·have hin : (fps ++ fps').flatten.Nodup := by
   rw [List.flatten_append, List.nodup_append]; refine ⟨(List.nodup_append.1 hnd).2.1, k6, fun a ha b hb hab => hd b hb (by rw [h5, ← hab]; simp; right; exact List.mem_flatten.1 ha)⟩
  rcases hv with hv | hv
  ·rw [hv]; rw [List.nodup_append]; refine ⟨(List.nodup_append.1 hnd).1, hin, fun a ha b hb hab => ?_⟩; subst hab; rw [List.flatten_append, List.mem_append] at hb
   simp at ha
   rcases hb with hb | hb
   ·exact hnot _ hb ha.symm
   ·exact hnot' _ hb ha.symm
  ·rw [hv]
   simp only [Option.toList_some, List.singleton_append, List.nodup_cons]
   refine ⟨fun hb => ?_, hin⟩; rw [List.flatten_append, List.mem_append] at hb
   rcases hb with hb | hb
   ·have := hlt _ hb; omega
   ·have := hlt' _ hb; omega
 ·intro b hb; rw [List.flatten_append, List.mem_append, List.mem_append] at hb
  rcases hb with hb | hb | hb
  ·rcases hv with hv | hv
   ·rw [hv] at hb; exact .inl (by rw [h5]; simp at hb; simp [hb])
   ·rw [hv] at hb
    simp at hb
    exact .inr (.inr hb)
  ·exact .inl (by rw [h5, List.mem_append]; exact .inr hb)
  ·exact .inr (.inl hb)
 ·exact ⟨hg.os, hg.tape, hg.output, hg.size, fun k hk hn => hg.block k hk (fun hq => hn (by rw [h5, ← hq]; simp))⟩
theorem flat_nil {α : Type} (l : List α) : (l.map fun _ => ([] : List Nat)).flatten = [] := by
  induction l with
  | nil => rfl
  | cons a t ih => simp
/-- 'append(v, xs...)' of plain elements: for the walk. -/
theorem wpList_cat {P : Program} {w : World} {ops : Array Oper} {rest : List Oper} {o : Oper} {act : Act} {Q : Exit → Act → World → Prop} {α : Type} {T : Ty α} (hT : ∀ base w cs a, T.R w cs a → T.O base w cs a []) (s x : Operand) {t e : TypeId} {bytes : Nat} (et : ElemT P t e T.size bytes) {base : Nat} {v : Value} {l : List α} {fp : List Nat} (hO : SlO T e base w v l fp)
    {u : Value} {l' : List α} (hR : SlR T w u l') (hbytes : (l.length + l'.length) * bytes ≤ 140737488355328) (h63 : l.length + l'.length ≤ maxLen) (hbase : base ≤ w.heap.size)
    (hgd : o.guard = none) (ho : o.op = .call { callee := .builtin .append, args := #[s, x], argTypes := #[t, t] }) (hs : act.eval s = v) (hx : act.eval x = u)
    (h : ∀ v' w' fp', SlO T e base w' v' (l ++ l') fp' → (∀ b ∈ fp', b ∈ fp ∨ b = w.heap.size) → Kept fp w w' → wpList P ops Q rest (act.put o.dst v') w') : wpList P ops Q (o :: rest) act w := by
  obtain ⟨css, fps, h1, h2, h3, h4, h5, h6⟩ := hO; obtain ⟨A, c, css', rfl, r1, r2, r3, r4⟩ := hR
  have hall : ∀ (i : Nat) cs, css'[i]? = some cs → cs.length = T.size := fun i cs hi => by
    have hlt : i < l'.length := by rw [← r2]; exact (List.getElem?_eq_some_iff.1 hi).1
    exact T.len _ _ _ (r4 i cs _ hi (List.getElem?_eq_getElem hlt))
  have h11 : ∀ u ∈ css'.flatten, u.oneCell' = true := fun u hu => by
    obtain ⟨cs, hcs, hu⟩ := List.mem_flatten.1 hu; obtain ⟨i, hi, rfl⟩ := List.getElem_of_mem hcs; exact T.one _ _ _ (r4 i _ _ (List.getElem?_eq_getElem hi) (List.getElem?_eq_getElem (by omega))) u hu
  refine wpList_app s x et h3 r3 (by rw [flatten_len hall, r2]) h11 hbytes h63 hbase hgd ho hs hx fun v' w' ho' hg' hv' => ?_
  obtain ⟨fp', g1, g2, g3⟩ := SlO.grow (css' := css') (fps' := l'.map fun _ => []) (l' := l') (m := l'.length) h1 h2 h3 h4 h5 h6 r2 (by simp) (fun i c' a' f' hi ha hf' => by
    simp at hf'
    obtain ⟨_, _, rfl⟩ := hf'
    exact hT _ _ _ _ (r4 i _ _ hi ha)) (by rw [flat_nil]; exact List.nodup_nil) (by rw [flat_nil]; simp) rfl ho' hg' hv'
  exact h v' w' fp' g1 (fun b hb => by
    rcases g2 b hb with g | g | g
    · exact .inl g
    · rw [flat_nil] at g; cases g
    · exact .inr g) g3
theorem SlO.form {α : Type} {T : Ty α} {w : World} {v : Value} {l : List α} {e base : Nat} {fp : List Nat} (h : SlO T e base w v l fp) : ∃ A c, v = .slice A l.length c ∧ l.length ≤ c := h.read.form
/-- Stores into one block leave the others. -/
theorem far_set {w : World} {g j b : Nat} {u : Value} (h : b ≠ g) : (w.setCell ⟨g, j, none⟩ u).heap[b]? = w.heap[b]? := Below.heap_setCell w ⟨g, j, none⟩ u b h
theorem SlO.alloc {α : Type} {T : Ty α} {e base : Nat} {w : World} {v : Value} {l : List α} {fp : List Nat} (h : SlO T e base w v l fp) (o : Obj) : SlO T e base (w.alloc o) v l fp :=
  h.keep fun b hb => Below.heap_alloc _ _ _ (h.size_ok b hb).2
theorem Ty.obelow {α : Type} (T : Ty α) {base : Nat} {w w' : World} {cs : List Value} {a : α} {fp : List Nat} (h : T.O base w cs a fp) (hb : Below w.heap.size w w') : T.O base w' cs a fp :=
  T.okeep _ _ _ _ _ _ h fun b hm => hb.block b (T.lt _ _ _ _ _ h b hm).2
theorem Ty.kp {α : Type} (T : Ty α) {w w' : World} {cs : List Value} {a : α} (h : T.R w cs a) (hb : Below w.heap.size w w') : T.R w' cs a := T.keep _ _ _ _ h hb
theorem Kept.ck {fp : List Nat} {W w1 : World} (hk : Kept fp W w1) {g o : Nat} {u : Value} (h : W.cell? ⟨g, o, none⟩ = some u) (hg : g ∉ fp) : w1.cell? ⟨g, o, none⟩ = some u := by
  have hlt := World.block_lt_of_cell? W _ h; rw [World.cell?_of_block (w := W) (hk.block g hlt hg)]; exact h
/-- An append of plain elements at the operation. -/
theorem wp_cat {P : Program} {w : World} {o : Oper} {act : Act} {K : Act → World → Prop} {Q : Exit → Act → World → Prop} {α : Type} {T : Ty α} (hT : ∀ base w cs a, T.R w cs a → T.O base w cs a []) (s x : Operand) {t e : TypeId} {bytes : Nat} (et : ElemT P t e T.size bytes) {base : Nat} {v : Value} {l : List α} {fp : List Nat} (hO : SlO T e base w v l fp)
    {u : Value} {l' : List α} (hR : SlR T w u l') (hbytes : (l.length + l'.length) * bytes ≤ 140737488355328) (h63 : l.length + l'.length ≤ maxLen) (hbase : base ≤ w.heap.size)
    (ho : o.op = .call { callee := .builtin .append, args := #[s, x], argTypes := #[t, t] }) (hs : act.eval s = v) (hx : act.eval x = u)
    (h : ∀ v' w' fp', SlO T e base w' v' (l ++ l') fp' → (∀ b ∈ fp', b ∈ fp ∨ b = w.heap.size) → Kept fp w w' → K (act.put o.dst v') w') : o.wp P act w K Q := by
  obtain ⟨css, fps, h1, h2, h3, h4, h5, h6⟩ := hO; obtain ⟨A, c, css', rfl, r1, r2, r3, r4⟩ := hR
  have hall : ∀ (i : Nat) cs, css'[i]? = some cs → cs.length = T.size := fun i cs hi => by
    have hlt : i < l'.length := by rw [← r2]; exact (List.getElem?_eq_some_iff.1 hi).1
    exact T.len _ _ _ (r4 i cs _ hi (List.getElem?_eq_getElem hlt))
  have h11 : ∀ u ∈ css'.flatten, u.oneCell' = true := fun u hu => by
    obtain ⟨cs, hcs, hu⟩ := List.mem_flatten.1 hu; obtain ⟨i, hi, rfl⟩ := List.getElem_of_mem hcs; exact T.one _ _ _ (r4 i _ _ (List.getElem?_eq_getElem hi) (List.getElem?_eq_getElem (by omega))) u hu
  refine wp_app s x et h3 r3 (by rw [flatten_len hall, r2]) h11 hbytes h63 hbase ho hs hx fun v' w' ho' hg' hv' => ?_
  obtain ⟨fp', g1, g2, g3⟩ := SlO.grow (css' := css') (fps' := l'.map fun _ => []) (l' := l') (m := l'.length) h1 h2 h3 h4 h5 h6 r2 (by simp) (fun i c' a' f' hi ha hf' => by
    simp at hf'
    obtain ⟨_, _, rfl⟩ := hf'
    exact hT _ _ _ _ (r4 i _ _ hi ha)) (by rw [flat_nil]; exact List.nodup_nil) (by rw [flat_nil]; simp) rfl ho' hg' hv'
  exact h v' w' fp' g1 (fun b hb => by
    rcases g2 b hb with g | g | g
    · exact .inl g
    · rw [flat_nil] at g; cases g
    · exact .inr g) g3
/-- The same in a region that draws its order. -/
theorem step_cat {P : Program} {w : World} {ops : Array Oper} {o : Oper} {act : Act} {K : Act → World → Prop} {Q : Exit → Act → World → Prop} {F : Prop} {α : Type} {T : Ty α} (hT : ∀ base w cs a, T.R w cs a → T.O base w cs a []) (s x : Operand) {t e : TypeId} {bytes : Nat} (et : ElemT P t e T.size bytes) {base : Nat} {v : Value} {l : List α} {fp : List Nat} (hO : SlO T e base w v l fp)
    {u : Value} {l' : List α} (hR : SlR T w u l') (hbytes : (l.length + l'.length) * bytes ≤ 140737488355328) (h63 : l.length + l'.length ≤ maxLen) (hbase : base ≤ w.heap.size)
    (hgd : o.guard = none) (ho : o.op = .call { callee := .builtin .append, args := #[s, x], argTypes := #[t, t] }) (hs : act.eval s = v) (hx : act.eval x = u)
    (h : ∀ v' w' fp', SlO T e base w' v' (l ++ l') fp' → (∀ b ∈ fp', b ∈ fp ∨ b = w.heap.size) → Kept fp w w' → K (act.put o.dst v') w') :
    if Region.wanted o (yielded ops act.tmps) = true then Oper.wp P o act w K Q else F := by
  have hw : Region.wanted o (yielded ops act.tmps) = true := by simp [Region.wanted, hgd]
  rw [if_pos hw]; exact wp_cat hT s x et hO hR hbytes h63 hbase ho hs hx h
theorem flat_one {α : Type} (f : α → Value) (l : List α) : (l.map fun a => [f a]).flatten = l.map f := by
  induction l with
  | nil => rfl
  | cons a t ih => rw [List.map_cons, List.flatten_cons, ih]; rfl
/-- A slice literal of plain one-cell elements, just made. -/
theorem lit_read {α : Type} {T : Ty α} (w : World) (t : TypeId) (f : α → Value) (hf : ∀ w a, T.R w [f a] a) (l : List α) (c : Nat) (hc : l.length ≤ c) (g n : Nat) (hg : w.heap.size = g) (hn : l.length = n) (cs : Array Value) (hcs : cs = (l.map f).toArray) : SlR T (w.alloc (.cells cs t)) (.slice (some ⟨g, 0, none⟩) n c) l := by
  subst hcs; subst hg; subst hn; refine ⟨_, c, l.map fun a => [f a], rfl, hc, by simp, fun _ => ⟨w.heap.size, 0, rfl, fun j u hu => ?_⟩, fun i cs a hi ha => ?_⟩
  · rw [flat_one] at hu
    rw [cell_of_row (w.alloc (.cells (l.map f).toArray t)) w.heap.size (0 + j) (l.map f).toArray t (0, 0) (heap_alloc_new w _)]
    simpa using hu
  · rw [List.getElem?_map, ha] at hi
    simp at hi
    rw [← hi]; exact hf _ _
/-- A world that has come of W by new blocks alone. -/
structure Xt (W : World) where
  w : World
  h : Below W.heap.size W w
instance (W : World) : Nonempty (Xt W) := ⟨⟨W, Below.refl _ _⟩⟩
/-- Where an owned slice that is not empty lies. -/
theorem SlO.addr {α : Type} {T : Ty α} {e base : Nat} {w : World} {v : Value} {l : List α} {fp : List Nat} (h : SlO T e base w v l fp) (hp : 0 < l.length) :
    ∃ g c, v = .slice (some ⟨g, 0, none⟩) l.length c ∧ g ∈ fp ∧ base ≤ g ∧ g < w.heap.size ∧ l.length ≤ c ∧ ∀ j, w.frozen? ⟨g, j, none⟩ = false := by
  obtain ⟨css, fps, h1, h2, h3, h4, h5, h6⟩ := h
  rcases h3.2 with ⟨hv, hn⟩ | ⟨g, cap, cur, hv, hb, hg, hn, r⟩
  · omega
  · subst hv
    exact ⟨g, cap, rfl, by rw [h5]; simp [Value.ownBlock], hb, (Array.getElem?_eq_some_iff.1 hg).1, hn, fun j => h3.frozenAt j⟩
theorem flatten_set {css : List (List Value)} {size : Nat} (h : ∀ (i : Nat) cs, css[i]? = some cs → cs.length = size) (k : Nat) (cs : List Value) (hk : css[k]? = some cs) (j : Nat) (hj : j < size) (u : Value) :
    css.flatten.set (k * size + j) u = (css.set k (cs.set j u)).flatten := by
  induction css generalizing k with
  | nil => simp at hk
  | cons c t ih =>
    have hc : c.length = size := h 0 c rfl; cases k with
    | zero =>
      simp at hk
      subst hk
      simp only [List.flatten_cons, Nat.zero_mul, Nat.zero_add, List.set_cons_zero]
      rw [List.set_append_left _ _ (by omega)]
    | succ k =>
      simp at hk
      simp only [List.flatten_cons, List.set_cons_succ]
      rw [List.set_append_right _ _ (by rw [hc, Nat.add_mul, Nat.one_mul]; omega), hc, show (k + 1) * size + j - size = k * size + j by rw [Nat.add_mul, Nat.one_mul]; omega]; rw [ih (fun i cs hi => h (i + 1) cs hi) k hk]
/-- A store into one cell of one element of an owned slice of plain elements. -/
theorem SlO.put {α : Type} {T : Ty α} {e base : Nat} {w : World} {g n c : Nat} {l : List α} {fp : List Nat} (h : SlO T e base w (.slice (some ⟨g, 0, none⟩) n c) l fp) (hn : n = l.length) (hT : ∀ w w' cs a f, T.O base w cs a f → T.O base w' cs a f) {i j : Nat} {a : α} (hi : l[i]? = some a) (hj : j < T.size) {u : Value} {a' : α}
    (hc : ∀ w cs f, T.O base w cs a f → T.O base w (cs.set j u) a' f) : SlO T e base (w.setCell ⟨g, i * T.size + j, none⟩ u) (.slice (some ⟨g, 0, none⟩) n c) (l.set i a') fp := by
  subst hn; obtain ⟨css, fps, h1, h2, h3, h4, h5, h6⟩ := h; have hlt : i < l.length := (List.getElem?_eq_some_iff.1 hi).1
  have hall : ∀ (i : Nat) cs, css[i]? = some cs → cs.length = T.size := fun i cs hi => by
    have hl : i < css.length := (List.getElem?_eq_some_iff.1 hi).1; exact T.len _ _ _ (T.read _ _ _ _ _ (h4 i cs _ _ hi (List.getElem?_eq_getElem (by omega)) (List.getElem?_eq_getElem (by omega))))
  have hk : css[i]? = some (css[i]'(by omega)) := List.getElem?_eq_getElem (by omega); refine ⟨css.set i ((css[i]'(by omega)).set j u), fps, by simp [h1], by simp [h2], ?_, ?_, h5, h6⟩
  · rw [List.length_set, ← flatten_set hall i _ hk j hj u]
    exact own_set h3 _ _
  · intro k cs x f hk' hx hf
    by_cases hki : k = i
    · subst hki
      rw [List.getElem?_set_self (by omega)] at hk' hx
      injection hk' with hk'
      injection hx with hx
      subst hk' hx; exact hc _ _ _ (hT _ _ _ _ _ (h4 k _ _ _ hk hi hf))
    · rw [List.getElem?_set_ne (by omega)] at hk' hx
      exact hT _ _ _ _ _ (h4 k _ _ _ hk' hx hf)
theorem flatten_take {css : List (List Value)} {size : Nat} (h : ∀ (i : Nat) cs, css[i]? = some cs → cs.length = size) (m : Nat) : (css.take m).flatten = css.flatten.take (m * size) := by
  induction css generalizing m with
  | nil => simp
  | cons a t ih =>
    have ha := h 0 a rfl; cases m with
    | zero => simp
    | succ m =>
      have hs : (m + 1) * size = a.length + m * size := by rw [ha, Nat.add_mul, Nat.one_mul]; omega
      rw [List.take_succ_cons, List.flatten_cons, List.flatten_cons, ih (fun i cs hi => h (i + 1) cs hi), hs, List.take_length_add_append]
/-- A slice literal of one element, just made. -/
theorem lit_one {α : Type} {T : Ty α} (w : World) (t : TypeId) (a : α) (c g : Nat) (hc : 1 ≤ c) (hg : w.heap.size = g) (cs : Array Value) (hT : ∀ w, T.R w cs.toList a) : SlR T (w.alloc (.cells cs t)) (.slice (some ⟨g, 0, none⟩) 1 c) [a] := by
  subst hg; refine ⟨_, c, [cs.toList], rfl, hc, rfl, fun _ => ⟨w.heap.size, 0, rfl, fun j u hu => ?_⟩, fun i cs' x hi hx => ?_⟩
  · rw [cell_of_row (w.alloc (.cells cs t)) w.heap.size (0 + j) cs t (0, 0) (heap_alloc_new w _)]
    simpa using hu
  · rcases i with _ | i
    · simp at hi hx
      subst hi hx; exact hT _
    · simp at hi
abbrev Ext (w w' : World) : Prop := Below w.heap.size w w'
abbrev Frm := List (Nat × Value)
def look : Frm → Nat → Option Value
  | [], _ => none
  | e :: L, s => bif Nat.beq s e.1 then some e.2 else look L s
def ev (L : Frm) : Operand → Option Value
  | .tmp t => look L t
  | .const v => some v
  | .global g => some (.pointer (some ⟨g, 0, none⟩))
  | .func f => some (.func (.func f) #[] #[])
def evs (L : Frm) : List Operand → Option (List Value)
  | [] => some []
  | x :: xs => match ev L x, evs L xs with
    | some v, some vs => some (v :: vs)
    | _, _ => none
/-- What is known of the slots. -/
structure Env (n : Nat) (L : Frm) (a : Act) : Prop where
  defers : a.defers = []
  size : a.tmps.size = n
  at_ : ∀ t v, look L t = some v → a.tmps[t]? = some v
theorem look_cons {L : Frm} {d t : Nat} {v : Value} : look ((d, v) :: L) t = if t = d then some v else look L t := by
  show (bif Nat.beq t d then some v else look L t) = _
  by_cases h : t = d
  · subst h; simp
  · have : Nat.beq t d = false := by
      cases hb : Nat.beq t d
      · rfl
      · exact absurd (Nat.eq_of_beq_eq_true hb) h
    simp [this, h]
theorem Env.put {n : Nat} {L : Frm} {a : Act} (h : Env n L a) {d : Nat} (hd : Nat.blt d n = true) (v : Value) : Env n ((d, v) :: L) (a.put (some d) v) := by
  have hd' : d < n := by simpa [Nat.blt_eq] using hd
  refine ⟨h.defers, by simp [Act.put, h.size], fun t u hu => ?_⟩; rw [look_cons] at hu
  by_cases e : t = d
  · subst e
    rw [if_pos rfl] at hu
    injection hu with hu
    subst hu
    simp [Act.put, h.size, hd']
  · rw [if_neg e] at hu
    simp only [Act.put]
    rw [Array.getElem?_setIfInBounds_ne (Ne.symm e)]; exact h.at_ t u hu
theorem Env.ev {n : Nat} {L : Frm} {a : Act} (h : Env n L a) {x : Operand} {v : Value} (hx : ev L x = some v) : a.eval x = v := by
  cases x with
  | tmp t =>
    have := h.at_ t v hx
    simp [Act.eval, this]
  | const u => cases hx; rfl
  | global g => cases hx; rfl
  | func f => cases hx; rfl
theorem Env.evs {n : Nat} {L : Frm} {a : Act} (h : Env n L a) {xs : List Operand} {vs : List Value} (hx : evs L xs = some vs) : xs.map a.eval = vs := by
  induction xs generalizing vs with
  | nil => cases hx; rfl
  | cons x t ih =>
    unfold Go.Proofs.YtljkgpembicloaaGreat.evs at hx
    split at hx
    · rename_i v vs' h1 h2
      cases hx; rw [List.map_cons, h.ev h1, ih h2]
    · cases hx
/-- Every slot that L' names is known so from L. -/
def Sub : Frm → Frm → Prop
  | [], _ => True
  | e :: L', L => look L e.1 = some e.2 ∧ Sub L' L
theorem Env.sub {n : Nat} {L L' : Frm} {a : Act} (h : Env n L a) (hs : Sub L' L) : Env n L' a := by
  refine ⟨h.defers, h.size, ?_⟩
  induction L' with
  | nil => intro t v hv; cases hv
  | cons e L' ih =>
    obtain ⟨h1, h2⟩ := hs; intro t v hv; rw [show e = (e.1, e.2) from rfl, look_cons] at hv
    by_cases ht : t = e.1
    · subst ht
      rw [if_pos rfl] at hv; rw [← hv] at *; exact h.at_ _ _ (by rw [h1, hv])
    · rw [if_neg ht] at hv
      exact ih h2 t v hv
inductive Md where
  | take | run | fin
inductive IT where
  | done
  | st (m : Md) (o : Oper) (r : IT)
  | alt (p q : IT)
def wpT (P : Program) (ops : Array Oper) (Q : Exit → Act → World → Prop) : IT → Act → World → Prop
  | .done, a, w => Q .normal a w
  | .st .take o r, a, w => ∃ v, YieldsIf P ops (Ext w) o v a ∧ wpT P ops Q r (a.put o.dst v) w
  | .st .run o r, a, w => if Region.wanted o (yielded ops a.tmps) = true then o.wp P a w (fun a' w' => Ext w w' ∧ wpT P ops Q r a' w') Q else wpT P ops Q r (a.put o.dst undef) w
  | .st .fin o r, a, w => if Region.wanted o (yielded ops a.tmps) = true then o.wp P a w (wpT P ops Q r) Q else wpT P ops Q r (a.put o.dst undef) w
  | .alt p q, a, w => wpT P ops Q p a w ∧ wpT P ops Q q a w
def finT : List Oper → IT
  | [] => .done
  | o :: l => .st .fin o (finT l)
theorem wpList_of_fin {P : Program} {ops : Array Oper} {Q : Exit → Act → World → Prop} (l : List Oper) : ∀ a w, wpT P ops Q (finT l) a w → wpList P ops Q l a w := by
  induction l with
  | nil => exact fun a w h => h
  | cons o l ih =>
    intro a w h
    simp only [finT, wpT] at h
    simp only [wpList]
    split
    · rename_i hw
      rw [if_pos hw] at h; exact .inl (Oper.wp_mono (fun a w h => ih a w h) h)
    · rename_i hw
      rw [if_neg hw] at h; exact ih _ _ h
/-- A plan for a region that draws its order: which operation next, by its place. -/
inductive Plan where
  | done
  | st (m : Md) (i : Nat) (r : Plan)
  | alt (p q : Plan)
def Plan.heads : Plan → List Nat
  | .done => []
  | .st _ i _ => [i]
  | .alt p q => p.heads ++ q.heads
def Plan.tree (ops : Array Oper) : Plan → IT
  | .done => .done
  | .st m i r => .st m (ops.getD i default) (r.tree ops)
  | .alt p q => .alt (p.tree ops) (q.tree ops)
/-- Operation j waits for i, by its edges or by those of one that it waits for. -/
def waits (ops : Array Oper) : Nat → Nat → Nat → Bool
  | 0, _, _ => false
  | f + 1, j, i => match ops[j]? with
    | some o => o.after.toList.any fun e => Region.binds .any e && (e.on == i || waits ops f e.on i)
    | none => false
/-- A place that is 'fin' in the plan: it waits for every one that is not. -/
def Plan.isFin (i : Nat) : Plan → Bool
  | .done => false
  | .st m j r => (i == j && (match m with | .fin => true | _ => false)) || r.isFin i
  | .alt p q => p.isFin i || q.isFin i
def Plan.ok (ops : Array Oper) (b : Bool) : Plan → Array Bool → Bool
  | .done, l => !b && (Region.ready .any ops l).isEmpty
  | .st .take i r, l => !b && Nat.blt i ops.size && Region.free .any ops l i && (Region.ready .any ops l).contains i && r.ok ops false (l.setIfInBounds i true)
  | .st .run i r, l => Nat.blt i ops.size && (b || Region.ready .any ops l == [i]) && r.ok ops false (l.setIfInBounds i true)
  | .st .fin i r, l => Nat.blt i ops.size && (b || Region.ready .any ops l == [i]) && r.ok ops false (l.setIfInBounds i true)
  | .alt p q, l => (b || (!(Region.ready .any ops l).isEmpty && (Region.ready .any ops l).all (fun i => (p.heads ++ q.heads).contains i))) && p.ok ops true l && q.ok ops true l
def Plan.len : Plan → Nat
  | .done => 0
  | .st _ _ r => r.len + 1
  | .alt p q => max p.len q.len
def modesIn (top : Plan) : Plan → Bool
  | .done => true
  | .st .fin i r => top.isFin i && modesIn top r
  | .st .take i r => !top.isFin i && modesIn top r
  | .st .run i r => !top.isFin i && modesIn top r
  | .alt p q => modesIn top p && modesIn top q
def Plan.whole (p : Plan) (ops : Array Oper) : Bool :=
  p.ok ops false (Array.replicate ops.size false) && modesIn p p && Nat.ble p.len ops.size && Region.noSelect ops &&
  (List.range ops.size).all fun j => !p.isFin j || (List.range ops.size).all fun i => p.isFin i || waits ops ops.size j i
section
variable {P : Program} {ops : Array Oper} {Q : Exit → Act → World → Prop} {S S' : World → Prop} {h1 : Nat → Bool}
def Closed (ops : Array Oper) (l : Array Bool) : Prop := ∀ j o, ops[j]? = some o → l.getD j false = true → ∀ e ∈ o.after, Region.binds .any e = true → l.getD e.on false = true
theorem Closed.waits {l : Array Bool} (hc : Closed ops l) : ∀ (f j i : Nat), (∀ o, ops[j]? = some o → ∀ e ∈ o.after, Region.binds .any e = true → l.getD e.on false = true) → waits ops f j i = true → l.getD i false = true := by
  intro f
  induction f with
  | zero => intro j i _ h; cases h
  | succ f ih =>
    intro j i hj h
    unfold Go.Proofs.YtljkgpembicloaaGreat.waits at h
    split at h
    · rename_i o ho
      obtain ⟨e, he, hb⟩ := List.any_eq_true.1 h; rw [Bool.and_eq_true, Bool.or_eq_true] at hb
      have he' : e ∈ o.after := by simpa using he
      have hl := hj o ho e he' hb.1
      rcases hb.2 with h2 | h2
      · have : e.on = i := by simpa using h2
        rw [← this]; exact hl
      · exact ih e.on i (fun o' ho' => hc e.on o' ho' hl) h2
    · cases h
def wpAnyG (P : Program) (ops : Array Oper) (Q : Exit → Act → World → Prop) (S : World → Prop) (h1 : Nat → Bool) : Nat → Array Bool → Act → World → Prop
  | 0, l, a, w => Region.ready .any ops l = [] ∧ Q .normal a w
  | f + 1, l, a, w => (Region.ready .any ops l = [] → Q .normal a w) ∧
    ∀ i ∈ Region.ready .any ops l, wpOp P ops Q i (fun a' w' => (h1 i = true → S w') ∧ wpAnyG P ops Q S h1 f (l.setIfInBounds i true) a' w') a w
theorem wpAny_of_G : ∀ (f : Nat) (l : Array Bool) (a : Act) (w : World), wpAnyG P ops Q S h1 f l a w → wpAny P .any ops Q f l a w
  | 0, _, _, _, h => h
  | f + 1, _, _, _, h => ⟨h.1, fun i hi => wpOp_mono (fun a' w' h' => wpAny_of_G f _ a' w' h'.2) (h.2 i hi)⟩
theorem G_mono (hS : ∀ w, S w → S' w) : ∀ (f : Nat) (l : Array Bool) (a : Act) (w : World), wpAnyG P ops Q S h1 f l a w → wpAnyG P ops Q S' h1 f l a w
  | 0, _, _, _, h => h
  | f + 1, _, _, _, h => ⟨h.1, fun i hi => wpOp_mono (fun a' w' h' => ⟨fun hh => hS _ (h'.1 hh), G_mono hS f _ a' w' h'.2⟩) (h.2 i hi)⟩
theorem getD_set {l : Array Bool} {i j : Nat} (h : l.getD j true = true) : (l.setIfInBounds i true).getD j true = true := by
  by_cases hij : i = j
  · subst hij
    by_cases hlt : i < l.size
    · simp [hlt]
    · simp [hlt]
  · rw [getD_set_ne true hij]; exact h
theorem G_free : ∀ (f : Nat) (l : Array Bool) (a : Act) (w : World), (∀ i, i < ops.size → h1 i = true → l.getD i true = true) → wpAnyG P ops Q S h1 f l a w → wpAnyG P ops Q S' h1 f l a w
  | 0, _, _, _, _, h => h
  | f + 1, l, _, _, hl, h => ⟨h.1, fun i hi => wpOp_mono (fun a' w' h' => ⟨(fun hh => by
      obtain ⟨h2, o, ho, _⟩ := mem_ready.1 hi; rw [hl i (Array.getElem?_eq_some_iff.1 ho).1 hh] at h2
      cases h2), G_free f _ a' w' (fun k hk hk' => getD_set (hl k hk hk')) h'.2⟩) (h.2 i hi)⟩
theorem Closed.set {l : Array Bool} (hc : Closed ops l) {i : Nat} (hi : i ∈ Region.ready .any ops l) : Closed ops (l.setIfInBounds i true) := by
  intro j o ho hj e he hb; refine getD_set_true ?_
  by_cases hij : i = j
  · subst hij
    obtain ⟨_, o', ho', hall⟩ := mem_ready.1 hi; rw [ho] at ho'; cases ho'; exact hall e he hb
  · rw [getD_set_ne false hij] at hj
    exact hc j o ho hj e he hb
theorem G_first (hph : ∀ j i, h1 j = false → h1 i = true → j < ops.size → i < ops.size → waits ops ops.size j i = true) {i : Nat} {oi : Oper} {v : Value} (hi : ops[i]? = some oi) (hi1 : h1 i = true) (hsel : ∀ (j : Nat) (o : Oper) cs b, ops[j]? = some o → o.op ≠ .select cs b)
    (hQ : ∀ c a w, Q (.panic c) (a.put oi.dst v) w → Q (.panic c) a w) :
    ∀ (fuel : Nat) (listed : Array Bool) (a : Act) (w : World), Closed ops listed →
      (∀ j oj, ops[j]? = some oj → j ≠ i → listed.getD j true = false → (∀ e ∈ oj.after, Region.binds .any e = true → e.on ≠ i) → oi.apart ops oj = true) →
      i ∈ Region.ready .any ops listed → YieldsIf P ops S oi v a → S w →
      wpAnyG P ops Q S h1 fuel (listed.setIfInBounds i true) (a.put oi.dst v) w → wpAnyG P ops Q S h1 (fuel + 1) listed a w := by
  intro fuel
  induction fuel with
  | zero =>
    intro listed a w _ _ hr hy hS H; refine ⟨fun h => (by rw [h] at hr; cases hr), fun j hj => ?_⟩
    by_cases hji : j = i
    · subst hji; exact hy.wpOp hi hS ⟨fun _ => hS, H⟩
    · have := ready_mono hj hji
      rw [H.1] at this; cases this
  | succ fuel ih =>
    intro listed a w hcl hfree hr hy hS H; refine ⟨fun h => (by rw [h] at hr; cases hr), fun j hj => ?_⟩
    by_cases hji : j = i
    · subst hji; exact hy.wpOp hi hS ⟨fun _ => hS, H⟩
    · have hm := H.2 j (ready_mono hj hji)
      obtain ⟨hjun, oj, hoj, hall⟩ := mem_ready.1 hj; have hilt : i < ops.size := (Array.getElem?_eq_some_iff.1 hi).1; have hjlt : j < ops.size := (Array.getElem?_eq_some_iff.1 hoj).1
      have hnl : listed.getD i false ≠ true := fun h => by
        have h0 := (mem_ready.1 hr).1
        rcases Nat.lt_or_ge i listed.size with h' | h'
        · simp [h'] at h0 h; rw [h0] at h; cases h
        · simp [Array.getElem?_eq_none h'] at h
      have hj1 : h1 j = true := by
        cases hb : h1 j
        · exact absurd (hcl.waits _ _ _ (fun o ho => by rw [hoj] at ho; cases ho; exact hall) (hph j i hb hi1 hjlt hilt)) hnl
        · rfl
      have hnot : ∀ e ∈ oj.after, Region.binds .any e = true → e.on ≠ i := fun e he hb heq => hnl (heq ▸ hall e he hb)
      have h2 := wpOp_putIf hoj (hfree j oj hoj hji hjun hnot) (fun cs b => hsel i oi cs b hi) (fun cs b => hsel j oj cs b hoj) hQ hy hm
      have hfree' : ∀ k ok, ops[k]? = some ok → k ≠ i → (listed.setIfInBounds j true).getD k true = false →
          (∀ e ∈ ok.after, Region.binds .any e = true → e.on ≠ i) → oi.apart ops ok = true := fun k ok hk hki hun hno => by
        refine hfree k ok hk hki ?_ hno
        by_cases hjk : j = k
        · subst hjk; exact hjun
        · rw [getD_set_ne true hjk] at hun; exact hun
      refine wpOp_mono (fun a' w' h3 => ⟨h3.2.1, ih (listed.setIfInBounds j true) a' w' (hcl.set hj) hfree' (ready_mono hr (Ne.symm hji)) h3.1 (h3.2.1 hj1) ?_⟩) h2; rw [Array.setIfInBounds_comm _ _ hji]; exact h3.2.2
theorem G_done {l : Array Bool} {a : Act} {w : World} (hr : Region.ready .any ops l = []) (h : Q .normal a w) : ∀ f, wpAnyG P ops Q S h1 f l a w
  | 0 => ⟨hr, h⟩
  | _ + 1 => ⟨fun _ => h, by rw [hr]; simp⟩
theorem plan_sound (top : Plan) (hph : ∀ j i, top.isFin j = true → top.isFin i = false → j < ops.size → i < ops.size → waits ops ops.size j i = true) (hsel : ∀ (j : Nat) (o : Oper) cs b, ops[j]? = some o → o.op ≠ .select cs b)
  (hQ : ∀ c a w d v, Q (.panic c) (Act.put a d v) w → Q (.panic c) a w) (p : Plan) : ∀ (l : Array Bool) (a : Act) (w : World), Closed ops l → modesIn top p = true → wpT P ops Q (p.tree ops) a w →
   (p.ok ops false l = true → ∀ f, p.len ≤ f → wpAnyG P ops Q (Ext w) (fun i => !top.isFin i) f l a w) ∧
   (p.ok ops true l = true → ∀ f, p.len ≤ f + 1 → ∀ i ∈ p.heads, i ∈ Region.ready .any ops l → wpOp P ops Q i (fun a' w' => ((!top.isFin i) = true → Ext w w') ∧ wpAnyG P ops Q (Ext w) (fun i => !top.isFin i) f (l.setIfInBounds i true) a' w') a w) := by
 have hph' : ∀ j i, (!top.isFin j) = false → (!top.isFin i) = true → j < ops.size → i < ops.size → waits ops ops.size j i = true := fun j i h1 h2 => hph j i (by simpa using h1) (by simpa using h2)
 induction p with
 | done =>
  intro l a w hc hm hT; refine ⟨fun hok f hf => G_done (by simpa [Plan.ok] using hok) hT f, fun hok => by simp [Plan.ok] at hok⟩
 | alt p q ihp ihq =>
  intro l a w hc hm hT
  simp only [modesIn, Bool.and_eq_true] at hm
  obtain ⟨hTp, hTq⟩ := hT; have hp := ihp l a w hc hm.1 hTp; have hq := ihq l a w hc hm.2 hTq
  have hB : p.ok ops true l = true → q.ok ops true l = true → ∀ f, max p.len q.len ≤ f + 1 → ∀ i ∈ p.heads ++ q.heads, i ∈ Region.ready .any ops l → wpOp P ops Q i (fun a' w' => ((!top.isFin i) = true → Ext w w') ∧ wpAnyG P ops Q (Ext w) (fun i => !top.isFin i) f (l.setIfInBounds i true) a' w') a w := by
   intro h1 h2 f hf i hi hr
   rcases List.mem_append.1 hi with hi | hi
   ·exact hp.2 h1 f (by omega) i hi hr
   ·exact hq.2 h2 f (by omega) i hi hr
  refine ⟨fun hok f hf => ?_, fun hok f hf i hi hr => ?_⟩
  ·simp only [Plan.ok, Bool.and_eq_true, Bool.false_or] at hok
   obtain ⟨⟨⟨hne, hall⟩, h1⟩, h2⟩ := hok
   simp only [Plan.len] at hf
   have hpos : 0 < f := by
    cases hpl : p with
    | done => rw [hpl] at h1; simp [Plan.ok] at h1
    | st m i r => rw [hpl] at hf; simp only [Plan.len] at hf; omega
    | alt p1 q1 =>
     rcases Nat.eq_zero_or_pos f with h0 | h0
     ·exfalso
      have key : ∀ p : Plan, p.ok ops true l = true → 0 < p.len := by
       intro p
       induction p with
       | done => intro h; simp [Plan.ok] at h
       | st m i r _ => intro _; simp [Plan.len]
       | alt p q ih1 _ => intro h; simp only [Plan.ok, Bool.true_or, Bool.true_and, Bool.and_eq_true] at h; have := ih1 h.1; simp only [Plan.len]; omega
      have := key p h1
      omega
     ·exact h0
   obtain ⟨f, rfl⟩ : ∃ g, f = g + 1 := ⟨f - 1, by omega⟩; refine ⟨fun h0 => by rw [h0] at hne; simp at hne, fun i hi => hB h1 h2 f hf i ?_ hi⟩; have := List.all_eq_true.1 hall i hi
   simpa using this
  ·simp only [Plan.ok, Bool.and_eq_true, Bool.true_or, Bool.true_and] at hok
   exact hB hok.1 hok.2 f hf i hi hr
 | st m i r ih =>
  have hop : Nat.blt i ops.size = true → ops[i]? = some (ops.getD i default) := fun h => by
   have : i < ops.size := by simpa [Nat.blt_eq] using h
   simp [this]
  cases m with
  | take =>
   intro l a w hc hm hT; refine ⟨fun hok f hf => ?_, fun hok => by simp [Plan.ok] at hok⟩
   simp only [Plan.ok, Bool.and_eq_true, Bool.not_false, true_and] at hok
   obtain ⟨⟨⟨hlt, hfr⟩, hrd⟩, hr⟩ := hok
   simp only [modesIn, Bool.and_eq_true] at hm
   obtain ⟨v, hy, hT⟩ := hT
   simp only [Plan.len] at hf
   obtain ⟨f, rfl⟩ : ∃ g, f = g + 1 := ⟨f - 1, by omega⟩
   have hrd' : i ∈ Region.ready .any ops l := by simpa using hrd
   exact G_first hph' (hop hlt) hm.1 hsel (fun c a w h => hQ c a w _ _ h) f l a w hc (Region.free_spec (hop hlt) hfr) hrd' hy (Below.refl _ _) ((ih _ _ w (hc.set hrd') hm.2 hT).1 hr f (by omega))
  | run =>
   intro l a w hc hm hT
   simp only [modesIn, Bool.and_eq_true] at hm
   have hB : Nat.blt i ops.size = true → r.ok ops false (l.setIfInBounds i true) = true → i ∈ Region.ready .any ops l → ∀ f, r.len ≤ f → wpOp P ops Q i (fun a' w' => ((!top.isFin i) = true → Ext w w') ∧ wpAnyG P ops Q (Ext w) (fun i => !top.isFin i) f (l.setIfInBounds i true) a' w') a w := by
    intro hlt hr hrd f hf
    simp only [Plan.tree, wpT] at hT
    have ho' := hop hlt
    generalize ops.getD i default = o' at ho' hT
    unfold wpOp
    simp only [ho']
    split
    ·rename_i hw
     rw [if_pos hw] at hT; exact .inl (Oper.wp_mono (fun a' w' h => ⟨fun _ => h.1, G_mono (fun x hx => ext_trans h.1 hx) _ _ _ _ ((ih _ a' w' (hc.set hrd) hm.2 h.2).1 hr f hf)⟩) hT)
    ·rename_i hw
     rw [if_neg hw] at hT; exact ⟨fun _ => Below.refl _ _, (ih _ _ w (hc.set hrd) hm.2 hT).1 hr f hf⟩
   refine ⟨fun hok f hf => ?_, fun hok f hf j hj hrd => ?_⟩
   ·simp only [Plan.ok, Bool.and_eq_true, Bool.false_or] at hok
    obtain ⟨⟨hlt, hrd⟩, hr⟩ := hok
    have hrd' : Region.ready .any ops l = [i] := by simpa using hrd
    simp only [Plan.len] at hf
    obtain ⟨f, rfl⟩ : ∃ g, f = g + 1 := ⟨f - 1, by omega⟩; refine ⟨(fun h0 => by rw [h0] at hrd'; cases hrd'), fun j hj => ?_⟩
    have : j = i := by rw [hrd'] at hj; simpa using hj
    subst this; exact hB hlt hr hj f (by omega)
   ·simp only [Plan.ok, Bool.and_eq_true, Bool.true_or, and_true] at hok
    have : j = i := by simpa [Plan.heads] using hj
    subst this
    simp only [Plan.len] at hf
    exact hB hok.1 hok.2 hrd f (by omega)
  | fin =>
   intro l a w hc hm hT
   simp only [modesIn, Bool.and_eq_true] at hm
   have hB : Nat.blt i ops.size = true → r.ok ops false (l.setIfInBounds i true) = true → i ∈ Region.ready .any ops l → ∀ f, r.len ≤ f → wpOp P ops Q i (fun a' w' => ((!top.isFin i) = true → Ext w w') ∧ wpAnyG P ops Q (Ext w) (fun i => !top.isFin i) f (l.setIfInBounds i true) a' w') a w := by
    intro hlt hr hrd f hf
    have hlt' : i < ops.size := by simpa [Nat.blt_eq] using hlt
    have hall : ∀ k, k < ops.size → (!top.isFin k) = true → (l.setIfInBounds i true).getD k true = true := by
     intro k hks hk; obtain ⟨_, o, ho, hedge⟩ := mem_ready.1 hrd; have := hc.waits _ i k (fun o' ho' => by rw [ho] at ho'; cases ho'; exact hedge) (hph i k hm.1 (by simpa using hk) hlt' hks)
     have h2 : l.getD k true = true := by
      rcases Nat.lt_or_ge k l.size with h' | h'
      ·simp [h'] at this ⊢; exact this
      ·simp [Array.getElem?_eq_none h'] at this
     exact getD_set h2
    simp only [Plan.tree, wpT] at hT
    have ho' := hop hlt
    generalize ops.getD i default = o' at ho' hT
    unfold wpOp
    simp only [ho']
    split
    ·rename_i hw
     rw [if_pos hw] at hT; exact .inl (Oper.wp_mono (fun a' w' h => ⟨(fun hh => by rw [hm.1] at hh; cases hh), G_free _ _ _ _ hall ((ih _ a' w' (hc.set hrd) hm.2 h).1 hr f hf)⟩) hT)
    ·rename_i hw
     rw [if_neg hw] at hT; exact ⟨fun _ => Below.refl _ _, (ih _ _ w (hc.set hrd) hm.2 hT).1 hr f hf⟩
   refine ⟨fun hok f hf => ?_, fun hok f hf j hj hrd => ?_⟩
   ·simp only [Plan.ok, Bool.and_eq_true, Bool.false_or] at hok
    obtain ⟨⟨hlt, hrd⟩, hr⟩ := hok
    have hrd' : Region.ready .any ops l = [i] := by simpa using hrd
    simp only [Plan.len] at hf
    obtain ⟨f, rfl⟩ : ∃ g, f = g + 1 := ⟨f - 1, by omega⟩; refine ⟨(fun h0 => by rw [h0] at hrd'; cases hrd'), fun j hj => ?_⟩
    have : j = i := by rw [hrd'] at hj; simpa using hj
    subst this; exact hB hlt hr hj f (by omega)
   ·simp only [Plan.ok, Bool.and_eq_true, Bool.true_or, and_true] at hok
    have : j = i := by simpa [Plan.heads] using hj
    subst this
    simp only [Plan.len] at hf
    exact hB hok.1 hok.2 hrd f (by omega)
end
/-- No way out by a panic. -/
def NoP (Q : Exit → Act → World → Prop) : Exit → Act → World → Prop
  | .panic _, _, _ => False
  | e, a, w => Q e a w
theorem NoP.out {Q : Exit → Act → World → Prop} {e : Exit} {a : Act} {w : World} (h : NoP Q e a w) : Q e a w := by
  cases e <;> first | exact h | exact h.elim
/-- The walk's judgements: of a piece of code, of a region's operations. -/
def W (P : Program) (n : Nat) (Q : Exit → Act → World → Prop) (c : Code) (L : Frm) (w : World) : Prop := ∀ a, Env n L a → c.wp P Q a w
def WT (P : Program) (n : Nat) (ops : Array Oper) (Q : Exit → Act → World → Prop) (T : IT) (L : Frm) (w : World) : Prop := ∀ a, Env n L a → wpT P ops Q T a w
def WX (n : Nat) (Q : Exit → Act → World → Prop) (e : Exit) (L : Frm) (w : World) : Prop := ∀ a, Env n L a → Q e a w
section
variable {P : Program} {n : Nat} {Q : Exit → Act → World → Prop} {L : Frm} {w : World}
/-- A region in the order of the text. -/
theorem w_g {id : Nat} {l : List Oper} (h : WT P n l.toArray Q (finT l) L w) : W P n Q (.region id l.toArray false) L w :=
  fun a ha => wp_region_lit (wpList_of_fin l a w (h a ha))
/-- A region that draws its order, by a plan. -/
theorem w_draw {id : Nat} {ops : Array Oper} (p : Plan) (hm : P.follows .mixedOrders = true) (hp : p.whole ops = true) (h : ∀ w', Ext w w' → WT P n ops (NoP Q) (p.tree ops) L w') : W P n Q (.region id ops true) L w := by
  intro a ha; refine wp_mono (wp_region_any hm ?_) (fun e a w h => NoP.out h)
  simp only [Plan.whole, Bool.and_eq_true] at hp
  obtain ⟨⟨⟨⟨h1, h2⟩, h3⟩, h4⟩, h5⟩ := hp
  have hph : ∀ j i, p.isFin j = true → p.isFin i = false → j < ops.size → i < ops.size → waits ops ops.size j i = true := by
    intro j i hj hi hjs his; have h6 := List.all_eq_true.1 h5 j (List.mem_range.2 hjs); rw [hj] at h6
    simp only [Bool.not_true, Bool.false_or] at h6
    have h7 := List.all_eq_true.1 h6 i (List.mem_range.2 his); rw [hi] at h7
    simpa using h7
  have hc : Closed ops (Array.replicate ops.size false) := by
    intro j o _ hj
    exfalso
    rcases Nat.lt_or_ge j ops.size with h' | h'
    · simp [h'] at hj
    · simp [Array.getElem?_eq_none (xs := Array.replicate ops.size false) (i := j) (by simpa using h')] at hj
  exact wpAny_of_G _ _ _ _ ((plan_sound (Q := NoP Q) p hph (Region.noSelect_spec h4) (fun c a w d v h => h) p _ a w.drew hc h2 (h w.drew (below_drew w) a ha)).1 h1 _ (by simpa using h3))
theorem w_s {x y : Code} (h : W P n (Exit.then (y.wp P Q) Q) x L w) : W P n Q (.seq x y) L w := fun a ha => wp_seq (h a ha)
theorem w_k (h : WX n Q .normal L w) : W P n Q .skip L w := fun a ha => wp_skip (h a ha)
theorem w_exit {id : Nat} (h : WX n Q (.exit id) L w) : W P n Q (.exit id) L w := fun a ha => wp_exit (h a ha)
theorem w_r (h : WX n Q .ret L w) : W P n Q .ret L w := fun a ha => wp_ret (h a ha)
theorem w_block {id : Nat} {c : Code} (h : W P n (Exit.inBlock id Q) c L w) : W P n Q (.block id c) L w := fun a ha => wp_block (h a ha)
theorem t_d {ops : Array Oper} (h : WX n Q .normal L w) : WT P n ops Q .done L w := h
theorem t_d' {ops : Array Oper} (h : WX n Q .normal L w) : WT P n ops (NoP Q) .done L w := h
theorem t_alt {ops : Array Oper} {p q : IT} (h : WT P n ops Q p L w) (k : WT P n ops Q q L w) : WT P n ops Q (.alt p q) L w := fun a ha => ⟨h a ha, k a ha⟩
theorem w_if {c : Operand} {x y : Code} {p : Prop} {d : Decidable p} (hc : ev L c = some (.bool (@decide p d))) (ht : p → W P n Q x L w) (hf : ¬ p → W P n Q y L w) : W P n Q (.cond c x y) L w := by
  intro a ha; refine wp_cond_split (ha.ev hc) (fun h => ht (of_decide_eq_true h) a ha) (fun h => hf (of_decide_eq_false h) a ha)
theorem w_ifb {c : Operand} {x y : Code} {b : Bool} (hc : ev L c = some (.bool b)) (ht : b = true → W P n Q x L w) (hf : b = false → W P n Q y L w) : W P n Q (.cond c x y) L w :=
  fun a ha => wp_cond_split (ha.ev hc) (fun h => ht h a ha) (fun h => hf h a ha)
theorem w_yes {c : Operand} {x y : Code} (hc : ev L c = some (.bool true)) (h : W P n Q x L w) : W P n Q (.cond c x y) L w := fun a ha => wp_cond_true (ha.ev hc) (h a ha)
theorem w_no {c : Operand} {x y : Code} (hc : ev L c = some (.bool false)) (h : W P n Q y L w) : W P n Q (.cond c x y) L w := fun a ha => wp_cond_false (ha.ev hc) (h a ha)
/-- The ways out. -/
theorem x_s {y : Code} (h : W P n Q y L w) : WX n (Exit.then (y.wp P Q) Q) .normal L w := h
theorem t_e {y : Code} {ops : Array Oper} (h : W P n Q y L w) : WT P n ops (Exit.then (y.wp P Q) Q) .done L w := t_d (x_s h)
theorem t_e' {y : Code} {ops : Array Oper} (h : W P n Q y L w) : WT P n ops (NoP (Exit.then (y.wp P Q) Q)) .done L w := t_d' (x_s h)
theorem w_h {id : Nat} {l : List Oper} {y : Code} (h : WT P n l.toArray (Exit.then (y.wp P Q) Q) (finT l) L w) : W P n Q (.seq (.region id l.toArray false) y) L w := w_s (w_g h)
theorem t_k {id : Nat} {l : List Oper} {y : Code} {ops : Array Oper} (h : WT P n l.toArray (Exit.then (y.wp P Q) Q) (finT l) L w) : WT P n ops (Exit.then ((Code.seq (.region id l.toArray false) y).wp P Q) Q) .done L w := t_e (w_h h)
theorem t_k' {id : Nat} {l : List Oper} {y : Code} {ops : Array Oper} (h : WT P n l.toArray (Exit.then (y.wp P Q) Q) (finT l) L w) : WT P n ops (NoP (Exit.then ((Code.seq (.region id l.toArray false) y).wp P Q) Q)) .done L w := t_e' (w_h h)
theorem x_then_exit {K : Act → World → Prop} {id : Nat} (h : WX n Q (.exit id) L w) : WX n (Exit.then K Q) (.exit id) L w := h
theorem x_t {K : Act → World → Prop} (h : WX n Q .ret L w) : WX n (Exit.then K Q) .ret L w := h
theorem x_block_exit {id : Nat} (h : WX n Q .normal L w) : WX n (Exit.inBlock id Q) (.exit id) L w := fun a ha => by
  show if id = id then _ else _
  rw [if_pos rfl]; exact h a ha
theorem x_b {id : Nat} (h : WX n Q .normal L w) : WX n (Exit.inBlock id Q) .normal L w := h
theorem x_block_ret {id : Nat} (h : WX n Q .ret L w) : WX n (Exit.inBlock id Q) .ret L w := h
theorem least (M : Nat → Prop) (h : ∃ k, M k) : ∃ k, M k ∧ ∀ j, M j → k ≤ j := by
  obtain ⟨k, hk⟩ := h
  induction k using Nat.strongRecOn with
  | _ k ih =>
    by_cases h : ∃ j, j < k ∧ M j
    · obtain ⟨j, hj, hM⟩ := h
      exact ih j hj hM
    · refine ⟨k, hk, fun j hj => ?_⟩
      rcases Nat.lt_or_ge j k with hlt | hge
      · exact absurd ⟨j, hlt, hj⟩ h
      · exact hge
/-- A loop: what holds at every round's head, by letters x; a measure. -/
theorem w_loop {X : Type} (I : X → World → Prop) (F : X → Frm) (μ : X → Nat) {c : Code} (x0 : X) (h0 : I x0 w) (hs : Sub (F x0) L)
    (round : ∀ x w', I x w' → W P n (Exit.then (fun a' w'' => ∃ x', I x' w'' ∧ Env n (F x') a' ∧ μ x' < μ x) Q) c (F x) w') : W P n Q (.loop c) L w := by
  intro a ha
  classical
  let M : Act → World → Nat → Prop := fun a w k => ∃ x, I x w ∧ Env n (F x) a ∧ μ x = k
  let ν : Act → World → Nat := fun a w => if h : ∃ k, M a w k then Classical.choose (least _ h) else 0
  have hν : ∀ a w, (∃ k, M a w k) → M a w (ν a w) ∧ ∀ j, M a w j → ν a w ≤ j := fun a w h => by
    show M a w (dite _ _ _) ∧ ∀ j, M a w j → dite _ _ _ ≤ j
    rw [dif_pos h]; exact Classical.choose_spec (least _ h)
  refine wp_loop (fun a w => ∃ k, M a w k) ν ⟨_, x0, h0, ha.sub hs, rfl⟩ fun a w hI => ?_
  obtain ⟨⟨x, h1, h2, h3⟩, _⟩ := hν a w hI
  refine wp_mono (round x w h1 a h2) fun e a' w' hq => ?_
  cases e with
  | normal =>
    obtain ⟨x', k1, k2, k3⟩ := hq; have hM : ∃ k, M a' w' k := ⟨_, x', k1, k2, rfl⟩; exact ⟨hM, by have := (hν a' w' hM).2 _ ⟨x', k1, k2, rfl⟩; omega⟩
  | _ => exact hq
theorem x_r {X : Type} {I : X → World → Prop} {F : X → Frm} {μ : X → Nat} {m : Nat} (x' : X) (hI : I x' w) (hs : Sub (F x') L) (hm : μ x' < m) :
    WX n (Exit.then (fun a' w'' => ∃ x', I x' w'' ∧ Env n (F x') a' ∧ μ x' < m) Q) .normal L w := fun a ha => ⟨x', hI, ha.sub hs, hm⟩
end
def intT : Ty Int := flatT 1 (fun n => [I n]) (by omega) (fun _ => rfl) (fun _ u hu => by simp at hu; rw [hu]; rfl)
def byteT : Ty UInt8 := flatT 1 (fun b => [.int .u8 (b.toNat : Int)]) (by omega) (fun _ => rfl) (fun _ u hu => by simp at hu; rw [hu]; rfl)
theorem take_succ {α : Type} {l : List α} {k : Nat} {x : α} (h : l[k]? = some x) : l.take (k + 1) = l.take k ++ [x] := by
  rw [List.take_add_one, h]; rfl
theorem int_flat (base : Nat) (w : World) (cs : List Value) (a : Int) (h : intT.R w cs a) : intT.O base w cs a [] := ⟨h, rfl⟩
structure Hop where
  ia : Int
  ing : Int
  eg : Int
  exp : Int
  mac : Int
  deriving DecidableEq
structure ASd where
  isd : Int
  core : Bool
  key : Int
  deriving DecidableEq
structure Lnk where
  a : Int
  ai : Int
  b : Int
  bi : Int
  kind : Int
  deriving DecidableEq
structure Stp where
  ia : Int
  ing : Int
  eg : Int
  deriving DecidableEq
structure Part where
  kind : Int
  ts : Int
  beta : Int
  hops : List Hop
  deriving DecidableEq
abbrev Path := List Part
structure Seg where
  ts : Int
  beta : Int
  hops : List Hop
  deriving DecidableEq
structure Topo where
  ases : List ASd
  links : List Lnk
  deriving DecidableEq
structure Sdb where
  down : List Seg
  core : List Seg
  deriving DecidableEq
def hopT : Ty Hop := flatT 5 (fun d : Hop => [I d.ia, I d.ing, I d.eg, I d.exp, I d.mac]) (by omega) (fun _ => rfl) (fun _ u hu => by simp at hu; rcases hu with rfl | rfl | rfl | rfl | rfl <;> rfl)
theorem hop_flat (base : Nat) (w : World) (cs : List Value) (a : Hop) (h : hopT.R w cs a) : hopT.O base w cs a [] := ⟨h, rfl⟩
theorem hop_form {w : World} {cs : List Value} {d : Hop} (h : hopT.R w cs d) : cs = [I (d.ia), I (d.ing), I (d.eg), I (d.exp), I (d.mac)] := h
theorem hop_at {k : Nat} {w : World} {v : Value} {l : List Hop} (h : SlR hopT w v l) (hk : k < l.length) : ∃ g o c x, v = .slice (some ⟨g, o, none⟩) l.length c ∧ g < w.heap.size ∧ Hid (l[k]? = some x) ∧ w.cell? ⟨g, o + k * 5, none⟩ = some (I (x.ia)) ∧ w.cell? ⟨g, o + k * 5 + 1, none⟩ = some (I (x.ing)) ∧ w.cell? ⟨g, o + k * 5 + 2, none⟩ = some (I (x.eg)) ∧ w.cell? ⟨g, o + k * 5 + 3, none⟩ = some (I (x.exp)) ∧ w.cell? ⟨g, o + k * 5 + 4, none⟩ = some (I (x.mac)) := by
  obtain ⟨g, o, c, cs, e, h1, _, h4, h5⟩ := SlR.at_ h hk
  change cs = _ at h4
  subst h4; exact ⟨g, o, c, _, e, h1, List.getElem?_eq_getElem hk, h5 0 _ rfl, h5 1 _ rfl, h5 2 _ rfl, h5 3 _ rfl, h5 4 _ rfl⟩
def asnT : Ty ASd := flatT 3 (fun d : ASd => [I d.isd, .bool d.core, I d.key]) (by omega) (fun _ => rfl) (fun _ u hu => by simp at hu; rcases hu with rfl | rfl | rfl <;> rfl)
theorem asn_flat (base : Nat) (w : World) (cs : List Value) (a : ASd) (h : asnT.R w cs a) : asnT.O base w cs a [] := ⟨h, rfl⟩
theorem asn_form {w : World} {cs : List Value} {d : ASd} (h : asnT.R w cs d) : cs = [I (d.isd), .bool d.core, I (d.key)] := h
def linkT : Ty Lnk := flatT 5 (fun d : Lnk => [I d.a, I d.ai, I d.b, I d.bi, I d.kind]) (by omega) (fun _ => rfl) (fun _ u hu => by simp at hu; rcases hu with rfl | rfl | rfl | rfl | rfl <;> rfl)
theorem link_flat (base : Nat) (w : World) (cs : List Value) (a : Lnk) (h : linkT.R w cs a) : linkT.O base w cs a [] := ⟨h, rfl⟩
theorem link_form {w : World} {cs : List Value} {d : Lnk} (h : linkT.R w cs d) : cs = [I (d.a), I (d.ai), I (d.b), I (d.bi), I (d.kind)] := h
theorem link_at {k : Nat} {w : World} {v : Value} {l : List Lnk} (h : SlR linkT w v l) (hk : k < l.length) : ∃ g o c x, v = .slice (some ⟨g, o, none⟩) l.length c ∧ g < w.heap.size ∧ Hid (l[k]? = some x) ∧ w.cell? ⟨g, o + k * 5, none⟩ = some (I (x.a)) ∧ w.cell? ⟨g, o + k * 5 + 1, none⟩ = some (I (x.ai)) ∧ w.cell? ⟨g, o + k * 5 + 2, none⟩ = some (I (x.b)) ∧ w.cell? ⟨g, o + k * 5 + 3, none⟩ = some (I (x.bi)) ∧ w.cell? ⟨g, o + k * 5 + 4, none⟩ = some (I (x.kind)) := by
  obtain ⟨g, o, c, cs, e, h1, _, h4, h5⟩ := SlR.at_ h hk
  change cs = _ at h4
  subst h4; exact ⟨g, o, c, _, e, h1, List.getElem?_eq_getElem hk, h5 0 _ rfl, h5 1 _ rfl, h5 2 _ rfl, h5 3 _ rfl, h5 4 _ rfl⟩
def stepT : Ty Stp := flatT 3 (fun d : Stp => [I d.ia, I d.ing, I d.eg]) (by omega) (fun _ => rfl) (fun _ u hu => by simp at hu; rcases hu with rfl | rfl | rfl <;> rfl)
theorem step_flat (base : Nat) (w : World) (cs : List Value) (a : Stp) (h : stepT.R w cs a) : stepT.O base w cs a [] := ⟨h, rfl⟩
theorem step_at {k : Nat} {w : World} {v : Value} {l : List Stp} (h : SlR stepT w v l) (hk : k < l.length) : ∃ g o c x, v = .slice (some ⟨g, o, none⟩) l.length c ∧ g < w.heap.size ∧ Hid (l[k]? = some x) ∧ w.cell? ⟨g, o + k * 3, none⟩ = some (I (x.ia)) ∧ w.cell? ⟨g, o + k * 3 + 1, none⟩ = some (I (x.ing)) ∧ w.cell? ⟨g, o + k * 3 + 2, none⟩ = some (I (x.eg)) := by
  obtain ⟨g, o, c, cs, e, h1, _, h4, h5⟩ := SlR.at_ h hk
  change cs = _ at h4
  subst h4; exact ⟨g, o, c, _, e, h1, List.getElem?_eq_getElem hk, h5 0 _ rfl, h5 1 _ rfl, h5 2 _ rfl⟩
def partT_0 : Ty Part := flatT 3 (fun d : Part => [I d.kind, I d.ts, I d.beta]) (by omega) (fun _ => rfl) (fun _ u hu => by simp at hu; rcases hu with rfl | rfl | rfl <;> rfl)
def partT : Ty Part := (prodT partT_0 (slT hopT 87) id Part.hops)
theorem part_form {w : World} {cs : List Value} {d : Part} (h : partT.R w cs d) : ∃ A3 cA3, cs = [I (d.kind), I (d.ts), I (d.beta), .slice A3 d.hops.length cA3] ∧ (SlR hopT w (.slice A3 d.hops.length cA3) d.hops ∧ d.hops.length ≤ cA3) := by
  obtain ⟨xs0, ys0, e0, g0, r0⟩ := h
  change _ = _ at g0
  subst g0; obtain ⟨v1, rfl, hv1⟩ := r0; obtain ⟨A3, cA3, rfl, hc1⟩ := hv1.form; subst e0; exact ⟨A3, cA3, rfl, ⟨hv1, hc1⟩⟩
theorem part_mk {w : World} {d : Part} {A3 : Option Addr} {cA3 : Nat} (h3 : SlR hopT w (.slice A3 d.hops.length cA3) d.hops) : partT.R w [I (d.kind), I (d.ts), I (d.beta), .slice A3 d.hops.length cA3] d := ⟨[_, _, _], _, rfl, rfl, ⟨_, rfl, h3⟩⟩
theorem part_oform {base : Nat} {w : World} {cs : List Value} {d : Part} {fp : List Nat} (h : partT.O base w cs d fp) : ∃ A3 cA3 f3, cs = [I (d.kind), I (d.ts), I (d.beta), .slice A3 d.hops.length cA3] ∧ SlO hopT 87 base w (.slice A3 d.hops.length cA3) d.hops f3 ∧ fp = f3 ∧ fp.Nodup := by
  have hnd := partT.nodup _ _ _ _ _ h; obtain ⟨xs0, ys0, p0, q0, e0, g0, r0, t0, _⟩ := h; obtain ⟨m0, n0⟩ := g0; subst m0 n0; obtain ⟨v1, rfl, hv1⟩ := r0; obtain ⟨A3, cA3, rfl, hc1⟩ := hv1.form; subst e0; subst t0; exact ⟨A3, cA3, _, rfl, hv1, by simp, hnd⟩
theorem part_at {k : Nat} {w : World} {v : Value} {l : List Part} (h : SlR partT w v l) (hk : k < l.length) : ∃ g o c x A3 cA3, v = .slice (some ⟨g, o, none⟩) l.length c ∧ g < w.heap.size ∧ Hid (l[k]? = some x) ∧ SlR hopT w (.slice A3 x.hops.length cA3) x.hops ∧ x.hops.length ≤ cA3 ∧ w.cell? ⟨g, o + k * 4, none⟩ = some (I (x.kind)) ∧ w.cell? ⟨g, o + k * 4 + 1, none⟩ = some (I (x.ts)) ∧ w.cell? ⟨g, o + k * 4 + 2, none⟩ = some (I (x.beta)) ∧ w.cell? ⟨g, o + k * 4 + 3, none⟩ = some (.slice A3 x.hops.length cA3) := by
  obtain ⟨g, o, c, cs, e, h1, _, h4, h5⟩ := SlR.at_ h hk; obtain ⟨A3, cA3, rfl, ⟨k3, m3⟩⟩ := part_form h4; exact ⟨g, o, c, _, A3, cA3, e, h1, List.getElem?_eq_getElem hk, k3, m3, h5 0 _ rfl, h5 1 _ rfl, h5 2 _ rfl, h5 3 _ rfl⟩
def pathT : Ty Path := slT partT 85
theorem path_form {w : World} {cs : List Value} {d : Path} (h : pathT.R w cs d) : ∃ A0 cA0, cs = [.slice A0 d.length cA0] ∧ (SlR partT w (.slice A0 d.length cA0) d ∧ d.length ≤ cA0) := by
  obtain ⟨v, rfl, hv⟩ := h; obtain ⟨A, c, rfl, hc⟩ := hv.form; exact ⟨A, c, rfl, hv, hc⟩
theorem path_mk {w : World} {d : Path} {A0 : Option Addr} {cA0 : Nat} (h0 : SlR partT w (.slice A0 d.length cA0) d) : pathT.R w [.slice A0 d.length cA0] d := ⟨_, rfl, h0⟩
theorem path_at {k : Nat} {w : World} {v : Value} {l : List Path} (h : SlR pathT w v l) (hk : k < l.length) : ∃ g o c x A0 cA0, v = .slice (some ⟨g, o, none⟩) l.length c ∧ g < w.heap.size ∧ Hid (l[k]? = some x) ∧ SlR partT w (.slice A0 x.length cA0) x ∧ x.length ≤ cA0 ∧ w.cell? ⟨g, o + k, none⟩ = some (.slice A0 x.length cA0) := by
  obtain ⟨g, o, c, cs, e, h1, _, h4, h5⟩ := SlR.at_ h hk; obtain ⟨A0, cA0, rfl, ⟨k0, m0⟩⟩ := path_form h4; exact ⟨g, o, c, _, A0, cA0, e, h1, List.getElem?_eq_getElem hk, k0, m0, by simpa [pathT, slT, flatT] using h5 0 _ rfl⟩
def segT_0 : Ty Seg := flatT 2 (fun d : Seg => [I d.ts, I d.beta]) (by omega) (fun _ => rfl) (fun _ u hu => by simp at hu; rcases hu with rfl | rfl <;> rfl)
def segT : Ty Seg := (prodT segT_0 (slT hopT 87) id Seg.hops)
theorem seg_form {w : World} {cs : List Value} {d : Seg} (h : segT.R w cs d) : ∃ A2 cA2, cs = [I (d.ts), I (d.beta), .slice A2 d.hops.length cA2] ∧ (SlR hopT w (.slice A2 d.hops.length cA2) d.hops ∧ d.hops.length ≤ cA2) := by
  obtain ⟨xs0, ys0, e0, g0, r0⟩ := h
  change _ = _ at g0
  subst g0; obtain ⟨v1, rfl, hv1⟩ := r0; obtain ⟨A2, cA2, rfl, hc1⟩ := hv1.form; subst e0; exact ⟨A2, cA2, rfl, ⟨hv1, hc1⟩⟩
theorem seg_mk {w : World} {d : Seg} {A2 : Option Addr} {cA2 : Nat} (h2 : SlR hopT w (.slice A2 d.hops.length cA2) d.hops) : segT.R w [I (d.ts), I (d.beta), .slice A2 d.hops.length cA2] d := ⟨[_, _], _, rfl, rfl, ⟨_, rfl, h2⟩⟩
theorem seg_oform {base : Nat} {w : World} {cs : List Value} {d : Seg} {fp : List Nat} (h : segT.O base w cs d fp) : ∃ A2 cA2 f2, cs = [I (d.ts), I (d.beta), .slice A2 d.hops.length cA2] ∧ SlO hopT 87 base w (.slice A2 d.hops.length cA2) d.hops f2 ∧ fp = f2 ∧ fp.Nodup := by
  have hnd := segT.nodup _ _ _ _ _ h; obtain ⟨xs0, ys0, p0, q0, e0, g0, r0, t0, _⟩ := h; obtain ⟨m0, n0⟩ := g0; subst m0 n0; obtain ⟨v1, rfl, hv1⟩ := r0; obtain ⟨A2, cA2, rfl, hc1⟩ := hv1.form; subst e0; subst t0; exact ⟨A2, cA2, _, rfl, hv1, by simp, hnd⟩
def topoT : Ty Topo := (prodT (slT asnT 117) (slT linkT 90) Topo.ases Topo.links)
theorem topo_form {w : World} {cs : List Value} {d : Topo} (h : topoT.R w cs d) : ∃ A0 cA0 A1 cA1, cs = [.slice A0 d.ases.length cA0, .slice A1 d.links.length cA1] ∧ (SlR asnT w (.slice A0 d.ases.length cA0) d.ases ∧ d.ases.length ≤ cA0) ∧ (SlR linkT w (.slice A1 d.links.length cA1) d.links ∧ d.links.length ≤ cA1) := by
  obtain ⟨xs0, ys0, e0, g0, r0⟩ := h; obtain ⟨v0, rfl, hv0⟩ := g0; obtain ⟨A0, cA0, rfl, hc0⟩ := hv0.form; obtain ⟨v1, rfl, hv1⟩ := r0; obtain ⟨A1, cA1, rfl, hc1⟩ := hv1.form; subst e0; exact ⟨A0, cA0, A1, cA1, rfl, ⟨hv0, hc0⟩, ⟨hv1, hc1⟩⟩
theorem topo_mk {w : World} {d : Topo} {A0 : Option Addr} {cA0 : Nat} (h0 : SlR asnT w (.slice A0 d.ases.length cA0) d.ases) {A1 : Option Addr} {cA1 : Nat} (h1 : SlR linkT w (.slice A1 d.links.length cA1) d.links) : topoT.R w [.slice A0 d.ases.length cA0, .slice A1 d.links.length cA1] d := ⟨[_], _, rfl, ⟨_, rfl, h0⟩, ⟨_, rfl, h1⟩⟩
def sdbT : Ty Sdb := (prodT (slT segT 67) (slT segT 67) Sdb.down Sdb.core)
theorem sdb_form {w : World} {cs : List Value} {d : Sdb} (h : sdbT.R w cs d) : ∃ A0 cA0 A1 cA1, cs = [.slice A0 d.down.length cA0, .slice A1 d.core.length cA1] ∧ (SlR segT w (.slice A0 d.down.length cA0) d.down ∧ d.down.length ≤ cA0) ∧ (SlR segT w (.slice A1 d.core.length cA1) d.core ∧ d.core.length ≤ cA1) := by
  obtain ⟨xs0, ys0, e0, g0, r0⟩ := h; obtain ⟨v0, rfl, hv0⟩ := g0; obtain ⟨A0, cA0, rfl, hc0⟩ := hv0.form; obtain ⟨v1, rfl, hv1⟩ := r0; obtain ⟨A1, cA1, rfl, hc1⟩ := hv1.form; subst e0; exact ⟨A0, cA0, A1, cA1, rfl, ⟨hv0, hc0⟩, ⟨hv1, hc1⟩⟩
theorem sdb_mk {w : World} {d : Sdb} {A0 : Option Addr} {cA0 : Nat} (h0 : SlR segT w (.slice A0 d.down.length cA0) d.down) {A1 : Option Addr} {cA1 : Nat} (h1 : SlR segT w (.slice A1 d.core.length cA1) d.core) : sdbT.R w [.slice A0 d.down.length cA0, .slice A1 d.core.length cA1] d := ⟨[_], _, rfl, ⟨_, rfl, h0⟩, ⟨_, rfl, h1⟩⟩
theorem int_at {k : Nat} {w : World} {v : Value} {l : List Int} (h : SlR intT w v l) (hk : k < l.length) : ∃ g o c x, v = .slice (some ⟨g, o, none⟩) l.length c ∧ g < w.heap.size ∧ Hid (l[k]? = some x) ∧ w.cell? ⟨g, o + k, none⟩ = some (I x) := by
  obtain ⟨g, o, c, cs, e, h1, _, h4, h5⟩ := SlR.at_ h hk
  change cs = _ at h4
  subst h4; exact ⟨g, o, c, _, e, h1, List.getElem?_eq_getElem hk, by simpa [intT, slT, flatT] using h5 0 _ rfl⟩
section
variable {P : Program} {n : Nat} {ops : Array Oper} {Q : Exit → Act → World → Prop} {L : Frm} {w : World} {m : Md} {r : IT} {d : Nat} {ty : TypeId} {pos : String} {af : Array Edge}
/-- In every later world the operation hands back v and leaves the world as_ it is. -/
def Reads (P : Program) (n : Nat) (op : Op) (ty : TypeId) (pos : String) (L : Frm) (w : World) (v : Value) : Prop :=
  ∀ a, Env n L a → ∀ dst af gd w', Ext w w' → (execOp a.eval ⟨dst, op, ty, pos, af, gd⟩).run P w' = .ok (.value v) w'
theorem t_read {op : Op} {v : Value} (h : Reads P n op ty pos L w v) (k : WT P n ops Q r ((d, v) :: L) w) (hn : Nat.blt d n = true) : WT P n ops Q (.st m ⟨some d, op, ty, pos, af, none⟩ r) L w := by
  intro a ha; have hk := k _ (ha.put hn v); cases m with
  | take => exact ⟨v, .inl ⟨rfl, fun w' hw' => h a ha _ _ _ w' hw'⟩, hk⟩
  | run =>
    simp only [wpT, Region.wanted, if_true]
    unfold Oper.wp
    rw [h a ha _ _ _ w (Below.refl _ _)]; exact ⟨Below.refl _ _, hk⟩
  | fin =>
    simp only [wpT, Region.wanted, if_true]
    unfold Oper.wp
    rw [h a ha _ _ _ w (Below.refl _ _)]; exact hk
theorem yielded_at {a : Act} (ha : Env n L a) {j tj : Nat} {g : Bool} (hj : (ops[j]?).bind (·.dst) = some tj) (hg : look L tj = some (.bool g)) : yielded ops a.tmps j = some g := by
  unfold yielded
  rw [hj, Option.bind_some, ha.at_ _ _ hg]
theorem t_on {op : Op} {j tj : Nat} {b : Bool} {dst : Option Nat} (hj : (ops[j]?).bind (·.dst) = some tj) (hg : look L tj = some (.bool b)) (k : WT P n ops Q (.st m ⟨dst, op, ty, pos, af, none⟩ r) L w) : WT P n ops Q (.st m ⟨dst, op, ty, pos, af, some (j, b)⟩ r) L w := by
  intro a ha; have hy := yielded_at ha hj hg; have hk := k a ha; cases m with
  | take =>
    obtain ⟨v, hv, hk⟩ := hk; refine ⟨v, ?_, hk⟩
    rcases hv with ⟨_, hv⟩ | ⟨hv, _⟩
    · exact .inl ⟨by simp [Region.wanted, hy], hv⟩
    · cases hv
  | run => simpa [wpT, Region.wanted, hy, Oper.wp, Oper.upon, execOp] using hk
  | fin => simpa [wpT, Region.wanted, hy, Oper.wp, Oper.upon, execOp] using hk
theorem t_off {op : Op} {j tj : Nat} {b g : Bool} (hj : (ops[j]?).bind (·.dst) = some tj) (hg : look L tj = some (.bool g)) (hb : (g == b) = false) (k : WT P n ops Q r ((d, undef) :: L) w) (hn : Nat.blt d n = true) : WT P n ops Q (.st m ⟨some d, op, ty, pos, af, some (j, b)⟩ r) L w := by
  intro a ha; have hy := yielded_at ha hj hg
  have hw : Region.wanted (⟨some d, op, ty, pos, af, some (j, b)⟩ : Oper) (yielded ops a.tmps) = false := by
    simp only [Region.wanted, hy]
    cases g <;> cases b <;> simp_all
  have hk := k _ (ha.put hn undef); cases m with
  | take => exact ⟨undef, .inr ⟨hw, rfl⟩, hk⟩
  | run => simp only [wpT, hw]; exact hk
  | fin => simp only [wpT, hw]; exact hk
/-- Part on a slot's truth value: from here on it is known. -/
theorem t_part {T : IT} {t : Nat} {g : Bool} (hg : look L t = some (.bool g)) (ht : g = true → WT P n ops Q T ((t, .bool true) :: L) w) (hf : g = false → WT P n ops Q T ((t, .bool false) :: L) w) : WT P n ops Q T L w := by
  intro a ha
  have key : ∀ b, g = b → Env n ((t, .bool b) :: L) a := fun b hb => ⟨ha.defers, ha.size, fun s v hv => by
    rw [look_cons] at hv
    by_cases hs : s = t
    · subst hs
      rw [if_pos rfl] at hv; cases hv; subst hb; exact ha.at_ _ _ hg
    · rw [if_neg hs] at hv
      exact ha.at_ _ _ hv⟩
  cases hb : g
  · exact hf hb a (key _ hb)
  · exact ht hb a (key _ hb)
theorem t_partp {T : IT} {t : Nat} {p : Prop} {dp : Decidable p} (hg : look L t = some (.bool (@decide p dp))) (ht : p → WT P n ops Q T ((t, .bool true) :: L) w) (hf : ¬ p → WT P n ops Q T ((t, .bool false) :: L) w) : WT P n ops Q T L w :=
  t_part hg (fun h => ht (of_decide_eq_true h)) (fun h => hf (of_decide_eq_false h))
theorem t_m {x : Operand} {v : Value} (hx : ev L x = some v) (k : WT P n ops Q r ((d, v) :: L) w) (hn : Nat.blt d n = true) : WT P n ops Q (.st m ⟨some d, .move x, ty, pos, af, none⟩ r) L w :=
  t_read (fun a ha _ _ _ w' _ => by simp [execOp, ha.ev hx]) k hn
theorem t_a {x : Operand} {v : Value} (hx : ev L x = some v) (k : WT P n ops Q r ((d, v) :: L) w) (hn : Nat.blt d n = true) : WT P n ops Q (.st m ⟨some d, .assign x, ty, pos, af, none⟩ r) L w :=
  t_read (fun a ha _ _ _ w' _ => by simp [execOp, ha.ev hx]) k hn
theorem t_q {c x y : Operand} {v : Value} (hc : ev L c = some (.bool true)) (hx : ev L x = some v) (k : WT P n ops Q r ((d, v) :: L) w) (hn : Nat.blt d n = true) : WT P n ops Q (.st m ⟨some d, .pick c x y, ty, pos, af, none⟩ r) L w :=
  t_read (fun a ha _ _ _ w' _ => by simp [execOp, ha.ev hx, ha.ev hc, asBool]) k hn
theorem t_p {c x y : Operand} {v : Value} (hc : ev L c = some (.bool false)) (hx : ev L y = some v) (k : WT P n ops Q r ((d, v) :: L) w) (hn : Nat.blt d n = true) : WT P n ops Q (.st m ⟨some d, .pick c x y, ty, pos, af, none⟩ r) L w :=
  t_read (fun a ha _ _ _ w' _ => by simp [execOp, ha.ev hx, ha.ev hc, asBool]) k hn
theorem t_extract {x : Operand} {vs : Array Value} {i : Nat} {v : Value} (hx : ev L x = some (.tuple vs)) (hi : vs[i]? = some v) (k : WT P n ops Q r ((d, v) :: L) w) (hn : Nat.blt d n = true) : WT P n ops Q (.st m ⟨some d, .extract x i, ty, pos, af, none⟩ r) L w :=
  t_read (fun a ha _ _ _ w' _ => by simp [execOp, ha.ev hx, Instr.extract, hi]) k hn
theorem wr64 {a : Int} (h : -9223372036854775808 ≤ a ∧ a ≤ 9223372036854775807) : IntKind.i64.wrap a = a := Go.IntWalk.i64_in _ h
theorem t_add {x y : Operand} {t t' : TypeId} {a b : Int} (hx : ev L x = some (I a)) (hy : ev L y = some (I b)) (hr : -9223372036854775808 ≤ a + b ∧ a + b ≤ 9223372036854775807) (k : WT P n ops Q r ((d, I (a + b)) :: L) w) (hn : Nat.blt d n = true) : WT P n ops Q (.st m ⟨some d, .binOp .add t x y t', ty, pos, af, none⟩ r) L w :=
  t_read (fun e ha _ _ _ w' _ => by simp [execOp, ha.ev hx, ha.ev hy, eqGuard, binOp, Op.intArith, wr64 hr]) k hn
theorem t_addw {x y : Operand} {t t' : TypeId} {a b : Int} (hx : ev L x = some (I a)) (hy : ev L y = some (I b)) (k : WT P n ops Q r ((d, I (IntKind.i64.wrap (a + b))) :: L) w) (hn : Nat.blt d n = true) : WT P n ops Q (.st m ⟨some d, .binOp .add t x y t', ty, pos, af, none⟩ r) L w :=
  t_read (fun e ha _ _ _ w' _ => by simp [execOp, ha.ev hx, ha.ev hy, eqGuard, binOp, Op.intArith]) k hn
theorem t_sub {x y : Operand} {t t' : TypeId} {a b : Int} (hx : ev L x = some (I a)) (hy : ev L y = some (I b)) (hr : -9223372036854775808 ≤ a - b ∧ a - b ≤ 9223372036854775807) (k : WT P n ops Q r ((d, I (a - b)) :: L) w) (hn : Nat.blt d n = true) : WT P n ops Q (.st m ⟨some d, .binOp .sub t x y t', ty, pos, af, none⟩ r) L w :=
  t_read (fun e ha _ _ _ w' _ => by simp [execOp, ha.ev hx, ha.ev hy, eqGuard, binOp, Op.intArith, wr64 hr]) k hn
theorem t_mul {x y : Operand} {t t' : TypeId} {a b : Int} (hx : ev L x = some (I a)) (hy : ev L y = some (I b)) (hr : -9223372036854775808 ≤ a * b ∧ a * b ≤ 9223372036854775807) (k : WT P n ops Q r ((d, I (a * b)) :: L) w) (hn : Nat.blt d n = true) : WT P n ops Q (.st m ⟨some d, .binOp .mul t x y t', ty, pos, af, none⟩ r) L w :=
  t_read (fun e ha _ _ _ w' _ => by simp [execOp, ha.ev hx, ha.ev hy, eqGuard, binOp, Op.intArith, wr64 hr]) k hn
theorem t_mulw {x y : Operand} {t t' : TypeId} {a b : Int} (hx : ev L x = some (I a)) (hy : ev L y = some (I b)) (k : WT P n ops Q r ((d, I (IntKind.i64.wrap (a * b))) :: L) w) (hn : Nat.blt d n = true) : WT P n ops Q (.st m ⟨some d, .binOp .mul t x y t', ty, pos, af, none⟩ r) L w :=
  t_read (fun e ha _ _ _ w' _ => by simp [execOp, ha.ev hx, ha.ev hy, eqGuard, binOp, Op.intArith]) k hn
theorem t_lss {x y : Operand} {t t' : TypeId} {kd : IntKind} {a b : Int} (hx : ev L x = some (.int kd a)) (hy : ev L y = some (.int kd b)) (k : WT P n ops Q r ((d, .bool (decide (a < b))) :: L) w) (hn : Nat.blt d n = true) : WT P n ops Q (.st m ⟨some d, .binOp .lss t x y t', ty, pos, af, none⟩ r) L w :=
  t_read (fun e ha _ _ _ w' _ => by simp [execOp, ha.ev hx, ha.ev hy, eqGuard, binOp, Op.intCmp]) k hn
theorem t_leq {x y : Operand} {t t' : TypeId} {kd : IntKind} {a b : Int} (hx : ev L x = some (.int kd a)) (hy : ev L y = some (.int kd b)) (k : WT P n ops Q r ((d, .bool (decide (a ≤ b))) :: L) w) (hn : Nat.blt d n = true) : WT P n ops Q (.st m ⟨some d, .binOp .leq t x y t', ty, pos, af, none⟩ r) L w :=
  t_read (fun e ha _ _ _ w' _ => by simp [execOp, ha.ev hx, ha.ev hy, eqGuard, binOp, Op.intCmp]) k hn
theorem t_gtr {x y : Operand} {t t' : TypeId} {kd : IntKind} {a b : Int} (hx : ev L x = some (.int kd a)) (hy : ev L y = some (.int kd b)) (k : WT P n ops Q r ((d, .bool (decide (b < a))) :: L) w) (hn : Nat.blt d n = true) : WT P n ops Q (.st m ⟨some d, .binOp .gtr t x y t', ty, pos, af, none⟩ r) L w :=
  t_read (fun e ha _ _ _ w' _ => by simp [execOp, ha.ev hx, ha.ev hy, eqGuard, binOp, Op.intCmp]) k hn
theorem t_geq {x y : Operand} {t t' : TypeId} {kd : IntKind} {a b : Int} (hx : ev L x = some (.int kd a)) (hy : ev L y = some (.int kd b)) (k : WT P n ops Q r ((d, .bool (decide (b ≤ a))) :: L) w) (hn : Nat.blt d n = true) : WT P n ops Q (.st m ⟨some d, .binOp .geq t x y t', ty, pos, af, none⟩ r) L w :=
  t_read (fun e ha _ _ _ w' _ => by simp [execOp, ha.ev hx, ha.ev hy, eqGuard, binOp, Op.intCmp]) k hn
theorem t_eql {x y : Operand} {t t' : TypeId} {kd : IntKind} {a b : Int} (hx : ev L x = some (.int kd a)) (hy : ev L y = some (.int kd b)) (k : WT P n ops Q r ((d, .bool (decide (a = b))) :: L) w) (hn : Nat.blt d n = true) : WT P n ops Q (.st m ⟨some d, .binOp .eql t x y t', ty, pos, af, none⟩ r) L w :=
  t_read (fun e ha _ _ _ w' _ => by simp [execOp, ha.ev hx, ha.ev hy, eqGuard, binOp, Op.intCmp]; rfl) k hn
theorem t_neq {x y : Operand} {t t' : TypeId} {kd : IntKind} {a b : Int} (hx : ev L x = some (.int kd a)) (hy : ev L y = some (.int kd b)) (k : WT P n ops Q r ((d, .bool (decide (a ≠ b))) :: L) w) (hn : Nat.blt d n = true) : WT P n ops Q (.st m ⟨some d, .binOp .neq t x y t', ty, pos, af, none⟩ r) L w :=
  t_read (fun e ha _ _ _ w' _ => by simp [execOp, ha.ev hx, ha.ev hy, eqGuard, binOp, Op.intCmp, bne]; rfl) k hn
theorem t_rem {x y : Operand} {t t' : TypeId} {a b : Int} (hx : ev L x = some (I a)) (hy : ev L y = some (I b)) (hr : 0 ≤ a ∧ 0 < b) (k : WT P n ops Q r ((d, I (a % b)) :: L) w) (hn : Nat.blt d n = true) : WT P n ops Q (.st m ⟨some d, .binOp .rem t x y t', ty, pos, af, none⟩ r) L w :=
  t_read (fun e ha _ _ _ w' _ => by
    have hb : b ≠ 0 := by omega
    simp [execOp, ha.ev hx, ha.ev hy, eqGuard, binOp, Op.intDiv, hb, Int.tmod_eq_emod_of_nonneg hr.1]) k hn
theorem t_not {x : Operand} {t : TypeId} {p : Prop} {dp : Decidable p} (hx : ev L x = some (.bool (@decide p dp))) (k : WT P n ops Q r ((d, .bool (decide (¬ p))) :: L) w) (hn : Nat.blt d n = true) : WT P n ops Q (.st m ⟨some d, .unOp .not t x, ty, pos, af, none⟩ r) L w :=
  t_read (fun e ha _ _ _ w' _ => by simp [execOp, ha.ev hx, Op.unary]) k hn
theorem t_notb {x : Operand} {t : TypeId} {b : Bool} (hx : ev L x = some (.bool b)) (k : WT P n ops Q r ((d, .bool (!b)) :: L) w) (hn : Nat.blt d n = true) : WT P n ops Q (.st m ⟨some d, .unOp .not t x, ty, pos, af, none⟩ r) L w :=
  t_read (fun e ha _ _ _ w' _ => by simp [execOp, ha.ev hx, Op.unary]) k hn
def Md.isTake : Md → Bool
  | .take => true
  | _ => false
theorem exec_call {a : Act} {f : FuncId} {xs : List Operand} {at_ : Array TypeId} {dst : Option Nat} {gd : Option (Nat × Bool)} : execOp a.eval ⟨dst, .call ⟨.value (.func f), xs.toArray, at_⟩, ty, pos, af, gd⟩ = callFunc f (xs.map a.eval).toArray := by
  show callFunc f (#[] ++ xs.toArray.map a.eval ++ #[]) = _
  simp
/-- A call of a function that makes new memory alone. -/
theorem t_c {f : FuncId} {xs : List Operand} {at_ : Array TypeId} {vs : List Value} {R : Ending → World → Prop} (hcall : ∀ as_ w, (callFunc f as_).run P w = .ok (.enter f as_) w) (hv : evs L xs = some vs) (hc : Calls P f vs.toArray w R)
    (k : ∀ e w', R e w' → ∃ v, e = .returned v ∧ Ext w w' ∧ WT P n ops Q r ((d, v) :: L) w') (hm : m.isTake = false) (hn : Nat.blt d n = true) : WT P n ops Q (.st m ⟨some d, .call ⟨.value (.func f), xs.toArray, at_⟩, ty, pos, af, none⟩ r) L w := by
  intro a ha; cases m with
  | take => cases hm
  | run =>
    simp only [wpT, Region.wanted, if_true]
    unfold Oper.wp
    rw [exec_call, ha.evs hv, hcall]
    refine hc.mono fun e w' he => ?_
    obtain ⟨v, rfl, hx, hk⟩ := k e w' he; exact ⟨hx, hk _ (ha.put hn v)⟩
  | fin =>
    simp only [wpT, Region.wanted, if_true]
    unfold Oper.wp
    rw [exec_call, ha.evs hv, hcall]
    refine hc.mono fun e w' he => ?_
    obtain ⟨v, rfl, hx, hk⟩ := k e w' he; exact hk _ (ha.put hn v)
/-- A call of a function that writes. -/
theorem t_f {f : FuncId} {xs : List Operand} {at_ : Array TypeId} {vs : List Value} {R : Ending → World → Prop} (hcall : ∀ as_ w, (callFunc f as_).run P w = .ok (.enter f as_) w) (hv : evs L xs = some vs) (hc : Calls P f vs.toArray w R)
    (k : ∀ e w', R e w' → ∃ v, e = .returned v ∧ WT P n ops Q r ((d, v) :: L) w') (hn : Nat.blt d n = true) : WT P n ops Q (.st .fin ⟨some d, .call ⟨.value (.func f), xs.toArray, at_⟩, ty, pos, af, none⟩ r) L w := by
  intro a ha
  simp only [wpT, Region.wanted, if_true]
  unfold Oper.wp
  rw [exec_call, ha.evs hv, hcall]
  refine hc.mono fun e w' he => ?_
  obtain ⟨v, rfl, hk⟩ := k e w' he; exact hk _ (ha.put hn v)
/-- A call of a function that leaves the world as_ it is. -/
theorem t_calls {f : FuncId} {xs : List Operand} {at_ : Array TypeId} {vs : List Value} {v : Value} (hcall : ∀ as_ w, (callFunc f as_).run P w = .ok (.enter f as_) w) (hv : evs L xs = some vs) (hc : Calls P f vs.toArray w fun e w' => e = .returned v ∧ w = w')
    (k : WT P n ops Q r ((d, v) :: L) w) (hm : m.isTake = false) (hn : Nat.blt d n = true) : WT P n ops Q (.st m ⟨some d, .call ⟨.value (.func f), xs.toArray, at_⟩, ty, pos, af, none⟩ r) L w :=
  t_c hcall hv hc (fun e w' ⟨he, hw⟩ => ⟨v, he, hw ▸ Below.refl _ _, hw ▸ k⟩) hm hn
/-- A call that hands back a known value and makes new memory. -/
theorem t_x {f : FuncId} {xs : List Operand} {at_ : Array TypeId} {vs : List Value} {v : Value} (hcall : ∀ as_ w, (callFunc f as_).run P w = .ok (.enter f as_) w) (hv : evs L xs = some vs) (hc : Calls P f vs.toArray w fun e w' => e = .returned v ∧ Below w.heap.size w w')
    (k : ∀ w', Ext w w' → WT P n ops Q r ((d, v) :: L) w') (hm : m.isTake = false) (hn : Nat.blt d n = true) : WT P n ops Q (.st m ⟨some d, .call ⟨.value (.func f), xs.toArray, at_⟩, ty, pos, af, none⟩ r) L w :=
  t_c hcall hv hc (fun e w' ⟨he, hw⟩ => ⟨v, he, hw, k w' hw⟩) hm hn
def frm : Nat → List Value → Frm
  | _, [] => []
  | i, v :: vs => (i, v) :: frm (i + 1) vs
theorem look_frm (vs : List Value) : ∀ i t v, look (frm i vs) t = some v → i ≤ t ∧ vs[t - i]? = some v := by
  induction vs with
  | nil => intro i t v h; cases h
  | cons u vs ih =>
    intro i t v h; rw [frm, look_cons] at h
    by_cases ht : t = i
    · subst ht
      rw [if_pos rfl] at h; exact ⟨Nat.le_refl _, by simpa using h⟩
    · rw [if_neg ht] at h
      obtain ⟨h1, h2⟩ := ih (i + 1) t v h; refine ⟨by omega, ?_⟩; rw [show t - i = (t - (i + 1)) + 1 by omega, List.getElem?_cons_succ]; exact h2
theorem enter {f : FuncId} {fn : Func} {c : Code} {args : List Value} {R : Ending → World → Prop} (hf : P.funcs[f]? = some fn) (hb : fn.body = some c) (hn : fn.ntmps = n) (ha : Nat.ble args.length n = true) (h : W P n (bodyPost P fn R) c (frm 0 args) w) : Calls P f args.toArray w R := by
  have hl : args.length ≤ n := by simpa using ha
  refine calls_of_wp hf hb (h _ ⟨rfl, by simp [hn]; omega, fun t v hv => ?_⟩); obtain ⟨_, h2⟩ := look_frm args 0 t v hv
  have hlt : t < args.length := by
    have := (List.getElem?_eq_some_iff.1 h2).1
    omega
  show (args.toArray ++ _)[t]? = _
  rw [Array.getElem?_append_left (by simpa using hlt)]
  simpa using h2
theorem x_ret1 {fn : Func} {R : Ending → World → Prop} {t : Nat} {v : Value} (hr : fn.results = #[.tmp t]) (hv : look L t = some v) (h : R (.returned v) w) : WX n (bodyPost P fn R) .ret L w := by
  intro a ha; have := ha.at_ _ _ hv; exact bodyPost_ret (by simp [results, hr, this]) ha.defers h
theorem x_ret2 {fn : Func} {R : Ending → World → Prop} {t u : Nat} {v x : Value} (hr : fn.results = #[.tmp t, .tmp u]) (hv : look L t = some v) (hx : look L u = some x) (h : R (.returned (.tuple #[v, x])) w) : WX n (bodyPost P fn R) .ret L w := by
  intro a ha; have h1 := ha.at_ _ _ hv; have h2 := ha.at_ _ _ hx; exact bodyPost_ret (by simp [results, hr, h1, h2]) ha.defers h
theorem x_end1 {fn : Func} {R : Ending → World → Prop} (h : WX n (bodyPost P fn R) .ret L w) : WX n (bodyPost P fn R) .normal L w := h
end
/-- The pointer p leads to cells that read as_ x. -/
def Ptr {α : Type} (T : Ty α) (w : World) (p : Value) (x : α) : Prop :=
  ∃ g o cs, p = .pointer (some ⟨g, o, none⟩) ∧ T.R w cs x ∧ ∀ j u, cs[j]? = some u → w.cell? ⟨g, o + j, none⟩ = some u
/-- The value of a struct reads as_ x. -/
def VA {α : Type} (T : Ty α) (w : World) (v : Value) (x : α) : Prop := ∃ cs : List Value, v = .agg cs.toArray ∧ T.R w cs x
theorem Ptr.below {α : Type} {T : Ty α} {w w' : World} {p : Value} {x : α} (h : Ptr T w p x) (hb : Below w.heap.size w w') : Ptr T w' p x := by
  obtain ⟨g, o, cs, h1, h2, h3⟩ := h; exact ⟨g, o, cs, h1, T.keep _ _ _ _ h2 hb, fun j u hu => ck hb (h3 j u hu)⟩
theorem VA.below {α : Type} {T : Ty α} {w w' : World} {v : Value} {x : α} (h : VA T w v x) (hb : Below w.heap.size w w') : VA T w' v x := by
  obtain ⟨cs, h1, h2⟩ := h; exact ⟨cs, h1, T.keep _ _ _ _ h2 hb⟩
/-- A part of a kind of data: the cells from off on. -/
def Lens {α β : Type} (T : Ty α) (U : Ty β) (off : Nat) (f : α → β) : Prop :=
  ∀ w cs x, T.R w cs x → ∃ cs', U.R w cs' (f x) ∧ ∀ j u, cs'[j]? = some u → cs[off + j]? = some u
theorem Ptr.lens {α β : Type} {T : Ty α} {U : Ty β} {off : Nat} {f : α → β} (ln : Lens T U off f) {w : World} {g o : Nat} {x : α} (h : Ptr T w (.pointer (some ⟨g, o, none⟩)) x) : Ptr U w (.pointer (some ⟨g, o + off, none⟩)) (f x) := by
  obtain ⟨g', o', cs, h1, h2, h3⟩ := h; cases h1; obtain ⟨cs', h4, h5⟩ := ln _ _ _ h2; exact ⟨g, _, cs', rfl, h4, fun j u hu => by rw [Nat.add_assoc]; exact h3 _ _ (h5 j u hu)⟩
/-- Whether a type's values are structs or arrays; a type's size; a field's place. -/
def aggB (P : Program) (t : TypeId) : Option Bool := (P.underlying t).map fun
  | .struct _ | .array _ _ => true
  | _ => false
def sizeB (P : Program) (t : TypeId) : Option Nat := (P.info? t).map (·.size)
def fieldB (P : Program) (s i : Nat) : Option Nat := match P.underlying s with
  | some (.struct fs) => match fs[i]? with
    | some f => match P.info? f.type with
      | some j => if j.size = 0 then none else some f.offset
      | none => none
    | none => none
  | _ => none
theorem run_isAgg {P : Program} {t : TypeId} {b : Bool} (h : aggB P t = some b) (w : World) : (isAgg t).run P w = .ok b w := by
  unfold aggB at h
  cases hu : P.underlying t with
  | none => rw [hu] at h; cases h
  | some u =>
    rw [hu] at h
    unfold isAgg underlying
    cases u <;> (simp at h; subst h; simp [program, Sem.run, hu])
theorem run_sizeOf {P : Program} {t : TypeId} {k : Nat} (h : sizeB P t = some k) (w : World) : (sizeOf t).run P w = .ok k w := by
  unfold sizeB at h
  cases hu : P.info? t with
  | none => rw [hu] at h; cases h
  | some u =>
    rw [hu] at h
    simp at h
    simp [sizeOf, typeInfo, program, Sem.run, hu, h]
theorem run_loadCells {P : Program} {w : World} {g o : Nat} {cs : List Value} (h : ∀ j u, cs[j]? = some u → w.cell? ⟨g, o + j, none⟩ = some u) : (loadCells ⟨g, o, none⟩ cs.length).run P w = .ok cs.toArray w := by
  have key : ∀ (t : List Value) (i : Nat) (acc : Array Value), (∀ j u, t[j]? = some u → w.cell? ⟨g, o + (i + j), none⟩ = some u) → (loadCellsFrom ⟨g, o, none⟩ i t.length acc).run P w = .ok (acc ++ t.toArray) w := by
    intro t
    induction t with
    | nil => intro i acc _; simp [loadCellsFrom]
    | cons c t ih =>
      intro i acc ht
      have h0 : w.cell? ⟨g, o + i, none⟩ = some c := by simpa using ht 0 c rfl
      have ha : (⟨g, o, none⟩ : Addr).add i = ⟨g, o + i, none⟩ := Addr.add_lit _ _ _
      simp only [List.length_cons, loadCellsFrom, Sem.run_bind, load, ha]
      simp only [Sem.run, h0, Result.andThen_ok]
      rw [ih (i + 1) (acc.push c) (fun j u hu => by have := ht (j + 1) u hu; rwa [show i + (j + 1) = i + 1 + j by omega] at this)]
      simp
  have := key cs 0 #[] (fun j u hu => by simpa using h j u hu)
  simpa [loadCells] using this
section
variable {P : Program} {n : Nat} {ops : Array Oper} {Q : Exit → Act → World → Prop} {L : Frm} {w w0 : World} {m : Md} {r : IT} {d : Nat} {ty : TypeId} {pos : String} {af : Array Edge}
theorem t_len {α : Type} {T : Ty α} {x : Operand} {t e : TypeId} {ar : Array TypeId} {size bytes : Nat} {v : Value} {l : List α} (et : ElemT P t e size bytes) (h : SlR T w0 v l) (hx : ev L x = some v) (har : ar = #[t]) (k : WT P n ops Q r ((d, I (l.length : Int)) :: L) w) (hn : Nat.blt d n = true) :
    WT P n ops Q (.st m ⟨some d, .call ⟨.builtin .len, #[x], ar⟩, ty, pos, af, none⟩ r) L w := by
  obtain ⟨A, c, rfl, _⟩ := h.form; subst har; exact t_read (fun a ha _ _ _ w' _ => by simp [execOp, resolve, invoke, builtin, ha.ev hx, Builtin.len_, run_underlying et.und, goInt]) k hn
theorem t_idx {α : Type} {T : Ty α} {t e : TypeId} {bytes : Nat} (et : ElemT P t e T.size bytes) {v : Value} {l : List α} {k : Nat} {x : α} {i : Int} {xo io : Operand} (h : SlR T w0 v l) (hk : l[k]? = some x) (B : Ext w0 w) (hx : ev L xo = some v) (hi : ev L io = some (I i)) (hik : i = ((k : Nat) : Int))
    (kk : ∀ p, Ptr T w0 p x → WT P n ops Q r ((d, p) :: L) w) (hn : Nat.blt d n = true) : WT P n ops Q (.st m ⟨some d, .indexAddr t xo io, ty, pos, af, none⟩ r) L w := by
  have hlt : k < l.length := (List.getElem?_eq_some_iff.1 hk).1; obtain ⟨g, o, c, cs, rfl, h1, h2, h3, h4⟩ := SlR.at_ h hlt
  have hxk : l[k] = x := by rw [List.getElem?_eq_getElem hlt] at hk; exact Option.some.inj hk
  rw [hxk] at h3; obtain ⟨inf, z, hinf, _, hsz, _, _⟩ := et.info; refine t_read (fun a ha _ _ _ w' _ => ?_) (kk (.pointer (some ⟨g, o + k * T.size, none⟩)) ⟨g, _, cs, rfl, h3, h4⟩) hn; subst hik
  have hc : (0 : Int) ≤ (k : Int) ∧ (k : Int) < (l.length : Int) := by omega
  simp [execOp, ha.ev hx, ha.ev hi, Instr.indexAt, asIntOf, run_underlying et.und, hc, sizeOf, typeInfo, hinf, hsz, Addr.add_lit, hlt]
theorem t_fld {α β : Type} {T : Ty α} {U : Ty β} {off : Nat} {f : α → β} {s i : Nat} {p : Value} {x : α} {xo : Operand} (ln : Lens T U off f) (h : Ptr T w0 p x) (hf : fieldB P s i = some off) (hx : ev L xo = some p)
    (kk : ∀ p', Ptr U w0 p' (f x) → WT P n ops Q r ((d, p') :: L) w) (hn : Nat.blt d n = true) : WT P n ops Q (.st m ⟨some d, .fieldAddr s xo i, ty, pos, af, none⟩ r) L w := by
  obtain ⟨g, o, cs, rfl, h1⟩ := id h; refine t_read (fun a ha _ _ _ w' _ => ?_) (kk _ (Ptr.lens ln h)) hn
  unfold fieldB at hf
  split at hf
  · rename_i fs hu
    split at hf
    · rename_i fd hfd
      split at hf
      · rename_i inf hinf
        split at hf
        · cases hf
        · rename_i hne
          cases hf
          simp [execOp, ha.ev hx, Instr.fieldAt, run_underlying hu, hfd, Instr.sureAddr, fieldPlace, sizeOf, typeInfo, hinf, hne, Addr.add_lit]
      · cases hf
    · cases hf
  · cases hf
/-- The same at an address that is known. -/
theorem t_y {g o o' off : Nat} {s i : Nat} {xo : Operand} (hf : fieldB P s i = some off) (hx : ev L xo = some (.pointer (some ⟨g, o, none⟩))) (ho : o + off = o')
    (kk : WT P n ops Q r ((d, .pointer (some ⟨g, o', none⟩)) :: L) w) (hn : Nat.blt d n = true) : WT P n ops Q (.st m ⟨some d, .fieldAddr s xo i, ty, pos, af, none⟩ r) L w := by
  subst ho; refine t_read (fun a ha _ _ _ w' _ => ?_) kk hn
  unfold fieldB at hf
  split at hf
  · rename_i fs hu
    split at hf
    · rename_i fd hfd
      split at hf
      · rename_i inf hinf
        split at hf
        · cases hf
        · rename_i hne
          cases hf
          simp [execOp, ha.ev hx, Instr.fieldAt, run_underlying hu, hfd, Instr.sureAddr, fieldPlace, sizeOf, typeInfo, hinf, hne, Addr.add_lit]
      · cases hf
    · cases hf
  · cases hf
/-- A load of one cell. -/
theorem t_ld1 {t : TypeId} {g o : Nat} {xo : Operand} {u : Value} (ha : aggB P t = some false) (hc : w0.cell? ⟨g, o, none⟩ = some u) (B : Ext w0 w) (hx : ev L xo = some (.pointer (some ⟨g, o, none⟩))) (k : WT P n ops Q r ((d, u) :: L) w) (hn : Nat.blt d n = true) : WT P n ops Q (.st m ⟨some d, .load t xo, ty, pos, af, none⟩ r) L w :=
  t_read (fun a hE _ _ _ w' hw' => by
    have hc' := ck (ext_trans B hw') hc
    simp [execOp, hE.ev hx, Instr.loadAt, Instr.sureAddr, loadVar, run_isAgg ha, load, Sem.run, hc']) k hn
/-- A load of a struct's cells. -/
theorem t_ldn {t : TypeId} {g o : Nat} {xo : Operand} {cs : List Value} (ha : aggB P t = some true) (hs : sizeB P t = some cs.length) (hc : ∀ j u, cs[j]? = some u → w0.cell? ⟨g, o + j, none⟩ = some u) (B : Ext w0 w) (hx : ev L xo = some (.pointer (some ⟨g, o, none⟩))) (k : WT P n ops Q r ((d, .agg cs.toArray) :: L) w) (hn : Nat.blt d n = true) : WT P n ops Q (.st m ⟨some d, .load t xo, ty, pos, af, none⟩ r) L w :=
  t_read (fun a hE _ _ _ w' hw' => by
    have hc' := run_loadCells (P := P) (fun j u hu => ck (ext_trans B hw') (hc j u hu))
    simp [execOp, hE.ev hx, Instr.loadAt, Instr.sureAddr, loadVar, run_isAgg ha, run_sizeOf hs, hc']) k hn
theorem t_ldi {t : TypeId} {xo : Operand} {p : Value} {a : Int} (h : Ptr intT w0 p a) (ha : aggB P t = some false) (B : Ext w0 w) (hx : ev L xo = some p) (k : WT P n ops Q r ((d, I a) :: L) w) (hn : Nat.blt d n = true) : WT P n ops Q (.st m ⟨some d, .load t xo, ty, pos, af, none⟩ r) L w := by
  obtain ⟨g, o, cs, rfl, h2, h3⟩ := h; have h2' : cs = [I a] := h2; subst h2'; exact t_ld1 ha (by simpa using h3 0 _ rfl) B hx k hn
theorem t_ldu {t : TypeId} {xo : Operand} {p : Value} {a : UInt8} (h : Ptr byteT w0 p a) (ha : aggB P t = some false) (B : Ext w0 w) (hx : ev L xo = some p) (k : WT P n ops Q r ((d, .int .u8 (a.toNat : Int)) :: L) w) (hn : Nat.blt d n = true) : WT P n ops Q (.st m ⟨some d, .load t xo, ty, pos, af, none⟩ r) L w := by
  obtain ⟨g, o, cs, rfl, h2, h3⟩ := h; have h2' : cs = [.int .u8 (a.toNat : Int)] := h2; subst h2'; exact t_ld1 ha (by simpa using h3 0 _ rfl) B hx k hn
def boolT : Ty Bool := flatT 1 (fun b => [.bool b]) (by omega) (fun _ => rfl) (fun _ u hu => by simp at hu; rw [hu]; rfl)
theorem t_ldb {t : TypeId} {xo : Operand} {p : Value} {a : Bool} (h : Ptr boolT w0 p a) (ha : aggB P t = some false) (B : Ext w0 w) (hx : ev L xo = some p) (k : WT P n ops Q r ((d, .bool a) :: L) w) (hn : Nat.blt d n = true) : WT P n ops Q (.st m ⟨some d, .load t xo, ty, pos, af, none⟩ r) L w := by
  obtain ⟨g, o, cs, rfl, h2, h3⟩ := h; have h2' : cs = [.bool a] := h2; subst h2'; exact t_ld1 ha (by simpa using h3 0 _ rfl) B hx k hn
theorem t_lds {α : Type} {T : Ty α} {e : TypeId} {t : TypeId} {xo : Operand} {p : Value} {l : List α} (h : Ptr (slT T e) w0 p l) (ha : aggB P t = some false) (B : Ext w0 w) (hx : ev L xo = some p) (k : ∀ v, SlR T w0 v l → WT P n ops Q r ((d, v) :: L) w) (hn : Nat.blt d n = true) : WT P n ops Q (.st m ⟨some d, .load t xo, ty, pos, af, none⟩ r) L w := by
  obtain ⟨g, o, cs, rfl, ⟨v, rfl, hv⟩, h3⟩ := h; exact t_ld1 ha (by simpa using h3 0 _ rfl) B hx (k v hv) hn
theorem t_lda {α : Type} {T : Ty α} {t : TypeId} {xo : Operand} {p : Value} {x : α} (h : Ptr T w0 p x) (ha : aggB P t = some true) (hs : sizeB P t = some T.size) (B : Ext w0 w) (hx : ev L xo = some p) (k : ∀ v, VA T w0 v x → WT P n ops Q r ((d, v) :: L) w) (hn : Nat.blt d n = true) : WT P n ops Q (.st m ⟨some d, .load t xo, ty, pos, af, none⟩ r) L w := by
  obtain ⟨g, o, cs, rfl, h2, h3⟩ := h; exact t_ldn ha (by rw [T.len _ _ _ h2]; exact hs) h3 B hx (k _ ⟨cs, rfl, h2⟩) hn
/-- A field of a struct's value. -/
theorem t_slt {α : Type} {T : Ty α} {t e : TypeId} {bytes : Nat} (et : ElemT P t e T.size bytes) {v : Value} {l : List α} {xo hi : Operand} {k : Nat} {i : Int} (h : SlR T w0 v l) (hx : ev L xo = some v) (hi' : ev L hi = some (I i)) (hik : i = ((k : Nat) : Int)) (hk : k ≤ l.length)
    (kk : ∀ v', SlR T w0 v' (l.take k) → WT P n ops Q r ((d, v') :: L) w) (hn : Nat.blt d n = true) : WT P n ops Q (.st m ⟨some d, .slice t xo none (some hi) none, ty, pos, af, none⟩ r) L w := by
  obtain ⟨A, c, css, rfl, h1, h2, h3, h4⟩ := h; obtain ⟨inf, z, hinf, _, hsz, _, _⟩ := et.info
  have hall : ∀ (i : Nat) cs, css[i]? = some cs → cs.length = T.size := fun i cs hi => by
    have hlt : i < l.length := by rw [← h2]; exact (List.getElem?_eq_some_iff.1 hi).1
    exact T.len _ _ _ (h4 i cs _ hi (List.getElem?_eq_getElem hlt))
  subst hik
  have hlen : (l.take k).length = k := by rw [List.length_take]; omega
  refine t_read (v := .slice A k c) (fun a ha _ _ _ w' _ => ?_) (kk _ ⟨A, c, css.take k, by rw [hlen], by omega, by rw [hlen, List.length_take]; omega, fun hp => ?_, fun i cs x hi hx => ?_⟩) hn
  · have hc : (0 : Int) ≤ (k : Int) ∧ (k : Int) ≤ (c : Int) := by omega
    have hkc : k ≤ c := by omega
    cases A <;> simp [execOp, ha.ev hx, ha.ev hi', Instr.sliceAt, Instr.slice, Instr.sliceBounds, Instr.sliceBound, asIntOf, run_underlying et.und, hkc, sizeOf, typeInfo, hinf, Addr.add]
  · rw [flatten_take hall] at hp ⊢
    have hp' : 0 < css.flatten.length := by rw [List.length_take] at hp; omega
    obtain ⟨g, o, rfl, hg⟩ := h3 hp'; refine ⟨g, o, rfl, fun j u hu => hg j u ?_⟩; rw [List.getElem?_take] at hu
    split at hu
    · exact hu
    · cases hu
  · rw [List.getElem?_take] at hi hx
    split at hi
    · rename_i hik
      rw [if_pos hik] at hx; exact h4 i cs x hi hx
    · cases hi
theorem flatten_drop {css : List (List Value)} {size : Nat} (h : ∀ (i : Nat) cs, css[i]? = some cs → cs.length = size) (m : Nat) : (css.drop m).flatten = css.flatten.drop (m * size) := by
  induction css generalizing m with
  | nil => simp
  | cons a t ih =>
    have ha := h 0 a rfl; cases m with
    | zero => simp
    | succ m =>
      have hs : (m + 1) * size = a.length + m * size := by rw [ha, Nat.add_mul, Nat.one_mul]; omega
      rw [List.drop_succ_cons, List.flatten_cons, ih (fun i cs hi => h (i + 1) cs hi), hs, ← List.drop_drop, List.drop_left]
theorem SlR.drop {α : Type} {T : Ty α} {w : World} {A : Option Addr} {c k n' : Nat} {l : List α} (h : SlR T w (.slice A n' c) l) (hk : k ≤ l.length) : SlR T w (.slice (if c = k then A else A.map (·.add (k * T.size))) (l.length - k) (c - k)) (l.drop k) := by
  obtain ⟨A', c', css, e, h1, h2, h3, h4⟩ := h; cases e
  have hall : ∀ (i : Nat) cs, css[i]? = some cs → cs.length = T.size := fun i cs hi => by
    have hlt : i < l.length := by rw [← h2]; exact (List.getElem?_eq_some_iff.1 hi).1
    exact T.len _ _ _ (h4 i cs _ hi (List.getElem?_eq_getElem hlt))
  refine ⟨_, _, css.drop k, by rw [List.length_drop], by rw [List.length_drop]; omega, by rw [List.length_drop, List.length_drop, h2], fun hp => ?_, fun i cs x hi hx => ?_⟩
  · rw [flatten_drop hall] at hp ⊢
    rw [List.length_drop] at hp; obtain ⟨g, o, rfl, hg⟩ := h3 (by omega)
    have hne : ¬ c = k := by
      intro hck; have : css.flatten.length = css.length * T.size := flatten_len hall
      have h9 : css.length = k := by omega
      rw [this, h9] at hp
      omega
    rw [if_neg hne]; refine ⟨g, o + k * T.size, by simp [Addr.add_lit], fun j u hu => ?_⟩; rw [Nat.add_assoc]; exact hg _ u (by rw [List.getElem?_drop] at hu; exact hu)
  · rw [List.getElem?_drop] at hi hx
    exact h4 _ _ _ hi hx
theorem t_sld {α : Type} {T : Ty α} {t e : TypeId} {bytes : Nat} (et : ElemT P t e T.size bytes) {v : Value} {l : List α} {xo lo : Operand} {k : Nat} {i : Int} (h : SlR T w0 v l) (hx : ev L xo = some v) (hi' : ev L lo = some (I i)) (hik : i = ((k : Nat) : Int)) (hk : k ≤ l.length)
    (kk : ∀ v', SlR T w0 v' (l.drop k) → WT P n ops Q r ((d, v') :: L) w) (hn : Nat.blt d n = true) : WT P n ops Q (.st m ⟨some d, .slice t xo (some lo) none none, ty, pos, af, none⟩ r) L w := by
  obtain ⟨A, c, rfl, h1⟩ := h.form; obtain ⟨inf, z, hinf, _, hsz, _, _⟩ := et.info; subst hik; refine t_read (fun a ha _ _ _ w' _ => ?_) (kk _ (h.drop hk)) hn
  have hc : (0 : Int) ≤ (k : Int) ∧ (k : Int) ≤ (l.length : Int) := by omega
  simp [execOp, ha.ev hx, ha.ev hi', Instr.sliceAt, Instr.slice, Instr.sliceBounds, Instr.sliceBound, asIntOf, run_underlying et.und, hk, sizeOf, typeInfo, hinf, hsz]
end
/-- A thing that is owned: in the blocks fp, all from b on. -/
structure Ow where
  P : Nat → World → List Nat → Prop
  lt : ∀ {b w fp}, P b w fp → ∀ x ∈ fp, b ≤ x ∧ x < w.heap.size
  keep : ∀ {b w w' fp}, P b w fp → (∀ x ∈ fp, w'.heap[x]? = w.heap[x]?) → P b w' fp
  mono : ∀ {b b' w fp}, b' ≤ b → P b w fp → P b' w fp
def tyO {α : Type} (T : Ty α) (cs : List Value) (a : α) : Ow := ⟨fun b w fp => T.O b w cs a fp, fun h => T.lt _ _ _ _ _ h, fun h k => T.okeep _ _ _ _ _ _ h k, fun hb h => T.mono _ _ _ _ _ _ hb h⟩
def slO {α : Type} (T : Ty α) (e : TypeId) (v : Value) (l : List α) : Ow := ⟨fun b w fp => SlO T e b w v l fp, fun h => h.size_ok, fun h k => h.keep k, fun hb h => h.mono hb⟩
def bxO (g : Nat) (t : TypeId) (C : Array Value) : Ow := ⟨fun b w fp => fp = [g] ∧ b ≤ g ∧ w.heap[g]? = some (.cells C t (0, 0)),
  fun ⟨h1, h2, h3⟩ x hx => by
    subst h1
    simp at hx
    subst hx
    exact ⟨h2, (Array.getElem?_eq_some_iff.1 h3).1⟩,
  fun ⟨h1, h2, h3⟩ k => ⟨h1, h2, by rw [k _ (by rw [h1]; simp)]; exact h3⟩, fun hb ⟨h1, h2, h3⟩ => ⟨h1, by omega, h3⟩⟩
def SepF (b : Nat) (w : World) : List Ow → List Nat → Prop
  | [], fp => fp = []
  | o :: os, fp => ∃ f g, fp = f ++ g ∧ o.P b w f ∧ SepF b w os g ∧ ∀ x ∈ f, x ∉ g
/-- All these are owned, from b on, and none shares a block with another. -/
def Sep (b : Nat) (w : World) (os : List Ow) : Prop := b ≤ w.heap.size ∧ ∃ fp, SepF b w os fp
theorem SepF.lt {b : Nat} {w : World} {os : List Ow} {fp : List Nat} (h : SepF b w os fp) : ∀ x ∈ fp, b ≤ x ∧ x < w.heap.size := by
  induction os generalizing fp with
  | nil => intro x hx; rw [show fp = [] from h] at hx; cases hx
  | cons o os ih =>
    obtain ⟨f, g, rfl, h1, h2, _⟩ := h; intro x hx
    rcases List.mem_append.1 hx with hx | hx
    · exact o.lt h1 x hx
    · exact ih h2 x hx
theorem SepF.keep {b : Nat} {w w' : World} {os : List Ow} {fp : List Nat} (h : SepF b w os fp) (hk : ∀ x ∈ fp, w'.heap[x]? = w.heap[x]?) : SepF b w' os fp := by
  induction os generalizing fp with
  | nil => exact h
  | cons o os ih =>
    obtain ⟨f, g, rfl, h1, h2, h3⟩ := h; exact ⟨f, g, rfl, o.keep h1 fun x hx => hk x (List.mem_append.2 (.inl hx)), ih h2 fun x hx => hk x (List.mem_append.2 (.inr hx)), h3⟩
theorem SepF.mono {b b' : Nat} {w : World} {os : List Ow} {fp : List Nat} (hb : b' ≤ b) (h : SepF b w os fp) : SepF b' w os fp := by
  induction os generalizing fp with
  | nil => exact h
  | cons o os ih =>
    obtain ⟨f, g, rfl, h1, h2, h3⟩ := h; exact ⟨f, g, rfl, o.mono hb h1, ih h2, h3⟩
section
variable {b : Nat} {w w' : World} {o o1 o2 o3 o4 : Ow} {os : List Ow}
theorem Sep.nil (w : World) : Sep w.heap.size w [] := ⟨Nat.le_refl _, [], rfl⟩
theorem Sep.base (h : Sep b w os) : b ≤ w.heap.size := h.1
theorem Sep.mono {b' : Nat} (h : Sep b w os) (hb : b' ≤ b) : Sep b' w os := by
  obtain ⟨h1, fp, h2⟩ := h; exact ⟨by omega, fp, h2.mono hb⟩
theorem Sep.below (h : Sep b w os) (x : Ext w w') : Sep b w' os := by
  obtain ⟨h1, fp, h2⟩ := h; exact ⟨Nat.le_trans h1 x.size, fp, h2.keep fun y hy => x.block y (h2.lt y hy).2⟩
theorem Sep.f1 (h : Sep b w (o1 :: o2 :: os)) : Sep b w (o2 :: o1 :: os) := by
  obtain ⟨h1, fp, f, g, rfl, h2, ⟨f', g', rfl, h3, h4, h5⟩, h6⟩ := h; refine ⟨h1, f' ++ (f ++ g'), f', f ++ g', rfl, h3, ⟨f, g', rfl, h2, h4, fun x hx hy => h6 x hx (List.mem_append.2 (.inr hy))⟩, fun x hx hy => ?_⟩
  rcases List.mem_append.1 hy with hy | hy
  · exact h6 x hy (List.mem_append.2 (.inl hx))
  · exact h5 x hx hy
theorem Sep.tail (h : Sep b w (o :: os)) : Sep b w os := by
  obtain ⟨h1, fp, f, g, rfl, h2, h3, h6⟩ := h; exact ⟨h1, g, h3⟩
theorem Sep.t4 {o1 o2 o3 o4 : Ow} (h : Sep b w (o1 :: o2 :: o3 :: o4 :: os)) : Sep b w os := h.tail.tail.tail.tail
theorem Sep.f2 (h : Sep b w (o1 :: o2 :: o3 :: os)) : Sep b w (o3 :: o1 :: o2 :: os) := by
  obtain ⟨h1, fp, f, g, rfl, h2, h3, h6⟩ := h; obtain ⟨_, fp', h7⟩ := Sep.f1 (⟨h1, g, h3⟩ : Sep b w (o2 :: o3 :: os))
  have hg : ∃ f3 g3, SepF b w (o3 :: o2 :: os) (f3 ++ g3) ∧ o3.P b w f3 ∧ SepF b w (o2 :: os) g3 ∧ (∀ x ∈ f3, x ∉ g3) ∧ ∀ x, x ∈ f3 ++ g3 → x ∈ g := by
    obtain ⟨f2, g2, rfl, k1, ⟨f3, g3, rfl, k2, k3, k4⟩, k5⟩ := h3; refine ⟨f3, f2 ++ g3, ⟨f3, f2 ++ g3, rfl, k2, ⟨f2, g3, rfl, k1, k3, fun x hx hy => k5 x hx (List.mem_append.2 (.inr hy))⟩, ?_⟩, k2, ⟨f2, g3, rfl, k1, k3, fun x hx hy => k5 x hx (List.mem_append.2 (.inr hy))⟩, ?_, ?_⟩
    · intro x hx hy
      rcases List.mem_append.1 hy with hy | hy
      · exact k5 x hy (List.mem_append.2 (.inl hx))
      · exact k4 x hx hy
    · intro x hx hy
      rcases List.mem_append.1 hy with hy | hy
      · exact k5 x hy (List.mem_append.2 (.inl hx))
      · exact k4 x hx hy
    · intro x hx
      simp only [List.mem_append] at hx ⊢
      rcases hx with hx | hx | hx
      · exact .inr (.inl hx)
      · exact .inl hx
      · exact .inr (.inr hx)
  obtain ⟨f3, g3, k0, k1, k2, k3, k4⟩ := hg; refine Sep.f1 ⟨h1, f ++ (f3 ++ g3), f, f3 ++ g3, rfl, h2, k0, fun x hx hy => h6 x hx (k4 x hy)⟩
theorem Sep.f3 (h : Sep b w (o1 :: o2 :: o3 :: o4 :: os)) : Sep b w (o4 :: o1 :: o2 :: o3 :: os) := by
  obtain ⟨h1, fp, f, g, rfl, h2, ⟨f2, g2, rfl, k1, ⟨f3, g3, rfl, k2, ⟨f4, g4, rfl, k3, k4, k5⟩, k6⟩, k7⟩, h6⟩ := h
  simp only [List.mem_append, not_or] at h6 k7 k6
  refine ⟨h1, f4 ++ (f ++ (f2 ++ (f3 ++ g4))), f4, _, rfl, k3, ⟨f, _, rfl, h2, ⟨f2, _, rfl, k1, ⟨f3, g4, rfl, k2, k4, fun x hx => (k6 x hx).2⟩, ?_⟩, ?_⟩, ?_⟩
  · intro x hx hy
    rcases List.mem_append.1 hy with hy | hy
    · exact (k7 x hx).1 hy
    · exact (k7 x hx).2.2 hy
  · intro x hx hy
    simp only [List.mem_append] at hy
    rcases hy with hy | hy | hy
    · exact (h6 x hx).1 hy
    · exact (h6 x hx).2.1 hy
    · exact (h6 x hx).2.2.2 hy
  · intro x hx hy
    simp only [List.mem_append] at hy
    rcases hy with hy | hy | hy | hy
    · exact (h6 x hy).2.2.1 hx
    · exact (k7 x hy).2.1 hx
    · exact (k6 x hy).1 hx
    · exact k5 x hx hy
/-- Something new beside what there is. -/
theorem Sep.add {fp : List Nat} (h : Sep b w os) (x : Ext w w') (ho : o.P w.heap.size w' fp) : Sep b w' (o :: os) := by
  obtain ⟨h1, g, h2⟩ := h; refine ⟨Nat.le_trans h1 x.size, fp ++ g, fp, g, rfl, o.mono h1 ho, h2.keep fun y hy => x.block y (h2.lt y hy).2, fun y hy hz => ?_⟩; have := (o.lt ho y hy).1; have := (h2.lt y hz).2
  omega
theorem Sep.addNil {α : Type} {T : Ty α} {e : TypeId} (h : Sep b w os) : Sep b w (slO T e (.slice none 0 0) ([] : List α) :: os) := by
  obtain ⟨h1, g, h2⟩ := h; exact ⟨h1, g, [], g, rfl, SlO.nil, h2, fun x hx => by cases hx⟩
theorem Sep.addFlat {α : Type} {T : Ty α} {cs : List Value} {a : α} (h : Sep b w os) (hO : T.O b w cs a []) : Sep b w (tyO T cs a :: os) := by
  obtain ⟨h1, g, h2⟩ := h; exact ⟨h1, g, [], g, rfl, hO, h2, fun x hx => by cases hx⟩
theorem Sep.head (h : Sep b w (o :: os)) : ∃ fp, o.P b w fp := by
  obtain ⟨h1, fp, f, g, rfl, h2, h3, h6⟩ := h; exact ⟨f, h2⟩
theorem Sep.box {g : Nat} {t : TypeId} {C : Array Value} (h : Sep b w (bxO g t C :: os)) : w.heap[g]? = some (.cells C t (0, 0)) := by
  obtain ⟨fp, _, _, h3⟩ := h.head; exact h3
theorem Sep.sl {α : Type} {T : Ty α} {e : TypeId} {v : Value} {l : List α} (h : Sep b w (slO T e v l :: os)) : SlR T w v l := by
  obtain ⟨fp, h3⟩ := h.head; exact SlO.read h3
/-- One thing is turned into another in the same blocks and new ones. -/
theorem Sep.turn {w' : World} {fp' : List Nat → List Nat → Prop} (h : Sep b w (o1 :: os)) (hk : ∀ f, o1.P b w f → ∃ f', o2.P b w' f' ∧ (∀ x ∈ f', x ∈ f ∨ w.heap.size ≤ x) ∧ Kept f w w') : Sep b w' (o2 :: os) := by
  obtain ⟨h1, fp, f, g, rfl, h2, h3, h6⟩ := h; obtain ⟨f', k1, k2, k3⟩ := hk f h2; refine ⟨Nat.le_trans h1 k3.size, f' ++ g, f', g, rfl, k1, h3.keep fun x hx => k3.block x (h3.lt x hx).2 (fun hf => h6 x hf hx), fun x hx hy => ?_⟩
  rcases k2 x hx with h | h
  · exact h6 x h hy
  · have := (h3.lt x hy).2; omega
end
theorem cell_box {w : World} {g j : Nat} {t : TypeId} {C : Array Value} {fr : Nat × Nat} (h : w.heap[g]? = some (.cells C t fr)) : w.cell? ⟨g, j, none⟩ = C[j]? := by
  simp [World.cell?, h]
theorem frozen_box {w : World} {g j : Nat} {t : TypeId} {C : Array Value} (h : w.heap[g]? = some (.cells C t (0, 0))) : w.frozen? ⟨g, j, none⟩ = false := by
  simp [World.frozen?, h]
theorem heap_set {w : World} {g j : Nat} {t : TypeId} {C : Array Value} {fr : Nat × Nat} {u : Value} (h : w.heap[g]? = some (.cells C t fr)) : (w.setCell ⟨g, j, none⟩ u).heap[g]? = some (.cells (C.setIfInBounds j u) t fr) := by
  simp [World.setCell, Array.getElem?_modify, h]
section
variable {P : Program} {n : Nat} {ops : Array Oper} {Q : Exit → Act → World → Prop} {L : Frm} {w w0 : World} {m : Md} {r : IT} {d : Nat} {ty : TypeId} {pos : String} {af : Array Edge} {b : Nat} {os : List Ow}
theorem bx {b : Nat} {w0 w w' : World} (hb : b ≤ w0.heap.size) (B : Below b w0 w) (x : Ext w w') : Below b w0 w' := B.trans (x.mono (Nat.le_trans hb B.size))
theorem ext_new (w : World) (o : Obj) : Ext w (w.alloc o) := ext_alloc1 w o
/-- A step that makes memory. -/
theorem t_make {op : Op} {v : Value} {w' : World} (hx : Ext w w') (h : ∀ a, Env n L a → ∀ dst af gd, (execOp a.eval ⟨dst, op, ty, pos, af, gd⟩).run P w = .ok (.value v) w') (k : WT P n ops Q r ((d, v) :: L) w') (hm : m.isTake = false) (hn : Nat.blt d n = true) : WT P n ops Q (.st m ⟨some d, op, ty, pos, af, none⟩ r) L w := by
  intro a ha; cases m with
  | take => cases hm
  | run =>
    simp only [wpT, Region.wanted, if_true]
    unfold Oper.wp
    rw [h a ha]; exact ⟨hx, k _ (ha.put hn v)⟩
  | fin =>
    simp only [wpT, Region.wanted, if_true]
    unfold Oper.wp
    rw [h a ha]; exact k _ (ha.put hn v)
/-- A box that is only read: the pointer leads to the value's data. -/
theorem t_boxr {α : Type} {T : Ty α} {t : TypeId} {xo : Operand} {v : Value} {x : α} (h : VA T w v x) (hx : ev L xo = some v) (k : ∀ p w', Ext w w' → Ptr T w' p x → WT P n ops Q r ((d, p) :: L) w') (hm : m.isTake = false) (hn : Nat.blt d n = true) : WT P n ops Q (.st m ⟨some d, .box t xo, ty, pos, af, none⟩ r) L w := by
  obtain ⟨cs, rfl, h2⟩ := h; have he := ext_new w (.cells cs.toArray t); refine t_make (v := .pointer (some ⟨w.heap.size, 0, none⟩)) he (fun a ha _ _ _ => ?_) (k _ _ he ⟨w.heap.size, 0, cs, rfl, T.keep _ _ _ _ h2 he, fun j u hu => ?_⟩) hm hn
  · simp [execOp, ha.ev hx, Instr.box, newVar, newRow, newObj, Sem.run, Value.cells]
  · rw [cell_box (heap_alloc_new w _)]
    simpa using hu
/-- A box of one's own. -/
theorem t_boxo {t : TypeId} {xo : Operand} {v : Value} {C : Array Value} (S : Sep b w os) (hx : ev L xo = some v) (hC : v.cells = C) (k : ∀ g w', Ext w w' → Sep b w' (bxO g t C :: os) → WT P n ops Q r ((d, .pointer (some ⟨g, 0, none⟩)) :: L) w') (hm : m.isTake = false) (hn : Nat.blt d n = true) : WT P n ops Q (.st m ⟨some d, .box t xo, ty, pos, af, none⟩ r) L w := by
  have he := ext_new w (.cells C t); refine t_make (v := .pointer (some ⟨w.heap.size, 0, none⟩)) he (fun a ha _ _ _ => ?_) (k _ _ he (S.add (fp := [w.heap.size]) he ⟨rfl, Nat.le_refl _, heap_alloc_new w _⟩)) hm hn
  simp [execOp, ha.ev hx, Instr.box, newVar, newRow, newObj, Sem.run, hC]
theorem t_w {t : TypeId} {C : Array Value} {z : Value} (S : Sep b w os) (hz : (P.info? t).map (·.zero) = some (some z)) (hC : z.cells = C) (k : ∀ g w', Ext w w' → Sep b w' (bxO g t C :: os) → WT P n ops Q r ((d, .pointer (some ⟨g, 0, none⟩)) :: L) w') (hm : m.isTake = false) (hn : Nat.blt d n = true) : WT P n ops Q (.st m ⟨some d, .alloc t, ty, pos, af, none⟩ r) L w := by
  have he := ext_new w (.cells C t); refine t_make (v := .pointer (some ⟨w.heap.size, 0, none⟩)) he (fun a ha _ _ _ => ?_) (k _ _ he (S.add (fp := [w.heap.size]) he ⟨rfl, Nat.le_refl _, heap_alloc_new w _⟩)) hm hn; cases hi : P.info? t with
  | none => rw [hi] at hz; cases hz
  | some inf =>
    rw [hi] at hz
    simp at hz
    simp [execOp, Instr.alloc, zeroValue, typeInfo, hi, hz, newVar, newRow, newObj, program, Sem.run, hC]
/-- A load from a box. -/
theorem t_bx1 {t tb : TypeId} {g j : Nat} {C : Array Value} {xo : Operand} {u : Value} (hb : w.heap[g]? = some (.cells C tb (0, 0))) (ha : aggB P t = some false) (hx : ev L xo = some (.pointer (some ⟨g, j, none⟩))) (hu : C[j]? = some u) (k : WT P n ops Q r ((d, u) :: L) w) (hn : Nat.blt d n = true) : WT P n ops Q (.st m ⟨some d, .load t xo, ty, pos, af, none⟩ r) L w :=
  t_ld1 ha (w0 := w) (by rw [cell_box hb]; exact hu) (Below.refl _ _) hx k hn
theorem t_b {t tb : TypeId} {g sz : Nat} {C : Array Value} {xo : Operand} (hb : w.heap[g]? = some (.cells C tb (0, 0))) (ha : aggB P t = some true) (hs : sizeB P t = some sz) (hsz : C.size = sz) (hx : ev L xo = some (.pointer (some ⟨g, 0, none⟩))) (k : WT P n ops Q r ((d, .agg C) :: L) w) (hn : Nat.blt d n = true) : WT P n ops Q (.st m ⟨some d, .load t xo, ty, pos, af, none⟩ r) L w :=
  t_ldn (cs := C.toList) ha (by rw [Array.length_toList, hsz]; exact hs) (w0 := w) (fun j u hu => by rw [cell_box hb]; simpa using hu) (Below.refl _ _) hx (by simpa using k) hn
theorem t_store {op : Op} {w' : World} (h : ∀ a, Env n L a → ∀ dst af gd, (execOp a.eval ⟨dst, op, ty, pos, af, gd⟩).run P w = .ok .skip w') (k : WT P n ops Q r L w') : WT P n ops Q (.st .fin ⟨none, op, ty, pos, af, none⟩ r) L w := by
  intro a ha
  simp only [wpT, Region.wanted, if_true]
  unfold Oper.wp
  rw [h a ha]; exact k _ ha
theorem run_store1 {w : World} {g j : Nat} {t : TypeId} {C : Array Value} {u c : Value} (h : w.heap[g]? = some (.cells C t (0, 0))) (hc : C[j]? = some c) (hu : u.oneCell' = true) : (store ⟨g, j, none⟩ u).run P w = .ok () (w.setCell ⟨g, j, none⟩ u) := by
  have h1 : w.cell? ⟨g, j, none⟩ = some c := by rw [cell_box h]; exact hc
  have h2 := frozen_box (j := j) h
  cases u <;> simp [Value.oneCell'] at hu <;> simp [store, Sem.run, h1, h2]
/-- A store of one cell into a box. -/
theorem t_st1 {t tb : TypeId} {g j : Nat} {C : Array Value} {po xo : Operand} {u c : Value} (S : Sep b w (bxO g tb C :: os)) (hs : sizeB P t = some 1) (hp : ev L po = some (.pointer (some ⟨g, j, none⟩))) (hx : ev L xo = some u) (hc : C[j]? = some c) (hu : u.oneCell' = true) (huc : u.cells = #[u])
    (k : ∀ w', Below b w w' → Sep b w' (bxO g tb (C.setIfInBounds j u) :: os) → WT P n ops Q r L w') : WT P n ops Q (.st .fin ⟨none, .store t po xo, ty, pos, af, none⟩ r) L w := by
  have hb := S.box; refine t_store (w' := w.setCell ⟨g, j, none⟩ u) (fun a ha _ _ _ => ?_) (k _ ?_ (S.turn (fp' := fun _ _ => True) fun f hf => ?_))
  · simp [execOp, ha.ev hp, ha.ev hx, Instr.storeAt, Instr.sureAddr, storeVar, huc, run_sizeOf hs, storeCells, Addr.add, run_store1 hb hc hu]
  · obtain ⟨fp, _, hg, _⟩ := S.head
    exact (Below.refl _ _).setCell hg u
  · obtain ⟨h1, h2, h3⟩ := hf
    refine ⟨f, ⟨h1, h2, heap_set h3⟩, fun x hx => .inl hx, (Kept.refl _ _).setCell (by rw [h1]; simp) u⟩
theorem run_storeCells {g : Nat} {t : TypeId} : ∀ (vs : List Value) (i : Nat) (w : World) (C : Array Value), w.heap[g]? = some (.cells C t (0, 0)) → i + vs.length ≤ C.size → (∀ u ∈ vs, u.oneCell' = true) →
    ∃ w' C', (storeCells ⟨g, 0, none⟩ vs i).run P w = .ok () w' ∧ w'.heap[g]? = some (.cells C' t (0, 0)) ∧ C'.size = C.size ∧ Kept [g] w w' ∧ ∀ j, C'[j]? = if i ≤ j ∧ j < i + vs.length then vs[j - i]? else C[j]? := by
  intro vs
  induction vs with
  | nil =>
    intro i w C h _ _; exact ⟨w, C, by simp [storeCells], h, rfl, Kept.refl _ _, fun j => by rw [if_neg (by simp)]⟩
  | cons u vs ih =>
    intro i w C h hlen h1
    simp only [List.length_cons] at hlen
    have hi : i < C.size := by omega
    have hc : C[i]? = some C[i] := Array.getElem?_eq_getElem hi; have hrun := run_store1 (P := P) h hc (h1 u (by simp)); obtain ⟨w', C', k1, k2, k3, k4, k5⟩ := ih (i + 1) (w.setCell ⟨g, i, none⟩ u) (C.setIfInBounds i u) (heap_set h) (by simp; omega) (fun x hx => h1 x (by simp [hx])); refine ⟨w', C', ?_, k2, by simpa using k3, ((Kept.refl _ _).setCell (by simp) u).trans k4, fun j => ?_⟩
    · have ha : (⟨g, 0, none⟩ : Addr).add i = ⟨g, i, none⟩ := by rw [Addr.add_lit]; simp
      simp only [storeCells, Sem.run_bind, ha, hrun, Result.andThen_ok, k1]
    · rw [k5 j]
      by_cases hj : j = i
      · subst hj
        rw [if_neg (by omega), if_pos (by simp)]
        simp [hi]
      · by_cases hj2 : i + 1 ≤ j ∧ j < i + 1 + vs.length
        · rw [if_pos hj2, if_pos (by simp; omega), show j - i = (j - (i + 1)) + 1 by omega, List.getElem?_cons_succ]
        · rw [if_neg hj2, if_neg (by simp; omega), Array.getElem?_setIfInBounds_ne (by omega)]
/-- A store of a whole struct into its box. -/
theorem t_stn {t tb : TypeId} {g sz : Nat} {C V : Array Value} {po xo : Operand} (S : Sep b w (bxO g tb C :: os)) (hs : sizeB P t = some sz) (hp : ev L po = some (.pointer (some ⟨g, 0, none⟩))) (hx : ev L xo = some (.agg V)) (hsz : V.size = sz) (hV : V.size = C.size) (hu : ∀ u ∈ V.toList, u.oneCell' = true)
    (k : ∀ w', Below b w w' → Sep b w' (bxO g tb V :: os) → WT P n ops Q r L w') : WT P n ops Q (.st .fin ⟨none, .store t po xo, ty, pos, af, none⟩ r) L w := by
  subst hsz; have hb := S.box; obtain ⟨w', C', k1, k2, k3, k4, k5⟩ := run_storeCells (P := P) V.toList 0 w C hb (by simp [hV]) hu
  have hC : C' = V := by
    apply Array.ext_getElem?
    intro j; rw [k5 j]
    by_cases hj : j < V.size
    · rw [if_pos (by simpa using hj)]; simp
    · rw [if_neg (by simpa using hj), Array.getElem?_eq_none (by omega), Array.getElem?_eq_none (by omega)]
  subst hC; obtain ⟨fp, _, hg, _⟩ := S.head; refine t_store (w' := w') (fun a ha _ _ _ => ?_) (k _ (k4.below (by simpa using hg) S.base) (S.turn (fp' := fun _ _ => True) fun f hf => ?_))
  · simp [execOp, ha.ev hp, ha.ev hx, Instr.storeAt, Instr.sureAddr, storeVar, Value.cells, run_sizeOf hs, k1]
  · obtain ⟨h1, h2, h3⟩ := hf
    subst h1; exact ⟨[g], ⟨rfl, h2, k2⟩, fun x hx => .inl hx, k4⟩
theorem oc {z : Value} {l : List Value} (h : z.oneCell' = true) (t : ∀ u ∈ l, u.oneCell' = true) : ∀ u ∈ z :: l, u.oneCell' = true := fun u hu => by
  rcases List.mem_cons.1 hu with rfl | hu
  · exact h
  · exact t u hu
theorem oc0 : ∀ u ∈ ([] : List Value), u.oneCell' = true := fun u hu => by cases hu
/-- append of plain elements. -/
theorem t_cat {α : Type} {T : Ty α} (hT : ∀ base w cs a, T.R w cs a → T.O base w cs a []) {t e : TypeId} {bytes : Nat} (et : ElemT P t e T.size bytes) {s x : Operand} {ar : Array TypeId} {v u : Value} {l l' : List α} (S : Sep b w (slO T e v l :: os)) (hR : SlR T w u l') (hs : ev L s = some v) (hx : ev L x = some u) (har : ar = #[t, t])
    (hby : (l.length + l'.length) * bytes ≤ 140737488355328) (h63 : l.length + l'.length ≤ maxLen)
    (k : ∀ v' w', Below b w w' → Sep b w' (slO T e v' (l ++ l') :: os) → WT P n ops Q r ((d, v') :: L) w') (hn : Nat.blt d n = true) : WT P n ops Q (.st .fin ⟨some d, .call ⟨.builtin .append, #[s, x], ar⟩, ty, pos, af, none⟩ r) L w := by
  intro a ha; subst har; have hb := S.base; obtain ⟨h1, fp, f, g, rfl, h2, h3, h6⟩ := S
  simp only [wpT, Region.wanted, if_true]
  refine wp_cat hT s x et h2 hR hby h63 hb rfl (ha.ev hs) (ha.ev hx) fun v' w' fp' hO hfp hk => ?_
  have hB : Below b w w' := hk.below (fun y hy => (h2.size_ok y hy).1) hb; refine k v' w' hB ⟨Nat.le_trans hb hk.size, fp' ++ g, fp', g, rfl, hO, h3.keep fun y hy => hk.block y (h3.lt y hy).2 (fun hf => h6 y hf hy), fun y hy hz => ?_⟩ _ (ha.put hn v')
  rcases hfp y hy with h | h
  · exact h6 y h hz
  · have := (h3.lt y hz).2; omega
/-- append of one element that is owned: it goes over into the slice. -/
theorem t_snoc {α : Type} {T : Ty α} {t e : TypeId} {bytes : Nat} (et : ElemT P t e T.size bytes) {s x : Operand} {ar : Array TypeId} {v : Value} {A : Option Addr} {c : Nat} {cs : List Value} {y : α} {l : List α} (S : Sep b w (slO T e v l :: tyO T cs y :: os)) (hr : Rd w A cs) (hs : ev L s = some v) (hx : ev L x = some (.slice A 1 c)) (har : ar = #[t, t])
    (hby : (l.length + 1) * bytes ≤ 140737488355328) (h63 : l.length + 1 ≤ maxLen)
    (k : ∀ v' w', Below b w w' → Sep b w' (slO T e v' (l ++ [y]) :: os) → WT P n ops Q r ((d, v') :: L) w') (hn : Nat.blt d n = true) : WT P n ops Q (.st .fin ⟨some d, .call ⟨.builtin .append, #[s, x], ar⟩, ty, pos, af, none⟩ r) L w := by
  intro a ha; subst har; have hb := S.base; obtain ⟨h1, fp, f, g, rfl, ⟨css, fps, k1, k2, k3, k4, k5, k6⟩, ⟨f2, g2, rfl, m1, m2, m3⟩, h6⟩ := S; have hfl : ∀ y ∈ f, b ≤ y ∧ y < w.heap.size := SlO.size_ok ⟨css, fps, k1, k2, k3, k4, k5, k6⟩; have hel : T.O b w cs y f2 := m1
  have hlen : cs.length = 1 * T.size := by rw [T.len _ _ _ (T.read _ _ _ _ _ hel)]; omega
  have hd : ∀ z ∈ f2, z ∉ f := fun z hz hf => h6 z hf (List.mem_append.2 (.inl hz))
  simp only [wpT, Region.wanted, if_true]
  refine wp_app s x et k3 hr hlen (T.one _ _ _ (T.read _ _ _ _ _ hel)) hby h63 hb rfl (ha.ev hs) (ha.ev hx) fun v' w' ho' hg' hv' => ?_
  obtain ⟨fp', g1, g2', g3⟩ := SlO.grow (css' := [cs]) (fps' := [f2]) (l' := [y]) (m := 1) k1 k2 k3 k4 k5 k6 rfl rfl (fun i c' a' f' hi ha hf' => by
    rcases i with _ | i
    · simp at hi ha hf'
      subst hi ha hf'; exact hel
    · simp at hi) (by simpa using T.nodup _ _ _ _ _ hel) (by simpa using hd) rfl (by simpa using ho') hg' hv'
  have hB : Below b w w' := g3.below (fun y hy => (hfl y hy).1) hb; refine k v' w' hB ⟨Nat.le_trans hb g3.size, fp' ++ g2, fp', g2, rfl, g1, m2.keep fun y hy => g3.block y (m2.lt y hy).2 (fun hf => h6 y hf (List.mem_append.2 (.inr hy))), fun z hz hy => ?_⟩ _ (ha.put hn v')
  rcases g2' z hz with h | h | h
  · exact h6 z h (List.mem_append.2 (.inr hy))
  · exact m3 z (by simpa using h) hy
  · have := (m2.lt z hy).2; omega
end
theorem mixed : Tryz.prog.follows .mixedOrders = true := by kernel_rfl
theorem getx {α : Type} {l : List α} {k : Nat} (h : k < l.length) : ∃ x, l[k]? = some x := ⟨_, List.getElem?_eq_getElem h⟩
theorem one_at {c : Value} {cs : List Value} {off : Nat} (h : cs[off]? = some c) : ∀ j u, [c][j]? = some u → cs[off + j]? = some u := by
  intro j u hu; cases j with
  | zero => simp at hu; subst hu; simpa using h
  | succ j => simp at hu
theorem ab_int : aggB Tryz.prog 3 = some false := by kernel_rfl
theorem sb_int : sizeB Tryz.prog 3 = some 1 := by kernel_rfl
theorem ab_bool : aggB Tryz.prog 4 = some false := by kernel_rfl
theorem ab_byte : aggB Tryz.prog 5 = some false := by kernel_rfl
theorem e_int : ElemT Tryz.prog 62 3 1 8 := ElemT.mk' Tryz.underlying62 (z := I 0) (by kernel_rfl) rfl (by omega)
theorem ab_s_byte : aggB Tryz.prog 22 = some false := by kernel_rfl
theorem e_byte : ElemT Tryz.prog 22 5 1 1 := ElemT.mk' Tryz.underlying22 (z := .int .u8 0) (by kernel_rfl) rfl (by omega)
theorem ab_hop : aggB Tryz.prog 87 = some true := by kernel_rfl
theorem sb_hop : sizeB Tryz.prog 87 = some 5 := by kernel_rfl
theorem z_hop : (Tryz.prog.info? 87).map (·.zero) = some (some (.agg #[I 0, I 0, I 0, I 0, I 0])) := by kernel_rfl
theorem fb_hop_0 : fieldB Tryz.prog 87 0 = some 0 := by kernel_rfl
theorem ln_hop_0 : Lens hopT intT 0 Hop.ia := fun w cs x h => by
  obtain rfl := hop_form h; exact ⟨[I x.ia], rfl, one_at rfl⟩
theorem fb_hop_1 : fieldB Tryz.prog 87 1 = some 1 := by kernel_rfl
theorem ln_hop_1 : Lens hopT intT 1 Hop.ing := fun w cs x h => by
  obtain rfl := hop_form h; exact ⟨[I x.ing], rfl, one_at rfl⟩
theorem fb_hop_2 : fieldB Tryz.prog 87 2 = some 2 := by kernel_rfl
theorem ln_hop_2 : Lens hopT intT 2 Hop.eg := fun w cs x h => by
  obtain rfl := hop_form h; exact ⟨[I x.eg], rfl, one_at rfl⟩
theorem fb_hop_3 : fieldB Tryz.prog 87 3 = some 3 := by kernel_rfl
theorem ln_hop_3 : Lens hopT intT 3 Hop.exp := fun w cs x h => by
  obtain rfl := hop_form h; exact ⟨[I x.exp], rfl, one_at rfl⟩
theorem fb_hop_4 : fieldB Tryz.prog 87 4 = some 4 := by kernel_rfl
theorem ln_hop_4 : Lens hopT intT 4 Hop.mac := fun w cs x h => by
  obtain rfl := hop_form h; exact ⟨[I x.mac], rfl, one_at rfl⟩
theorem ab_s_hop : aggB Tryz.prog 65 = some false := by kernel_rfl
theorem sb_s_hop : sizeB Tryz.prog 65 = some 1 := by kernel_rfl
theorem e_hop : ElemT Tryz.prog 65 87 5 40 := ElemT.mk' Tryz.underlying65 (z := .agg #[I 0, I 0, I 0, I 0, I 0]) (by kernel_rfl) rfl (by omega)
theorem ab_asn : aggB Tryz.prog 117 = some true := by kernel_rfl
theorem sb_asn : sizeB Tryz.prog 117 = some 3 := by kernel_rfl
theorem z_asn : (Tryz.prog.info? 117).map (·.zero) = some (some (.agg #[I 0, .bool false, I 0])) := by kernel_rfl
theorem fb_asn_0 : fieldB Tryz.prog 117 0 = some 0 := by kernel_rfl
theorem fb_asn_1 : fieldB Tryz.prog 117 1 = some 1 := by kernel_rfl
theorem ln_asn_1 : Lens asnT boolT 1 ASd.core := fun w cs x h => by
  obtain rfl := asn_form h; exact ⟨[.bool x.core], rfl, one_at rfl⟩
theorem fb_asn_2 : fieldB Tryz.prog 117 2 = some 2 := by kernel_rfl
theorem ln_asn_2 : Lens asnT intT 2 ASd.key := fun w cs x h => by
  obtain rfl := asn_form h; exact ⟨[I x.key], rfl, one_at rfl⟩
theorem ab_s_asn : aggB Tryz.prog 24 = some false := by kernel_rfl
theorem sb_s_asn : sizeB Tryz.prog 24 = some 1 := by kernel_rfl
theorem e_asn : ElemT Tryz.prog 24 117 3 24 := ElemT.mk' Tryz.underlying24 (z := .agg #[I 0, .bool false, I 0]) (by kernel_rfl) rfl (by omega)
theorem ab_link : aggB Tryz.prog 90 = some true := by kernel_rfl
theorem sb_link : sizeB Tryz.prog 90 = some 5 := by kernel_rfl
theorem z_link : (Tryz.prog.info? 90).map (·.zero) = some (some (.agg #[I 0, I 0, I 0, I 0, I 0])) := by kernel_rfl
theorem fb_link_0 : fieldB Tryz.prog 90 0 = some 0 := by kernel_rfl
theorem ln_link_0 : Lens linkT intT 0 Lnk.a := fun w cs x h => by
  obtain rfl := link_form h; exact ⟨[I x.a], rfl, one_at rfl⟩
theorem fb_link_1 : fieldB Tryz.prog 90 1 = some 1 := by kernel_rfl
theorem ln_link_1 : Lens linkT intT 1 Lnk.ai := fun w cs x h => by
  obtain rfl := link_form h; exact ⟨[I x.ai], rfl, one_at rfl⟩
theorem fb_link_2 : fieldB Tryz.prog 90 2 = some 2 := by kernel_rfl
theorem ln_link_2 : Lens linkT intT 2 Lnk.b := fun w cs x h => by
  obtain rfl := link_form h; exact ⟨[I x.b], rfl, one_at rfl⟩
theorem fb_link_3 : fieldB Tryz.prog 90 3 = some 3 := by kernel_rfl
theorem ln_link_3 : Lens linkT intT 3 Lnk.bi := fun w cs x h => by
  obtain rfl := link_form h; exact ⟨[I x.bi], rfl, one_at rfl⟩
theorem fb_link_4 : fieldB Tryz.prog 90 4 = some 4 := by kernel_rfl
theorem ln_link_4 : Lens linkT intT 4 Lnk.kind := fun w cs x h => by
  obtain rfl := link_form h; exact ⟨[I x.kind], rfl, one_at rfl⟩
theorem ab_s_link : aggB Tryz.prog 25 = some false := by kernel_rfl
theorem sb_s_link : sizeB Tryz.prog 25 = some 1 := by kernel_rfl
theorem e_link : ElemT Tryz.prog 25 90 5 40 := ElemT.mk' Tryz.underlying25 (z := .agg #[I 0, I 0, I 0, I 0, I 0]) (by kernel_rfl) rfl (by omega)
theorem ab_part : aggB Tryz.prog 85 = some true := by kernel_rfl
theorem sb_part : sizeB Tryz.prog 85 = some 4 := by kernel_rfl
theorem z_part : (Tryz.prog.info? 85).map (·.zero) = some (some (.agg #[I 0, I 0, I 0, .slice none 0 0])) := by kernel_rfl
theorem fb_part_0 : fieldB Tryz.prog 85 0 = some 0 := by kernel_rfl
theorem ln_part_0 : Lens partT intT 0 Part.kind := fun w cs x h => by
  obtain ⟨A3, c3, rfl, ⟨h3, _⟩⟩ := part_form h; exact ⟨[I x.kind], rfl, one_at rfl⟩
theorem fb_part_1 : fieldB Tryz.prog 85 1 = some 1 := by kernel_rfl
theorem ln_part_1 : Lens partT intT 1 Part.ts := fun w cs x h => by
  obtain ⟨A3, c3, rfl, ⟨h3, _⟩⟩ := part_form h; exact ⟨[I x.ts], rfl, one_at rfl⟩
theorem fb_part_2 : fieldB Tryz.prog 85 2 = some 2 := by kernel_rfl
theorem ln_part_2 : Lens partT intT 2 Part.beta := fun w cs x h => by
  obtain ⟨A3, c3, rfl, ⟨h3, _⟩⟩ := part_form h; exact ⟨[I x.beta], rfl, one_at rfl⟩
theorem fb_part_3 : fieldB Tryz.prog 85 3 = some 3 := by kernel_rfl
theorem ln_part_3 : Lens partT (slT hopT 87) 3 Part.hops := fun w cs x h => by
  obtain ⟨A3, c3, rfl, ⟨h3, _⟩⟩ := part_form h; exact ⟨[.slice A3 x.hops.length c3], ⟨_, rfl, h3⟩, one_at rfl⟩
theorem ab_s_part : aggB Tryz.prog 36 = some false := by kernel_rfl
theorem sb_s_part : sizeB Tryz.prog 36 = some 1 := by kernel_rfl
theorem e_part : ElemT Tryz.prog 36 85 4 48 := ElemT.mk' Tryz.underlying36 (z := .agg #[I 0, I 0, I 0, .slice none 0 0]) (by kernel_rfl) rfl (by omega)
theorem ab_path : aggB Tryz.prog 38 = some true := by kernel_rfl
theorem sb_path : sizeB Tryz.prog 38 = some 1 := by kernel_rfl
theorem z_path : (Tryz.prog.info? 38).map (·.zero) = some (some (.agg #[.slice none 0 0])) := by kernel_rfl
theorem fb_path_0 : fieldB Tryz.prog 38 0 = some 0 := by kernel_rfl
theorem ln_path_0 : Lens pathT (slT partT 85) 0 (fun x : Path => x) := fun w cs x h => by
  obtain ⟨A0, c0, rfl, ⟨h0, _⟩⟩ := path_form h; exact ⟨[.slice A0 x.length c0], ⟨_, rfl, h0⟩, one_at rfl⟩
theorem e_path : ElemT Tryz.prog 33 38 1 24 := ElemT.mk' Tryz.underlying33 (z := .agg #[.slice none 0 0]) (by kernel_rfl) rfl (by omega)
theorem ab_seg : aggB Tryz.prog 67 = some true := by kernel_rfl
theorem sb_seg : sizeB Tryz.prog 67 = some 3 := by kernel_rfl
theorem z_seg : (Tryz.prog.info? 67).map (·.zero) = some (some (.agg #[I 0, I 0, .slice none 0 0])) := by kernel_rfl
theorem fb_seg_0 : fieldB Tryz.prog 67 0 = some 0 := by kernel_rfl
theorem ln_seg_0 : Lens segT intT 0 Seg.ts := fun w cs x h => by
  obtain ⟨A2, c2, rfl, ⟨h2, _⟩⟩ := seg_form h; exact ⟨[I x.ts], rfl, one_at rfl⟩
theorem fb_seg_1 : fieldB Tryz.prog 67 1 = some 1 := by kernel_rfl
theorem ln_seg_1 : Lens segT intT 1 Seg.beta := fun w cs x h => by
  obtain ⟨A2, c2, rfl, ⟨h2, _⟩⟩ := seg_form h; exact ⟨[I x.beta], rfl, one_at rfl⟩
theorem fb_seg_2 : fieldB Tryz.prog 67 2 = some 2 := by kernel_rfl
theorem ln_seg_2 : Lens segT (slT hopT 87) 2 Seg.hops := fun w cs x h => by
  obtain ⟨A2, c2, rfl, ⟨h2, _⟩⟩ := seg_form h; exact ⟨[.slice A2 x.hops.length c2], ⟨_, rfl, h2⟩, one_at rfl⟩
theorem ab_s_seg : aggB Tryz.prog 28 = some false := by kernel_rfl
theorem sb_s_seg : sizeB Tryz.prog 28 = some 1 := by kernel_rfl
theorem e_seg : ElemT Tryz.prog 28 67 3 40 := ElemT.mk' Tryz.underlying28 (z := .agg #[I 0, I 0, .slice none 0 0]) (by kernel_rfl) rfl (by omega)
theorem ab_topo : aggB Tryz.prog 27 = some true := by kernel_rfl
theorem sb_topo : sizeB Tryz.prog 27 = some 2 := by kernel_rfl
theorem z_topo : (Tryz.prog.info? 27).map (·.zero) = some (some (.agg #[.slice none 0 0, .slice none 0 0])) := by kernel_rfl
theorem fb_topo_0 : fieldB Tryz.prog 27 0 = some 0 := by kernel_rfl
theorem ln_topo_0 : Lens topoT (slT asnT 117) 0 Topo.ases := fun w cs x h => by
  obtain ⟨A0, c0, A1, c1, rfl, ⟨h0, _⟩, ⟨h1, _⟩⟩ := topo_form h; exact ⟨[.slice A0 x.ases.length c0], ⟨_, rfl, h0⟩, one_at rfl⟩
theorem fb_topo_1 : fieldB Tryz.prog 27 1 = some 1 := by kernel_rfl
theorem ln_topo_1 : Lens topoT (slT linkT 90) 1 Topo.links := fun w cs x h => by
  obtain ⟨A0, c0, A1, c1, rfl, ⟨h0, _⟩, ⟨h1, _⟩⟩ := topo_form h; exact ⟨[.slice A1 x.links.length c1], ⟨_, rfl, h1⟩, one_at rfl⟩
theorem ab_sdb : aggB Tryz.prog 30 = some true := by kernel_rfl
theorem sb_sdb : sizeB Tryz.prog 30 = some 2 := by kernel_rfl
theorem z_sdb : (Tryz.prog.info? 30).map (·.zero) = some (some (.agg #[.slice none 0 0, .slice none 0 0])) := by kernel_rfl
theorem fb_sdb_0 : fieldB Tryz.prog 30 0 = some 0 := by kernel_rfl
theorem ln_sdb_0 : Lens sdbT (slT segT 67) 0 Sdb.down := fun w cs x h => by
  obtain ⟨A0, c0, A1, c1, rfl, ⟨h0, _⟩, ⟨h1, _⟩⟩ := sdb_form h; exact ⟨[.slice A0 x.down.length c0], ⟨_, rfl, h0⟩, one_at rfl⟩
theorem fb_sdb_1 : fieldB Tryz.prog 30 1 = some 1 := by kernel_rfl
theorem ln_sdb_1 : Lens sdbT (slT segT 67) 1 Sdb.core := fun w cs x h => by
  obtain ⟨A0, c0, A1, c1, rfl, ⟨h0, _⟩, ⟨h1, _⟩⟩ := sdb_form h; exact ⟨[.slice A1 x.core.length c1], ⟨_, rfl, h1⟩, one_at rfl⟩
def evp (L : Frm) : List (Nat × Operand) → Option (List (Nat × Value))
  | [] => some []
  | x :: xs => match ev L x.2, evp L xs with
    | some v, some vs => some ((x.1, v) :: vs)
    | _, _ => none
theorem Env.evp {n : Nat} {L : Frm} {a : Act} (h : Env n L a) {xs : List (Nat × Operand)} {vs : List (Nat × Value)} (hx : evp L xs = some vs) : (xs.map fun x => (x.1, a.eval x.2)) = vs := by
  induction xs generalizing vs with
  | nil => cases hx; rfl
  | cons x t ih =>
    unfold Go.Proofs.YtljkgpembicloaaGreat.evp at hx
    split at hx
    · rename_i v vs' h1 h2
      cases hx; rw [List.map_cons, h.ev h1, ih h2]
    · cases hx
section
variable {P : Program} {n : Nat} {ops : Array Oper} {Q : Exit → Act → World → Prop} {L : Frm} {w w0 : World} {m : Md} {r : IT} {d : Nat} {ty : TypeId} {pos : String} {af : Array Edge} {b : Nat} {os : List Ow}
theorem t_g {t : TypeId} {ps : List (Nat × Operand)} {vs : List (Nat × Value)} {v : Value} (hb : ∀ w, (Instr.build t vs.toArray).run P w = .ok v w) (hv : evp L ps = some vs) (k : WT P n ops Q r ((d, v) :: L) w) (hn : Nat.blt d n = true) : WT P n ops Q (.st m ⟨some d, .build t ps.toArray, ty, pos, af, none⟩ r) L w :=
  t_read (fun a ha _ _ _ w' _ => by
    have h := ha.evp hv
    have e : (ps.toArray.map fun x => (x.1, a.eval x.2)) = vs.toArray := by rw [List.map_toArray, h]
    simp only [execOp]
    rw [show (ps.toArray.map fun x => match x with | (i, x) => (i, a.eval x)) = vs.toArray from e]
    simp [hb]) k hn
/-- A slice literal whose elements are plain: a slice of one's own. -/
theorem t_lit {α : Type} {T : Ty α} (hT : ∀ base w cs a, T.R w cs a → T.O base w cs a []) {t e : TypeId} {len : Nat} {ps : List (Nat × Operand)} {vs : List (Nat × Value)} {C : Array Value} {l : List α} {css : List (List Value)} (S : Sep b w os)
    (hb : ∀ w, (Instr.buildSlice t len vs.toArray).run P w = .ok (.slice (some ⟨w.heap.size, 0, none⟩) len len) (w.alloc (.cells C e))) (hv : evp L ps = some vs) (hC : C.toList = css.flatten) (hl : l.length = len) (hcl : css.length = l.length) (hlen : l.length ≤ maxLen) (hR : ∀ (w : World) (i : Nat) cs a, css[i]? = some cs → l[i]? = some a → T.R w cs a)
    (k : ∀ u w', Ext w w' → Sep b w' (slO T e u l :: os) → WT P n ops Q r ((d, u) :: L) w') (hm : m.isTake = false) (hn : Nat.blt d n = true) : WT P n ops Q (.st m ⟨some d, .buildSlice t len ps.toArray, ty, pos, af, none⟩ r) L w := by
  have he := ext_new w (.cells C e)
  have hall : ∀ (i : Nat) cs, css[i]? = some cs → cs.length = T.size := fun i cs hi => by
    have hlt : i < l.length := by rw [← hcl]; exact (List.getElem?_eq_some_iff.1 hi).1
    exact T.len _ _ _ (hR w i cs _ hi (List.getElem?_eq_getElem hlt))
  have hsz : C.size = l.length * T.size := by rw [← Array.length_toList, hC, flatten_len hall, hcl]
  have hO : SlO T e w.heap.size (w.alloc (.cells C e)) (.slice (some ⟨w.heap.size, 0, none⟩) len len) l [w.heap.size] := by
    subst hl; refine ⟨css, l.map fun _ => [], hcl, by simp, ?_, fun i cs a f hi ha hf => ?_, ?_, by simp⟩
    · rw [← hC]
      exact World.ownsRow_lit w C l.length (Nat.le_refl _) hlen hsz
    · simp at hf
      obtain ⟨_, _, rfl⟩ := hf; exact hT _ _ _ _ (hR _ i cs a hi ha)
    · rw [flat_nil]; rfl
  refine t_make he (fun a ha _ _ _ => ?_) (k _ _ he (S.add he hO)) hm hn; have h := ha.evp hv
  have e' : (ps.toArray.map fun x => (x.1, a.eval x.2)) = vs.toArray := by rw [List.map_toArray, h]
  simp only [execOp]
  rw [show (ps.toArray.map fun x => match x with | (i, x) => (i, a.eval x)) = vs.toArray from e']
  simp [hb]
/-- A slice literal of one element, to be appended: its cells can be read. -/
theorem t_lit1 {t e : TypeId} {ps : List (Nat × Operand)} {vs : List (Nat × Value)} {C : Array Value} (hb : ∀ w, (Instr.buildSlice t 1 vs.toArray).run P w = .ok (.slice (some ⟨w.heap.size, 0, none⟩) 1 1) (w.alloc (.cells C e))) (hv : evp L ps = some vs)
    (k : ∀ A w', Ext w w' → Rd w' A C.toList → WT P n ops Q r ((d, .slice A 1 1) :: L) w') (hm : m.isTake = false) (hn : Nat.blt d n = true) : WT P n ops Q (.st m ⟨some d, .buildSlice t 1 ps.toArray, ty, pos, af, none⟩ r) L w := by
  have he := ext_new w (.cells C e); refine t_make he (fun a ha _ _ _ => ?_) (k _ _ he fun _ => ⟨w.heap.size, 0, rfl, fun j u hu => ?_⟩) hm hn
  · have h := ha.evp hv
    have e' : (ps.toArray.map fun x => (x.1, a.eval x.2)) = vs.toArray := by rw [List.map_toArray, h]
    simp only [execOp]
    rw [show (ps.toArray.map fun x => match x with | (i, x) => (i, a.eval x)) = vs.toArray from e']
    simp [hb]
  · rw [cell_box (heap_alloc_new w _)]
    simpa using hu
/-- A slice literal of elements that are owned. -/
theorem t_lit2 {α : Type} {T : Ty α} {t e : TypeId} {ps : List (Nat × Operand)} {vs : List (Nat × Value)} {C : Array Value} {cs1 cs2 : List Value} {x1 x2 : α} (S : Sep b w (tyO T cs1 x1 :: tyO T cs2 x2 :: os))
  (hb : ∀ w, (Instr.buildSlice t 2 vs.toArray).run P w = .ok (.slice (some ⟨w.heap.size, 0, none⟩) 2 2) (w.alloc (.cells C e))) (hv : evp L ps = some vs) (hC : C.toList = cs1 ++ cs2)
  (k : ∀ u w', Ext w w' → Sep b w' (slO T e u [x1, x2] :: os) → WT P n ops Q r ((d, u) :: L) w') (hm : m.isTake = false) (hn : Nat.blt d n = true) : WT P n ops Q (.st m ⟨some d, .buildSlice t 2 ps.toArray, ty, pos, af, none⟩ r) L w := by
 have he := ext_new w (.cells C e); obtain ⟨h1, fp, f, g, rfl, h2, ⟨f2, g2, rfl, m1, m2, m3⟩, h6⟩ := S; have hO1 : T.O b w cs1 x1 f := h2; have hO2 : T.O b w cs2 x2 f2 := m1; have hl1 := T.len _ _ _ (T.read _ _ _ _ _ hO1); have hl2 := T.len _ _ _ (T.read _ _ _ _ _ hO2); have hlt1 := T.lt _ _ _ _ _ hO1; have hlt2 := T.lt _ _ _ _ _ hO2
 have hO : SlO T e b (w.alloc (.cells C e)) (.slice (some ⟨w.heap.size, 0, none⟩) 2 2) [x1, x2] (w.heap.size :: (f ++ f2)) := by
  refine ⟨[cs1, cs2], [f, f2], rfl, rfl, ?_, fun i cs a f' hi ha hf => ?_, by simp [Value.ownBlock], ?_⟩
  ·have := World.ownsRow_lit (base := b) (e := e) (size := T.size) w C 2 h1 (by simp [maxLen]) (by rw [← Array.length_toList, hC, List.length_append]; omega); rw [hC] at this
   simpa using this
  ·rcases i with _ | _ | i
   ·simp at hi ha hf
    subst hi ha hf; exact T.obelow hO1 he
   ·simp at hi ha hf
    subst hi ha hf; exact T.obelow hO2 he
   ·simp at hi
  ·rw [List.nodup_cons]; refine ⟨fun hm => ?_, ?_⟩
   ·rcases List.mem_append.1 hm with hm | hm
    ·have := (hlt1 _ hm).2; omega
    ·have := (hlt2 _ hm).2; omega
   ·rw [List.nodup_append]; exact ⟨T.nodup _ _ _ _ _ hO1, T.nodup _ _ _ _ _ hO2, fun x hx y hy hxy => h6 x hx (List.mem_append.2 (.inl (hxy ▸ hy)))⟩
 have hS : Sep b (w.alloc (.cells C e)) (slO T e (.slice (some ⟨w.heap.size, 0, none⟩) 2 2) [x1, x2] :: os) := by
  refine ⟨Nat.le_trans h1 he.size, _, w.heap.size :: (f ++ f2), g2, rfl, hO, m2.keep fun y hy => he.block y (m2.lt y hy).2, fun y hy hz => ?_⟩
  rcases List.mem_cons.1 hy with hy | hy
  ·have := (m2.lt y hz).2; omega
  ·rcases List.mem_append.1 hy with hy | hy
   ·exact h6 y hy (List.mem_append.2 (.inr hz))
   ·exact m3 y hy hz
 refine t_make he (fun a ha _ _ _ => ?_) (k _ _ he hS) hm hn; have h := ha.evp hv
 have e' : (ps.toArray.map fun x => (x.1, a.eval x.2)) = vs.toArray := by rw [List.map_toArray, h]
 simp only [execOp]
 rw [show (ps.toArray.map fun x => match x with | (i, x) => (i, a.eval x)) = vs.toArray from e']
 simp [hb]
theorem run_loadBox {t tb : TypeId} {g : Nat} {C : Array Value} (hb : w.heap[g]? = some (.cells C tb (0, 0))) (ha : aggB P t = some true) (hs : sizeB P t = some C.size) : (loadVar t ⟨g, 0, none⟩).run P w = .ok (.agg C) w := by
  have hc := run_loadCells (P := P) (w := w) (g := g) (o := 0) (cs := C.toList) (fun j u hu => by rw [cell_box hb]; simpa using hu)
  simp only [Array.length_toList] at hc
  simp [loadVar, run_isAgg ha, run_sizeOf hs, hc]
theorem x_retc {fn : Func} {R : Ending → World → Prop} {t g sz : Nat} {tt tb : TypeId} {C : Array Value} (hr : fn.results = #[.cell t tt]) (hv : look L t = some (.pointer (some ⟨g, 0, none⟩))) (hb : w.heap[g]? = some (.cells C tb (0, 0))) (ha : aggB P tt = some true) (hs : sizeB P tt = some sz) (hsz : C.size = sz) (h : R (.returned (.agg C)) w) : WX n (bodyPost P fn R) .ret L w := by
  intro a hE; subst hsz; have h1 := hE.at_ _ _ hv; refine bodyPost_ret ?_ hE.defers h
  simp [results, hr, h1, asAddr, run_loadBox hb ha hs]
end
theorem bs_int1 (a0 : Int) (w : World) : (Instr.buildSlice 62 1 #[(0, I a0)]).run Tryz.prog w = .ok (.slice (some ⟨w.heap.size, 0, none⟩) 1 1) (w.alloc (.cells #[I a0] 3)) := by kernel_rfl
theorem bs_int6 (a0 a1 a2 a3 a4 a5 : Int) (w : World) : (Instr.buildSlice 62 6 #[(0, I a0), (1, I a1), (2, I a2), (3, I a3), (4, I a4), (5, I a5)]).run Tryz.prog w = .ok (.slice (some ⟨w.heap.size, 0, none⟩) 6 6) (w.alloc (.cells #[I a0, I a1, I a2, I a3, I a4, I a5] 3)) := by kernel_rfl
theorem bs_int0 (w : World) : (Instr.buildSlice 62 0 #[]).run Tryz.prog w = .ok (.slice (some ⟨w.heap.size, 0, none⟩) 0 0) (w.alloc (.cells #[] 3)) := by kernel_rfl
theorem bs_hop0 (w : World) : (Instr.buildSlice 65 0 #[]).run Tryz.prog w = .ok (.slice (some ⟨w.heap.size, 0, none⟩) 0 0) (w.alloc (.cells #[] 87)) := by kernel_rfl
theorem bs_path0 (w : World) : (Instr.buildSlice 33 0 #[]).run Tryz.prog w = .ok (.slice (some ⟨w.heap.size, 0, none⟩) 0 0) (w.alloc (.cells #[] 38)) := by kernel_rfl
theorem bs_seg0 (w : World) : (Instr.buildSlice 28 0 #[]).run Tryz.prog w = .ok (.slice (some ⟨w.heap.size, 0, none⟩) 0 0) (w.alloc (.cells #[] 67)) := by kernel_rfl
theorem bs_hop1 (c0 c1 c2 c3 c4 : Value) (w : World) : (Instr.buildSlice 65 1 #[(0, .agg #[c0, c1, c2, c3, c4])]).run Tryz.prog w = .ok (.slice (some ⟨w.heap.size, 0, none⟩) 1 1) (w.alloc (.cells #[c0, c1, c2, c3, c4] 87)) := by kernel_rfl
theorem bs_part1 (c0 c1 c2 c3 : Value) (w : World) : (Instr.buildSlice 36 1 #[(0, .agg #[c0, c1, c2, c3])]).run Tryz.prog w = .ok (.slice (some ⟨w.heap.size, 0, none⟩) 1 1) (w.alloc (.cells #[c0, c1, c2, c3] 85)) := by kernel_rfl
theorem bs_path1 (c0 : Value) (w : World) : (Instr.buildSlice 33 1 #[(0, .agg #[c0])]).run Tryz.prog w = .ok (.slice (some ⟨w.heap.size, 0, none⟩) 1 1) (w.alloc (.cells #[c0] 38)) := by kernel_rfl
theorem bs_seg1 (c0 c1 c2 : Value) (w : World) : (Instr.buildSlice 28 1 #[(0, .agg #[c0, c1, c2])]).run Tryz.prog w = .ok (.slice (some ⟨w.heap.size, 0, none⟩) 1 1) (w.alloc (.cells #[c0, c1, c2] 67)) := by kernel_rfl
theorem bs_part2 (c0 c1 c2 c3 d0 d1 d2 d3 : Value) (w : World) : (Instr.buildSlice 36 2 #[(0, .agg #[c0, c1, c2, c3]), (1, .agg #[d0, d1, d2, d3])]).run Tryz.prog w = .ok (.slice (some ⟨w.heap.size, 0, none⟩) 2 2) (w.alloc (.cells #[c0, c1, c2, c3, d0, d1, d2, d3] 85)) := by kernel_rfl
theorem b_part0 (w : World) : (Instr.build 85 #[]).run Tryz.prog w = .ok (.agg #[I 0, I 0, I 0, .slice none 0 0]) w := by kernel_rfl
theorem b_part (a b c : Int) (A : Option Addr) (k q : Nat) (w : World) : (Instr.build 85 #[(0, I a), (1, I b), (2, I c), (3, .slice A k q)]).run Tryz.prog w = .ok (.agg #[I a, I b, I c, .slice A k q]) w := by kernel_rfl
theorem b_part3 (a b c : Int) (w : World) : (Instr.build 85 #[(0, I a), (1, I b), (2, I c)]).run Tryz.prog w = .ok (.agg #[I a, I b, I c, .slice none 0 0]) w := by kernel_rfl
theorem b_path0 (w : World) : (Instr.build 38 #[]).run Tryz.prog w = .ok (.agg #[.slice none 0 0]) w := by kernel_rfl
theorem b_path (A : Option Addr) (k q : Nat) (w : World) : (Instr.build 38 #[(0, .slice A k q)]).run Tryz.prog w = .ok (.agg #[.slice A k q]) w := by kernel_rfl
theorem b_seg0 (w : World) : (Instr.build 67 #[]).run Tryz.prog w = .ok (.agg #[I 0, I 0, .slice none 0 0]) w := by kernel_rfl
theorem b_seg (a b : Int) (A : Option Addr) (k q : Nat) (w : World) : (Instr.build 67 #[(0, I a), (1, I b), (2, .slice A k q)]).run Tryz.prog w = .ok (.agg #[I a, I b, .slice A k q]) w := by kernel_rfl
theorem SlR.cells {α : Type} {T : Ty α} {w : World} {v : Value} {l : List α} (h : SlR T w v l) : v.cells = #[v] ∧ v.oneCell' = true := by
  obtain ⟨A, c, rfl, _⟩ := h.form; exact ⟨rfl, rfl⟩
theorem litR_int (l : List Int) : ∀ (w : World) (i : Nat) cs a, (l.map fun a => [I a])[i]? = some cs → l[i]? = some a → intT.R w cs a := by
  intro w i cs a h1 h2; rw [List.getElem?_map, h2] at h1
  simp at h1
  exact h1.symm
theorem litR_nil {α : Type} {T : Ty α} : ∀ (w : World) (i : Nat) cs a, ([] : List (List Value))[i]? = some cs → ([] : List α)[i]? = some a → T.R w cs a := by
  intro w i cs a h1 h2
  simp at h1
theorem litR_one {α : Type} {T : Ty α} {c : List Value} {x : α} (h : ∀ w, T.R w c x) : ∀ (w : World) (i : Nat) cs a, [c][i]? = some cs → [x][i]? = some a → T.R w cs a := by
  intro w i cs a h1 h2; cases i with
  | zero => simp at h1 h2; subst h1 h2; exact h w
  | succ i => simp at h1
theorem va1 {α : Type} {T : Ty α} {P : Program} {f : FuncId} {w : World} {v : Value} {x : α} {R : Ending → World → Prop} {vs : List Value} (h : VA T w v x) (hc : ∀ cs, T.R w cs x → Calls P f (Value.agg cs.toArray :: vs).toArray w R) : Calls P f (v :: vs).toArray w R := by
  obtain ⟨cs, rfl, h2⟩ := h; exact hc cs h2
theorem va2 {α β : Type} {T : Ty α} {U : Ty β} {P : Program} {f : FuncId} {w : World} {v u : Value} {x : α} {y : β} {R : Ending → World → Prop} {vs : List Value} (h : VA T w v x) (h' : VA U w u y) (hc : ∀ cs ds, T.R w cs x → U.R w ds y → Calls P f (Value.agg cs.toArray :: Value.agg ds.toArray :: vs).toArray w R) : Calls P f (v :: u :: vs).toArray w R := by
  obtain ⟨cs, rfl, h2⟩ := h; obtain ⟨ds, rfl, h3⟩ := h'; exact hc cs ds h2 h3
theorem hop_va {w : World} {v : Value} {x : Hop} (h : VA hopT w v x) : v = .agg #[I x.ia, I x.ing, I x.eg, I x.exp, I x.mac] := by
  obtain ⟨cs, rfl, h2⟩ := h; rw [hop_form h2]
theorem hop_mkv (w : World) (x : Hop) : VA hopT w (.agg #[I x.ia, I x.ing, I x.eg, I x.exp, I x.mac]) x := ⟨_, rfl, rfl⟩
theorem asn_va {w : World} {v : Value} {x : ASd} (h : VA asnT w v x) : v = .agg #[I x.isd, .bool x.core, I x.key] := by
  obtain ⟨cs, rfl, h2⟩ := h; rw [asn_form h2]
theorem link_va {w : World} {v : Value} {x : Lnk} (h : VA linkT w v x) : v = .agg #[I x.a, I x.ai, I x.b, I x.bi, I x.kind] := by
  obtain ⟨cs, rfl, h2⟩ := h; rw [link_form h2]
theorem part_va {w : World} {v : Value} {x : Part} (h : VA partT w v x) : ∃ v3, v = .agg #[I x.kind, I x.ts, I x.beta, v3] ∧ SlR hopT w v3 x.hops := by
  obtain ⟨cs, rfl, h2⟩ := h; obtain ⟨A3, c3, rfl, ⟨h3, _⟩⟩ := part_form h2; exact ⟨_, rfl, h3⟩
theorem part_mkv {w : World} {v3 : Value} {x : Part} (h3 : SlR hopT w v3 x.hops) : VA partT w (.agg #[I x.kind, I x.ts, I x.beta, v3]) x := by
  obtain ⟨A3, c3, rfl, _⟩ := h3.form; exact ⟨_, rfl, part_mk h3⟩
theorem path_va {w : World} {v : Value} {x : Path} (h : VA pathT w v x) : ∃ v0, v = .agg #[v0] ∧ SlR partT w v0 x := by
  obtain ⟨cs, rfl, h2⟩ := h; obtain ⟨A0, c0, rfl, ⟨h0, _⟩⟩ := path_form h2; exact ⟨_, rfl, h0⟩
theorem path_mkv {w : World} {v0 : Value} {x : Path} (h0 : SlR partT w v0 x) : VA pathT w (.agg #[v0]) x := by
  obtain ⟨A0, c0, rfl, _⟩ := h0.form; exact ⟨_, rfl, path_mk h0⟩
theorem seg_va {w : World} {v : Value} {x : Seg} (h : VA segT w v x) : ∃ v2, v = .agg #[I x.ts, I x.beta, v2] ∧ SlR hopT w v2 x.hops := by
  obtain ⟨cs, rfl, h2⟩ := h; obtain ⟨A2, c2, rfl, ⟨h2, _⟩⟩ := seg_form h2; exact ⟨_, rfl, h2⟩
theorem seg_mkv {w : World} {v2 : Value} {x : Seg} (h2 : SlR hopT w v2 x.hops) : VA segT w (.agg #[I x.ts, I x.beta, v2]) x := by
  obtain ⟨A2, c2, rfl, _⟩ := h2.form; exact ⟨_, rfl, seg_mk h2⟩
theorem topo_va {w : World} {v : Value} {x : Topo} (h : VA topoT w v x) : ∃ v0 v1, v = .agg #[v0, v1] ∧ SlR asnT w v0 x.ases ∧ SlR linkT w v1 x.links := by
  obtain ⟨cs, rfl, h2⟩ := h; obtain ⟨A0, c0, A1, c1, rfl, ⟨h0, _⟩, ⟨h1, _⟩⟩ := topo_form h2; exact ⟨_, _, rfl, h0, h1⟩
theorem topo_mkv {w : World} {v0 v1 : Value} {x : Topo} (h0 : SlR asnT w v0 x.ases) (h1 : SlR linkT w v1 x.links) : VA topoT w (.agg #[v0, v1]) x := by
  obtain ⟨A0, c0, rfl, _⟩ := h0.form; obtain ⟨A1, c1, rfl, _⟩ := h1.form; exact ⟨_, rfl, topo_mk h0 h1⟩
theorem sdb_va {w : World} {v : Value} {x : Sdb} (h : VA sdbT w v x) : ∃ v0 v1, v = .agg #[v0, v1] ∧ SlR segT w v0 x.down ∧ SlR segT w v1 x.core := by
  obtain ⟨cs, rfl, h2⟩ := h; obtain ⟨A0, c0, A1, c1, rfl, ⟨h0, _⟩, ⟨h1, _⟩⟩ := sdb_form h2; exact ⟨_, _, rfl, h0, h1⟩
theorem sdb_mkv {w : World} {v0 v1 : Value} {x : Sdb} (h0 : SlR segT w v0 x.down) (h1 : SlR segT w v1 x.core) : VA sdbT w (.agg #[v0, v1]) x := by
  obtain ⟨A0, c0, rfl, _⟩ := h0.form; obtain ⟨A1, c1, rfl, _⟩ := h1.form; exact ⟨_, rfl, sdb_mk h0 h1⟩
/-- A store into one cell of one element of an owned slice, whatever its elements lead to. -/
theorem SlO.put2 {α : Type} {T : Ty α} {e base : Nat} {w : World} {g n c : Nat} {l : List α} {fp : List Nat} (h : SlO T e base w (.slice (some ⟨g, 0, none⟩) n c) l fp) (hn : n = l.length) {i j : Nat} {a : α} (hi : l[i]? = some a) (hj : j < T.size) {u : Value} {a' : α}
    (hc : ∀ w cs f, T.O base w cs a f → T.O base w (cs.set j u) a' f) : SlO T e base (w.setCell ⟨g, i * T.size + j, none⟩ u) (.slice (some ⟨g, 0, none⟩) n c) (l.set i a') fp := by
  subst hn; obtain ⟨css, fps, h1, h2, h3, h4, h5, h6⟩ := h; have hlt : i < l.length := (List.getElem?_eq_some_iff.1 hi).1
  have hall : ∀ (i : Nat) cs, css[i]? = some cs → cs.length = T.size := fun i cs hi => by
    have hl : i < css.length := (List.getElem?_eq_some_iff.1 hi).1; exact T.len _ _ _ (T.read _ _ _ _ _ (h4 i cs _ _ hi (List.getElem?_eq_getElem (by omega)) (List.getElem?_eq_getElem (by omega))))
  have hk : css[i]? = some (css[i]'(by omega)) := List.getElem?_eq_getElem (by omega)
  have hg : g ∉ fps.flatten := by
    rw [h5] at h6
    simp only [Value.ownBlock, Option.toList_some, List.singleton_append, List.nodup_cons] at h6
    exact h6.1
  have hmv : ∀ k cs x f, fps[k]? = some f → T.O base w cs x f → T.O base (w.setCell ⟨g, i * T.size + j, none⟩ u) cs x f := fun k cs x f hf hO =>
    T.okeep _ _ _ _ _ _ hO fun y hy => far_set (fun e => hg (e ▸ List.mem_flatten.2 ⟨f, List.mem_of_getElem? hf, hy⟩))
  refine ⟨css.set i ((css[i]'(by omega)).set j u), fps, by simp [h1], by simp [h2], ?_, ?_, h5, h6⟩
  · rw [List.length_set, ← flatten_set hall i _ hk j hj u]
    exact own_set h3 _ _
  · intro k cs x f hk' hx hf
    by_cases hki : k = i
    · subst hki
      rw [List.getElem?_set_self (by omega)] at hk' hx
      injection hk' with hk'
      injection hx with hx
      subst hk' hx; exact hc _ _ _ (hmv k _ _ _ hf (h4 k _ _ _ hk hi hf))
    · rw [List.getElem?_set_ne (by omega)] at hk' hx
      exact hmv k _ _ _ hf (h4 k _ _ _ hk' hx hf)
theorem flat_apart {fps : List (List Nat)} (h : fps.flatten.Nodup) : ∀ (i j : Nat) f g, i < j → fps[i]? = some f → fps[j]? = some g → ∀ x ∈ f, x ∉ g := by
  induction fps with
  | nil => intro i j f g _ hi; simp at hi
  | cons a t ih =>
    rw [List.flatten_cons, List.nodup_append] at h; obtain ⟨h1, h2, h3⟩ := h; intro i j f g hij hi hj x hx hg; cases j with
    | zero => omega
    | succ j =>
      simp at hj
      cases i with
      | zero =>
        simp at hi
        subst hi; exact h3 x hx x (List.mem_flatten.2 ⟨g, List.mem_of_getElem? hj, hg⟩) rfl
      | succ i =>
        simp at hi
        exact ih h2 i j f g (by omega) hi hj x hx hg
/-- An element of an owned slice: its cells, its own blocks, and how the slice stands when these alone have been written. -/
theorem SlO.focus {α : Type} {T : Ty α} {e base : Nat} {w : World} {g n c : Nat} {l : List α} {fp : List Nat} (h : SlO T e base w (.slice (some ⟨g, 0, none⟩) n c) l fp) {i : Nat} {a : α} (hi : l[i]? = some a) :
  ∃ cs f, T.O base w cs a f ∧ (∀ x ∈ f, x ∈ fp) ∧ (∀ j u, cs[j]? = some u → w.cell? ⟨g, i * T.size + j, none⟩ = some u) ∧
   ∀ w' a', T.O base w' cs a' f → Kept f w w' → SlO T e base w' (.slice (some ⟨g, 0, none⟩) n c) (l.set i a') fp := by
 obtain ⟨css, fps, h1, h2, h3, h4, h5, h6⟩ := h; have hlt : i < l.length := (List.getElem?_eq_some_iff.1 hi).1
 have hall : ∀ (i : Nat) cs, css[i]? = some cs → cs.length = T.size := fun i cs hi => by
  have hl : i < css.length := (List.getElem?_eq_some_iff.1 hi).1; exact T.len _ _ _ (T.read _ _ _ _ _ (h4 i cs _ _ hi (List.getElem?_eq_getElem (by omega)) (List.getElem?_eq_getElem (by omega))))
 have hk : css[i]? = some (css[i]'(by omega)) := List.getElem?_eq_getElem (by omega); have hf : fps[i]? = some (fps[i]'(by omega)) := List.getElem?_eq_getElem (by omega); have hnd := h6; rw [h5] at hnd
 simp only [Value.ownBlock, Option.toList_some, List.singleton_append, List.nodup_cons] at hnd
 have hin : ∀ (k : Nat) f, fps[k]? = some f → ∀ x ∈ f, x ∈ fps.flatten := fun k f hk x hx => List.mem_flatten.2 ⟨f, List.mem_of_getElem? hk, hx⟩
 have hdis : ∀ (k : Nat) f, fps[k]? = some f → k ≠ i → ∀ x ∈ f, x ∉ (fps[i]'(by omega)) := by
  intro k f hkf hne x hx hxi
  rcases Nat.lt_or_ge k i with hlt' | hge
  ·exact flat_apart hnd.2 k i _ _ hlt' hkf hf x hx hxi
  ·exact flat_apart hnd.2 i k _ _ (by omega) hf hkf x hxi hx
 refine ⟨_, _, h4 i _ _ _ hk hi hf, fun x hx => by rw [h5]; exact List.mem_append.2 (.inr (hin i _ hf x hx)), fun j u hu => ?_, fun w' a' hO hK => ?_⟩
 ·have hj : j < T.size := by rw [← hall i _ hk]; exact (List.getElem?_eq_some_iff.1 hu).1
  have hfl := flatten_at hall i _ hk j hj; have hc := h3.cells (g := g) rfl (i * T.size + j) u (by rw [hfl]; exact hu)
  simpa [Addr.add_lit] using hc
 ·refine ⟨css, fps, by simp [h1], by simp [h2], ?_, ?_, h5, h6⟩
  ·rw [List.length_set]; refine ⟨h3.1, ?_⟩
   rcases h3.2 with hn | ⟨g', cap, cur, hv, hb, hgg, rest⟩
   ·exact .inl hn
   ·cases hv; refine .inr ⟨g, c, cur, rfl, hb, ?_, rest⟩; rw [hK.block g (Array.getElem?_eq_some_iff.1 hgg).1 (fun hx => hnd.1 (hin i _ hf g hx))]; exact hgg
  ·intro k cs x f hk' hx hkf
   by_cases hki : k = i
   ·subst hki; rw [List.getElem?_set_self (by omega)] at hx; rw [hk] at hk'; rw [hf] at hkf
    injection hk' with hk'
    injection hx with hx
    injection hkf with hkf
    subst hk' hx hkf; exact hO
   ·rw [List.getElem?_set_ne (by omega)] at hx; have hO' := h4 k cs x f hk' hx hkf
    exact T.okeep _ _ _ _ _ _ hO' fun y hy => hK.block y (T.lt _ _ _ _ _ hO' y hy).2 (hdis k f hkf hki y hy)
section
variable {P : Program} {n : Nat} {ops : Array Oper} {Q : Exit → Act → World → Prop} {L : Frm} {w w0 : World} {m : Md} {r : IT} {d : Nat} {ty : TypeId} {pos : String} {af : Array Edge} {b : Nat} {os : List Ow}
theorem Sep.addr {α : Type} {T : Ty α} {e : TypeId} {v : Value} {l : List α} (S : Sep b w (slO T e v l :: os)) (hp : 0 < l.length) : ∃ g c, v = .slice (some ⟨g, 0, none⟩) l.length c := by
  obtain ⟨fp, h⟩ := S.head; obtain ⟨g, c, h1, _⟩ := SlO.addr h hp; exact ⟨g, c, h1⟩
/-- The address of an element of a slice whose address is known. -/
theorem t_idxx {t e : TypeId} {size bytes : Nat} (et : ElemT P t e size bytes) {g k nn c a : Nat} {i : Int} {xo io : Operand} (hx : ev L xo = some (.slice (some ⟨g, 0, none⟩) nn c)) (hi : ev L io = some (I i)) (hik : i = ((k : Nat) : Int)) (hlt : k < nn) (ha : k * size = a)
    (kk : WT P n ops Q r ((d, .pointer (some ⟨g, a, none⟩)) :: L) w) (hn : Nat.blt d n = true) : WT P n ops Q (.st m ⟨some d, .indexAddr t xo io, ty, pos, af, none⟩ r) L w := by
  obtain ⟨inf, z, hinf, _, hsz, _, _⟩ := et.info; subst ha; refine t_read (fun a ha _ _ _ w' _ => ?_) kk hn; subst hik
  have hc : (0 : Int) ≤ (k : Int) ∧ (k : Int) < (nn : Int) := by omega
  simp [execOp, ha.ev hx, ha.ev hi, Instr.indexAt, asIntOf, run_underlying et.und, hc, sizeOf, typeInfo, hinf, hsz, Addr.add_lit, hlt]
/-- A store into a cell of an element. -/
theorem t_stS {α : Type} {T : Ty α} {t e : TypeId} {g nn c i j ad : Nat} {l : List α} {x x' : α} {u : Value} {po xo : Operand} (S : Sep b w (slO T e (.slice (some ⟨g, 0, none⟩) nn c) l :: os)) (hnn : nn = l.length) (hs : sizeB P t = some 1) (hp : ev L po = some (.pointer (some ⟨g, ad, none⟩))) (hxo : ev L xo = some u) (hx : l[i]? = some x) (had : i * T.size + j = ad) (hj : j < T.size) (hu : u.oneCell' = true) (huc : u.cells = #[u])
    (hT : ∀ w cs f, T.O b w cs x f → T.O b w (cs.set j u) x' f)
    (k : ∀ w', Below b w w' → Sep b w' (slO T e (.slice (some ⟨g, 0, none⟩) nn c) (l.set i x') :: os) → WT P n ops Q r L w') : WT P n ops Q (.st .fin ⟨none, .store t po xo, ty, pos, af, none⟩ r) L w := by
  subst had; obtain ⟨fp, hO⟩ := S.head; have hO' : SlO T e b w (.slice (some ⟨g, 0, none⟩) nn c) l fp := hO; have hil : i < l.length := (List.getElem?_eq_some_iff.1 hx).1; obtain ⟨g', c', hv, hgf, hbg, hgw, _, hfr⟩ := SlO.addr hO' (by omega); cases hv; obtain ⟨cs, f, hc1, hc2, hc3, hc4⟩ := SlO.focus hO' hx
  have hcell : ∃ c0, w.cell? ⟨g, i * T.size + j, none⟩ = some c0 := by
    have hlen := T.len _ _ _ (T.read _ _ _ _ _ hc1); exact ⟨_, hc3 j _ (List.getElem?_eq_getElem (by omega))⟩
  obtain ⟨c0, hcell⟩ := hcell
  have hrun : (store ⟨g, i * T.size + j, none⟩ u).run P w = .ok () (w.setCell ⟨g, i * T.size + j, none⟩ u) := by
    have h2 := hfr (i * T.size + j)
    cases u <;> simp [Value.oneCell'] at hu <;> simp [store, Sem.run, hcell, h2]
  refine t_store (w' := w.setCell ⟨g, i * T.size + j, none⟩ u) (fun a ha _ _ _ => ?_) (k _ ((Below.refl _ _).setCell hbg u) (S.turn (fp' := fun _ _ => True) fun f' hf' => ?_))
  · simp [execOp, ha.ev hp, ha.ev hxo, Instr.storeAt, Instr.sureAddr, storeVar, huc, run_sizeOf hs, storeCells, Addr.add, hrun]
  · have hf'' : SlO T e b w (.slice (some ⟨g, 0, none⟩) l.length c) l f' := hf'
    obtain ⟨_, _, hv2, hgf2, _⟩ := SlO.addr hf'' (by omega); cases hv2; exact ⟨f', SlO.put2 hf'' rfl hx hj hT, fun y hy => .inl hy, (Kept.refl _ _).setCell hgf2 u⟩
/-- A load of a cell of an element. -/
theorem t_ldS {α : Type} {T : Ty α} {t e : TypeId} {g nn c i j ad : Nat} {l : List α} {x : α} {u : Value} {po : Operand} (S : Sep b w (slO T e (.slice (some ⟨g, 0, none⟩) nn c) l :: os)) (ha : aggB P t = some false) (hp : ev L po = some (.pointer (some ⟨g, ad, none⟩))) (hx : l[i]? = some x) (had : i * T.size + j = ad)
    (hT : ∀ w cs, T.R w cs x → cs[j]? = some u) (k : WT P n ops Q r ((d, u) :: L) w) (hn : Nat.blt d n = true) : WT P n ops Q (.st m ⟨some d, .load t po, ty, pos, af, none⟩ r) L w := by
  subst had; obtain ⟨fp, hO⟩ := S.head; obtain ⟨cs, f, hc1, hc2, hc3, hc4⟩ := SlO.focus (T := T) hO hx; exact t_ld1 ha (w0 := w) (hc3 j u (hT _ _ (T.read _ _ _ _ _ hc1))) (Below.refl _ _) hp k hn
end
theorem set_at {α : Type} {l : List α} {i : Nat} {x y : α} (h : l[i]? = some x) : (l.set i y)[i]? = some y := by
  rw [List.getElem?_set_self (List.getElem?_eq_some_iff.1 h).1]
theorem Sep.conv {b : Nat} {w : World} {o1 o2 : Ow} {os : List Ow} (h : Sep b w (o1 :: os)) (hk : ∀ f, o1.P b w f → o2.P b w f) : Sep b w (o2 :: os) := by
  obtain ⟨h1, fp, f, g, rfl, h2, h3, h6⟩ := h; exact ⟨h1, f ++ g, f, g, rfl, hk f h2, h3, h6⟩
theorem own_keep {w w' : World} {base : Nat} {e : TypeId} {size : Nat} {v : Value} {n : Nat} {xs : List Value} (h : w.ownsRow base e size v n xs) (hk : ∀ x ∈ v.ownBlock.toList, w'.heap[x]? = w.heap[x]?) : w'.ownsRow base e size v n xs := by
  refine ⟨h.1, ?_⟩
  rcases h.2 with hn | ⟨g, cap, cur, rfl, hb, hgg, rest⟩
  · exact .inl hn
  · exact .inr ⟨g, cap, cur, rfl, hb, by rw [hk g (by simp [Value.ownBlock])]; exact hgg, rest⟩
theorem own_mono {w : World} {base base' : Nat} {e : TypeId} {size : Nat} {v : Value} {n : Nat} {xs : List Value} (hb : base' ≤ base) (h : w.ownsRow base e size v n xs) : w.ownsRow base' e size v n xs := by
  refine ⟨h.1, ?_⟩
  rcases h.2 with hn | ⟨g, cap, cur, rfl, hg, hgg, rest⟩
  · exact .inl hn
  · exact .inr ⟨g, cap, cur, rfl, by omega, hgg, rest⟩
section
variable {b : Nat} {w : World} {os : List Ow}
theorem Sep.partOpen {cs : List Value} {x : Part} (S : Sep b w (tyO partT cs x :: os)) : ∃ u, cs = [I x.kind, I x.ts, I x.beta, u] ∧ Sep b w (slO hopT 87 u x.hops :: os) := by
  obtain ⟨fp, h⟩ := S.head; obtain ⟨A, c, f, rfl, h3, _⟩ := part_oform h; refine ⟨_, rfl, S.conv fun f hf => ?_⟩; obtain ⟨A', c', f', e, h3', rfl, _⟩ := part_oform hf
  injection e with _ e; injection e with _ e; injection e with _ e; injection e with e _
  rw [e]; exact h3'
theorem Sep.partShut {u : Value} {x : Part} (S : Sep b w (slO hopT 87 u x.hops :: os)) : Sep b w (tyO partT [I x.kind, I x.ts, I x.beta, u] x :: os) :=
  S.conv fun f hf => ⟨[_, _, _], _, [], f, rfl, ⟨rfl, rfl⟩, ⟨_, rfl, hf⟩, rfl, SlO.nodup hf⟩
theorem Sep.segOpen {cs : List Value} {x : Seg} (S : Sep b w (tyO segT cs x :: os)) : ∃ u, cs = [I x.ts, I x.beta, u] ∧ Sep b w (slO hopT 87 u x.hops :: os) := by
  obtain ⟨fp, h⟩ := S.head; obtain ⟨A, c, f, rfl, h3, _⟩ := seg_oform h; refine ⟨_, rfl, S.conv fun f hf => ?_⟩; obtain ⟨A', c', f', e, h3', rfl, _⟩ := seg_oform hf
  injection e with _ e; injection e with _ e; injection e with e _
  rw [e]; exact h3'
theorem Sep.segShut {u : Value} {x : Seg} (S : Sep b w (slO hopT 87 u x.hops :: os)) : Sep b w (tyO segT [I x.ts, I x.beta, u] x :: os) :=
  S.conv fun f hf => ⟨[_, _], _, [], f, rfl, ⟨rfl, rfl⟩, ⟨_, rfl, hf⟩, rfl, SlO.nodup hf⟩
theorem Sep.pathOpen {cs : List Value} {x : Path} (S : Sep b w (tyO pathT cs x :: os)) : ∃ u, cs = [u] ∧ Sep b w (slO partT 85 u x :: os) := by
  obtain ⟨fp, v, rfl, h⟩ := S.head; refine ⟨v, rfl, S.conv fun f hf => ?_⟩; obtain ⟨v', e, h'⟩ := hf; cases e; exact h'
theorem Sep.pathShut {u : Value} {x : Path} (S : Sep b w (slO partT 85 u x :: os)) : Sep b w (tyO pathT [u] x :: os) :=
  S.conv fun f hf => ⟨u, rfl, hf⟩
end
theorem ret_int {k : IntKind} {a b : Int} (h : a = b) : Ending.returned (.int k a) = .returned (.int k b) := by rw [h]
theorem sum_take_le (l : List Nat) (k : Nat) : (l.take k).sum ≤ l.sum := by
  have := List.take_append_drop k l
  have h2 : (l.take k ++ l.drop k).sum = l.sum := by rw [this]
  rw [List.sum_append] at h2
  omega
/-- An int's range. -/
def In64 (n : Int) : Prop := -9223372036854775808 ≤ n ∧ n ≤ 9223372036854775807
def rng_hop (d : Hop) : Prop := In64 d.ia ∧ In64 d.ing ∧ In64 d.eg ∧ In64 d.exp ∧ In64 d.mac
def rng_part (d : Part) : Prop := In64 d.kind ∧ In64 d.ts ∧ In64 d.beta ∧ (∀ x ∈ d.hops, rng_hop x)
def sz_part (d : Part) : Nat := d.hops.length
def sz_parts (l : List Part) : Nat := l.length + (l.map sz_part).sum
def lenOk_part (d : Part) : Prop := d.hops.length ≤ 9223372036854775807
def rng_path (d : Path) : Prop := ∀ x ∈ d, rng_part x
def sz_path (d : Path) : Nat := sz_parts d
def sz_paths (l : List Path) : Nat := l.length + (l.map sz_path).sum
def lenOk_path (d : Path) : Prop := d.length ≤ 9223372036854775807 ∧ ∀ x ∈ d, lenOk_part x
def sz_seg (d : Seg) : Nat := d.hops.length
def sz_segs (l : List Seg) : Nat := l.length + (l.map sz_seg).sum
def sz_topo (d : Topo) : Nat := d.ases.length + d.links.length
def sz_sdb (d : Sdb) : Nat := sz_segs d.down + sz_segs d.core
/-- n lies between a and b. -/
def inR (n a b : Int) : Bool := decide (a ≤ n) && decide (n ≤ b)
theorem inR_yes {n a b : Int} (h1 : a ≤ n) (h2 : n ≤ b) : inR n a b = true := by simp [inR, h1, h2]
theorem inR_lo {n a b : Int} (h : n < a) : inR n a b = false := by unfold inR; simp; omega
theorem inR_hi {n a b : Int} (h : b < n) : inR n a b = false := by unfold inR; simp; omega
theorem inR_iff {n a b : Int} : inR n a b = true ↔ a ≤ n ∧ n ≤ b := by simp [inR]
theorem impl_InRange (n a b : Int) (w : World) : Calls Tryz.prog 109 #[I n, I a, I b] w fun e w' => e = .returned (.bool (inR n a b)) ∧ w = w' := by
  by_cases h1 : a ≤ n
  · by_cases h2 : n ≤ b
    · rw [inR_yes h1 h2]
      go_enter Tryz.func109, Tryz.ntmps109
      go_wp2
      go_ret
      exact ⟨rfl, rfl⟩
    · rw [inR_hi (by omega)]
      have h3 : b < n := by omega
      go_enter Tryz.func109, Tryz.ntmps109
      go_wp2
      go_ret
      exact ⟨rfl, rfl⟩
  · rw [inR_lo (by omega)]
    have h3 : n < a := by omega
    go_enter Tryz.func109, Tryz.ntmps109
    go_wp2
    go_ret
    exact ⟨rfl, rfl⟩
theorem spec_l1In (n a b : Int) (w : World) : Calls Tryz.prog 144 #[I n, I a, I b] w fun e w' => e = .returned (.bool (inR n a b)) ∧ w = w' := by
  by_cases h1 : a ≤ n
  · by_cases h2 : n ≤ b
    · rw [inR_yes h1 h2]
      go_enter Tryz.func144, Tryz.ntmps144
      go_wp2
      go_ret
      exact ⟨rfl, rfl⟩
    · rw [inR_hi (by omega)]
      have h3 : b < n := by omega
      go_enter Tryz.func144, Tryz.ntmps144
      go_wp2
      go_ret
      exact ⟨rfl, rfl⟩
  · rw [inR_lo (by omega)]
    have h3 : n < a := by omega
    go_enter Tryz.func144, Tryz.ntmps144
    go_wp2
    go_ret
    exact ⟨rfl, rfl⟩
theorem impl_isResidue (n : Int) (w : World) : Calls Tryz.prog 152 #[I n] w fun e w' => e = .returned (.bool (inR n 0 2147483646)) ∧ w = w' := by
  go_enter Tryz.func152, Tryz.ntmps152
  go_wp2_with (fail)
  refine (impl_InRange _ _ _ _).mono ?_; rintro e w1 ⟨rfl, rfl⟩
  go_wp2_with (fail)
  go_ret
  exact ⟨rfl, rfl⟩
theorem spec_l3Ok (n : Int) (w : World) : Calls Tryz.prog 178 #[I n] w fun e w' => e = .returned (.bool (inR n 0 2147483646)) ∧ w = w' := by
  go_enter Tryz.func178, Tryz.ntmps178
  go_wp2_with (fail)
  refine (spec_l1In _ _ _ _).mono ?_; rintro e w1 ⟨rfl, rfl⟩
  go_wp2_with (fail)
  go_ret
  exact ⟨rfl, rfl⟩
/-- The remainder of the digest's prime. -/
def modP (x : Int) : Int := x.tmod 2147483647 % 2147483647
theorem modP_bd (x : Int) : 0 ≤ modP x ∧ modP x < 2147483647 := by unfold modP; omega
def digStep (d x : Int) : Int := (d * 1000003 + modP x + 11) % 2147483647
def digest (l : List Int) : Int := l.foldl digStep 7
theorem digest_bd (l : List Int) : 0 ≤ digest l ∧ digest l < 2147483647 := by
  unfold digest
  generalize hq : (7 : Int) = q
  have h7 : 0 ≤ q ∧ q < 2147483647 := by omega
  clear hq
  induction l generalizing q with
  | nil => exact h7
  | cons a t ih => exact ih _ (by unfold digStep; omega)
theorem digest_snoc (l : List Int) (x : Int) : digest (l ++ [x]) = digStep (digest l) x := by unfold digest; rw [List.foldl_append]; rfl
theorem impl_ModP (x : Int) (w : World) : Calls Tryz.prog 129 #[I x, I 2147483647] w fun e w' => e = .returned (I (modP x)) ∧ w = w' := by
  have h1 : -2147483647 < x.tmod 2147483647 := Int.lt_tmod_of_pos x (by omega); have h2 : x.tmod 2147483647 < 2147483647 := Int.tmod_lt_of_pos x (by omega); have h3 := hid (inR_yes (n := 2147483647) (a := 1) (b := 1000000000000) (by omega) (by omega)); obtain ⟨y, Hy⟩ : ∃ y, Hid (y = modP x) := ⟨_, rfl⟩; rw [← Hy.out]
  go_enter Tryz.func129, Tryz.ntmps129
  go_wp2_with (fail)
  refine (impl_InRange _ _ _ _).mono ?_; rintro e w1 ⟨rfl, rfl⟩; rw [h3.out]
  go_wp2_with (fail)
  go_ret
  rw [Hy.out]; exact ⟨ret_int (by unfold modP; omega), rfl⟩
theorem spec_ModP (x : Int) (w : World) : Calls Tryz.prog 130 #[I x, I 2147483647] w fun e w' => e = .returned (I (modP x)) ∧ w = w' := by
  have h1 : -2147483647 < x.tmod 2147483647 := Int.lt_tmod_of_pos x (by omega); have h2 : x.tmod 2147483647 < 2147483647 := Int.tmod_lt_of_pos x (by omega); have h3 := hid (inR_yes (n := 2147483647) (a := 1) (b := 1000000000000) (by omega) (by omega)); obtain ⟨y, Hy⟩ : ∃ y, Hid (y = modP x) := ⟨_, rfl⟩; rw [← Hy.out]
  go_enter Tryz.func130, Tryz.ntmps130
  go_wp2_with (fail)
  refine (spec_l1In _ _ _ _).mono ?_; rintro e w1 ⟨rfl, rfl⟩; rw [h3.out]
  go_wp2_with (fail)
  go_ret
  rw [Hy.out]; exact ⟨ret_int (by unfold modP; omega), rfl⟩
theorem impl_Digest (l : List Int) (v : Value) (w : World) (h : SlR intT w v l) (hn : l.length ≤ 16777216) : Calls Tryz.prog 86 #[v] w fun e w' => e = .returned (I (digest l)) ∧ w = w' := by
  obtain ⟨A, c, rfl, _⟩ := h.form; obtain ⟨n, H⟩ : ∃ n, Hid (n = l.length) := ⟨_, rfl⟩; rw [← H.out] at h hn ⊢
  go_enter Tryz.func86, Tryz.ntmps86
  go_wp2
  go_loop [3, 8] (fun t i => ∃ k : Nat, k ≤ n ∧ i = I k ∧ t = I (digest (l.take k))) (fun _ i => n - (intOf i).toNat)
  case atStart => exact ⟨0, by omega, rfl, rfl⟩
  case round =>
    obtain ⟨k, hk, rfl, rfl⟩ := hrel
    by_cases hlt : k < n
    · obtain ⟨g, o, q, x, e, hg, hxk, c0⟩ := int_at h (by rw [← H.out]; exact hlt)
      rw [← H.out] at e; cases e; have hd := digest_bd (l.take k); have hm := modP_bd x
      have HS : Hid (digest (l.take (k + 1)) = digStep (digest (l.take k)) x) := by rw [take_succ hxk.out, digest_snoc]; exact rfl
      obtain ⟨d, Hd⟩ : ∃ d, Hid (d = digest (l.take k)) := ⟨_, rfl⟩; rw [← Hd.out] at hd ⊢; obtain ⟨y, Hy⟩ : ∃ y, Hid (y = modP x) := ⟨_, rfl⟩; rw [← Hy.out] at hm
      go_wp2_with (fail)
      refine (impl_ModP _ _).mono ?_; rintro e w1 ⟨rfl, rfl⟩; rw [← Hy.out]
      go_wp2_with (fail)
      go_round
      case rel => exact ⟨k + 1, by omega, by go_num, by rw [HS.out]; unfold digStep; rw [← Hd.out, ← Hy.out]⟩
      case measure => simp [intOf]; omega
    · go_wp2
      go_ret
      have : k = n := by omega
      subst this; rw [H.out, List.take_length]; exact ⟨rfl, rfl⟩
theorem spec_Digest (l : List Int) (v : Value) (w : World) (h : SlR intT w v l) (hn : l.length ≤ 16777216) : Calls Tryz.prog 87 #[v] w fun e w' => e = .returned (I (digest l)) ∧ w = w' := by
  obtain ⟨A, c, rfl, _⟩ := h.form; obtain ⟨n, H⟩ : ∃ n, Hid (n = l.length) := ⟨_, rfl⟩; rw [← H.out] at h hn ⊢
  go_enter Tryz.func87, Tryz.ntmps87
  go_wp2
  go_loop [3, 4] (fun t i => ∃ k : Nat, k ≤ n ∧ i = I k ∧ t = I (digest (l.take k))) (fun _ i => n - (intOf i).toNat)
  case atStart => exact ⟨0, by omega, rfl, rfl⟩
  case round =>
    obtain ⟨k, hk, rfl, rfl⟩ := hrel
    by_cases hlt : k < n
    · obtain ⟨g, o, q, x, e, hg, hxk, c0⟩ := int_at h (by rw [← H.out]; exact hlt)
      rw [← H.out] at e; cases e; have hd := digest_bd (l.take k); have hm := modP_bd x
      have HS : Hid (digest (l.take (k + 1)) = digStep (digest (l.take k)) x) := by rw [take_succ hxk.out, digest_snoc]; exact rfl
      obtain ⟨d, Hd⟩ : ∃ d, Hid (d = digest (l.take k)) := ⟨_, rfl⟩; rw [← Hd.out] at hd ⊢; obtain ⟨y, Hy⟩ : ∃ y, Hid (y = modP x) := ⟨_, rfl⟩; rw [← Hy.out] at hm
      go_wp2_with (fail)
      refine (spec_ModP _ _).mono ?_; rintro e w1 ⟨rfl, rfl⟩; rw [← Hy.out]
      go_wp2_with (fail)
      go_round
      case rel => exact ⟨k + 1, by omega, by go_num, by rw [HS.out]; unfold digStep; rw [← Hd.out, ← Hy.out]⟩
      case measure => simp [intOf]; omega
    · go_wp2
      go_ret
      have : k = n := by omega
      subst this; rw [H.out, List.take_length]; exact ⟨rfl, rfl⟩
theorem et_int : ElemT Tryz.prog 62 3 1 8 := ElemT.mk' Tryz.underlying62 (z := I 0) (by kernel_rfl) rfl (by omega)
def validHop (h : Hop) : Bool := inR h.ia 0 7 && inR h.ing 0 6 && inR h.eg 0 6 && (h.ing != h.eg) && inR h.exp 0 1000000 && inR h.mac 0 2147483646
theorem and6 (b1 b2 b3 b4 b5 b6 : Bool) : b1 = false ∨ (b1 = true ∧ b2 = false) ∨ (b1 = true ∧ b2 = true ∧ b3 = false) ∨ (b1 = true ∧ b2 = true ∧ b3 = true ∧ b4 = false) ∨ (b1 = true ∧ b2 = true ∧ b3 = true ∧ b4 = true ∧ b5 = false) ∨ (b1 = true ∧ b2 = true ∧ b3 = true ∧ b4 = true ∧ b5 = true ∧ b6 = false) ∨ (b1 = true ∧ b2 = true ∧ b3 = true ∧ b4 = true ∧ b5 = true ∧ b6 = true) := by
  cases b1 <;> cases b2 <;> cases b3 <;> cases b4 <;> cases b5 <;> cases b6 <;> simp
theorem impl_ValidHop (h : Hop) (w : World) : Calls Tryz.prog 174 #[.agg #[I h.ia, I h.ing, I h.eg, I h.exp, I h.mac]] w fun e w' => e = .returned (.bool (validHop h)) ∧ Below w.heap.size w w' := by
  rcases and6 (inR h.ia 0 7) (inR h.ing 0 6) (inR h.eg 0 6) (h.ing != h.eg) (inR h.exp 0 1000000) (inR h.mac 0 2147483646) with h1 | ⟨h1, h2⟩ | ⟨h1, h2, h3⟩ | ⟨h1, h2, h3, h4⟩ | ⟨h1, h2, h3, h4, h5⟩ | ⟨h1, h2, h3, h4, h5, h6⟩ | ⟨h1, h2, h3, h4, h5, h6⟩
  all_goals
    go_enter Tryz.func174, Tryz.ntmps174
    go_wp2_with (first | (go_at_call 109; refine (impl_InRange _ _ _ _).mono ?_; rintro e w1 ⟨rfl, rfl⟩) | (go_at_call 152; refine (impl_isResidue _ _).mono ?_; rintro e w1 ⟨rfl, rfl⟩))
    go_ret
    exact ⟨by simp [validHop, *], ext_alloc1 _ _⟩
theorem spec_ValidHop (h : Hop) (w : World) : Calls Tryz.prog 189 #[.agg #[I h.ia, I h.ing, I h.eg, I h.exp, I h.mac]] w fun e w' => e = .returned (.bool (validHop h)) ∧ Below w.heap.size w w' := by
  rcases and6 (inR h.ia 0 7) (inR h.ing 0 6) (inR h.eg 0 6) (h.ing != h.eg) (inR h.exp 0 1000000) (inR h.mac 0 2147483646) with h1 | ⟨h1, h2⟩ | ⟨h1, h2, h3⟩ | ⟨h1, h2, h3, h4⟩ | ⟨h1, h2, h3, h4, h5⟩ | ⟨h1, h2, h3, h4, h5, h6⟩ | ⟨h1, h2, h3, h4, h5, h6⟩
  all_goals
    go_enter Tryz.func189, Tryz.ntmps189
    go_wp2_with (first | (go_at_call 144; refine (spec_l1In _ _ _ _).mono ?_; rintro e w1 ⟨rfl, rfl⟩) | (go_at_call 178; refine (spec_l3Ok _ _).mono ?_; rintro e w1 ⟨rfl, rfl⟩))
    go_ret
    exact ⟨by simp [validHop, *], ext_alloc1 _ _⟩
section
variable {P : Program} {n : Nat} {ops : Array Oper} {Q : Exit → Act → World → Prop} {L : Frm} {w : World} {m : Md} {r : IT} {d : Nat} {ty : TypeId} {pos : String} {af : Array Edge}
end
theorem nilR {α : Type} {T : Ty α} {w : World} : SlR T w (.slice none 0 0) [] := (SlO.nil (e := 0) (base := 0)).read
theorem SepF.pull {b : Nat} {w : World} {o : Ow} {os : List Ow} : ∀ {l : List Ow} {fp : List Nat}, SepF b w (l ++ o :: os) fp → ∃ fp', SepF b w (o :: (l ++ os)) fp' ∧ ∀ x, x ∈ fp' → x ∈ fp
  | [], fp, h => ⟨fp, h, fun _ h => h⟩
  | o1 :: l, fp, h => by
    obtain ⟨f, g, rfl, h1, h2, h3⟩ := h; obtain ⟨g', ⟨f2, g2, rfl, k1, k2, k3⟩, h5⟩ := SepF.pull (l := l) h2; refine ⟨f2 ++ (f ++ g2), ⟨f2, f ++ g2, rfl, k1, ⟨f, g2, rfl, h1, k2, fun x hx hy => h3 x hx (h5 x (List.mem_append.2 (.inr hy)))⟩, ?_⟩, ?_⟩
    · intro x hx hy
      rcases List.mem_append.1 hy with hy | hy
      · exact h3 x hy (h5 x (List.mem_append.2 (.inl hx)))
      · exact k3 x hx hy
    · intro x hx
      simp only [List.mem_append] at hx ⊢
      rcases hx with hx | hx | hx
      · exact .inr (h5 x (List.mem_append.2 (.inl hx)))
      · exact .inl hx
      · exact .inr (h5 x (List.mem_append.2 (.inr hx)))
theorem Sep.pull {b : Nat} {w : World} {o : Ow} {os : List Ow} (l : List Ow) (h : Sep b w (l ++ o :: os)) : Sep b w (o :: (l ++ os)) := by
  obtain ⟨h1, fp, h2⟩ := h; obtain ⟨fp', h3, _⟩ := h2.pull; exact ⟨h1, fp', h3⟩
theorem Sep.f4 {b : Nat} {w : World} {o o0 o1 o2 o3 : Ow} {os : List Ow} (h : Sep b w (o0 :: o1 :: o2 :: o3 :: o :: os)) : Sep b w (o :: o0 :: o1 :: o2 :: o3 :: os) := Sep.pull [o0, o1, o2, o3] h
theorem Sep.f5 {b : Nat} {w : World} {o o0 o1 o2 o3 o4 : Ow} {os : List Ow} (h : Sep b w (o0 :: o1 :: o2 :: o3 :: o4 :: o :: os)) : Sep b w (o :: o0 :: o1 :: o2 :: o3 :: o4 :: os) := Sep.pull [o0, o1, o2, o3, o4] h
theorem Sep.f6 {b : Nat} {w : World} {o o0 o1 o2 o3 o4 o5 : Ow} {os : List Ow} (h : Sep b w (o0 :: o1 :: o2 :: o3 :: o4 :: o5 :: o :: os)) : Sep b w (o :: o0 :: o1 :: o2 :: o3 :: o4 :: o5 :: os) := Sep.pull [o0, o1, o2, o3, o4, o5] h
theorem Sep.f7 {b : Nat} {w : World} {o o0 o1 o2 o3 o4 o5 o6 : Ow} {os : List Ow} (h : Sep b w (o0 :: o1 :: o2 :: o3 :: o4 :: o5 :: o6 :: o :: os)) : Sep b w (o :: o0 :: o1 :: o2 :: o3 :: o4 :: o5 :: o6 :: os) := Sep.pull [o0, o1, o2, o3, o4, o5, o6] h
theorem Sep.f8 {b : Nat} {w : World} {o o0 o1 o2 o3 o4 o5 o6 o7 : Ow} {os : List Ow} (h : Sep b w (o0 :: o1 :: o2 :: o3 :: o4 :: o5 :: o6 :: o7 :: o :: os)) : Sep b w (o :: o0 :: o1 :: o2 :: o3 :: o4 :: o5 :: o6 :: o7 :: os) := Sep.pull [o0, o1, o2, o3, o4, o5, o6, o7] h
theorem Sep.f11 {b : Nat} {w : World} {o o0 o1 o2 o3 o4 o5 o6 o7 o8 o9 o10 : Ow} {os : List Ow} (h : Sep b w (o0 :: o1 :: o2 :: o3 :: o4 :: o5 :: o6 :: o7 :: o8 :: o9 :: o10 :: o :: os)) : Sep b w (o :: o0 :: o1 :: o2 :: o3 :: o4 :: o5 :: o6 :: o7 :: o8 :: o9 :: o10 :: os) := Sep.pull [o0, o1, o2, o3, o4, o5, o6, o7, o8, o9, o10] h
/-- The cursor's box: the bytes, some place in them, some number. -/
def curO (v : Value) (n : Nat) (g : Nat) (t : TypeId) : Ow where
  P b w fp := fp = [g] ∧ b ≤ g ∧ ∃ i h : Int, 0 ≤ i ∧ i ≤ (n : Int) ∧ w.heap[g]? = some (.cells #[v, I i, I h] t (0, 0))
  lt := by
    rintro b w fp ⟨rfl, h2, i, h, _, _, h3⟩ x hx
    simp at hx
    subst hx; exact ⟨h2, (Array.getElem?_eq_some_iff.1 h3).1⟩
  keep := by
    rintro b w w' fp ⟨h1, h2, i, h, h4, h5, h3⟩ k; exact ⟨h1, h2, i, h, h4, h5, by rw [k _ (by rw [h1]; simp)]; exact h3⟩
  mono := by
    rintro b b' w fp hb ⟨h1, h2, h3⟩; exact ⟨h1, by omega, h3⟩
section
variable {b : Nat} {w : World} {os : List Ow} {v : Value} {n g : Nat} {t : TypeId}
theorem Sep.curOpen (S : Sep b w (curO v n g t :: os)) : ∃ i h : Int, 0 ≤ i ∧ i ≤ (n : Int) ∧ Sep b w (bxO g t #[v, I i, I h] :: os) := by
  obtain ⟨fp, h1, h2, i, h, h4, h5, h3⟩ := S.head; refine ⟨i, h, h4, h5, S.conv fun f hf => ?_⟩; obtain ⟨k1, k2, _⟩ := hf; exact ⟨k1, k2, h3⟩
theorem Sep.curShut {i h : Int} (S : Sep b w (bxO g t #[v, I i, I h] :: os)) (h0 : 0 ≤ i) (h1 : i ≤ (n : Int)) : Sep b w (curO v n g t :: os) :=
  S.conv fun f ⟨k1, k2, k3⟩ => ⟨k1, k2, i, h, h0, h1, k3⟩
end
theorem i64_and255 (n : Int) : bits .and .i64 n 255 = n % 256 := by
  have h255 : (BitVec.ofInt 64 255).toNat = 2 ^ 8 - 1 := by decide
  have key : (BitVec.ofInt 64 n &&& BitVec.ofInt 64 255).toNat = (n % ((2 ^ 64 : Nat) : Int)).toNat % 2 ^ 8 := by
    rw [BitVec.toNat_and, BitVec.toNat_ofInt, h255, Nat.and_two_pow_sub_one_eq_mod]
  show IntKind.i64.wrap ((BitVec.ofInt 64 n &&& BitVec.ofInt 64 255).toNat : Nat) = n % 256
  rw [key, IntKind.wrap_i64]
  omega
section
variable {P : Program} {n : Nat} {ops : Array Oper} {Q : Exit → Act → World → Prop} {L : Frm} {w : World} {m : Md} {r : IT} {d : Nat} {ty : TypeId} {pos : String} {af : Array Edge}
theorem t_and255 {x y : Operand} {t t' : TypeId} {a : Int} (hx : ev L x = some (I a)) (hy : ev L y = some (I 255)) (k : WT P n ops Q r ((d, I (a % 256)) :: L) w) (hn : Nat.blt d n = true) : WT P n ops Q (.st m ⟨some d, .binOp .and t x y t', ty, pos, af, none⟩ r) L w :=
  t_read (fun e ha _ _ _ w' _ => by simp [execOp, ha.ev hx, ha.ev hy, eqGuard, binOp, intBits_and, i64_and255]) k hn
theorem t_bitA {op : BinOp} (ho : op = .and ∨ op = .xor ∨ op = .or) {x y : Operand} {t t' : TypeId} {a b : Int} (hx : ev L x = some (I a)) (hy : ev L y = some (I b)) (k : ∀ z, WT P n ops Q r ((d, I z) :: L) w) (hn : Nat.blt d n = true) : WT P n ops Q (.st m ⟨some d, .binOp op t x y t', ty, pos, af, none⟩ r) L w := by
  rcases ho with rfl | rfl | rfl
  all_goals exact t_read (fun e ha _ _ _ w' _ => by simp [execOp, ha.ev hx, ha.ev hy, eqGuard, binOp, Op.intBits]; rfl) (k _) hn
theorem t_shrA {x y : Operand} {t t' : TypeId} {kd : IntKind} {a c : Int} (hx : ev L x = some (I a)) (hy : ev L y = some (.int kd c)) (hc : 0 ≤ c) (k : ∀ z, WT P n ops Q r ((d, I z) :: L) w) (hn : Nat.blt d n = true) : WT P n ops Q (.st m ⟨some d, .binOp .shr t x y t', ty, pos, af, none⟩ r) L w :=
  t_read (fun e ha _ _ _ w' _ => by simp [execOp, ha.ev hx, ha.ev hy, eqGuard, binOp, shift_shr_any .i64 kd a c hc]; rfl) (k _) hn
end
section
variable {P : Program} {n : Nat} {ops : Array Oper} {Q : Exit → Act → World → Prop} {L : Frm} {w : World} {m : Md} {r : IT} {d : Nat} {ty : TypeId} {pos : String} {af : Array Edge}
theorem t_conv8 {s t : TypeId} {x : Operand} {sd : TypeDesc} {a : UInt8} (hs : P.underlying s = some sd) (ht : P.underlying t = some (.int .i64)) (hx : ev L x = some (.int .u8 (a.toNat : Int))) (k : WT P n ops Q r ((d, I (a.toNat : Int)) :: L) w) (hn : Nat.blt d n = true) : WT P n ops Q (.st m ⟨some d, .convert s t x, ty, pos, af, none⟩ r) L w := by
  have h := a.toNat_lt; have hw : IntKind.i64.wrap (a.toNat : Int) = a.toNat := wr64 (by omega); exact t_read (fun e ha _ _ _ w' _ => by simp [execOp, ha.ev hx, convert, run_underlying hs, run_underlying ht, Conv.intToInt, hw]) k hn
end
/-- The cursor's bytes can be read as_ long as_ nothing below b changes. -/
def CodeK (b : Nat) (w : World) (v : Value) (n : Nat) : Prop := n ≤ 1048576 ∧ ∃ code : List UInt8, code.length = n ∧ ∀ w', Below b w w' → SlR byteT w' v code
theorem CodeK.below {b : Nat} {w w' : World} {v : Value} {n : Nat} (K : CodeK b w v n) (B : Below b w w') : CodeK b w' v n := by
  obtain ⟨h, code, h1, h2⟩ := K; exact ⟨h, code, h1, fun w'' x => h2 w'' (B.trans x)⟩
theorem CodeK.of {w : World} {v : Value} {code : List UInt8} (h : SlR byteT w v code) (hz : code.length ≤ 1048576) : CodeK w.heap.size w v code.length := ⟨hz, code, rfl, fun w' x => h.below x⟩
section
variable {P : Program} {n : Nat} {ops : Array Oper} {Q : Exit → Act → World → Prop} {L : Frm} {w : World} {m : Md} {r : IT} {d : Nat} {ty : TypeId} {pos : String} {af : Array Edge}
theorem t_nilc {x : Operand} {p : Addr} (hx : ev L x = some (.pointer (some p))) (k : WT P n ops Q r ((d, .pointer (some p)) :: L) w) (hn : Nat.blt d n = true) : WT P n ops Q (.st m ⟨some d, .nilCheck x, ty, pos, af, none⟩ r) L w :=
  t_read (fun e ha _ _ _ w' _ => by simp [execOp, ha.ev hx]) k hn
end
theorem fb_cur_0 : fieldB Tryz.prog 123 0 = some 0 := by kernel_rfl
theorem fb_cur_1 : fieldB Tryz.prog 123 1 = some 1 := by kernel_rfl
theorem fb_cur_2 : fieldB Tryz.prog 123 2 = some 2 := by kernel_rfl
theorem b_cur (A : Option Addr) (n c : Nat) (h : Int) (w : World) : (Instr.build 123 #[(0, .slice A n c), (2, I h)]).run Tryz.prog w = .ok (.agg #[.slice A n c, I 0, I h]) w := by kernel_rfl
theorem spec_l1Byte {b n c : Nat} {w : World} {v : Value} {os : List Ow} (S : Sep b w (curO v n c 123 :: os)) (K : CodeK b w v n) : Calls Tryz.prog 121 #[.pointer (some ⟨c, 0, none⟩)] w fun e w' => ∃ x : Int, e = .returned (I x) ∧ (0 ≤ x ∧ x < 256) ∧ Sep b w' (curO v n c 123 :: os) ∧ Below b w w' := by
 obtain ⟨hz, code, rfl, hK⟩ := K; obtain ⟨i, h, hi0, hin, S⟩ := S.curOpen; have X0 := Below.refl w.heap.size w; refine enter Tryz.func121 rfl Tryz.ntmps121 rfl ?_; have B := Below.refl b w; have Hb := S.base; refine w_h ?_; refine t_a rfl ?_ rfl; refine t_k ?_; (iterate 2 refine t_m rfl ?_ rfl); refine t_nilc rfl ?_ rfl; refine t_y fb_cur_2 rfl rfl ?_ rfl; refine t_bx1 S.box ab_int rfl rfl ?_ rfl; refine t_mulw rfl rfl ?_ rfl; refine t_addw rfl rfl ?_ rfl; refine t_nilc rfl ?_ rfl; refine t_y fb_cur_2 rfl rfl ?_ rfl; refine t_st1 S sb_int rfl rfl rfl rfl rfl ?_; intro w1 b2 S; have B := B.trans b2; refine t_e ?_; refine w_s ?_; refine w_draw (.st .take 0 (.st .take 1 (.st .take 2 (.st .take 3 (.st .take 4 (.st .take 5 (.st .take 6 (.st .take 7 (.st .take 8 (.st .take 9 (.st .take 10 (.st .take 11 (.st .take 12 .done))))))))))))) mixed (by kernel_rfl) ?_; intro w3 x4; have B := bx Hb B x4; have S := S.below x4; refine t_m rfl ?_ rfl; refine t_nilc rfl ?_ rfl; refine t_y fb_cur_2 rfl rfl ?_ rfl; refine t_bx1 S.box ab_int rfl rfl ?_ rfl; refine t_shrA rfl rfl (by decide) ?_ rfl; intro z17; refine t_m rfl ?_ rfl; refine t_nilc rfl ?_ rfl; refine t_y fb_cur_2 rfl rfl ?_ rfl
 refine t_bx1 S.box ab_int rfl rfl ?_ rfl; refine t_shrA rfl rfl (by decide) ?_ rfl; intro z22; refine t_bitA (by simp) rfl rfl ?_ rfl; intro z23; refine t_and255 rfl rfl ?_ rfl; refine t_a rfl ?_ rfl; refine t_e' ?_; (iterate 2 refine w_s ?_); refine w_draw (.st .take 0 (.st .take 1 (.st .take 2 (.st .take 3 (.st .take 4 (.st .take 5 (.st .take 6 (.st .take 7 (.st .take 8 (.st .take 9 .done)))))))))) mixed (by kernel_rfl) ?_; intro w5 x6; have B := bx Hb B x6; have S := S.below x6; refine t_m rfl ?_ rfl; refine t_nilc rfl ?_ rfl; refine t_y fb_cur_1 rfl rfl ?_ rfl; refine t_bx1 S.box ab_int rfl rfl ?_ rfl; refine t_m rfl ?_ rfl; refine t_nilc rfl ?_ rfl; refine t_y fb_cur_0 rfl rfl ?_ rfl; refine t_bx1 S.box ab_s_byte rfl rfl ?_ rfl; refine t_len e_byte (hK _ B) rfl rfl ?_ rfl; refine t_lss rfl rfl ?_ rfl; refine t_e' ?_; refine w_if rfl ?_ ?_
 ·intro hc; refine w_s ?_; refine w_draw (.st .take 0 (.st .take 1 (.st .take 2 (.st .take 3 (.st .take 4 (.st .take 5 (.st .take 6 (.st .take 7 (.st .take 8 (.st .take 9 (.st .take 10 (.st .take 11 (.st .take 12 (.st .take 13 (.st .take 14 .done))))))))))))))) mixed (by kernel_rfl) ?_; intro w7 x8; have B := bx Hb B x8; have S := S.below x8; (iterate 2 refine t_m rfl ?_ rfl); refine t_nilc rfl ?_ rfl; refine t_y fb_cur_0 rfl rfl ?_ rfl; refine t_bx1 S.box ab_s_byte rfl rfl ?_ rfl; refine t_m rfl ?_ rfl; refine t_nilc rfl ?_ rfl; refine t_y fb_cur_1 rfl rfl ?_ rfl; refine t_bx1 S.box ab_int rfl rfl ?_ rfl; obtain ⟨e44, he44⟩ : ∃ e, (code)[i.toNat]? = some e := getx (by omega); refine t_idx e_byte (k := i.toNat) (hK _ B) he44 (Below.refl _ _) rfl rfl (by first | rfl | omega) ?_ rfl; intro p44 hp44; refine t_ldu ‹_› ab_byte (Below.refl _ _) rfl ?_ rfl; refine t_conv8 Tryz.underlying5 Tryz.underlying3 rfl ?_ rfl; refine t_addw rfl rfl ?_ rfl; refine t_and255 rfl rfl ?_ rfl; refine t_a rfl ?_ rfl; refine t_e' ?_; refine w_g ?_; (iterate 2 refine t_m rfl ?_ rfl); refine t_nilc rfl ?_ rfl; refine t_y fb_cur_1 rfl rfl ?_ rfl; refine t_bx1 S.box ab_int rfl rfl ?_ rfl
  refine t_add rfl rfl (by omega) ?_ rfl; refine t_nilc rfl ?_ rfl; refine t_y fb_cur_1 rfl rfl ?_ rfl; refine t_st1 S sb_int rfl rfl rfl rfl rfl ?_; intro w9 b10 S; have B := B.trans b10; refine t_k ?_; refine t_m rfl ?_ rfl; refine t_a rfl ?_ rfl; refine t_e ?_; refine w_r ?_; refine x_ret1 rfl rfl ?_; exact ⟨_, rfl, ⟨by omega, by omega⟩, S.curShut (by omega) (by omega), B⟩
 ·intro hc; refine w_k ?_; refine x_s ?_; refine w_h ?_; refine t_m rfl ?_ rfl; refine t_a rfl ?_ rfl; refine t_e ?_; refine w_r ?_; refine x_ret1 rfl rfl ?_; exact ⟨_, rfl, ⟨by omega, by omega⟩, S.curShut (by omega) (by omega), B⟩
theorem spec_l1Below {b n c : Nat} {w : World} {v : Value} {os : List Ow} (m : Int) (S : Sep b w (curO v n c 123 :: os)) (K : CodeK b w v n) : Calls Tryz.prog 68 #[.pointer (some ⟨c, 0, none⟩), I m] w fun e w' => ∃ x : Int, e = .returned (I x) ∧ (0 ≤ x ∧ (x < m ∨ x = 0)) ∧ Sep b w' (curO v n c 123 :: os) ∧ Below b w w' := by
 have X0 := Below.refl w.heap.size w; refine enter Tryz.func68 rfl Tryz.ntmps68 rfl ?_; have B := Below.refl b w; have Hb := S.base; refine w_h ?_; refine t_a rfl ?_ rfl; refine t_e ?_; (iterate 2 refine w_s ?_); refine w_g ?_; refine t_m rfl ?_ rfl; refine t_leq rfl rfl ?_ rfl; refine t_e ?_; refine w_if rfl ?_ ?_
 ·intro hc; refine w_h ?_; refine t_a rfl ?_ rfl; refine t_e ?_; refine w_r ?_; refine x_t ?_; refine x_ret1 rfl rfl ?_; exact ⟨_, rfl, ⟨by omega, by omega⟩, S, B⟩
 ·intro hc; refine w_k ?_; refine x_s ?_; (iterate 2 refine w_s ?_); refine w_g ?_; refine t_m rfl ?_ rfl; refine t_leq rfl rfl ?_ rfl; refine t_e ?_; refine w_if rfl ?_ ?_
  ·intro hc2; refine w_h ?_; refine t_m rfl ?_ rfl; refine t_f Tryz.call121 rfl (spec_l1Byte S (K.below B)) ?_ rfl; rintro e w11 ⟨y13, rfl, hf13, S, x12⟩; refine ⟨_, rfl, ?_⟩; have B := B.trans x12; refine t_m rfl ?_ rfl; refine t_rem rfl rfl (by omega) ?_ rfl; refine t_a rfl ?_ rfl; refine t_e ?_; refine w_r ?_; refine x_t ?_; refine x_ret1 rfl rfl ?_; exact ⟨_, rfl, ⟨Int.emod_nonneg _ (by omega), .inl (Int.emod_lt_of_pos _ (by omega))⟩, S, B⟩
  ·intro hc2; refine w_k ?_; refine x_s ?_; refine w_h ?_; refine t_m rfl ?_ rfl; refine t_f Tryz.call121 rfl (spec_l1Byte S (K.below B)) ?_ rfl; rintro e w13 ⟨y17, rfl, hf17, S, x14⟩; refine ⟨_, rfl, ?_⟩; have B := B.trans x14; refine t_a rfl ?_ rfl; refine t_k ?_; refine t_m rfl ?_ rfl; refine t_f Tryz.call121 rfl (spec_l1Byte S (K.below B)) ?_ rfl; rintro e w15 ⟨y19, rfl, hf19, S, x16⟩; refine ⟨_, rfl, ?_⟩; have B := B.trans x16; refine t_a rfl ?_ rfl; refine t_k ?_; refine t_m rfl ?_ rfl; refine t_f Tryz.call121 rfl (spec_l1Byte S (K.below B)) ?_ rfl; rintro e w17 ⟨y21, rfl, hf21, S, x18⟩; refine ⟨_, rfl, ?_⟩; have B := B.trans x18; refine t_a rfl ?_ rfl; refine t_k ?_; refine t_m rfl ?_ rfl; refine t_mul rfl rfl (by omega) ?_ rfl; refine t_m rfl ?_ rfl; refine t_mul rfl rfl (by omega) ?_ rfl; refine t_add rfl rfl (by omega) ?_ rfl; refine t_m rfl ?_ rfl; refine t_add rfl rfl (by omega) ?_ rfl; refine t_m rfl ?_ rfl; refine t_rem rfl rfl (by omega) ?_ rfl; refine t_a rfl ?_ rfl; refine t_e ?_; refine w_r ?_; refine x_ret1 rfl rfl ?_; exact ⟨_, rfl, ⟨Int.emod_nonneg _ (by omega), .inl (Int.emod_lt_of_pos _ (by omega))⟩, S, B⟩
theorem spec_l1Once {b n c : Nat} {w : World} {v : Value} {os : List Ow} (m : Int) (S : Sep b w (curO v n c 123 :: os)) (K : CodeK b w v n) : Calls Tryz.prog 70 #[.pointer (some ⟨c, 0, none⟩), I m] w fun e w' => ∃ x : Int, e = .returned (.bool (decide (x = 0))) ∧ True ∧ Sep b w' (curO v n c 123 :: os) ∧ Below b w w' := by
  have X0 := Below.refl w.heap.size w; refine enter Tryz.func70 rfl Tryz.ntmps70 rfl ?_; have B := Below.refl b w; have Hb := S.base; refine w_h ?_; refine t_a rfl ?_ rfl; refine t_k ?_; (iterate 2 refine t_m rfl ?_ rfl); refine t_f Tryz.call68 rfl (spec_l1Below m S (K.below B)) ?_ rfl; rintro e w19 ⟨y7, rfl, hf7, S, x20⟩; refine ⟨_, rfl, ?_⟩; have B := B.trans x20; refine t_eql rfl rfl ?_ rfl; refine t_a rfl ?_ rfl; refine t_e ?_; refine w_r ?_; refine x_ret1 rfl rfl ?_; exact ⟨_, rfl, trivial, S, B⟩
theorem spec_l1New (code : List UInt8) (v : Value) (w : World) (h : SlR byteT w v code) (hz : code.length ≤ 1048576) : Calls Tryz.prog 59 #[v] w fun e w' => ∃ g fp, e = .returned (.pointer (some ⟨g, 0, none⟩)) ∧ (curO v code.length g 123).P w.heap.size w' fp ∧ Ext w w' := by
 have X0 := Below.refl w.heap.size w; refine enter Tryz.func59 rfl Tryz.ntmps59 rfl ?_; refine w_h ?_; have S := Sep.nil w; have B := Below.refl w.heap.size w; have Hb := Nat.le_refl w.heap.size; refine t_a rfl ?_ rfl; refine t_k ?_; refine t_m rfl ?_ rfl; refine t_len e_byte ‹_› rfl rfl ?_ rfl; refine t_addw rfl rfl ?_ rfl; refine t_a rfl ?_ rfl; refine t_e ?_; (iterate 2 refine w_s ?_); refine w_g ?_; refine t_a rfl ?_ rfl; refine t_e ?_; refine w_block ?_; refine w_loop (X := Nat × Int) (fun x wq => (fun i h => i ≤ code.length ∧ Below w.heap.size w wq ∧ Sep w.heap.size wq []) x.1 x.2) (fun x => (fun i h => [(4, I ((i : Int))), (3, I h), (0, v), (2, .pointer none)]) x.1 x.2) (fun x => (fun i h => code.length - i) x.1 x.2) (0, _) ?_ ⟨rfl, rfl, rfl, rfl, trivial⟩ ?_
 ·exact ⟨by omega, B, S⟩
 rintro ⟨i, h⟩ w23 hI; (try dsimp only at hI ⊢)
 ·obtain ⟨hi, B, S⟩ := hI; (iterate 2 refine w_s ?_); refine w_g ?_; (iterate 2 refine t_m rfl ?_ rfl); refine t_len e_byte ‹_› rfl rfl ?_ rfl; refine t_lss rfl rfl ?_ rfl; refine t_m rfl ?_ rfl; refine t_partp (t := 12) rfl ?_ ?_
  ·intro hp; refine t_on rfl rfl ?_; refine t_m rfl ?_ rfl; refine t_on rfl rfl ?_; refine t_lss rfl rfl ?_ rfl; refine t_q rfl rfl ?_ rfl; refine t_e ?_; refine w_if rfl ?_ ?_
   ·intro hc; refine w_k ?_; refine x_s ?_; refine w_s ?_; refine w_block ?_; refine w_g ?_; refine t_m rfl ?_ rfl; refine t_mulw rfl rfl ?_ rfl; (iterate 2 refine t_m rfl ?_ rfl); obtain ⟨e22, he22⟩ : ∃ e, (code)[i]? = some e := getx (by omega); refine t_idx e_byte (k := i) ‹_› he22 B rfl rfl (by first | rfl | omega) ?_ rfl; intro p22 hp22; refine t_ldu ‹_› ab_byte B rfl ?_ rfl; refine t_conv8 Tryz.underlying5 Tryz.underlying3 rfl ?_ rfl; (iterate 2 refine t_addw rfl rfl ?_ rfl); refine t_bitA (by simp) rfl rfl ?_ rfl; intro z27; refine t_a rfl ?_ rfl; refine t_d ?_; refine x_b ?_; refine x_s ?_; refine w_g ?_; refine t_m rfl ?_ rfl; refine t_add rfl rfl (by omega) ?_ rfl; refine t_a rfl ?_ rfl; refine t_d ?_; refine x_r (X := Nat × Int) (i + 1, z27) ?_ (by exact ⟨rfl, rfl, rfl, rfl, trivial⟩) (by (try dsimp only); omega); (try dsimp only)
    ·exact ⟨by omega, B, S⟩
   ·intro hc; refine w_exit ?_; (iterate 2 refine x_then_exit ?_); refine x_block_exit ?_; refine x_s ?_; refine w_h ?_; (iterate 2 refine t_m rfl ?_ rfl); obtain ⟨Av, cv, rfl, _⟩ := SlR.form ‹_›; refine t_g (fun w => b_cur _ _ _ _ w) rfl ?_ rfl; refine t_boxo S rfl rfl ?_ rfl rfl; intro g31 w24 x25 S; have B := bx Hb B x25; refine t_a rfl ?_ rfl; refine t_e ?_; refine w_r ?_; refine x_ret1 rfl rfl ?_; have S := S.curShut (n := code.length) (by omega) (by omega); obtain ⟨fp, hO⟩ := (S.mono X0.size).head; exact ⟨_, fp, rfl, hO, ext_trans X0 B⟩
  ·intro hp; (iterate 2 refine t_off rfl rfl rfl ?_ rfl); refine t_p rfl rfl ?_ rfl; refine t_e ?_; refine w_no rfl ?_; refine w_exit ?_; (iterate 2 refine x_then_exit ?_); refine x_block_exit ?_; refine x_s ?_; refine w_h ?_; (iterate 2 refine t_m rfl ?_ rfl); obtain ⟨Av, cv, rfl, _⟩ := SlR.form ‹_›; refine t_g (fun w => b_cur _ _ _ _ w) rfl ?_ rfl; refine t_boxo S rfl rfl ?_ rfl rfl; intro g31 w26 x27 S; have B := bx Hb B x27; refine t_a rfl ?_ rfl; refine t_e ?_; refine w_r ?_; refine x_ret1 rfl rfl ?_; have S := S.curShut (n := code.length) (by omega) (by omega); obtain ⟨fp, hO⟩ := (S.mono X0.size).head; exact ⟨_, fp, rfl, hO, ext_trans X0 B⟩
/-- A link ends at an interface of an AS. -/
def ends (l : Lnk) (r d : Int) : Bool := (l.a == r && l.ai == d) || (l.b == r && l.bi == d)
/-- The place of the first link that does, -1 if there is none. -/
def findL (l : List Lnk) (r d : Int) : Option Nat := l.findIdx? fun x => ends x r d
def idxI (o : Option Nat) : Int := match o with
  | none => -1
  | some i => i
theorem impl_ends (l : Lnk) (r d : Int) (w : World) : Calls Tryz.prog 120 #[.agg #[I l.a, I l.ai, I l.b, I l.bi, I l.kind], I r, I d] w fun e w' => e = .returned (.bool (ends l r d)) ∧ Below w.heap.size w w' := by
  obtain ⟨q, Hq⟩ : ∃ q, Hid (q = ends l r d) := ⟨_, rfl⟩; rw [← Hq.out]
  cases h1 : (l.a == r) <;> cases h2 : (l.ai == d) <;> cases h3 : (l.b == r) <;> cases h4 : (l.bi == d)
  all_goals
    go_enter Tryz.func120, Tryz.ntmps120
    go_wp2
    go_ret
    exact ⟨by rw [Hq.out]; simp [ends, h1, h2, h3, h4], ext_alloc1 _ _⟩
theorem spec_ends (l : Lnk) (r d : Int) (w : World) : Calls Tryz.prog 185 #[.agg #[I l.a, I l.ai, I l.b, I l.bi, I l.kind], I r, I d] w fun e w' => e = .returned (.bool (ends l r d)) ∧ Below w.heap.size w w' := by
  obtain ⟨q, Hq⟩ : ∃ q, Hid (q = ends l r d) := ⟨_, rfl⟩; rw [← Hq.out]
  cases h1 : (l.a == r) <;> cases h2 : (l.ai == d) <;> cases h3 : (l.b == r) <;> cases h4 : (l.bi == d)
  all_goals
    go_enter Tryz.func185, Tryz.ntmps185
    go_wp2
    go_ret
    exact ⟨by rw [Hq.out]; simp [ends, h1, h2, h3, h4], ext_alloc1 _ _⟩
theorem findL_step {l : List Lnk} {r d : Int} {k : Nat} {x : Lnk} (h : (l.take k).all (fun y => !ends y r d) = true) (hx : l[k]? = some x) (hf : ends x r d = false) : (l.take (k + 1)).all (fun y => !ends y r d) = true := by
  rw [take_succ hx, List.all_append, h]; simp [hf]
theorem findL_hit {l : List Lnk} {r d : Int} {k : Nat} {x : Lnk} (h : (l.take k).all (fun y => !ends y r d) = true) (hx : l[k]? = some x) (hf : ends x r d = true) : findL l r d = some k := by
  unfold findL
  rw [List.findIdx?_eq_some_iff_getElem]; obtain ⟨hlt, rfl⟩ := List.getElem?_eq_some_iff.1 hx; refine ⟨hlt, by simpa using hf, fun j hj => ?_⟩; rw [List.all_eq_true] at h; have := h (l[j]'(by omega)) (List.mem_take_iff_getElem.2 ⟨j, by omega, rfl⟩)
  simpa using this
theorem findL_none {l : List Lnk} {r d : Int} (h : l.all (fun y => !ends y r d) = true) : findL l r d = none := by
  unfold findL
  rw [List.findIdx?_eq_none_iff]; intro x hx; rw [List.all_eq_true] at h
  simpa using h x hx
theorem findL_at {l : List Lnk} {r d : Int} {k : Nat} (h : findL l r d = some k) : ∃ x, l[k]? = some x ∧ ends x r d = true := by
  unfold findL at h
  rw [List.findIdx?_eq_some_iff_getElem] at h; obtain ⟨hlt, h1, _⟩ := h; exact ⟨_, List.getElem?_eq_getElem hlt, h1⟩
theorem impl_LinkIndex (t : Topo) (cs : List Value) (r d : Int) (w : World) (h : topoT.R w cs t) (hz : sz_topo t ≤ 1048576) : Calls Tryz.prog 67 #[.agg cs.toArray, I r, I d] w fun e w' => e = .returned (I (idxI (findL t.links r d))) ∧ Below w.heap.size w w' := by
  obtain ⟨A0, cA0, A1, cA1, rfl, ⟨_, _⟩, ⟨h, _⟩⟩ := topo_form h; obtain ⟨n, H⟩ : ∃ n, Hid (n = t.links.length) := ⟨_, rfl⟩
  have hn : n ≤ 1048576 := by rw [H.out]; unfold sz_topo at hz; omega
  obtain ⟨y, Hy⟩ : ∃ y, Hid (y = findL t.links r d) := ⟨_, rfl⟩; rw [← Hy.out]; clear hz; rw [← H.out] at h ⊢
  go_enter Tryz.func67, Tryz.ntmps67
  go_wp2
  go_loopw [12] (fun i wr => ∃ k : Nat, k ≤ n ∧ i = I k ∧ (t.links.take k).all (fun y => !ends y r d) = true ∧ Below w.heap.size w wr) (fun i _ => n - (intOf i).toNat)
  case atStart => exact ⟨0, by omega, rfl, rfl, ext_alloc1 _ _⟩
  case round =>
    obtain ⟨k, hk, rfl, hall, hb⟩ := hrel; have Ha := hid hall; clear hall
    by_cases hlt : k < n
    · obtain ⟨g, o, q, x, e, hg, hxk, c0, c1, c2, c3, c4⟩ := link_at (h.below hb) (by rw [← H.out]; exact hlt)
      rw [← H.out] at e; cases e
      go_wp2_with (fail)
      refine (impl_ends x r d _).mono ?_; rintro e w1 ⟨rfl, hb1⟩; cases hv : ends x r d
      · go_wp2_with (fail)
        go_roundw
        case rel => exact ⟨k + 1, by omega, by go_num, findL_step Ha.out hxk.out hv, ext_trans (ext_alloc hb _) hb1⟩
        case measure => simp [intOf]; omega
      · go_wp2_with (fail)
        go_ret
        exact ⟨by rw [Hy.out, findL_hit Ha.out hxk.out hv]; rfl, ext_trans (ext_alloc hb _) hb1⟩
    · go_wp2
      go_ret
      have hkn : k = n := by omega
      have h1 := Ha.out; rw [List.take_of_length_le (by rw [← H.out]; omega)] at h1; exact ⟨by rw [Hy.out, findL_none h1]; rfl, hb⟩
theorem spec_LinkIndex (t : Topo) (cs : List Value) (r d : Int) (w : World) (h : topoT.R w cs t) (hz : sz_topo t ≤ 1048576) : Calls Tryz.prog 168 #[.agg cs.toArray, I r, I d] w fun e w' => e = .returned (I (idxI (findL t.links r d))) ∧ Below w.heap.size w w' := by
  obtain ⟨A0, cA0, A1, cA1, rfl, ⟨_, _⟩, ⟨h, _⟩⟩ := topo_form h; obtain ⟨n, H⟩ : ∃ n, Hid (n = t.links.length) := ⟨_, rfl⟩
  have hn : n ≤ 1048576 := by rw [H.out]; unfold sz_topo at hz; omega
  obtain ⟨y, Hy⟩ : ∃ y, Hid (y = findL t.links r d) := ⟨_, rfl⟩; rw [← Hy.out]; clear hz; rw [← H.out] at h ⊢
  have P0 : Hid ((w.alloc (.cells #[.slice A0 t.ases.length cA0, .slice A1 n cA1] 27)).cell? ⟨w.heap.size, 1, none⟩ = some (.slice A1 n cA1)) := by show _ = _; simp
  go_enter Tryz.func168, Tryz.ntmps168
  go_wp2
  go_loopw [7] (fun i wr => ∃ k : Nat, k ≤ n ∧ i = I k ∧ (t.links.take k).all (fun y => !ends y r d) = true ∧ Below w.heap.size w wr ∧ wr.cell? ⟨w.heap.size, 1, none⟩ = some (.slice A1 n cA1)) (fun i _ => n - (intOf i).toNat)
  case atStart => exact ⟨0, by omega, rfl, rfl, ext_alloc1 _ _, P0.out⟩
  case round =>
    obtain ⟨k, hk, rfl, hall, hb, p0⟩ := hrel; have Ha := hid hall; clear hall P0
    by_cases hlt : k < n
    · obtain ⟨g, o, q, x, e, hg, hxk, c0, c1, c2, c3, c4⟩ := link_at (h.below hb) (by rw [← H.out]; exact hlt)
      rw [← H.out] at e; cases e
      go_wp2_with (fail)
      refine (spec_ends x r d _).mono ?_; rintro e w1 ⟨rfl, hb1⟩; have p1 := ck hb1 p0; cases hv : ends x r d
      · go_wp2_with (fail)
        go_roundw
        case rel => exact ⟨k + 1, by omega, by go_num, findL_step Ha.out hxk.out hv, ext_trans hb hb1, p1⟩
        case measure => simp [intOf]; omega
      · go_wp2_with (fail)
        go_ret
        exact ⟨by rw [Hy.out, findL_hit Ha.out hxk.out hv]; rfl, ext_trans hb hb1⟩
    · go_wp2
      go_ret
      have hkn : k = n := by omega
      have h1 := Ha.out; rw [List.take_of_length_le (by rw [← H.out]; omega)] at h1; exact ⟨by rw [Hy.out, findL_none h1]; rfl, hb⟩
/-- What is at the other end of an interface. -/
def ifKind (t : Topo) (r d : Int) : Int :=
  if d = 0 then 5 else match (findL t.links r d).bind (t.links[·]?) with
    | none => 0
    | some l => if l.kind = 1 then 1 else if l.kind = 3 then 4 else if l.kind = 2 then (if l.a = r ∧ l.ai = d then 2 else 3) else 0
theorem kind4 (k : Int) : k = 1 ∨ k = 3 ∨ k = 2 ∨ ((k == 1) = false ∧ (k == 3) = false ∧ (k == 2) = false ∧ (k != 2) = true) := by
  simp only [beq_eq_false_iff_ne, bne_iff_ne, ne_eq]; omega
set_option maxRecDepth 100000 in
theorem impl_ifKind (t : Topo) (cs : List Value) (r d : Int) (w : World) (h : topoT.R w cs t) (hz : sz_topo t ≤ 1048576) : Calls Tryz.prog 17 #[.agg cs.toArray, I r, I d] w fun e w' => e = .returned (I (ifKind t r d)) ∧ Below w.heap.size w w' := by
 obtain ⟨A0, cA0, A1, cA1, rfl, ⟨_, _⟩, ⟨hl, _⟩⟩ := topo_form h; have hb0 : Below w.heap.size w (w.alloc (.cells #[.slice A0 t.ases.length cA0, .slice A1 t.links.length cA1] 27)) := ext_alloc1 _ _; obtain ⟨y, Hy⟩ : ∃ y, Hid (y = ifKind t r d) := ⟨_, rfl⟩; rw [← Hy.out]
 have hn : t.links.length ≤ 1048576 := by unfold sz_topo at hz; omega
 by_cases hd : d = 0
 ·have HY : Hid (y = 5) := by show y = _; rw [Hy.out]; simp [ifKind, hd]
  subst hd
  go_enter Tryz.func17, Tryz.ntmps17
  go_wp2
  go_ret
  exact ⟨by rw [HY.out]; rfl, hb0⟩
 ·have hdb : (d == 0) = false := by simpa using hd
  have HC := hid (impl_LinkIndex t _ r d _ (topoT.kp h hb0) hz); cases hf : findL t.links r d with
  | none =>
   have HY : Hid (y = 0) := by show y = _; rw [Hy.out]; simp [ifKind, hd, hf]
   rw [hf] at HC
   change Hid (Calls _ _ _ _ fun e w' => e = .returned (I (-1)) ∧ _) at HC
   clear hf hd
   go_enter Tryz.func17, Tryz.ntmps17
   go_wp2_with (fail)
   refine HC.out.mono ?_; rintro e w1 ⟨rfl, hb1⟩
   go_wp2_with (fail)
   go_ret
   exact ⟨by rw [HY.out]; rfl, ext_trans hb0 hb1⟩
  | some i =>
   obtain ⟨x, hxi, hxe⟩ := findL_at hf; have hi : i < t.links.length := (List.getElem?_eq_some_iff.1 hxi).1
   have HY : Hid (y = if x.kind = 1 then 1 else if x.kind = 3 then 4 else if x.kind = 2 then (if x.a = r ∧ x.ai = d then 2 else 3) else 0) := by
    show y = _; rw [Hy.out]; simp [ifKind, hd, hf, hxi]
   rw [hf] at HC
   change Hid (Calls _ _ _ _ fun e w' => e = .returned (I (i : Int)) ∧ _) at HC
   obtain ⟨g, o, q, x', e, hg, hxk, c0, c1, c2, c3, c4⟩ := link_at hl hi
   obtain rfl : x' = x := by have := hxk.out; rw [this] at hxi; injection hxi
   cases e
   have hi0 : ¬ (i : Int) < 0 := by omega
   clear hf hd hxe hxi Hy hl
   go_enter Tryz.func17, Tryz.ntmps17
   go_wp2_with (fail)
   refine HC.out.mono ?_; rintro e w1 ⟨rfl, hb1⟩; have x1 := ext_trans hb0 hb1; have p1 : w1.cell? ⟨w.heap.size, 1, none⟩ = some (.slice (some ⟨g, o, none⟩) t.links.length cA1) := ck hb1 (by simp); replace c0 := ck x1 c0; replace c1 := ck x1 c1; replace c2 := ck x1 c2; replace c3 := ck x1 c3; replace c4 := ck x1 c4; clear HC hb0 hb1
   rcases kind4 x'.kind with hk | hk | hk | ⟨k1, k2, k3, k4⟩
   ·rw [hk] at c4
    have HZ : Hid (y = 1) := by show y = _; rw [HY.out, hk]; rfl
    clear hk
    go_wp2_with (fail)
    go_ret
    exact ⟨by rw [HZ.out]; rfl, ext_alloc x1 _⟩
   ·rw [hk] at c4
    have HZ : Hid (y = 4) := by show y = _; rw [HY.out, hk]; rfl
    clear hk
    go_wp2_with (fail)
    go_ret
    exact ⟨by rw [HZ.out]; rfl, ext_alloc x1 _⟩
   ·rw [hk] at c4
    by_cases ha : x'.a = r
    ·have hab : (x'.a == r) = true := by simp [ha]
     by_cases hb : x'.ai = d
     ·have hbb : (x'.ai == d) = true := by simp [hb]
      have HZ : Hid (y = 2) := by show y = _; rw [HY.out, hk]; simp [ha, hb]
      clear hk ha hb
      go_wp2_with (fail)
      go_ret
      exact ⟨by rw [HZ.out]; rfl, ext_alloc x1 _⟩
     ·have hbb : (x'.ai == d) = false := by simp [hb]
      have HZ : Hid (y = 3) := by show y = _; rw [HY.out, hk]; simp [hb]
      clear hk ha hb
      go_wp2_with (fail)
      go_ret
      exact ⟨by rw [HZ.out]; rfl, ext_alloc x1 _⟩
    ·have hab : (x'.a == r) = false := by simp [ha]
     have HZ : Hid (y = 3) := by show y = _; rw [HY.out, hk]; simp [ha]
     clear hk ha
     go_wp2_with (fail)
     go_ret
     exact ⟨by rw [HZ.out]; rfl, ext_alloc x1 _⟩
   ·have HZ : Hid (y = 0) := by
     show y = _
     rw [HY.out]
     simp only [beq_eq_false_iff_ne, ne_eq] at k1 k2 k3
     simp [k1, k2, k3]
    go_wp2_with (fail)
    go_ret
    exact ⟨by rw [HZ.out]; rfl, ext_alloc x1 _⟩
set_option maxRecDepth 100000 in
theorem spec_ifKind (t : Topo) (cs : List Value) (r d : Int) (w : World) (h : topoT.R w cs t) (hz : sz_topo t ≤ 1048576) : Calls Tryz.prog 167 #[.agg cs.toArray, I r, I d] w fun e w' => e = .returned (I (ifKind t r d)) ∧ Below w.heap.size w w' := by
 obtain ⟨A0, cA0, A1, cA1, rfl, ⟨_, _⟩, ⟨hl, _⟩⟩ := topo_form h; have hb0 : Below w.heap.size w (w.alloc (.cells #[.slice A0 t.ases.length cA0, .slice A1 t.links.length cA1] 27)) := ext_alloc1 _ _; obtain ⟨y, Hy⟩ : ∃ y, Hid (y = ifKind t r d) := ⟨_, rfl⟩; rw [← Hy.out]
 have hn : t.links.length ≤ 1048576 := by unfold sz_topo at hz; omega
 by_cases hd : d = 0
 ·have HY : Hid (y = 5) := by show y = _; rw [Hy.out]; simp [ifKind, hd]
  subst hd
  go_enter Tryz.func167, Tryz.ntmps167
  go_wp2
  go_ret
  exact ⟨by rw [HY.out]; rfl, hb0⟩
 ·have hdb : (d == 0) = false := by simpa using hd
  have HC := hid (spec_LinkIndex t _ r d _ (topoT.kp h hb0) hz); cases hf : findL t.links r d with
  | none =>
   have HY : Hid (y = 0) := by show y = _; rw [Hy.out]; simp [ifKind, hd, hf]
   rw [hf] at HC
   change Hid (Calls _ _ _ _ fun e w' => e = .returned (I (-1)) ∧ _) at HC
   clear hf hd
   go_enter Tryz.func167, Tryz.ntmps167
   go_wp2_with (fail)
   refine HC.out.mono ?_; rintro e w1 ⟨rfl, hb1⟩
   go_wp2_with (fail)
   go_ret
   exact ⟨by rw [HY.out]; rfl, ext_trans hb0 hb1⟩
  | some i =>
   obtain ⟨x, hxi, hxe⟩ := findL_at hf; have hi : i < t.links.length := (List.getElem?_eq_some_iff.1 hxi).1
   have HY : Hid (y = if x.kind = 1 then 1 else if x.kind = 3 then 4 else if x.kind = 2 then (if x.a = r ∧ x.ai = d then 2 else 3) else 0) := by
    show y = _; rw [Hy.out]; simp [ifKind, hd, hf, hxi]
   rw [hf] at HC
   change Hid (Calls _ _ _ _ fun e w' => e = .returned (I (i : Int)) ∧ _) at HC
   obtain ⟨g, o, q, x', e, hg, hxk, c0, c1, c2, c3, c4⟩ := link_at hl hi
   obtain rfl : x' = x := by have := hxk.out; rw [this] at hxi; injection hxi
   cases e
   have hi0 : ¬ (i : Int) < 0 := by omega
   clear hf hd hxe hxi Hy hl
   go_enter Tryz.func167, Tryz.ntmps167
   go_wp2_with (fail)
   refine HC.out.mono ?_; rintro e w1 ⟨rfl, hb1⟩; have x1 := ext_trans hb0 hb1; have p1 : w1.cell? ⟨w.heap.size, 1, none⟩ = some (.slice (some ⟨g, o, none⟩) t.links.length cA1) := ck hb1 (by simp); replace c0 := ck x1 c0; replace c1 := ck x1 c1; replace c2 := ck x1 c2; replace c3 := ck x1 c3; replace c4 := ck x1 c4; clear HC hb0 hb1
   rcases kind4 x'.kind with hk | hk | hk | ⟨k1, k2, k3, k4⟩
   ·rw [hk] at c4
    have HZ : Hid (y = 1) := by show y = _; rw [HY.out, hk]; rfl
    clear hk
    go_wp2_with (fail)
    go_ret
    exact ⟨by rw [HZ.out]; rfl, ext_alloc x1 _⟩
   ·rw [hk] at c4
    have HZ : Hid (y = 4) := by show y = _; rw [HY.out, hk]; rfl
    clear hk
    go_wp2_with (fail)
    go_ret
    exact ⟨by rw [HZ.out]; rfl, ext_alloc x1 _⟩
   ·rw [hk] at c4
    by_cases ha : x'.a = r
    ·have hab : (x'.a == r) = true := by simp [ha]
     by_cases hb : x'.ai = d
     ·have hbb : (x'.ai == d) = true := by simp [hb]
      have HZ : Hid (y = 2) := by show y = _; rw [HY.out, hk]; simp [ha, hb]
      clear hk ha hb
      go_wp2_with (fail)
      go_ret
      exact ⟨by rw [HZ.out]; rfl, ext_alloc x1 _⟩
     ·have hbb : (x'.ai == d) = false := by simp [hb]
      have HZ : Hid (y = 3) := by show y = _; rw [HY.out, hk]; simp [hb]
      clear hk ha hb
      go_wp2_with (fail)
      go_ret
      exact ⟨by rw [HZ.out]; rfl, ext_alloc x1 _⟩
    ·have hab : (x'.a == r) = false := by simp [ha]
     have HZ : Hid (y = 3) := by show y = _; rw [HY.out, hk]; simp [ha]
     clear hk ha
     go_wp2_with (fail)
     go_ret
     exact ⟨by rw [HZ.out]; rfl, ext_alloc x1 _⟩
   ·have HZ : Hid (y = 0) := by
     show y = _
     rw [HY.out]
     simp only [beq_eq_false_iff_ne, ne_eq] at k1 k2 k3
     simp [k1, k2, k3]
    go_wp2_with (fail)
    go_ret
    exact ⟨by rw [HZ.out]; rfl, ext_alloc x1 _⟩
/-- The other end of the link of an interface. -/
def remote (t : Topo) (r d : Int) : Int × Int := match (findL t.links r d).bind (t.links[·]?) with
  | none => (-1, 0)
  | some l => if l.a = r ∧ l.ai = d then (l.b, l.bi) else (l.a, l.ai)
/-- The elements of a slice, without the slice. -/
def elsO {α : Type} (T : Ty α) (css : List (List Value)) (l : List α) : Ow where
  P b w fp := ∃ fps : List (List Nat), css.length = l.length ∧ fps.length = l.length ∧ (∀ (i : Nat) cs a f, css[i]? = some cs → l[i]? = some a → fps[i]? = some f → T.O b w cs a f) ∧ fp = fps.flatten ∧ fp.Nodup
  lt := by
    rintro b w fp ⟨fps, h1, h2, h4, rfl, h6⟩ x hx; obtain ⟨f, hf, hxf⟩ := List.mem_flatten.1 hx; obtain ⟨i, hi, rfl⟩ := List.getElem_of_mem hf; exact T.lt _ _ _ _ _ (h4 i _ _ _ (List.getElem?_eq_getElem (by omega)) (List.getElem?_eq_getElem (by omega)) (List.getElem?_eq_getElem hi)) x hxf
  keep := by
    rintro b w w' fp ⟨fps, h1, h2, h4, rfl, h6⟩ hk; exact ⟨fps, h1, h2, fun i cs a f hc ha hf => T.okeep _ _ _ _ _ _ (h4 i cs a f hc ha hf) fun x hx => hk x (List.mem_flatten.2 ⟨f, List.mem_of_getElem? hf, hx⟩), rfl, h6⟩
  mono := by
    rintro b b' w fp hb ⟨fps, h1, h2, h4, h5, h6⟩; exact ⟨fps, h1, h2, fun i cs a f hc ha hf => T.mono _ _ _ _ _ _ hb (h4 i cs a f hc ha hf), h5, h6⟩
/-- The slice, without what its elements lead to. -/
def rowO (e : TypeId) (size : Nat) (v : Value) (css : List (List Value)) : Ow where
  P b w fp := w.ownsRow b e size v css.length css.flatten ∧ fp = v.ownBlock.toList
  lt := by
    rintro b w fp ⟨h, rfl⟩ x hx; exact h.lt x (by simpa using hx)
  keep := by
    rintro b w w' fp ⟨h, rfl⟩ hk; exact ⟨own_keep h hk, rfl⟩
  mono := by
    rintro b b' w fp hb ⟨h, h2⟩; exact ⟨own_mono hb h, h2⟩
section
variable {α : Type} {T : Ty α} {b : Nat} {w : World} {os : List Ow} {e : TypeId} {v : Value} {l : List α} {css : List (List Value)}
theorem Sep.unrow (S : Sep b w (slO T e v l :: os)) : ∃ css, css.length = l.length ∧ (∀ (i : Nat) cs, css[i]? = some cs → cs.length = T.size) ∧ Sep b w (elsO T css l :: rowO e T.size v css :: os) := by
  obtain ⟨hb, fp, f, g, rfl, ⟨css, fps, h1, h2, h3, h4, h5, h6⟩, hg, hfg⟩ := S
  have hall : ∀ (i : Nat) cs, css[i]? = some cs → cs.length = T.size := fun i cs hi => by
    have hl : i < css.length := (List.getElem?_eq_some_iff.1 hi).1; exact T.len _ _ _ (T.read _ _ _ _ _ (h4 i cs _ _ hi (List.getElem?_eq_getElem (by omega)) (List.getElem?_eq_getElem (by omega))))
  subst h5; rw [List.nodup_append] at h6; refine ⟨css, h1, hall, hb, fps.flatten ++ (v.ownBlock.toList ++ g), _, _, rfl, ⟨fps, h1, h2, h4, rfl, h6.2.1⟩, ⟨_, g, rfl, ⟨by rw [h1]; exact h3, rfl⟩, hg, fun x hx hy => hfg x (List.mem_append.2 (.inl hx)) hy⟩, fun x hx hy => ?_⟩
  rcases List.mem_append.1 hy with hy | hy
  · exact h6.2.2 x hy x hx rfl
  · exact hfg x (List.mem_append.2 (.inr hx)) hy
theorem Sep.rowForm {size : Nat} (S : Sep b w (rowO e size v css :: os)) : ∃ A c, v = .slice A css.length c ∧ css.length ≤ c ∧ Rd w A css.flatten := by
  obtain ⟨fp, h3, _⟩ := S.head
  rcases h3.2 with ⟨hv, hn⟩ | ⟨g, cap, cur, hv, hb, hg, hn, r⟩
  · have : css = [] := List.eq_nil_of_length_eq_zero (by omega)
    subst this; exact ⟨none, 0, hv, Nat.le_refl _, Rd.nil⟩
  · subst hv
    exact ⟨_, cap, rfl, hn, Rd.of_own h3⟩
end
section
variable {P : Program} {n : Nat} {ops : Array Oper} {Q : Exit → Act → World → Prop} {L : Frm} {w : World} {m : Md} {r : IT} {d : Nat} {ty : TypeId} {pos : String} {af : Array Edge} {b : Nat} {os : List Ow}
/-- append of elements that are owned: they go over into the slice. -/
theorem t_mv {α : Type} {T : Ty α} {t e : TypeId} {bytes : Nat} (et : ElemT P t e T.size bytes) {s x : Operand} {ar : Array TypeId} {v : Value} {A : Option Addr} {c mm : Nat} {css : List (List Value)} {l l' : List α} (S : Sep b w (slO T e v l :: elsO T css l' :: os)) (hr : Rd w A css.flatten) (hm : mm = l'.length) (hs : ev L s = some v) (hx : ev L x = some (.slice A mm c)) (har : ar = #[t, t])
    (hby : (l.length + l'.length) * bytes ≤ 140737488355328) (h63 : l.length + l'.length ≤ maxLen)
    (k : ∀ v' w', Below b w w' → Sep b w' (slO T e v' (l ++ l') :: os) → WT P n ops Q r ((d, v') :: L) w') (hn : Nat.blt d n = true) : WT P n ops Q (.st .fin ⟨some d, .call ⟨.builtin .append, #[s, x], ar⟩, ty, pos, af, none⟩ r) L w := by
  intro a ha; subst har; subst hm; have hb := S.base; obtain ⟨h1, fp, f, g, rfl, ⟨css0, fps, k1, k2, k3, k4, k5, k6⟩, ⟨f2, g2, rfl, ⟨fps2, q1, q2, q4, q5, q6⟩, m2, m3⟩, h6⟩ := S; have hfl : ∀ y ∈ f, b ≤ y ∧ y < w.heap.size := SlO.size_ok ⟨css0, fps, k1, k2, k3, k4, k5, k6⟩
  have hR : ∀ (i : Nat) cs a, css[i]? = some cs → l'[i]? = some a → T.R w cs a := fun i cs a hi ha => by
    have hlt : i < fps2.length := by rw [q2]; exact (List.getElem?_eq_some_iff.1 ha).1
    exact T.read _ _ _ _ _ (q4 i cs a _ hi ha (List.getElem?_eq_getElem hlt))
  have hall : ∀ (i : Nat) cs, css[i]? = some cs → cs.length = T.size := fun i cs hi => by
    have hl : i < css.length := (List.getElem?_eq_some_iff.1 hi).1; exact T.len _ _ _ (hR i cs _ hi (List.getElem?_eq_getElem (by omega)))
  have h11 : ∀ u ∈ css.flatten, u.oneCell' = true := fun u hu => by
    obtain ⟨cs, hcs, hu⟩ := List.mem_flatten.1 hu; obtain ⟨i, hi, rfl⟩ := List.getElem_of_mem hcs; exact T.one _ _ _ (hR i _ _ (List.getElem?_eq_getElem hi) (List.getElem?_eq_getElem (by omega))) u hu
  have hd : ∀ z ∈ f2, z ∉ f := fun z hz hf => h6 z hf (List.mem_append.2 (.inl hz))
  simp only [wpT, Region.wanted, if_true]
  refine wp_app s x et k3 hr (by rw [flatten_len hall, q1]) h11 hby h63 hb rfl (ha.ev hs) (ha.ev hx) fun v' w' ho' hg' hv' => ?_
  obtain ⟨fp', g1, g2', g3⟩ := SlO.grow (css' := css) (fps' := fps2) (l' := l') (m := l'.length) k1 k2 k3 k4 k5 k6 q1 q2 q4 (by rw [← q5]; exact q6) (by rw [← q5]; exact hd) rfl ho' hg' hv'; rw [← q5] at g2'; have hB : Below b w w' := g3.below (fun y hy => (hfl y hy).1) hb; refine k v' w' hB ⟨Nat.le_trans hb g3.size, fp' ++ g2, fp', g2, rfl, g1, m2.keep fun y hy => g3.block y (m2.lt y hy).2 (fun hf => h6 y hf (List.mem_append.2 (.inr hy))), fun z hz hy => ?_⟩ _ (ha.put hn v')
  rcases g2' z hz with h | h | h
  · exact h6 z h (List.mem_append.2 (.inr hy))
  · exact m3 z h hy
  · have := (m2.lt z hy).2; omega
/-- A slice literal of nothing. -/
theorem t_lit0 {α : Type} {T : Ty α} {t e : TypeId} {C : Array Value} (S : Sep b w os)
    (hb : ∀ w, (Instr.buildSlice t 0 #[]).run P w = .ok (.slice (some ⟨w.heap.size, 0, none⟩) 0 0) (w.alloc (.cells C e))) (hC : C = #[])
    (k : ∀ A0 w', Ext w w' → Sep b w' (slO T e (.slice A0 0 0) ([] : List α) :: os) → WT P n ops Q r ((d, .slice A0 0 0) :: L) w') (hm : m.isTake = false) (hn : Nat.blt d n = true) : WT P n ops Q (.st m ⟨some d, .buildSlice t 0 #[], ty, pos, af, none⟩ r) L w := by
  subst hC; have he := ext_new w (.cells #[] e)
  have hO : SlO T e w.heap.size (w.alloc (.cells #[] e)) (.slice (some ⟨w.heap.size, 0, none⟩) 0 0) ([] : List α) [w.heap.size] := by
    refine ⟨[], [], rfl, rfl, ?_, (fun i cs a f hi ha hf => by simp at hi), rfl, by simp⟩; have := World.ownsRow_lit (base := w.heap.size) (e := e) (size := T.size) w (#[] : Array Value) 0 (Nat.le_refl _) (by simp [maxLen]) (by simp)
    simpa using this
  refine t_make he (fun a ha _ _ _ => ?_) (k _ _ he (S.add he hO)) hm hn
  simp [execOp, hb]
end
def PreL (pre : List Nat) (l : Array Bool) : Prop := ∀ j, pre.contains j = true → l.getD j false = true
theorem getD_setF {l : Array Bool} {i j : Nat} (h : l.getD j false = true) : (l.setIfInBounds i true).getD j false = true := by
  by_cases hij : i = j
  · subst hij
    by_cases hlt : i < l.size
    · simp [hlt]
    · simp [hlt] at h
  · rw [getD_set_ne false hij]; exact h
theorem PreL.set {pre : List Nat} {l : Array Bool} (h : PreL pre l) (i : Nat) : PreL pre (l.setIfInBounds i true) := fun j hj => getD_setF (h j hj)
theorem PreL.not {pre : List Nat} {l : Array Bool} (h : PreL pre l) {j : Nat} (hj : l.getD j true = false) : pre.contains j = false := by
  cases hb : pre.contains j with
  | false => rfl
  | true =>
    have h2 := h j hb
    rcases Nat.lt_or_ge j l.size with h' | h'
    · simp [h'] at hj h2; rw [hj] at h2; cases h2
    · simp [Array.getElem?_eq_none h'] at h2
def hOne (pre : List Nat) (top : Plan) (i : Nat) : Bool := !top.isFin i && !pre.contains i
theorem PreL.one {pre : List Nat} {l : Array Bool} (h : PreL pre l) {top : Plan} {i : Nat} (hi : (!top.isFin i) = true) (hj : l.getD i true = false) : hOne pre top i = true := by
  unfold hOne
  rw [hi, h.not hj]
  rfl
section
variable {P : Program} {ops : Array Oper} {Q : Exit → Act → World → Prop} {S S' : World → Prop} {h1 : Nat → Bool}
theorem G_first2 (pre : List Nat) (hph : ∀ j i, pre.contains j = false → h1 j = false → h1 i = true → j < ops.size → i < ops.size → waits ops ops.size j i = true) {i : Nat} {oi : Oper} {v : Value} (hi : ops[i]? = some oi) (hi1 : h1 i = true) (hsel : ∀ (j : Nat) (o : Oper) cs b, ops[j]? = some o → o.op ≠ .select cs b)
    (hQ : ∀ c a w, Q (.panic c) (a.put oi.dst v) w → Q (.panic c) a w) :
    ∀ (fuel : Nat) (listed : Array Bool) (a : Act) (w : World), Closed ops listed → PreL pre listed →
      (∀ j oj, ops[j]? = some oj → j ≠ i → listed.getD j true = false → (∀ e ∈ oj.after, Region.binds .any e = true → e.on ≠ i) → oi.apart ops oj = true) →
      i ∈ Region.ready .any ops listed → YieldsIf P ops S oi v a → S w →
      wpAnyG P ops Q S h1 fuel (listed.setIfInBounds i true) (a.put oi.dst v) w → wpAnyG P ops Q S h1 (fuel + 1) listed a w := by
  intro fuel
  induction fuel with
  | zero =>
    intro listed a w _ _ _ hr hy hS H; refine ⟨fun h => (by rw [h] at hr; cases hr), fun j hj => ?_⟩
    by_cases hji : j = i
    · subst hji; exact hy.wpOp hi hS ⟨fun _ => hS, H⟩
    · have := ready_mono hj hji
      rw [H.1] at this; cases this
  | succ fuel ih =>
    intro listed a w hcl hpl hfree hr hy hS H; refine ⟨fun h => (by rw [h] at hr; cases hr), fun j hj => ?_⟩
    by_cases hji : j = i
    · subst hji; exact hy.wpOp hi hS ⟨fun _ => hS, H⟩
    · have hm := H.2 j (ready_mono hj hji)
      obtain ⟨hjun, oj, hoj, hall⟩ := mem_ready.1 hj; have hilt : i < ops.size := (Array.getElem?_eq_some_iff.1 hi).1; have hjlt : j < ops.size := (Array.getElem?_eq_some_iff.1 hoj).1
      have hnl : listed.getD i false ≠ true := fun h => by
        have h0 := (mem_ready.1 hr).1
        rcases Nat.lt_or_ge i listed.size with h' | h'
        · simp [h'] at h0 h; rw [h0] at h; cases h
        · simp [Array.getElem?_eq_none h'] at h
      have hj1 : h1 j = true := by
        cases hb : h1 j
        · exact absurd (hcl.waits _ _ _ (fun o ho => by rw [hoj] at ho; cases ho; exact hall) (hph j i (hpl.not (mem_ready.1 hj).1) hb hi1 hjlt hilt)) hnl
        · rfl
      have hnot : ∀ e ∈ oj.after, Region.binds .any e = true → e.on ≠ i := fun e he hb heq => hnl (heq ▸ hall e he hb)
      have h2 := wpOp_putIf hoj (hfree j oj hoj hji hjun hnot) (fun cs b => hsel i oi cs b hi) (fun cs b => hsel j oj cs b hoj) hQ hy hm
      have hfree' : ∀ k ok, ops[k]? = some ok → k ≠ i → (listed.setIfInBounds j true).getD k true = false →
          (∀ e ∈ ok.after, Region.binds .any e = true → e.on ≠ i) → oi.apart ops ok = true := fun k ok hk hki hun hno => by
        refine hfree k ok hk hki ?_ hno
        by_cases hjk : j = k
        · subst hjk; exact hjun
        · rw [getD_set_ne true hjk] at hun; exact hun
      refine wpOp_mono (fun a' w' h3 => ⟨h3.2.1, ih (listed.setIfInBounds j true) a' w' (hcl.set hj) (hpl.set j) hfree' (ready_mono hr (Ne.symm hji)) h3.1 (h3.2.1 hj1) ?_⟩) h2; rw [Array.setIfInBounds_comm _ _ hji]; exact h3.2.2
theorem plan_sound2 (pre : List Nat) (top : Plan) (hph : ∀ j i, top.isFin j = true → top.isFin i = false → pre.contains i = false → j < ops.size → i < ops.size → waits ops ops.size j i = true) (hsel : ∀ (j : Nat) (o : Oper) cs b, ops[j]? = some o → o.op ≠ .select cs b)
  (hQ : ∀ c a w d v, Q (.panic c) (Act.put a d v) w → Q (.panic c) a w) (p : Plan) : ∀ (l : Array Bool) (a : Act) (w : World), Closed ops l → PreL pre l → modesIn top p = true → wpT P ops Q (p.tree ops) a w →
   (p.ok ops false l = true → ∀ f, p.len ≤ f → wpAnyG P ops Q (Ext w) (hOne pre top) f l a w) ∧
   (p.ok ops true l = true → ∀ f, p.len ≤ f + 1 → ∀ i ∈ p.heads, i ∈ Region.ready .any ops l → wpOp P ops Q i (fun a' w' => (hOne pre top i = true → Ext w w') ∧ wpAnyG P ops Q (Ext w) (hOne pre top) f (l.setIfInBounds i true) a' w') a w) := by
 have hph' : ∀ j i, pre.contains j = false → hOne pre top j = false → hOne pre top i = true → j < ops.size → i < ops.size → waits ops ops.size j i = true := fun j i hp h1 h2 => by
  simp only [hOne, Bool.and_eq_true, Bool.not_eq_true', Bool.and_eq_false_iff, Bool.not_eq_false'] at h1 h2
  rcases h1 with h1 | h1
  ·exact hph j i h1 h2.1 h2.2
  ·rw [hp] at h1; cases h1
 induction p with
 | done =>
  intro l a w hc hpl hm hT; refine ⟨fun hok f hf => G_done (by simpa [Plan.ok] using hok) hT f, fun hok => by simp [Plan.ok] at hok⟩
 | alt p q ihp ihq =>
  intro l a w hc hpl hm hT
  simp only [modesIn, Bool.and_eq_true] at hm
  obtain ⟨hTp, hTq⟩ := hT; have hp := ihp l a w hc hpl hm.1 hTp; have hq := ihq l a w hc hpl hm.2 hTq
  have hB : p.ok ops true l = true → q.ok ops true l = true → ∀ f, max p.len q.len ≤ f + 1 → ∀ i ∈ p.heads ++ q.heads, i ∈ Region.ready .any ops l → wpOp P ops Q i (fun a' w' => (hOne pre top i = true → Ext w w') ∧ wpAnyG P ops Q (Ext w) (hOne pre top) f (l.setIfInBounds i true) a' w') a w := by
   intro h1 h2 f hf i hi hr
   rcases List.mem_append.1 hi with hi | hi
   ·exact hp.2 h1 f (by omega) i hi hr
   ·exact hq.2 h2 f (by omega) i hi hr
  refine ⟨fun hok f hf => ?_, fun hok f hf i hi hr => ?_⟩
  ·simp only [Plan.ok, Bool.and_eq_true, Bool.false_or] at hok
   obtain ⟨⟨⟨hne, hall⟩, h1⟩, h2⟩ := hok
   simp only [Plan.len] at hf
   have hpos : 0 < f := by
    cases hpl : p with
    | done => rw [hpl] at h1; simp [Plan.ok] at h1
    | st m i r => rw [hpl] at hf; simp only [Plan.len] at hf; omega
    | alt p1 q1 =>
     rcases Nat.eq_zero_or_pos f with h0 | h0
     ·exfalso
      have key : ∀ p : Plan, p.ok ops true l = true → 0 < p.len := by
       intro p
       induction p with
       | done => intro h; simp [Plan.ok] at h
       | st m i r _ => intro _; simp [Plan.len]
       | alt p q ih1 _ => intro h; simp only [Plan.ok, Bool.true_or, Bool.true_and, Bool.and_eq_true] at h; have := ih1 h.1; simp only [Plan.len]; omega
      have := key p h1
      omega
     ·exact h0
   obtain ⟨f, rfl⟩ : ∃ g, f = g + 1 := ⟨f - 1, by omega⟩; refine ⟨fun h0 => by rw [h0] at hne; simp at hne, fun i hi => hB h1 h2 f hf i ?_ hi⟩; have := List.all_eq_true.1 hall i hi
   simpa using this
  ·simp only [Plan.ok, Bool.and_eq_true, Bool.true_or, Bool.true_and] at hok
   exact hB hok.1 hok.2 f hf i hi hr
 | st m i r ih =>
  have hop : Nat.blt i ops.size = true → ops[i]? = some (ops.getD i default) := fun h => by
   have : i < ops.size := by simpa [Nat.blt_eq] using h
   simp [this]
  cases m with
  | take =>
   intro l a w hc hpl hm hT; refine ⟨fun hok f hf => ?_, fun hok => by simp [Plan.ok] at hok⟩
   simp only [Plan.ok, Bool.and_eq_true, Bool.not_false, true_and] at hok
   obtain ⟨⟨⟨hlt, hfr⟩, hrd⟩, hr⟩ := hok
   simp only [modesIn, Bool.and_eq_true] at hm
   obtain ⟨v, hy, hT⟩ := hT
   simp only [Plan.len] at hf
   obtain ⟨f, rfl⟩ : ∃ g, f = g + 1 := ⟨f - 1, by omega⟩
   have hrd' : i ∈ Region.ready .any ops l := by simpa using hrd
   exact G_first2 pre hph' (hop hlt) (hpl.one hm.1 (mem_ready.1 hrd').1) hsel (fun c a w h => hQ c a w _ _ h) f l a w hc hpl (Region.free_spec (hop hlt) hfr) hrd' hy (Below.refl _ _) ((ih _ _ w (hc.set hrd') (hpl.set i) hm.2 hT).1 hr f (by omega))
  | run =>
   intro l a w hc hpl hm hT
   simp only [modesIn, Bool.and_eq_true] at hm
   have hB : Nat.blt i ops.size = true → r.ok ops false (l.setIfInBounds i true) = true → i ∈ Region.ready .any ops l → ∀ f, r.len ≤ f → wpOp P ops Q i (fun a' w' => (hOne pre top i = true → Ext w w') ∧ wpAnyG P ops Q (Ext w) (hOne pre top) f (l.setIfInBounds i true) a' w') a w := by
    intro hlt hr hrd f hf
    simp only [Plan.tree, wpT] at hT
    have ho' := hop hlt
    generalize ops.getD i default = o' at ho' hT
    unfold wpOp
    simp only [ho']
    split
    ·rename_i hw
     rw [if_pos hw] at hT; exact .inl (Oper.wp_mono (fun a' w' h => ⟨fun _ => h.1, G_mono (fun x hx => ext_trans h.1 hx) _ _ _ _ ((ih _ a' w' (hc.set hrd) (hpl.set i) hm.2 h.2).1 hr f hf)⟩) hT)
    ·rename_i hw
     rw [if_neg hw] at hT; exact ⟨fun _ => Below.refl _ _, (ih _ _ w (hc.set hrd) (hpl.set i) hm.2 hT).1 hr f hf⟩
   refine ⟨fun hok f hf => ?_, fun hok f hf j hj hrd => ?_⟩
   ·simp only [Plan.ok, Bool.and_eq_true, Bool.false_or] at hok
    obtain ⟨⟨hlt, hrd⟩, hr⟩ := hok
    have hrd' : Region.ready .any ops l = [i] := by simpa using hrd
    simp only [Plan.len] at hf
    obtain ⟨f, rfl⟩ : ∃ g, f = g + 1 := ⟨f - 1, by omega⟩; refine ⟨(fun h0 => by rw [h0] at hrd'; cases hrd'), fun j hj => ?_⟩
    have : j = i := by rw [hrd'] at hj; simpa using hj
    subst this; exact hB hlt hr hj f (by omega)
   ·simp only [Plan.ok, Bool.and_eq_true, Bool.true_or, and_true] at hok
    have : j = i := by simpa [Plan.heads] using hj
    subst this
    simp only [Plan.len] at hf
    exact hB hok.1 hok.2 hrd f (by omega)
  | fin =>
   intro l a w hc hpl hm hT
   simp only [modesIn, Bool.and_eq_true] at hm
   have hB : Nat.blt i ops.size = true → r.ok ops false (l.setIfInBounds i true) = true → i ∈ Region.ready .any ops l → ∀ f, r.len ≤ f → wpOp P ops Q i (fun a' w' => (hOne pre top i = true → Ext w w') ∧ wpAnyG P ops Q (Ext w) (hOne pre top) f (l.setIfInBounds i true) a' w') a w := by
    intro hlt hr hrd f hf
    have hlt' : i < ops.size := by simpa [Nat.blt_eq] using hlt
    have hall : ∀ k, k < ops.size → hOne pre top k = true → (l.setIfInBounds i true).getD k true = true := by
     intro k hks hk; obtain ⟨_, o, ho, hedge⟩ := mem_ready.1 hrd; have := hc.waits _ i k (fun o' ho' => by rw [ho] at ho'; cases ho'; exact hedge) (hph i k hm.1 (by simp only [hOne, Bool.and_eq_true, Bool.not_eq_true'] at hk; exact hk.1) (by simp only [hOne, Bool.and_eq_true, Bool.not_eq_true'] at hk; exact hk.2) hlt' hks)
     have h2 : l.getD k true = true := by
      rcases Nat.lt_or_ge k l.size with h' | h'
      ·simp [h'] at this ⊢; exact this
      ·simp [Array.getElem?_eq_none h'] at this
     exact getD_set h2
    simp only [Plan.tree, wpT] at hT
    have ho' := hop hlt
    generalize ops.getD i default = o' at ho' hT
    unfold wpOp
    simp only [ho']
    split
    ·rename_i hw
     rw [if_pos hw] at hT; exact .inl (Oper.wp_mono (fun a' w' h => ⟨(fun hh => by simp [hOne, hm.1] at hh), G_free _ _ _ _ hall ((ih _ a' w' (hc.set hrd) (hpl.set i) hm.2 h).1 hr f hf)⟩) hT)
    ·rename_i hw
     rw [if_neg hw] at hT; exact ⟨fun _ => Below.refl _ _, (ih _ _ w (hc.set hrd) (hpl.set i) hm.2 hT).1 hr f hf⟩
   refine ⟨fun hok f hf => ?_, fun hok f hf j hj hrd => ?_⟩
   ·simp only [Plan.ok, Bool.and_eq_true, Bool.false_or] at hok
    obtain ⟨⟨hlt, hrd⟩, hr⟩ := hok
    have hrd' : Region.ready .any ops l = [i] := by simpa using hrd
    simp only [Plan.len] at hf
    obtain ⟨f, rfl⟩ : ∃ g, f = g + 1 := ⟨f - 1, by omega⟩; refine ⟨(fun h0 => by rw [h0] at hrd'; cases hrd'), fun j hj => ?_⟩
    have : j = i := by rw [hrd'] at hj; simpa using hj
    subst this; exact hB hlt hr hj f (by omega)
   ·simp only [Plan.ok, Bool.and_eq_true, Bool.true_or, and_true] at hok
    have : j = i := by simpa [Plan.heads] using hj
    subst this
    simp only [Plan.len] at hf
    exact hB hok.1 hok.2 hrd f (by omega)
/-- A step that no world touches, and that nobody has to wait for with what he knows of the world. -/
theorem G_firstP {i : Nat} {oi : Oper} {v : Value} (hi : ops[i]? = some oi) (hi1 : h1 i = false) (hsel : ∀ (j : Nat) (o : Oper) cs b, ops[j]? = some o → o.op ≠ .select cs b)
    (hQ : ∀ c a w, Q (.panic c) (a.put oi.dst v) w → Q (.panic c) a w) :
    ∀ (fuel : Nat) (listed : Array Bool) (a : Act) (w : World),
      (∀ j oj, ops[j]? = some oj → j ≠ i → listed.getD j true = false → (∀ e ∈ oj.after, Region.binds .any e = true → e.on ≠ i) → oi.apart ops oj = true) →
      i ∈ Region.ready .any ops listed → YieldsIf P ops (fun _ => True) oi v a →
      wpAnyG P ops Q S h1 fuel (listed.setIfInBounds i true) (a.put oi.dst v) w → wpAnyG P ops Q S h1 (fuel + 1) listed a w := by
  intro fuel
  induction fuel with
  | zero =>
    intro listed a w _ hr hy H; refine ⟨fun h => (by rw [h] at hr; cases hr), fun j hj => ?_⟩
    by_cases hji : j = i
    · subst hji; exact hy.wpOp hi trivial ⟨(fun hh => by rw [hi1] at hh; cases hh), H⟩
    · have := ready_mono hj hji
      rw [H.1] at this; cases this
  | succ fuel ih =>
    intro listed a w hfree hr hy H; refine ⟨fun h => (by rw [h] at hr; cases hr), fun j hj => ?_⟩
    by_cases hji : j = i
    · subst hji; exact hy.wpOp hi trivial ⟨(fun hh => by rw [hi1] at hh; cases hh), H⟩
    · have hm := H.2 j (ready_mono hj hji)
      obtain ⟨hjun, oj, hoj, hall⟩ := mem_ready.1 hj
      have hnl : listed.getD i false ≠ true := fun h => by
        have h0 := (mem_ready.1 hr).1
        rcases Nat.lt_or_ge i listed.size with h' | h'
        · simp [h'] at h0 h; rw [h0] at h; cases h
        · simp [Array.getElem?_eq_none h'] at h
      have hnot : ∀ e ∈ oj.after, Region.binds .any e = true → e.on ≠ i := fun e he hb heq => hnl (heq ▸ hall e he hb)
      have h2 := wpOp_putIf hoj (hfree j oj hoj hji hjun hnot) (fun cs b => hsel i oi cs b hi) (fun cs b => hsel j oj cs b hoj) hQ hy hm
      have hfree' : ∀ k ok, ops[k]? = some ok → k ≠ i → (listed.setIfInBounds j true).getD k true = false →
          (∀ e ∈ ok.after, Region.binds .any e = true → e.on ≠ i) → oi.apart ops ok = true := fun k ok hk hki hun hno => by
        refine hfree k ok hk hki ?_ hno
        by_cases hjk : j = k
        · subst hjk; exact hjun
        · rw [getD_set_ne true hjk] at hun; exact hun
      refine wpOp_mono (fun a' w' h3 => ⟨h3.2.1, ih (listed.setIfInBounds j true) a' w' hfree' (ready_mono hr (Ne.symm hji)) h3.1 ?_⟩) h2; rw [Array.setIfInBounds_comm _ _ hji]; exact h3.2.2
/-- Steps that no world touches, ahead of the rest. -/
def wpPre (P : Program) (ops : Array Oper) (Q : Exit → Act → World → Prop) : List Oper → IT → Act → World → Prop
  | [], T, a, w => wpT P ops Q T a w
  | o :: l, T, a, w => ∃ v, YieldsIf P ops (fun _ => True) o v a ∧ wpPre P ops Q l T (a.put o.dst v) w
def preOK (ops : Array Oper) : List Nat → Array Bool → Bool
  | [], _ => true
  | i :: t, l => Nat.blt i ops.size && Region.free .any ops l i && (Region.ready .any ops l).contains i && preOK ops t (l.setIfInBounds i true)
def preEnd : List Nat → Array Bool → Array Bool
  | [], l => l
  | i :: t, l => preEnd t (l.setIfInBounds i true)
theorem pre_sound (top : Plan) (all : List Nat) (hsel : ∀ (j : Nat) (o : Oper) cs b, ops[j]? = some o → o.op ≠ .select cs b) (hQ : ∀ c a w d v, Q (.panic c) (Act.put a d v) w → Q (.panic c) a w)
    (hph : ∀ j i, top.isFin j = true → top.isFin i = false → all.contains i = false → j < ops.size → i < ops.size → waits ops ops.size j i = true) (hm : modesIn top top = true) :
    ∀ (pre : List Nat) (l : Array Bool) (a : Act) (w : World), (∀ i ∈ pre, all.contains i = true) → (∀ i, all.contains i = true → l.getD i false = true ∨ i ∈ pre) → Closed ops l → preOK ops pre l = true → top.ok ops false (preEnd pre l) = true →
      wpPre P ops Q (pre.map fun i => ops.getD i default) (top.tree ops) a w → ∀ f, top.len ≤ f → wpAnyG P ops Q (Ext w) (hOne all top) (f + pre.length) l a w := by
  intro pre
  induction pre with
  | nil =>
    intro l a w hin hall hc hok htop hT f hf; exact (plan_sound2 all top hph hsel hQ top l a w hc (fun j hj => (hall j hj).resolve_right (by simp)) hm hT).1 htop f hf
  | cons i t ih =>
    intro l a w hin hall hc hok htop hT f hf
    simp only [preOK, Bool.and_eq_true] at hok
    obtain ⟨⟨⟨hlt, hfr⟩, hrd⟩, hok⟩ := hok
    have hlt' : i < ops.size := by simpa [Nat.blt_eq] using hlt
    have hop : ops[i]? = some (ops.getD i default) := by simp [hlt']
    have hrd' : i ∈ Region.ready .any ops l := by simpa using hrd
    simp only [List.map_cons, wpPre] at hT
    obtain ⟨v, hy, hT⟩ := hT
    have hI := ih (l.setIfInBounds i true) _ w (fun j hj => hin j (List.mem_cons_of_mem _ hj)) (fun j hj => by
      rcases hall j hj with h | h
      · exact .inl (getD_setF h)
      · rcases List.mem_cons.1 h with h | h
        · subst h
          left
          have h0 := (mem_ready.1 hrd').1
          have : j < l.size := by
            rcases Nat.lt_or_ge j l.size with h' | h'
            · exact h'
            · simp [Array.getElem?_eq_none h'] at h0
          simp [this]
        · exact .inr h) (hc.set hrd') hok htop hT f hf
    have := G_firstP (S := Ext w) (h1 := hOne all top) hop (by unfold hOne; rw [hin i (by simp)]; simp) hsel (fun c a w h => hQ c a w _ _ h) (f + t.length) l a w (Region.free_spec hop hfr) hrd' hy hI
    simpa [Nat.add_assoc] using this
end
def wholeP (pre : List Nat) (p : Plan) (ops : Array Oper) : Bool :=
  preOK ops pre (Array.replicate ops.size false) && p.ok ops false (preEnd pre (Array.replicate ops.size false)) && modesIn p p && Nat.ble (p.len + pre.length) ops.size && Region.noSelect ops &&
  (List.range ops.size).all fun j => !p.isFin j || (List.range ops.size).all fun i => p.isFin i || pre.contains i || waits ops ops.size j i
section
variable {P : Program} {n : Nat} {Q : Exit → Act → World → Prop} {L : Frm} {w : World}
def WPre (P : Program) (n : Nat) (ops : Array Oper) (Q : Exit → Act → World → Prop) (l : List Oper) (T : IT) (L : Frm) (w : World) : Prop := ∀ a, Env n L a → wpPre P ops Q l T a w
theorem w_drawP {id : Nat} {ops : Array Oper} (pre : List Nat) (p : Plan) (hm : P.follows .mixedOrders = true) (hp : wholeP pre p ops = true) (h : ∀ w', Ext w w' → WPre P n ops (NoP Q) (pre.map fun i => ops.getD i default) (p.tree ops) L w') : W P n Q (.region id ops true) L w := by
  intro a ha; refine wp_mono (wp_region_any hm ?_) (fun e a w h => NoP.out h)
  simp only [wholeP, Bool.and_eq_true] at hp
  obtain ⟨⟨⟨⟨⟨h0, h1⟩, h2⟩, h3⟩, h4⟩, h5⟩ := hp
  have hph : ∀ j i, p.isFin j = true → p.isFin i = false → pre.contains i = false → j < ops.size → i < ops.size → waits ops ops.size j i = true := by
    intro j i hj hi hpi hjs his; have h6 := List.all_eq_true.1 h5 j (List.mem_range.2 hjs); rw [hj] at h6
    simp only [Bool.not_true, Bool.false_or] at h6
    have h7 := List.all_eq_true.1 h6 i (List.mem_range.2 his); rw [hi, hpi] at h7
    simpa using h7
  have hc : Closed ops (Array.replicate ops.size false) := by
    intro j o _ hj
    exfalso
    rcases Nat.lt_or_ge j ops.size with h' | h'
    · simp [h'] at hj
    · simp [Array.getElem?_eq_none (xs := Array.replicate ops.size false) (i := j) (by simpa using h')] at hj
  have h3' : p.len + pre.length ≤ ops.size := by simpa using h3
  have := pre_sound (Q := NoP Q) p pre (Region.noSelect_spec h4) (fun c a w d v h => h) hph h2 pre _ a w.drew (fun i hi => by simpa using hi) (fun i hi => .inr (by simpa using hi)) hc h0 h1 (h w.drew (below_drew w) a ha) (ops.size - pre.length) (by omega); rw [Nat.sub_add_cancel (by omega)] at this; exact wpAny_of_G _ _ _ _ this
variable {ops : Array Oper} {l : List Oper} {T : IT} {d : Nat} {ty : TypeId} {pos : String} {af : Array Edge}
theorem p_done (h : WT P n ops Q T L w) : WPre P n ops Q [] T L w := h
theorem p_read {op : Op} {v : Value} (h : ∀ a, Env n L a → ∀ dst af gd w', (execOp a.eval ⟨dst, op, ty, pos, af, gd⟩).run P w' = .ok (.value v) w') (k : WPre P n ops Q l T ((d, v) :: L) w) (hn : Nat.blt d n = true) : WPre P n ops Q (⟨some d, op, ty, pos, af, none⟩ :: l) T L w := by
  intro a ha; exact ⟨v, .inl ⟨rfl, fun w' _ => h a ha _ _ _ w'⟩, k _ (ha.put hn v)⟩
theorem p_move {x : Operand} {v : Value} (hx : ev L x = some v) (k : WPre P n ops Q l T ((d, v) :: L) w) (hn : Nat.blt d n = true) : WPre P n ops Q (⟨some d, .move x, ty, pos, af, none⟩ :: l) T L w :=
  p_read (fun a ha _ _ _ w' => by simp [execOp, ha.ev hx]) k hn
theorem p_sltv {t e : TypeId} {size bytes : Nat} (et : ElemT P t e size bytes) {A : Option Addr} {nn c : Nat} {xo hi : Operand} {k : Nat} {i : Int} (hx : ev L xo = some (.slice A nn c)) (hi' : ev L hi = some (I i)) (hik : i = ((k : Nat) : Int)) (hk : k ≤ c)
    (kk : WPre P n ops Q l T ((d, .slice A k c) :: L) w) (hn : Nat.blt d n = true) : WPre P n ops Q (⟨some d, .slice t xo none (some hi) none, ty, pos, af, none⟩ :: l) T L w := by
  obtain ⟨inf, z, hinf, _, hsz, _, _⟩ := et.info; subst hik; refine p_read (v := .slice A k c) (fun a ha _ _ _ w' => ?_) kk hn
  have hc : (0 : Int) ≤ (k : Int) ∧ (k : Int) ≤ (c : Int) := by omega
  cases A <;> simp [execOp, ha.ev hx, ha.ev hi', Instr.sliceAt, Instr.slice, Instr.sliceBounds, Instr.sliceBound, asIntOf, run_underlying et.und, hk, sizeOf, typeInfo, hinf, Addr.add]
theorem p_sldv {t e : TypeId} {size bytes : Nat} (et : ElemT P t e size bytes) {A : Option Addr} {nn c : Nat} {xo lo : Operand} {k : Nat} {i : Int} (hx : ev L xo = some (.slice A nn c)) (hi' : ev L lo = some (I i)) (hik : i = ((k : Nat) : Int)) (hk : k ≤ nn) (hc : nn ≤ c)
    (kk : WPre P n ops Q l T ((d, .slice (if c = k then A else A.map (·.add (k * size))) (nn - k) (c - k)) :: L) w) (hn : Nat.blt d n = true) : WPre P n ops Q (⟨some d, .slice t xo (some lo) none none, ty, pos, af, none⟩ :: l) T L w := by
  obtain ⟨inf, z, hinf, _, hsz, _, _⟩ := et.info; subst hik; refine p_read (fun a ha _ _ _ w' => ?_) kk hn
  have hc' : (0 : Int) ≤ (k : Int) ∧ (k : Int) ≤ (nn : Int) := by omega
  simp [execOp, ha.ev hx, ha.ev hi', Instr.sliceAt, Instr.slice, Instr.sliceBounds, Instr.sliceBound, asIntOf, run_underlying et.und, hk, sizeOf, typeInfo, hinf, hsz]
end
theorem app0_eq {P : Program} (w : World) {t ty e : TypeId} {size bytes : Nat} (et : ElemT P t e size bytes) {A0 A : Option Addr} {m c : Nat} (hm : 0 < m) (hby : m * bytes ≤ 140737488355328) (h63 : m ≤ maxLen) :
    (Builtin.append_ #[t, t] ty #[.slice A0 0 0, .slice A m c]).run P w = (Builtin.append_ #[t, t] ty #[.slice none 0 0, .slice A m c]).run P w := by
  obtain ⟨ht, ⟨i, z, hi, hz, hsize, hby', hzs⟩, hsz⟩ := et; subst hby'
  simp only [maxLen] at h63
  have h0 : ¬ m = 0 := by omega
  have h1 : ¬ (9223372036854775807 : Int) < (m : Int) := by omega
  have h2 : ¬ 281474976710656 < Builtin.nextslicecap m 0 * i.bytes := by have := growslice_fits (need := m) (old := 0) hm hby; omega
  cases A0 <;> simp [Builtin.append_, run_underlying ht, sizeOf, typeInfo, hi, Builtin.lenOf, Builtin.firstCells, h0, h1, h2, loadCells, loadCellsFrom]
/-- append of owned elements onto an empty literal: only new memory. -/
theorem t_mv0 {P : Program} {n : Nat} {ops : Array Oper} {Q : Exit → Act → World → Prop} {L : Frm} {w : World} {r : IT} {d : Nat} {ty : TypeId} {pos : String} {af : Array Edge} {b : Nat} {os : List Ow}
  {α : Type} {T : Ty α} {t e : TypeId} {bytes : Nat} (et : ElemT P t e T.size bytes) {s x : Operand} {ar : Array TypeId} {A0 A : Option Addr} {c mm : Nat} {css : List (List Value)} {l' : List α} (S : Sep b w (slO T e (.slice A0 0 0) ([] : List α) :: elsO T css l' :: os)) (hr : Rd w A css.flatten) (hm : mm = l'.length) (hs : ev L s = some (.slice A0 0 0)) (hx : ev L x = some (.slice A mm c)) (har : ar = #[t, t])
  (hby : l'.length * bytes ≤ 140737488355328) (h63 : l'.length ≤ maxLen)
  (k : ∀ v' w', Ext w w' → Sep b w' (slO T e v' ([] ++ l') :: os) → WT P n ops Q r ((d, v') :: L) w') (hn : Nat.blt d n = true) : WT P n ops Q (.st .run ⟨some d, .call ⟨.builtin .append, #[s, x], ar⟩, ty, pos, af, none⟩ r) L w := by
 intro a ha; subst har; subst hm; have hb := S.base; obtain ⟨h1, fp, f, g, rfl, hf0, ⟨f2, g2, rfl, ⟨fps2, q1, q2, q4, q5, q6⟩, m2, m3⟩, h6⟩ := S
 have hR : ∀ (i : Nat) cs a, css[i]? = some cs → l'[i]? = some a → T.R w cs a := fun i cs a hi ha => by
  have hlt : i < fps2.length := by rw [q2]; exact (List.getElem?_eq_some_iff.1 ha).1
  exact T.read _ _ _ _ _ (q4 i cs a _ hi ha (List.getElem?_eq_getElem hlt))
 have hall : ∀ (i : Nat) cs, css[i]? = some cs → cs.length = T.size := fun i cs hi => by
  have hl : i < css.length := (List.getElem?_eq_some_iff.1 hi).1; exact T.len _ _ _ (hR i cs _ hi (List.getElem?_eq_getElem (by omega)))
 have h11 : ∀ u ∈ css.flatten, u.oneCell' = true := fun u hu => by
  obtain ⟨cs, hcs, hu⟩ := List.mem_flatten.1 hu; obtain ⟨i, hi, rfl⟩ := List.getElem_of_mem hcs; exact T.one _ _ _ (hR i _ _ (List.getElem?_eq_getElem hi) (List.getElem?_eq_getElem (by omega))) u hu
 have hnil : w.ownsRow b e T.size (.slice none 0 0) 0 [] := World.ownsRow_nil w b e T.size
 simp only [wpT, Region.wanted, if_true]
 rcases Nat.eq_zero_or_pos l'.length with hz | hz
 ·have hl0 : l' = [] := List.eq_nil_of_length_eq_zero hz; subst hl0; obtain ⟨ht, ⟨i, z, hi, hzz, hsize, hbb, hzs⟩, hsz⟩ := et
  have hrun : (execOp a.eval ⟨some d, .call ⟨.builtin .append, #[s, x], #[t, t]⟩, ty, pos, af, none⟩).run P w = .ok (.value (.slice A0 0 0)) w := by
   cases A0 <;> cases A <;> simp [execOp, resolve, invoke, builtin, ha.ev hs, ha.ev hx, Builtin.append_, run_underlying ht, sizeOf, typeInfo, hi, Builtin.lenOf, Builtin.firstCells, loadCells, loadCellsFrom, storeCells]
  unfold Oper.wp
  rw [hrun]; refine ⟨Below.refl _ _, k _ w (Below.refl _ _) ?_ _ (ha.put hn _)⟩; exact ⟨hb, f ++ g2, f, g2, rfl, hf0, m2, fun z hz hy => h6 z hz (List.mem_append.2 (.inr hy))⟩
 ·obtain ⟨v', w', hrun, ho', hg', hv'⟩ := run_app (P := P) w (ty := ty) (c := c) et hnil hr (by rw [flatten_len hall, q1]) h11 (by rw [Nat.zero_add]; exact hby) (by rw [Nat.zero_add]; exact h63) hb; rw [← app0_eq (A0 := A0) w et hz hby h63] at hrun; obtain ⟨fp', g1, g2', g3⟩ := SlO.grow (T := T) (e := e) (base := b) (v := .slice none 0 0) (l := []) (css := []) (fps := []) (fp := []) (css' := css) (fps' := fps2) (l' := l') (m := l'.length) rfl rfl hnil (fun i cs a f hi => by simp at hi) rfl List.nodup_nil q1 q2 q4 (by rw [← q5]; exact q6) (fun y _ hy => by cases hy) rfl ho' hg' hv'; rw [← q5] at g2'; have hE : Ext w w' := ⟨g3.os, g3.tape, g3.output, g3.size, fun y hy => g3.block y hy (fun h => by cases h)⟩
  unfold Oper.wp execOp
  simp only [resolve, invoke, builtin, Sem.run_bind, Sem.run_pure, Result.andThen_ok, List.map_toArray, List.map_cons, List.map_nil, ha.ev hs, ha.ev hx, hrun]
  refine ⟨hE, k v' w' hE ⟨Nat.le_trans hb g3.size, fp' ++ g2, fp', g2, rfl, g1, m2.keep fun y hy => hE.block y (m2.lt y hy).2, fun z hz' hy => ?_⟩ _ (ha.put hn v')⟩
  rcases g2' z hz' with h | h | h
  ·cases h
  ·exact m3 z h hy
  ·have := (m2.lt z hy).2; omega
end Go.Proofs.YtljkgpembicloaaGreat
