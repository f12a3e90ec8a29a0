/- What LawFnPackets needs of the texts below it, part 1: contracts of functions, plain lemmas. (Put together by slim.py.) -/
import Derived.Below
import Derived.Carry
import Derived.Laws.OwnMore
import Derived.Deep.AppendLies
import Derived.Deep.Draws
import Derived.Maps.AppendAt
import Derived.OwnWalk
import Derived.RegionTactic
import Derived.Deep.QuietTactic
import Derived.BigQuiet
import Derived.OrdersHeld
import Derived.Test.YtdaecknfahgddaaGreatProg
import Derived.KernelRfl
import Derived.Test.YtdaecknfahgddaaGreatRows
import Derived.WalkKit
import Derived.WalkSpells
import Derived.WalkLawsBesides
import Derived.StillTailTactics
import Derived.Deep.RegionHeld3
import Derived.BigGuard
import Derived.Laws.Bits128
import Derived.Laws.Shifts
import Derived.Deep.DeepCutAuto
import Derived.Deep.RegionWith
import Derived.Laws.Concat
import Derived.Laws.BytesArg
import Derived.Laws.BytesString
import Derived.Laws.Strings
import Derived.Laws.StructEq
import Derived.JoinedOf
import Derived.ProofKit
import Derived.OpenShut
import Derived.ChangeOld
import Derived.Deep.Slices
import Derived.Deep.Fields
import Derived.ChangeSame
namespace Go.Proofs.YtdaecknfahgddaaGreat
open Go.RowKit
set_option linter.unusedVariables false
theorem hid {p : Prop} (h : p) : Hid p := h
abbrev I (n : Int) : Value := .int .i64 n
/-- The cells xs lie behind the address A. -/
def Rd (w : World) (A : Option Addr) (xs : List Value) : Prop :=
  0 < xs.length → ∃ g o, A = some ⟨g, o, none⟩ ∧ ∀ j u, xs[j]? = some u → w.cell? ⟨g, o + j, none⟩ = some u
theorem Rd.below {w w' : World} {A : Option Addr} {xs : List Value} (h : Rd w A xs) (hb : Below w.heap.size w w') : Rd w' A xs := by
  intro hx
  obtain ⟨g, o, rfl, h3⟩ := h hx
  exact ⟨g, o, rfl, fun j u hu => by rw [hb.cell (World.block_lt_of_cell? w _ (h3 j u hu))]; exact h3 j u hu⟩
theorem Rd.nil {w : World} {A : Option Addr} : Rd w A [] := fun h => absurd h (by simp)
theorem flatten_at {css : List (List Value)} {size : Nat} (h : ∀ (i : Nat) cs, css[i]? = some cs → cs.length = size) (k : Nat) (cs : List Value) (hk : css[k]? = some cs) (j : Nat) (hj : j < size) :
    css.flatten[k * size + j]? = cs[j]? := by
  induction css generalizing k with
  | nil => simp at hk
  | cons c t ih =>
    have hc : c.length = size := h 0 c rfl
    cases k with
    | zero =>
      simp at hk
      subst hk
      simp only [List.flatten_cons, Nat.zero_mul, Nat.zero_add]
      rw [List.getElem?_append_left (by omega)]
    | succ k =>
      simp at hk
      simp only [List.flatten_cons]
      rw [List.getElem?_append_right (by rw [hc, Nat.add_mul, Nat.one_mul]; omega), hc, show (k + 1) * size + j - size = k * size + j by rw [Nat.add_mul, Nat.one_mul]; omega]
      exact ih (fun i cs hi => h (i + 1) cs hi) k hk
theorem flatten_len {css : List (List Value)} {size : Nat} (h : ∀ (i : Nat) cs, css[i]? = some cs → cs.length = size) : css.flatten.length = css.length * size := by
  induction css with
  | nil => simp
  | cons c t ih =>
    rw [List.flatten_cons, List.length_append, ih (fun i cs hi => h (i + 1) cs hi), h 0 c rfl, List.length_cons, Nat.add_mul, Nat.one_mul, Nat.add_comm]
/-- Every block of w that is not in fp is as_ it was; the streams are as_ they were. -/
structure Kept (fp : List Nat) (w w' : World) : Prop where
  os : w'.os = w.os
  tape : w'.tape = w.tape
  output : w'.output = w.output
  size : w.heap.size ≤ w'.heap.size
  block : ∀ k, k < w.heap.size → k ∉ fp → w'.heap[k]? = w.heap[k]?
theorem Kept.below {fp : List Nat} {w w' : World} (h : Kept fp w w') {B : Nat} (hB : ∀ b ∈ fp, B ≤ b) (hw : B ≤ w.heap.size) : Below B w w' :=
  ⟨h.os, h.tape, h.output, h.size, fun k hk => h.block k (by omega) (fun hm => by have := hB k hm; omega)⟩
theorem Kept.of_below {w w' : World} (h : Below w.heap.size w w') (fp : List Nat) : Kept fp w w' :=
  ⟨h.os, h.tape, h.output, h.size, fun k hk _ => h.block k hk⟩
theorem Kept.refl (fp : List Nat) (w : World) : Kept fp w w := ⟨rfl, rfl, rfl, Nat.le_refl _, fun _ _ _ => rfl⟩
theorem Kept.trans {fp : List Nat} {a b c : World} (h : Kept fp a b) (k : Kept fp b c) : Kept fp a c :=
  ⟨k.os.trans h.os, k.tape.trans h.tape, k.output.trans h.output, Nat.le_trans h.size k.size, fun i hi' hx => (k.block i (Nat.lt_of_lt_of_le hi' h.size) hx).trans (h.block i hi' hx)⟩
theorem Kept.setCell {fp : List Nat} {a w : World} (h : Kept fp a w) {p : Addr} (h1 : p.block ∈ fp) (u : Value) : Kept fp a (w.setCell p u) :=
  ⟨h.os, h.tape, h.output, by simpa [World.setCell] using h.size, fun k hk hx => (Below.heap_setCell w p u k (fun e => hx (e ▸ h1))).trans (h.block k hk hx)⟩
theorem below_drew (w : World) : Below w.heap.size w w.drew := (Below.refl _ _).drew
theorem below_drewN {B : Nat} {a w : World} (h : Below B a w) (n : Nat) : Below B a (w.drewN n) := ⟨h.os, h.tape, h.output, h.size, h.block⟩
/-- A cell that is there stays as_ it is. -/
theorem ck {w w' : World} (hb : Below w.heap.size w w') {a : Addr} {u : Value} (h : w.cell? a = some u) : w'.cell? a = some u := by
  rw [hb.cell (World.block_lt_of_cell? w a h)]; exact h
theorem ext_trans {a b c : World} (h : Below a.heap.size a b) (k : Below b.heap.size b c) : Below a.heap.size a c := h.trans (k.mono h.size)
theorem ext_alloc {a b : World} (h : Below a.heap.size a b) (o : Obj) : Below a.heap.size a (b.alloc o) := h.alloc h.size o
theorem ext_alloc1 (w : World) (o : Obj) : Below w.heap.size w (w.alloc o) := (Below.refl _ _).alloc (Nat.le_refl _) o
theorem ext_set {a b : World} {g j : Nat} (h : Below a.heap.size a b) (hg : a.heap.size ≤ g) (u : Value) : Below a.heap.size a (b.setCell ⟨g, j, none⟩ u) := h.setCell hg u
theorem le_sum_of_mem {l : List Nat} {x : Nat} (h : x ∈ l) : x ≤ l.sum := by
  induction l with
  | nil => cases h
  | cons a t ih =>
    rw [List.sum_cons]
    rcases List.mem_cons.1 h with rfl | h
    · omega
    · have := ih h; omega
/-- A slice type t over elements e. -/
structure ElemT (P : Program) (t e : TypeId) (size bytes : Nat) : Prop where
  und : P.underlying t = some (.slice e)
  info : ∃ i z, P.info? e = some i ∧ i.zero = some z ∧ i.size = size ∧ i.bytes = bytes ∧ z.cells.size = size
  pos : 0 < size
theorem ElemT.mk' {P : Program} {t e : TypeId} {size bytes : Nat} {z : Value} (h : P.underlying t = some (.slice e)) (hi : (P.info? e).map (fun i => (i.zero, i.size, i.bytes)) = some (some z, size, bytes)) (hz : z.cells.size = size) (hp : 0 < size) : ElemT P t e size bytes := by
  obtain ⟨i, h1, h2, h3, h4⟩ := info_parts hi
  exact ⟨h, ⟨i, z, h1, h2, h3, h4, hz⟩, hp⟩
/-- 'append(v, x...)' onto a row that the call owns, whatever x: nil, empty, cells behind an address. -/
theorem run_app {P : Program} (w : World) {t ty e : TypeId} {size bytes : Nat} (et : ElemT P t e size bytes) {base : Nat} {v : Value} {n : Nat} {xs : List Value} (hown : w.ownsRow base e size v n xs)
    {A : Option Addr} {m c : Nat} {news : List Value} (hr : Rd w A news) (hl : news.length = m * size) (h1 : ∀ u ∈ news, u.oneCell' = true) (hbytes : (n + m) * bytes ≤ 140737488355328) (h63 : n + m ≤ maxLen) (hbase : base ≤ w.heap.size) :
    ∃ v' w', (Builtin.append_ #[t, t] ty #[v, .slice A m c]).run P w = .ok v' w' ∧ w'.ownsRow base e size v' (n + m) (xs ++ news) ∧ w.grownBy w' v.ownBlock ∧ (v'.ownBlock = v.ownBlock ∨ v'.ownBlock = some w.heap.size) := by
  obtain ⟨ht, ⟨i, z, hi, hz, hsize, hby, hzs⟩, hsz⟩ := et
  cases A with
  | none =>
    have hn : news = [] := by
      cases hc : news with
      | nil => rfl
      | cons a b => obtain ⟨g, o, h, _⟩ := hr (by rw [hc]; simp); cases h
    subst hn
    have hm : m = 0 := by
      rcases Nat.eq_zero_or_pos m with h | h
      · exact h
      · have := Nat.mul_pos h hsz
        simp at hl
        omega
    subst hm
    refine ⟨v, w, ?_, by simpa using hown, ⟨rfl, rfl, rfl, Nat.le_refl _, fun _ _ _ => rfl⟩, .inl rfl⟩
    rcases hown.2 with ⟨rfl, rfl⟩ | ⟨g, cap, cur, rfl, _, _, hnc, _⟩
    · simp [Builtin.append_, run_underlying ht, sizeOf, typeInfo, hi, Builtin.lenOf, Builtin.firstCells]
    · simp [Builtin.append_, run_underlying ht, sizeOf, typeInfo, hi, Builtin.lenOf, Builtin.firstCells, hnc, storeCells]
  | some ad =>
    have hcells : ∀ j u, news[j]? = some u → w.cell? (ad.add j) = some u := by
      intro j u hu
      have hp : 0 < news.length := by have := (List.getElem?_eq_some_iff.1 hu).1; omega
      obtain ⟨g, o, h, hc⟩ := hr hp
      injection h with h
      subst h
      rw [Addr.add_lit]
      exact hc j u hu
    obtain ⟨v', w', hrun, h2, h3, _, h5⟩ := run_append_own_at (P := P) w base t ty e i z size bytes ht hi hz hsize hby hzs hsz v n xs hown ad m c news hl hcells h1 h63 hbytes hbase
    exact ⟨v', w', hrun, h2, h3, h5⟩
theorem wp_app {P : Program} {w : World} {o : Oper} {a : Act} {K : Act → World → Prop} {Q : Exit → Act → World → Prop} (s x : Operand) {t e : TypeId} {size bytes : Nat} (et : ElemT P t e size bytes) {base : Nat} {v : Value} {n : Nat} {xs : List Value} (hown : w.ownsRow base e size v n xs)
    {A : Option Addr} {m c : Nat} {news : List Value} (hr : Rd w A news) (hl : news.length = m * size) (h1 : ∀ u ∈ news, u.oneCell' = true) (hbytes : (n + m) * bytes ≤ 140737488355328) (h63 : n + m ≤ maxLen) (hbase : base ≤ w.heap.size)
    (ho : o.op = .call { callee := .builtin .append, args := #[s, x], argTypes := #[t, t] }) (hs : a.eval s = v) (hx : a.eval x = .slice A m c)
    (h : ∀ v' w', w'.ownsRow base e size v' (n + m) (xs ++ news) → w.grownBy w' v.ownBlock → (v'.ownBlock = v.ownBlock ∨ v'.ownBlock = some w.heap.size) → K (a.put o.dst v') w') : o.wp P a w K Q := by
  obtain ⟨v', w', hrun, h2, h3, h4⟩ := run_app (P := P) w (ty := o.type) (c := c) et hown hr hl h1 hbytes h63 hbase
  unfold Oper.wp execOp
  simp only [ho, resolve, invoke, builtin, Sem.run_bind, Sem.run_pure, Result.andThen_ok, List.map_toArray, List.map_cons, List.map_nil, hs, hx, hrun]
  exact h v' w' h2 h3 h4
/-- The same at the head of a list of operations: for the walk. -/
theorem wpList_app {P : Program} {w : World} {ops : Array Oper} {rest : List Oper} {o : Oper} {a : Act} {Q : Exit → Act → World → Prop} (s x : Operand) {t e : TypeId} {size bytes : Nat} (et : ElemT P t e size bytes) {base : Nat} {v : Value} {n : Nat} {xs : List Value} (hown : w.ownsRow base e size v n xs)
    {A : Option Addr} {m c : Nat} {news : List Value} (hr : Rd w A news) (hl : news.length = m * size) (h1 : ∀ u ∈ news, u.oneCell' = true) (hbytes : (n + m) * bytes ≤ 140737488355328) (h63 : n + m ≤ maxLen) (hbase : base ≤ w.heap.size)
    (hgd : o.guard = none) (ho : o.op = .call { callee := .builtin .append, args := #[s, x], argTypes := #[t, t] }) (hs : a.eval s = v) (hx : a.eval x = .slice A m c)
    (h : ∀ v' w', w'.ownsRow base e size v' (n + m) (xs ++ news) → w.grownBy w' v.ownBlock → (v'.ownBlock = v.ownBlock ∨ v'.ownBlock = some w.heap.size) → wpList P ops Q rest (a.put o.dst v') w') : wpList P ops Q (o :: rest) a w :=
  wpList_plain hgd fun _ hK => wp_app s x et hown hr hl h1 hbytes h63 hbase ho hs hx fun v' w' h2 h3 h4 => hK _ _ (h v' w' h2 h3 h4)
theorem own_set {w : World} {base g : Nat} {e : TypeId} {size n cap : Nat} {xs : List Value} (h : w.ownsRow base e size (.slice (some ⟨g, 0, none⟩) n cap) n xs) (j : Nat) (u : Value) : (w.setCell ⟨g, j, none⟩ u).ownsRow base e size (.slice (some ⟨g, 0, none⟩) n cap) n (xs.set j u) :=
  (h.stored j u).1
theorem below_set {B g j : Nat} {a w : World} (h : Below B a w) (hp : B ≤ g) (u : Value) : Below B a (w.setCell ⟨g, j, none⟩ u) := h.setCell hp u
/-- What is owned is read. -/
theorem Rd.of_own {w : World} {base : Nat} {e : TypeId} {size n c : Nat} {A : Option Addr} {xs : List Value} (h : w.ownsRow base e size (.slice A n c) n xs) : Rd w A xs := by
  intro hx
  rcases h.2 with ⟨h1, h2⟩ | ⟨g, cap, cur, hv, hb, hg, r⟩
  · have := h.1
    subst h2
    simp at this
    subst this
    simp at hx
  · have hA : A = some ⟨g, 0, none⟩ := by injection hv
    subst hA
    refine ⟨g, 0, rfl, fun j u hu => ?_⟩
    have := h.cells (g := g) rfl j u hu
    rw [Addr.add_lit] at this
    exact this
/-- A kind of data: how many cells an element takes, when cells read as_ it, and when the cells and all that they lead to are owned, in the blocks fp, all from base on. -/
structure Ty (α : Type) where
  size : Nat
  R : World → List Value → α → Prop
  O : Nat → World → List Value → α → List Nat → Prop
  pos : 0 < size
  len : ∀ w cs a, R w cs a → cs.length = size
  one : ∀ w cs a, R w cs a → ∀ u ∈ cs, u.oneCell' = true
  keep : ∀ w w' cs a, R w cs a → Below w.heap.size w w' → R w' cs a
  okeep : ∀ base w w' cs a fp, O base w cs a fp → (∀ b ∈ fp, w'.heap[b]? = w.heap[b]?) → O base w' cs a fp
  read : ∀ base w cs a fp, O base w cs a fp → R w cs a
  lt : ∀ base w cs a fp, O base w cs a fp → ∀ b ∈ fp, base ≤ b ∧ b < w.heap.size
  nodup : ∀ base w cs a fp, O base w cs a fp → fp.Nodup
  mono : ∀ base base' w cs a fp, base' ≤ base → O base w cs a fp → O base' w cs a fp
/-- The slice value v reads as_ l. -/
def SlR {α : Type} (T : Ty α) (w : World) (v : Value) (l : List α) : Prop :=
  ∃ (A : Option Addr) (c : Nat) (css : List (List Value)), v = .slice A l.length c ∧ l.length ≤ c ∧ css.length = l.length ∧ Rd w A css.flatten ∧ ∀ (i : Nat) cs a, css[i]? = some cs → l[i]? = some a → T.R w cs a
/-- The slice value v reads as_ l, and all of it lies in the blocks fp, from base on, each met once. -/
def SlO {α : Type} (T : Ty α) (e : TypeId) (base : Nat) (w : World) (v : Value) (l : List α) (fp : List Nat) : Prop :=
  ∃ (css : List (List Value)) (fps : List (List Nat)), css.length = l.length ∧ fps.length = l.length ∧ w.ownsRow base e T.size v l.length css.flatten ∧
    (∀ (i : Nat) cs a f, css[i]? = some cs → l[i]? = some a → fps[i]? = some f → T.O base w cs a f) ∧ fp = v.ownBlock.toList ++ fps.flatten ∧ fp.Nodup
section
variable {α : Type} {T : Ty α} {w w' : World} {v : Value} {l : List α} {e base : Nat} {fp : List Nat}
theorem SlR.below (h : SlR T w v l) (hb : Below w.heap.size w w') : SlR T w' v l := by
  obtain ⟨A, c, css, h1, h2, h3, h4, h5⟩ := h
  exact ⟨A, c, css, h1, h2, h3, h4.below hb, fun i cs a hi ha => T.keep _ _ _ _ (h5 i cs a hi ha) hb⟩
theorem SlR.form (h : SlR T w v l) : ∃ A c, v = .slice A l.length c ∧ l.length ≤ c := by
  obtain ⟨A, c, css, e, h1, _⟩ := h
  exact ⟨A, c, e, h1⟩
/-- What stands at place k. -/
theorem SlR.at_ (h : SlR T w v l) {k : Nat} (hk : k < l.length) :
    ∃ g o c cs, v = .slice (some ⟨g, o, none⟩) l.length c ∧ g < w.heap.size ∧ cs.length = T.size ∧ T.R w cs (l[k]) ∧ ∀ j u, cs[j]? = some u → w.cell? ⟨g, o + k * T.size + j, none⟩ = some u := by
  obtain ⟨A, c, css, rfl, h1, h2, h3, h4⟩ := h
  have hall : ∀ (i : Nat) cs, css[i]? = some cs → cs.length = T.size := fun i cs hi => by
    have hlt : i < l.length := by rw [← h2]; exact (List.getElem?_eq_some_iff.1 hi).1
    exact T.len _ _ _ (h4 i cs _ hi (List.getElem?_eq_getElem hlt))
  have hkc : css[k]? = some (css[k]'(by omega)) := List.getElem?_eq_getElem (by omega)
  have h6 := h4 k _ _ hkc (List.getElem?_eq_getElem hk)
  have h5 := T.len _ _ _ h6
  have hpos : 0 < css.flatten.length := by
    rw [flatten_len hall, h2]
    exact Nat.mul_pos (by omega) T.pos
  obtain ⟨g, o, rfl, hg3⟩ := h3 hpos
  have hat : ∀ j u, (css[k]'(by omega))[j]? = some u → w.cell? ⟨g, o + k * T.size + j, none⟩ = some u := fun j u hu => by
    have hj : j < T.size := by rw [← h5]; exact (List.getElem?_eq_some_iff.1 hu).1
    rw [Nat.add_assoc]
    exact hg3 _ u (by rw [flatten_at hall k _ hkc j hj]; exact hu)
  have hp := T.pos
  exact ⟨g, o, c, _, rfl, World.block_lt_of_cell? w _ (hat 0 _ (List.getElem?_eq_getElem (by omega))), h5, h6, hat⟩
theorem SlO.size_ok (h : SlO T e base w v l fp) : ∀ b ∈ fp, base ≤ b ∧ b < w.heap.size := by
  obtain ⟨css, fps, h1, h2, h3, h4, rfl, h6⟩ := h
  intro b hb
  rw [List.mem_append] at hb
  rcases hb with hb | hb
  · exact h3.lt b (by simpa using hb)
  · obtain ⟨f, hf, hbf⟩ := List.mem_flatten.1 hb
    obtain ⟨i, hi, rfl⟩ := List.getElem_of_mem hf
    exact T.lt _ _ _ _ _ (h4 i _ _ _ (List.getElem?_eq_getElem (by omega)) (List.getElem?_eq_getElem (by omega)) (List.getElem?_eq_getElem hi)) b hbf
theorem SlO.keep (h : SlO T e base w v l fp) (hk : ∀ b ∈ fp, w'.heap[b]? = w.heap[b]?) : SlO T e base w' v l fp := by
  obtain ⟨css, fps, h1, h2, h3, h4, h5, h6⟩ := h
  refine ⟨css, fps, h1, h2, ?_, fun i cs a f hi ha hf => T.okeep _ _ _ _ _ _ (h4 i cs a f hi ha hf) fun b hb => hk b ?_, h5, h6⟩
  · refine ⟨h3.1, ?_⟩
    rcases h3.2 with hn | ⟨g, cap, cur, rfl, hb, hgg, rest⟩
    · exact .inl hn
    · exact .inr ⟨g, cap, cur, rfl, hb, by rw [hk g (by rw [h5]; simp [Value.ownBlock])]; exact hgg, rest⟩
  · rw [h5, List.mem_append]
    exact .inr (List.mem_flatten.2 ⟨f, List.mem_of_getElem? hf, hb⟩)
theorem SlO.kept {fp' : List Nat} (h : SlO T e base w v l fp) (hk : Kept fp' w w') (hd : ∀ b ∈ fp, b ∉ fp') : SlO T e base w' v l fp :=
  h.keep fun b hb => hk.block b (h.size_ok b hb).2 (hd b hb)
theorem SlO.below (h : SlO T e base w v l fp) (hb : Below w.heap.size w w') : SlO T e base w' v l fp :=
  h.keep fun b hb' => hb.block b (h.size_ok b hb').2
theorem SlO.read (h : SlO T e base w v l fp) : SlR T w v l := by
  obtain ⟨css, fps, h1, h2, h3, h4, h5, h6⟩ := h
  have hR : ∀ (i : Nat) cs a, css[i]? = some cs → l[i]? = some a → T.R w cs a := fun i cs a hi ha => by
    have hlt : i < fps.length := by rw [h2]; exact (List.getElem?_eq_some_iff.1 ha).1
    exact T.read _ _ _ _ _ (h4 i cs a _ hi ha (List.getElem?_eq_getElem hlt))
  rcases h3.2 with ⟨hv, hn⟩ | ⟨g, cap, cur, hv, hb, hg, hn, r⟩
  · refine ⟨none, 0, css, by rw [hv, hn], by omega, h1, ?_, hR⟩
    have : css = [] := List.eq_nil_of_length_eq_zero (by omega)
    subst this
    exact Rd.nil
  · subst hv
    exact ⟨_, cap, css, rfl, hn, h1, Rd.of_own h3, hR⟩
theorem SlO.mono {base' : Nat} (h : SlO T e base w v l fp) (hb : base' ≤ base) : SlO T e base' w v l fp := by
  obtain ⟨css, fps, h1, h2, h3, h4, h5, h6⟩ := h
  refine ⟨css, fps, h1, h2, ⟨h3.1, ?_⟩, fun i cs a f hi ha hf => T.mono _ _ _ _ _ _ hb (h4 i cs a f hi ha hf), h5, h6⟩
  rcases h3.2 with hn | ⟨g, cap, cur, rfl, hg, hgg, rest⟩
  · exact .inl hn
  · exact .inr ⟨g, cap, cur, rfl, by omega, hgg, rest⟩
theorem SlO.nil : SlO T e base w (.slice none 0 0) [] [] := ⟨[], [], rfl, rfl, World.ownsRow_nil _ _ _ _, fun i cs a f hi => by simp at hi, rfl, List.nodup_nil⟩
end
theorem SlO.nodup {α : Type} {T : Ty α} {e base : Nat} {w : World} {v : Value} {l : List α} {fp : List Nat} (h : SlO T e base w v l fp) : fp.Nodup := by
  obtain ⟨_, _, _, _, _, _, _, h6⟩ := h
  exact h6
/-- Elements of plain cells. -/
def flatT {α : Type} (size : Nat) (f : α → List Value) (hp : 0 < size) (hl : ∀ a, (f a).length = size) (h1 : ∀ a, ∀ u ∈ f a, u.oneCell' = true) : Ty α where
  size := size
  R := fun _ cs a => cs = f a
  O := fun _ _ cs a fp => cs = f a ∧ fp = []
  pos := hp
  len := fun _ _ a h => by rw [h]; exact hl a
  one := fun _ _ a h => by rw [h]; exact h1 a
  keep := fun _ _ _ _ h _ => h
  okeep := fun _ _ _ _ _ _ h _ => h
  read := fun _ _ _ _ _ h => h.1
  lt := fun _ _ _ _ _ h b hb => by rw [h.2] at hb; cases hb
  nodup := fun _ _ _ _ _ h => by rw [h.2]; exact List.nodup_nil
  mono := fun _ _ _ _ _ _ _ h => h
/-- Slices of elements. -/
def slT {α : Type} (T : Ty α) (e : TypeId) : Ty (List α) where
  size := 1
  R := fun w cs l => ∃ v, cs = [v] ∧ SlR T w v l
  O := fun base w cs l fp => ∃ v, cs = [v] ∧ SlO T e base w v l fp
  pos := by omega
  len := fun _ _ _ ⟨_, h, _⟩ => by rw [h]; rfl
  one := fun _ _ _ ⟨v, h, h2⟩ u hu => by
    obtain ⟨A, c, e, _⟩ := h2.form
    rw [h] at hu
    simp at hu
    subst hu
    rw [e]
    rfl
  keep := fun _ _ _ _ ⟨v, h, h2⟩ hb => ⟨v, h, h2.below hb⟩
  okeep := fun _ _ _ _ _ _ ⟨v, h, h2⟩ hk => ⟨v, h, h2.keep hk⟩
  read := fun _ _ _ _ _ ⟨v, h, h2⟩ => ⟨v, h, h2.read⟩
  lt := fun _ _ _ _ _ ⟨_, _, h2⟩ => h2.size_ok
  nodup := fun _ _ _ _ _ ⟨_, _, h2⟩ => h2.nodup
  mono := fun _ _ _ _ _ _ hb ⟨v, h, h2⟩ => ⟨v, h, h2.mono hb⟩
/-- Two kinds side by side. -/
def prodT {α β γ : Type} (T : Ty α) (U : Ty β) (p : γ → α) (q : γ → β) : Ty γ where
  size := T.size + U.size
  R := fun w cs c => ∃ xs ys, cs = xs ++ ys ∧ T.R w xs (p c) ∧ U.R w ys (q c)
  O := fun base w cs c fp => ∃ xs ys f g, cs = xs ++ ys ∧ T.O base w xs (p c) f ∧ U.O base w ys (q c) g ∧ fp = f ++ g ∧ fp.Nodup
  pos := by have := T.pos; omega
  len := fun w cs c ⟨xs, ys, h, h1, h2⟩ => by rw [h, List.length_append, T.len _ _ _ h1, U.len _ _ _ h2]
  one := fun w cs c ⟨xs, ys, h, h1, h2⟩ u hu => by
    rw [h, List.mem_append] at hu
    rcases hu with hu | hu
    · exact T.one _ _ _ h1 u hu
    · exact U.one _ _ _ h2 u hu
  keep := fun _ _ _ _ ⟨xs, ys, h, h1, h2⟩ hb => ⟨xs, ys, h, T.keep _ _ _ _ h1 hb, U.keep _ _ _ _ h2 hb⟩
  okeep := fun _ _ _ _ _ _ ⟨xs, ys, f, g, h, h1, h2, h3, h4⟩ hk => ⟨xs, ys, f, g, h, T.okeep _ _ _ _ _ _ h1 fun b hb => hk b (by rw [h3]; simp [hb]), U.okeep _ _ _ _ _ _ h2 fun b hb => hk b (by rw [h3]; simp [hb]), h3, h4⟩
  read := fun _ _ _ _ _ ⟨xs, ys, f, g, h, h1, h2, _, _⟩ => ⟨xs, ys, h, T.read _ _ _ _ _ h1, U.read _ _ _ _ _ h2⟩
  lt := fun _ _ _ _ _ ⟨xs, ys, f, g, h, h1, h2, h3, _⟩ b hb => by
    rw [h3, List.mem_append] at hb
    rcases hb with hb | hb
    · exact T.lt _ _ _ _ _ h1 b hb
    · exact U.lt _ _ _ _ _ h2 b hb
  nodup := fun _ _ _ _ _ ⟨xs, ys, f, g, h, h1, h2, h3, h4⟩ => h4
  mono := fun _ _ _ _ _ _ hb ⟨xs, ys, f, g, h, h1, h2, h3, h4⟩ => ⟨xs, ys, f, g, h, T.mono _ _ _ _ _ _ hb h1, U.mono _ _ _ _ _ _ hb h2, h3, h4⟩
/-- What an append does to an owned slice: from the law of the row to the law of the data. -/
theorem SlO.grow {α : Type} {T : Ty α} {e base : Nat} {w w' : World} {v v' : Value} {l l' : List α} {css css' : List (List Value)} {fps fps' : List (List Nat)} {fp : List Nat} {m : Nat}
  (h1 : css.length = l.length) (h2 : fps.length = l.length) (h3 : w.ownsRow base e T.size v l.length css.flatten) (h4 : ∀ (i : Nat) cs a f, css[i]? = some cs → l[i]? = some a → fps[i]? = some f → T.O base w cs a f) (h5 : fp = v.ownBlock.toList ++ fps.flatten) (h6 : fp.Nodup)
  (k1 : css'.length = l'.length) (k2 : fps'.length = l'.length) (k4 : ∀ (i : Nat) cs a f, css'[i]? = some cs → l'[i]? = some a → fps'[i]? = some f → T.O base w cs a f) (k6 : fps'.flatten.Nodup) (hd : ∀ b ∈ fps'.flatten, b ∉ fp) (hm : m = l'.length)
  (ho : w'.ownsRow base e T.size v' (l.length + m) (css.flatten ++ css'.flatten)) (hg : w.grownBy w' v.ownBlock) (hv : v'.ownBlock = v.ownBlock ∨ v'.ownBlock = some w.heap.size) :
  ∃ fp', SlO T e base w' v' (l ++ l') fp' ∧ (∀ b ∈ fp', b ∈ fp ∨ b ∈ fps'.flatten ∨ b = w.heap.size) ∧ Kept fp w w' := by
 have hlt : ∀ b ∈ fps.flatten, b < w.heap.size := fun b hb => by
  obtain ⟨f, hf, hbf⟩ := List.mem_flatten.1 hb
  obtain ⟨i, hi, rfl⟩ := List.getElem_of_mem hf
  exact (T.lt _ _ _ _ _ (h4 i _ _ _ (List.getElem?_eq_getElem (by omega)) (List.getElem?_eq_getElem (by omega)) (List.getElem?_eq_getElem hi)) b hbf).2
 have hlt' : ∀ b ∈ fps'.flatten, b < w.heap.size := fun b hb => by
  obtain ⟨f, hf, hbf⟩ := List.mem_flatten.1 hb
  obtain ⟨i, hi, rfl⟩ := List.getElem_of_mem hf
  exact (T.lt _ _ _ _ _ (k4 i _ _ _ (List.getElem?_eq_getElem (by omega)) (List.getElem?_eq_getElem (by omega)) (List.getElem?_eq_getElem hi)) b hbf).2
 have hnd : (v.ownBlock.toList ++ fps.flatten).Nodup := h5 ▸ h6
 have hnot : ∀ b ∈ fps.flatten, some b ≠ v.ownBlock := fun b hb hq => by
  rw [← hq] at hnd
  simp at hnd
  exact hnd.1 _ (List.mem_flatten.1 hb).choose_spec.1 (List.mem_flatten.1 hb).choose_spec.2
 have hnot' : ∀ b ∈ fps'.flatten, some b ≠ v.ownBlock := fun b hb hq => hd b hb (by rw [h5, ← hq]; simp)
 refine ⟨v'.ownBlock.toList ++ (fps ++ fps').flatten, ⟨css ++ css', fps ++ fps', by simp [h1, k1], by simp [h2, k2], ?_, ?_, rfl, ?_⟩, ?_, ?_⟩
 ·rw [List.flatten_append, List.length_append, ← hm]
  exact ho
 ·intro i cs a f hi ha hf
  by_cases hil : i < l.length
  ·rw [List.getElem?_append_left (by omega)] at hi ha hf
   refine T.okeep _ _ _ _ _ _ (h4 i cs a f hi ha hf) fun b hb => ?_
   have hb' : b ∈ fps.flatten := List.mem_flatten.2 ⟨f, List.mem_of_getElem? hf, hb⟩
   exact hg.block b (hlt b hb') (hnot b hb')
  ·rw [List.getElem?_append_right (by omega)] at hi ha hf
   rw [h1] at hi
   rw [h2] at hf
   refine T.okeep _ _ _ _ _ _ (k4 _ cs a f hi ha hf) fun b hb => ?_
   have hb' : b ∈ fps'.flatten := List.mem_flatten.2 ⟨f, List.mem_of_getElem? hf, hb⟩
   exact hg.block b (hlt' b hb') (hnot' b hb')
 ·have hin : (fps ++ fps').flatten.Nodup := by
   rw [List.flatten_append, List.nodup_append]
   refine ⟨(List.nodup_append.1 hnd).2.1, k6, fun a ha b hb hab => hd b hb (by rw [h5, ← hab]; simp; right; exact List.mem_flatten.1 ha)⟩
  rcases hv with hv | hv
  ·rw [hv]
   rw [List.nodup_append]
   refine ⟨(List.nodup_append.1 hnd).1, hin, fun a ha b hb hab => ?_⟩
   subst hab
   rw [List.flatten_append, List.mem_append] at hb
   simp at ha
   rcases hb with hb | hb
   ·exact hnot _ hb ha.symm
   ·exact hnot' _ hb ha.symm
  ·rw [hv]
   simp only [Option.toList_some, List.singleton_append, List.nodup_cons]
   refine ⟨fun hb => ?_, hin⟩
   rw [List.flatten_append, List.mem_append] at hb
   rcases hb with hb | hb
   ·have := hlt _ hb; omega
   ·have := hlt' _ hb; omega
 ·intro b hb
  rw [List.flatten_append, List.mem_append, List.mem_append] at hb
  rcases hb with hb | hb | hb
  ·rcases hv with hv | hv
   ·rw [hv] at hb
    exact .inl (by rw [h5]; simp at hb; simp [hb])
   ·rw [hv] at hb
    simp at hb
    exact .inr (.inr hb)
  ·exact .inl (by rw [h5, List.mem_append]; exact .inr hb)
  ·exact .inr (.inl hb)
 ·exact ⟨hg.os, hg.tape, hg.output, hg.size, fun k hk hn => hg.block k hk (fun hq => hn (by rw [h5, ← hq]; simp))⟩
theorem flat_nil {α : Type} (l : List α) : (l.map fun _ => ([] : List Nat)).flatten = [] := by
  induction l with
  | nil => rfl
  | cons a t ih => simp
/-- 'append(v, xs...)' of plain elements: for the walk. -/
theorem wpList_cat {P : Program} {w : World} {ops : Array Oper} {rest : List Oper} {o : Oper} {act : Act} {Q : Exit → Act → World → Prop} {α : Type} {T : Ty α} (hT : ∀ base w cs a, T.R w cs a → T.O base w cs a []) (s x : Operand) {t e : TypeId} {bytes : Nat} (et : ElemT P t e T.size bytes) {base : Nat} {v : Value} {l : List α} {fp : List Nat} (hO : SlO T e base w v l fp)
    {u : Value} {l' : List α} (hR : SlR T w u l') (hbytes : (l.length + l'.length) * bytes ≤ 140737488355328) (h63 : l.length + l'.length ≤ maxLen) (hbase : base ≤ w.heap.size)
    (hgd : o.guard = none) (ho : o.op = .call { callee := .builtin .append, args := #[s, x], argTypes := #[t, t] }) (hs : act.eval s = v) (hx : act.eval x = u)
    (h : ∀ v' w' fp', SlO T e base w' v' (l ++ l') fp' → (∀ b ∈ fp', b ∈ fp ∨ b = w.heap.size) → Kept fp w w' → wpList P ops Q rest (act.put o.dst v') w') : wpList P ops Q (o :: rest) act w := by
  obtain ⟨css, fps, h1, h2, h3, h4, h5, h6⟩ := hO
  obtain ⟨A, c, css', rfl, r1, r2, r3, r4⟩ := hR
  have hall : ∀ (i : Nat) cs, css'[i]? = some cs → cs.length = T.size := fun i cs hi => by
    have hlt : i < l'.length := by rw [← r2]; exact (List.getElem?_eq_some_iff.1 hi).1
    exact T.len _ _ _ (r4 i cs _ hi (List.getElem?_eq_getElem hlt))
  have h11 : ∀ u ∈ css'.flatten, u.oneCell' = true := fun u hu => by
    obtain ⟨cs, hcs, hu⟩ := List.mem_flatten.1 hu
    obtain ⟨i, hi, rfl⟩ := List.getElem_of_mem hcs
    exact T.one _ _ _ (r4 i _ _ (List.getElem?_eq_getElem hi) (List.getElem?_eq_getElem (by omega))) u hu
  refine wpList_app s x et h3 r3 (by rw [flatten_len hall, r2]) h11 hbytes h63 hbase hgd ho hs hx fun v' w' ho' hg' hv' => ?_
  obtain ⟨fp', g1, g2, g3⟩ := SlO.grow (css' := css') (fps' := l'.map fun _ => []) (l' := l') (m := l'.length) h1 h2 h3 h4 h5 h6 r2 (by simp) (fun i c' a' f' hi ha hf' => by
    simp at hf'
    obtain ⟨_, _, rfl⟩ := hf'
    exact hT _ _ _ _ (r4 i _ _ hi ha)) (by rw [flat_nil]; exact List.nodup_nil) (by rw [flat_nil]; simp) rfl ho' hg' hv'
  exact h v' w' fp' g1 (fun b hb => by
    rcases g2 b hb with g | g | g
    · exact .inl g
    · rw [flat_nil] at g; cases g
    · exact .inr g) g3
theorem SlO.form {α : Type} {T : Ty α} {w : World} {v : Value} {l : List α} {e base : Nat} {fp : List Nat} (h : SlO T e base w v l fp) : ∃ A c, v = .slice A l.length c ∧ l.length ≤ c := h.read.form
/-- Stores into one block leave the others. -/
theorem far_set {w : World} {g j b : Nat} {u : Value} (h : b ≠ g) : (w.setCell ⟨g, j, none⟩ u).heap[b]? = w.heap[b]? := Below.heap_setCell w ⟨g, j, none⟩ u b h
theorem SlO.alloc {α : Type} {T : Ty α} {e base : Nat} {w : World} {v : Value} {l : List α} {fp : List Nat} (h : SlO T e base w v l fp) (o : Obj) : SlO T e base (w.alloc o) v l fp :=
  h.keep fun b hb => Below.heap_alloc _ _ _ (h.size_ok b hb).2
theorem SlO.drewN {α : Type} {T : Ty α} {e base : Nat} {w : World} {v : Value} {l : List α} {fp : List Nat} (h : SlO T e base w v l fp) (n : Nat) : SlO T e base (w.drewN n) v l fp := h.keep fun b hb => rfl
theorem SlO.drew {α : Type} {T : Ty α} {e base : Nat} {w : World} {v : Value} {l : List α} {fp : List Nat} (h : SlO T e base w v l fp) : SlO T e base w.drew v l fp := h.keep fun b hb => rfl
theorem Ty.obelow {α : Type} (T : Ty α) {base : Nat} {w w' : World} {cs : List Value} {a : α} {fp : List Nat} (h : T.O base w cs a fp) (hb : Below w.heap.size w w') : T.O base w' cs a fp :=
  T.okeep _ _ _ _ _ _ h fun b hm => hb.block b (T.lt _ _ _ _ _ h b hm).2
theorem Ty.kp {α : Type} (T : Ty α) {w w' : World} {cs : List Value} {a : α} (h : T.R w cs a) (hb : Below w.heap.size w w') : T.R w' cs a := T.keep _ _ _ _ h hb
end Go.Proofs.YtdaecknfahgddaaGreat
namespace Go.Proofs.YtdaecknfahgddaaGreat
open Go.RowKit
set_option linter.unusedVariables false
theorem Kept.ck {fp : List Nat} {W w1 : World} (hk : Kept fp W w1) {g o : Nat} {u : Value} (h : W.cell? ⟨g, o, none⟩ = some u) (hg : g ∉ fp) : w1.cell? ⟨g, o, none⟩ = some u := by
  have hlt := World.block_lt_of_cell? W _ h
  rw [World.cell?_of_block (w := W) (hk.block g hlt hg)]
  exact h
/-- An append of plain elements at the operation. -/
theorem wp_cat {P : Program} {w : World} {o : Oper} {act : Act} {K : Act → World → Prop} {Q : Exit → Act → World → Prop} {α : Type} {T : Ty α} (hT : ∀ base w cs a, T.R w cs a → T.O base w cs a []) (s x : Operand) {t e : TypeId} {bytes : Nat} (et : ElemT P t e T.size bytes) {base : Nat} {v : Value} {l : List α} {fp : List Nat} (hO : SlO T e base w v l fp)
    {u : Value} {l' : List α} (hR : SlR T w u l') (hbytes : (l.length + l'.length) * bytes ≤ 140737488355328) (h63 : l.length + l'.length ≤ maxLen) (hbase : base ≤ w.heap.size)
    (ho : o.op = .call { callee := .builtin .append, args := #[s, x], argTypes := #[t, t] }) (hs : act.eval s = v) (hx : act.eval x = u)
    (h : ∀ v' w' fp', SlO T e base w' v' (l ++ l') fp' → (∀ b ∈ fp', b ∈ fp ∨ b = w.heap.size) → Kept fp w w' → K (act.put o.dst v') w') : o.wp P act w K Q := by
  obtain ⟨css, fps, h1, h2, h3, h4, h5, h6⟩ := hO
  obtain ⟨A, c, css', rfl, r1, r2, r3, r4⟩ := hR
  have hall : ∀ (i : Nat) cs, css'[i]? = some cs → cs.length = T.size := fun i cs hi => by
    have hlt : i < l'.length := by rw [← r2]; exact (List.getElem?_eq_some_iff.1 hi).1
    exact T.len _ _ _ (r4 i cs _ hi (List.getElem?_eq_getElem hlt))
  have h11 : ∀ u ∈ css'.flatten, u.oneCell' = true := fun u hu => by
    obtain ⟨cs, hcs, hu⟩ := List.mem_flatten.1 hu
    obtain ⟨i, hi, rfl⟩ := List.getElem_of_mem hcs
    exact T.one _ _ _ (r4 i _ _ (List.getElem?_eq_getElem hi) (List.getElem?_eq_getElem (by omega))) u hu
  refine wp_app s x et h3 r3 (by rw [flatten_len hall, r2]) h11 hbytes h63 hbase ho hs hx fun v' w' ho' hg' hv' => ?_
  obtain ⟨fp', g1, g2, g3⟩ := SlO.grow (css' := css') (fps' := l'.map fun _ => []) (l' := l') (m := l'.length) h1 h2 h3 h4 h5 h6 r2 (by simp) (fun i c' a' f' hi ha hf' => by
    simp at hf'
    obtain ⟨_, _, rfl⟩ := hf'
    exact hT _ _ _ _ (r4 i _ _ hi ha)) (by rw [flat_nil]; exact List.nodup_nil) (by rw [flat_nil]; simp) rfl ho' hg' hv'
  exact h v' w' fp' g1 (fun b hb => by
    rcases g2 b hb with g | g | g
    · exact .inl g
    · rw [flat_nil] at g; cases g
    · exact .inr g) g3
/-- The same in a region that draws its order. -/
theorem step_cat {P : Program} {w : World} {ops : Array Oper} {o : Oper} {act : Act} {K : Act → World → Prop} {Q : Exit → Act → World → Prop} {F : Prop} {α : Type} {T : Ty α} (hT : ∀ base w cs a, T.R w cs a → T.O base w cs a []) (s x : Operand) {t e : TypeId} {bytes : Nat} (et : ElemT P t e T.size bytes) {base : Nat} {v : Value} {l : List α} {fp : List Nat} (hO : SlO T e base w v l fp)
    {u : Value} {l' : List α} (hR : SlR T w u l') (hbytes : (l.length + l'.length) * bytes ≤ 140737488355328) (h63 : l.length + l'.length ≤ maxLen) (hbase : base ≤ w.heap.size)
    (hgd : o.guard = none) (ho : o.op = .call { callee := .builtin .append, args := #[s, x], argTypes := #[t, t] }) (hs : act.eval s = v) (hx : act.eval x = u)
    (h : ∀ v' w' fp', SlO T e base w' v' (l ++ l') fp' → (∀ b ∈ fp', b ∈ fp ∨ b = w.heap.size) → Kept fp w w' → K (act.put o.dst v') w') :
    if Region.wanted o (yielded ops act.tmps) = true then Oper.wp P o act w K Q else F := by
  have hw : Region.wanted o (yielded ops act.tmps) = true := by simp [Region.wanted, hgd]
  rw [if_pos hw]
  exact wp_cat hT s x et hO hR hbytes h63 hbase ho hs hx h
theorem flat_one {α : Type} (f : α → Value) (l : List α) : (l.map fun a => [f a]).flatten = l.map f := by
  induction l with
  | nil => rfl
  | cons a t ih => rw [List.map_cons, List.flatten_cons, ih]; rfl
/-- A slice literal of plain one-cell elements, just made. -/
theorem lit_read {α : Type} {T : Ty α} (w : World) (t : TypeId) (f : α → Value) (hf : ∀ w a, T.R w [f a] a) (l : List α) (c : Nat) (hc : l.length ≤ c) (g n : Nat) (hg : w.heap.size = g) (hn : l.length = n) (cs : Array Value) (hcs : cs = (l.map f).toArray) : SlR T (w.alloc (.cells cs t)) (.slice (some ⟨g, 0, none⟩) n c) l := by
  subst hcs
  subst hg
  subst hn
  refine ⟨_, c, l.map fun a => [f a], rfl, hc, by simp, fun _ => ⟨w.heap.size, 0, rfl, fun j u hu => ?_⟩, fun i cs a hi ha => ?_⟩
  · rw [flat_one] at hu
    rw [cell_of_row (w.alloc (.cells (l.map f).toArray t)) w.heap.size (0 + j) (l.map f).toArray t (0, 0) (heap_alloc_new w _)]
    simpa using hu
  · rw [List.getElem?_map, ha] at hi
    simp at hi
    rw [← hi]
    exact hf _ _
/-- '[]T{}', just made. -/
theorem SlO.empty {α : Type} (T : Ty α) (e : TypeId) (w : World) : SlO T e w.heap.size (w.alloc (.cells #[] e)) (.slice (some ⟨w.heap.size, 0, none⟩) 0 0) [] [w.heap.size] :=
  ⟨[], [], rfl, rfl, World.ownsRow_lit w #[] 0 (Nat.le_refl _) (by simp [maxLen]) (by simp), fun i cs a f h => by simp at h, rfl, by simp⟩
/-- A world that has come of W by new blocks alone. -/
structure Xt (W : World) where
  w : World
  h : Below W.heap.size W w
instance (W : World) : Nonempty (Xt W) := ⟨⟨W, Below.refl _ _⟩⟩
/-- A region that draws its order, whose operations read and whose callees hand back the same value in every such world: one walk, in the order of the text. -/
theorem wp_region_ext {P : Program} {id : Nat} {Q : Exit → Act → World → Prop} {a : Act} {W : World} {l : List Oper} (hm : P.follows .mixedOrders = true) (hB : Region.lexB .any l.toArray = true)
    (h : wpQuiet P l.toArray (fun w' => ∃ n : Xt W, w' = n.w) (fun a' => ∀ w', (∃ n : Xt W, w' = n.w) → Q .normal a' w') l a) : (Code.region id l.toArray true).wp P Q a W :=
  wp_region_quiet (C := fun w' => ∃ n : Xt W, w' = n.w) hm hB ⟨⟨W.drew, (Below.refl _ _).drew⟩, rfl⟩ (by simpa using h)
theorem ext_of {P : Program} {f : FuncId} {args : Array Value} {W : World} (n : Xt W) {v : Value} (h : Calls P f args n.w fun e w' => e = .returned v ∧ Below n.w.heap.size n.w w') : Calls P f args n.w fun e w'' => e = .returned v ∧ ∃ m : Xt W, w'' = m.w :=
  h.mono fun _ w' ⟨he, hb⟩ => ⟨he, ⟨w', ext_trans n.h hb⟩, rfl⟩
theorem ext_of_same {P : Program} {f : FuncId} {args : Array Value} {W : World} (n : Xt W) {v : Value} (h : Calls P f args n.w fun e w' => e = .returned v ∧ n.w = w') : Calls P f args n.w fun e w'' => e = .returned v ∧ ∃ m : Xt W, w'' = m.w :=
  h.mono fun _ w' ⟨he, hb⟩ => ⟨he, n, hb.symm⟩
end Go.Proofs.YtdaecknfahgddaaGreat
namespace Go.Proofs.YtdaecknfahgddaaGreat
open Go.RowKit
set_option linter.unusedVariables false
/-- Where an owned slice that is not empty lies. -/
theorem SlO.addr {α : Type} {T : Ty α} {e base : Nat} {w : World} {v : Value} {l : List α} {fp : List Nat} (h : SlO T e base w v l fp) (hp : 0 < l.length) :
    ∃ g c, v = .slice (some ⟨g, 0, none⟩) l.length c ∧ g ∈ fp ∧ base ≤ g ∧ g < w.heap.size ∧ l.length ≤ c ∧ ∀ j, w.frozen? ⟨g, j, none⟩ = false := by
  obtain ⟨css, fps, h1, h2, h3, h4, h5, h6⟩ := h
  rcases h3.2 with ⟨hv, hn⟩ | ⟨g, cap, cur, hv, hb, hg, hn, r⟩
  · omega
  · subst hv
    exact ⟨g, cap, rfl, by rw [h5]; simp [Value.ownBlock], hb, (Array.getElem?_eq_some_iff.1 hg).1, hn, fun j => h3.frozenAt j⟩
theorem flatten_set {css : List (List Value)} {size : Nat} (h : ∀ (i : Nat) cs, css[i]? = some cs → cs.length = size) (k : Nat) (cs : List Value) (hk : css[k]? = some cs) (j : Nat) (hj : j < size) (u : Value) :
    css.flatten.set (k * size + j) u = (css.set k (cs.set j u)).flatten := by
  induction css generalizing k with
  | nil => simp at hk
  | cons c t ih =>
    have hc : c.length = size := h 0 c rfl
    cases k with
    | zero =>
      simp at hk
      subst hk
      simp only [List.flatten_cons, Nat.zero_mul, Nat.zero_add, List.set_cons_zero]
      rw [List.set_append_left _ _ (by omega)]
    | succ k =>
      simp at hk
      simp only [List.flatten_cons, List.set_cons_succ]
      rw [List.set_append_right _ _ (by rw [hc, Nat.add_mul, Nat.one_mul]; omega), hc, show (k + 1) * size + j - size = k * size + j by rw [Nat.add_mul, Nat.one_mul]; omega]
      rw [ih (fun i cs hi => h (i + 1) cs hi) k hk]
/-- A store into one cell of one element of an owned slice of plain elements. -/
theorem SlO.put {α : Type} {T : Ty α} {e base : Nat} {w : World} {g n c : Nat} {l : List α} {fp : List Nat} (h : SlO T e base w (.slice (some ⟨g, 0, none⟩) n c) l fp) (hn : n = l.length) (hT : ∀ w w' cs a f, T.O base w cs a f → T.O base w' cs a f) {i j : Nat} {a : α} (hi : l[i]? = some a) (hj : j < T.size) {u : Value} {a' : α}
    (hc : ∀ w cs f, T.O base w cs a f → T.O base w (cs.set j u) a' f) : SlO T e base (w.setCell ⟨g, i * T.size + j, none⟩ u) (.slice (some ⟨g, 0, none⟩) n c) (l.set i a') fp := by
  subst hn
  obtain ⟨css, fps, h1, h2, h3, h4, h5, h6⟩ := h
  have hlt : i < l.length := (List.getElem?_eq_some_iff.1 hi).1
  have hall : ∀ (i : Nat) cs, css[i]? = some cs → cs.length = T.size := fun i cs hi => by
    have hl : i < css.length := (List.getElem?_eq_some_iff.1 hi).1
    exact T.len _ _ _ (T.read _ _ _ _ _ (h4 i cs _ _ hi (List.getElem?_eq_getElem (by omega)) (List.getElem?_eq_getElem (by omega))))
  have hk : css[i]? = some (css[i]'(by omega)) := List.getElem?_eq_getElem (by omega)
  refine ⟨css.set i ((css[i]'(by omega)).set j u), fps, by simp [h1], by simp [h2], ?_, ?_, h5, h6⟩
  · rw [List.length_set, ← flatten_set hall i _ hk j hj u]
    exact own_set h3 _ _
  · intro k cs x f hk' hx hf
    by_cases hki : k = i
    · subst hki
      rw [List.getElem?_set_self (by omega)] at hk' hx
      injection hk' with hk'
      injection hx with hx
      subst hk' hx
      exact hc _ _ _ (hT _ _ _ _ _ (h4 k _ _ _ hk hi hf))
    · rw [List.getElem?_set_ne (by omega)] at hk' hx
      exact hT _ _ _ _ _ (h4 k _ _ _ hk' hx hf)
theorem flatten_take {css : List (List Value)} {size : Nat} (h : ∀ (i : Nat) cs, css[i]? = some cs → cs.length = size) (m : Nat) : (css.take m).flatten = css.flatten.take (m * size) := by
  induction css generalizing m with
  | nil => simp
  | cons a t ih =>
    have ha := h 0 a rfl
    cases m with
    | zero => simp
    | succ m =>
      have hs : (m + 1) * size = a.length + m * size := by rw [ha, Nat.add_mul, Nat.one_mul]; omega
      rw [List.take_succ_cons, List.flatten_cons, List.flatten_cons, ih (fun i cs hi => h (i + 1) cs hi), hs, List.take_length_add_append]
/-- A shorter slice of an owned one of plain elements. -/
theorem SlO.cut {α : Type} {T : Ty α} {e base : Nat} {w : World} {g n c m : Nat} {l : List α} {fp : List Nat} (h : SlO T e base w (.slice (some ⟨g, 0, none⟩) n c) l fp) (hn : n = l.length) (hm : m ≤ n) : ∃ fp', SlO T e base w (.slice (some ⟨g, 0, none⟩) m c) (l.take m) fp' ∧ ∀ b ∈ fp', b ∈ fp := by
 subst hn
 obtain ⟨css, fps, h1, h2, h3, h4, h5, h6⟩ := h
 have hlen : (l.take m).length = m := by rw [List.length_take]; omega
 have hall : ∀ (i : Nat) cs, css[i]? = some cs → cs.length = T.size := fun i cs hi => by
  have hl : i < css.length := (List.getElem?_eq_some_iff.1 hi).1
  exact T.len _ _ _ (T.read _ _ _ _ _ (h4 i cs _ _ hi (List.getElem?_eq_getElem (by omega)) (List.getElem?_eq_getElem (by omega))))
 have hsub : ∀ b ∈ [g] ++ (fps.take m).flatten, b ∈ fp := fun b hb => by
  rw [h5]
  simp only [List.mem_append, Value.ownBlock, Option.toList_some] at hb ⊢
  rcases hb with hb | hb
  ·exact .inl hb
  ·obtain ⟨f, hf, hbf⟩ := List.mem_flatten.1 hb
   exact .inr (List.mem_flatten.2 ⟨f, List.mem_of_mem_take hf, hbf⟩)
 refine ⟨[g] ++ (fps.take m).flatten, ⟨css.take m, fps.take m, by rw [List.length_take, List.length_take]; omega, by rw [List.length_take, List.length_take]; omega, ?_, ?_, by simp [Value.ownBlock], ?_⟩, hsub⟩
 ·rw [hlen, flatten_take hall]
  rcases h3.2 with ⟨hv, _⟩ | ⟨g', cap, cur, hv, hb, hg, hnc, hcm, hcs, htake⟩
  ·cases hv
  ·cases hv
   refine ⟨?_, .inr ⟨g, c, cur, rfl, hb, hg, by omega, hcm, hcs, ?_⟩⟩
   ·rw [List.length_take, h3.1]
    have := Nat.mul_le_mul_right T.size hm
    omega
   ·rw [← htake, List.take_take]
    congr 1
    have := Nat.mul_le_mul_right T.size hm
    omega
 ·intro i cs x f hi hx hf
  rw [List.getElem?_take] at hi hx hf
  split at hi
  ·rename_i him
   rw [if_pos him] at hx hf
   exact h4 i cs x f hi hx hf
  ·cases hi
 ·have hn6 := h6
  rw [h5] at hn6
  simp only [Value.ownBlock, Option.toList_some, List.singleton_append, List.nodup_cons] at hn6 ⊢
  refine ⟨fun hb => hn6.1 ?_, ?_⟩
  ·obtain ⟨f, hf, hbf⟩ := List.mem_flatten.1 hb
   exact List.mem_flatten.2 ⟨f, List.mem_of_mem_take hf, hbf⟩
  ·have : fps.flatten = (fps.take m).flatten ++ (fps.drop m).flatten := by rw [← List.flatten_append, List.take_append_drop]
   rw [this] at hn6
   exact (List.nodup_append.1 hn6.2).1
/-- A slice literal of one element, just made. -/
theorem lit_one {α : Type} {T : Ty α} (w : World) (t : TypeId) (a : α) (c g : Nat) (hc : 1 ≤ c) (hg : w.heap.size = g) (cs : Array Value) (hT : ∀ w, T.R w cs.toList a) : SlR T (w.alloc (.cells cs t)) (.slice (some ⟨g, 0, none⟩) 1 c) [a] := by
  subst hg
  refine ⟨_, c, [cs.toList], rfl, hc, rfl, fun _ => ⟨w.heap.size, 0, rfl, fun j u hu => ?_⟩, fun i cs' x hi hx => ?_⟩
  · rw [cell_of_row (w.alloc (.cells cs t)) w.heap.size (0 + j) cs t (0, 0) (heap_alloc_new w _)]
    simpa using hu
  · rcases i with _ | i
    · simp at hi hx
      subst hi hx
      exact hT _
    · simp at hi
end Go.Proofs.YtdaecknfahgddaaGreat
namespace Go.Proofs.YtdaecknfahgddaaGreat
open Go.RowKit
set_option linter.unusedVariables false
abbrev Ext (w w' : World) : Prop := Below w.heap.size w w'
abbrev Frm := List (Nat × Value)
def look : Frm → Nat → Option Value
  | [], _ => none
  | e :: L, s => bif Nat.beq s e.1 then some e.2 else look L s
def ev (L : Frm) : Operand → Option Value
  | .tmp t => look L t
  | .const v => some v
  | .global g => some (.pointer (some ⟨g, 0, none⟩))
  | .func f => some (.func (.func f) #[] #[])
def evs (L : Frm) : List Operand → Option (List Value)
  | [] => some []
  | x :: xs => match ev L x, evs L xs with
    | some v, some vs => some (v :: vs)
    | _, _ => none
/-- What is known of the slots. -/
structure Env (n : Nat) (L : Frm) (a : Act) : Prop where
  defers : a.defers = []
  size : a.tmps.size = n
  at_ : ∀ t v, look L t = some v → a.tmps[t]? = some v
theorem look_cons {L : Frm} {d t : Nat} {v : Value} : look ((d, v) :: L) t = if t = d then some v else look L t := by
  show (bif Nat.beq t d then some v else look L t) = _
  by_cases h : t = d
  · subst h; simp
  · have : Nat.beq t d = false := by
      cases hb : Nat.beq t d
      · rfl
      · exact absurd (Nat.eq_of_beq_eq_true hb) h
    simp [this, h]
theorem Env.put {n : Nat} {L : Frm} {a : Act} (h : Env n L a) {d : Nat} (hd : Nat.blt d n = true) (v : Value) : Env n ((d, v) :: L) (a.put (some d) v) := by
  have hd' : d < n := by simpa [Nat.blt_eq] using hd
  refine ⟨h.defers, by simp [Act.put, h.size], fun t u hu => ?_⟩
  rw [look_cons] at hu
  by_cases e : t = d
  · subst e
    rw [if_pos rfl] at hu
    injection hu with hu
    subst hu
    simp [Act.put, h.size, hd']
  · rw [if_neg e] at hu
    simp only [Act.put]
    rw [Array.getElem?_setIfInBounds_ne (Ne.symm e)]
    exact h.at_ t u hu
theorem Env.ev {n : Nat} {L : Frm} {a : Act} (h : Env n L a) {x : Operand} {v : Value} (hx : ev L x = some v) : a.eval x = v := by
  cases x with
  | tmp t =>
    have := h.at_ t v hx
    simp [Act.eval, this]
  | const u => cases hx; rfl
  | global g => cases hx; rfl
  | func f => cases hx; rfl
theorem Env.evs {n : Nat} {L : Frm} {a : Act} (h : Env n L a) {xs : List Operand} {vs : List Value} (hx : evs L xs = some vs) : xs.map a.eval = vs := by
  induction xs generalizing vs with
  | nil => cases hx; rfl
  | cons x t ih =>
    unfold Go.Proofs.YtdaecknfahgddaaGreat.evs at hx
    split at hx
    · rename_i v vs' h1 h2
      cases hx
      rw [List.map_cons, h.ev h1, ih h2]
    · cases hx
/-- Every slot that L' names is known so from L. -/
def Sub : Frm → Frm → Prop
  | [], _ => True
  | e :: L', L => look L e.1 = some e.2 ∧ Sub L' L
theorem Env.sub {n : Nat} {L L' : Frm} {a : Act} (h : Env n L a) (hs : Sub L' L) : Env n L' a := by
  refine ⟨h.defers, h.size, ?_⟩
  induction L' with
  | nil => intro t v hv; cases hv
  | cons e L' ih =>
    obtain ⟨h1, h2⟩ := hs
    intro t v hv
    rw [show e = (e.1, e.2) from rfl, look_cons] at hv
    by_cases ht : t = e.1
    · subst ht
      rw [if_pos rfl] at hv
      rw [← hv] at *
      exact h.at_ _ _ (by rw [h1, hv])
    · rw [if_neg ht] at hv
      exact ih h2 t v hv
inductive Md where
  | take | run | fin
inductive IT where
  | done
  | st (m : Md) (o : Oper) (r : IT)
  | alt (p q : IT)
def wpT (P : Program) (ops : Array Oper) (Q : Exit → Act → World → Prop) : IT → Act → World → Prop
  | .done, a, w => Q .normal a w
  | .st .take o r, a, w => ∃ v, YieldsIf P ops (Ext w) o v a ∧ wpT P ops Q r (a.put o.dst v) w
  | .st .run o r, a, w => if Region.wanted o (yielded ops a.tmps) = true then o.wp P a w (fun a' w' => Ext w w' ∧ wpT P ops Q r a' w') Q else wpT P ops Q r (a.put o.dst undef) w
  | .st .fin o r, a, w => if Region.wanted o (yielded ops a.tmps) = true then o.wp P a w (wpT P ops Q r) Q else wpT P ops Q r (a.put o.dst undef) w
  | .alt p q, a, w => wpT P ops Q p a w ∧ wpT P ops Q q a w
def finT : List Oper → IT
  | [] => .done
  | o :: l => .st .fin o (finT l)
theorem wpList_of_fin {P : Program} {ops : Array Oper} {Q : Exit → Act → World → Prop} (l : List Oper) : ∀ a w, wpT P ops Q (finT l) a w → wpList P ops Q l a w := by
  induction l with
  | nil => exact fun a w h => h
  | cons o l ih =>
    intro a w h
    simp only [finT, wpT] at h
    simp only [wpList]
    split
    · rename_i hw
      rw [if_pos hw] at h
      exact .inl (Oper.wp_mono (fun a w h => ih a w h) h)
    · rename_i hw
      rw [if_neg hw] at h
      exact ih _ _ h
/-- A plan for a region that draws its order: which operation next, by its place. -/
inductive Plan where
  | done
  | st (m : Md) (i : Nat) (r : Plan)
  | alt (p q : Plan)
def Plan.heads : Plan → List Nat
  | .done => []
  | .st _ i _ => [i]
  | .alt p q => p.heads ++ q.heads
def Plan.tree (ops : Array Oper) : Plan → IT
  | .done => .done
  | .st m i r => .st m (ops.getD i default) (r.tree ops)
  | .alt p q => .alt (p.tree ops) (q.tree ops)
/-- Operation j waits for i, by its edges or by those of one that it waits for. -/
def waits (ops : Array Oper) : Nat → Nat → Nat → Bool
  | 0, _, _ => false
  | f + 1, j, i => match ops[j]? with
    | some o => o.after.toList.any fun e => Region.binds .any e && (e.on == i || waits ops f e.on i)
    | none => false
/-- A place that is 'fin' in the plan: it waits for every one that is not. -/
def Plan.isFin (i : Nat) : Plan → Bool
  | .done => false
  | .st m j r => (i == j && (match m with | .fin => true | _ => false)) || r.isFin i
  | .alt p q => p.isFin i || q.isFin i
def Plan.ok (ops : Array Oper) (b : Bool) : Plan → Array Bool → Bool
  | .done, l => !b && (Region.ready .any ops l).isEmpty
  | .st .take i r, l => !b && Nat.blt i ops.size && Region.free .any ops l i && (Region.ready .any ops l).contains i && r.ok ops false (l.setIfInBounds i true)
  | .st .run i r, l => Nat.blt i ops.size && (b || Region.ready .any ops l == [i]) && r.ok ops false (l.setIfInBounds i true)
  | .st .fin i r, l => Nat.blt i ops.size && (b || Region.ready .any ops l == [i]) && r.ok ops false (l.setIfInBounds i true)
  | .alt p q, l => (b || (!(Region.ready .any ops l).isEmpty && (Region.ready .any ops l).all (fun i => (p.heads ++ q.heads).contains i))) && p.ok ops true l && q.ok ops true l
def Plan.len : Plan → Nat
  | .done => 0
  | .st _ _ r => r.len + 1
  | .alt p q => max p.len q.len
def modesIn (top : Plan) : Plan → Bool
  | .done => true
  | .st .fin i r => top.isFin i && modesIn top r
  | .st .take i r => !top.isFin i && modesIn top r
  | .st .run i r => !top.isFin i && modesIn top r
  | .alt p q => modesIn top p && modesIn top q
def Plan.whole (p : Plan) (ops : Array Oper) : Bool :=
  p.ok ops false (Array.replicate ops.size false) && modesIn p p && Nat.ble p.len ops.size && Region.noSelect ops &&
  (List.range ops.size).all fun j => !p.isFin j || (List.range ops.size).all fun i => p.isFin i || waits ops ops.size j i
section
variable {P : Program} {ops : Array Oper} {Q : Exit → Act → World → Prop} {S S' : World → Prop} {h1 : Nat → Bool}
def Closed (ops : Array Oper) (l : Array Bool) : Prop := ∀ j o, ops[j]? = some o → l.getD j false = true → ∀ e ∈ o.after, Region.binds .any e = true → l.getD e.on false = true
theorem Closed.waits {l : Array Bool} (hc : Closed ops l) : ∀ (f j i : Nat), (∀ o, ops[j]? = some o → ∀ e ∈ o.after, Region.binds .any e = true → l.getD e.on false = true) → waits ops f j i = true → l.getD i false = true := by
  intro f
  induction f with
  | zero => intro j i _ h; cases h
  | succ f ih =>
    intro j i hj h
    unfold Go.Proofs.YtdaecknfahgddaaGreat.waits at h
    split at h
    · rename_i o ho
      obtain ⟨e, he, hb⟩ := List.any_eq_true.1 h
      rw [Bool.and_eq_true, Bool.or_eq_true] at hb
      have he' : e ∈ o.after := by simpa using he
      have hl := hj o ho e he' hb.1
      rcases hb.2 with h2 | h2
      · have : e.on = i := by simpa using h2
        rw [← this]; exact hl
      · exact ih e.on i (fun o' ho' => hc e.on o' ho' hl) h2
    · cases h
def wpAnyG (P : Program) (ops : Array Oper) (Q : Exit → Act → World → Prop) (S : World → Prop) (h1 : Nat → Bool) : Nat → Array Bool → Act → World → Prop
  | 0, l, a, w => Region.ready .any ops l = [] ∧ Q .normal a w
  | f + 1, l, a, w => (Region.ready .any ops l = [] → Q .normal a w) ∧
    ∀ i ∈ Region.ready .any ops l, wpOp P ops Q i (fun a' w' => (h1 i = true → S w') ∧ wpAnyG P ops Q S h1 f (l.setIfInBounds i true) a' w') a w
theorem wpAny_of_G : ∀ (f : Nat) (l : Array Bool) (a : Act) (w : World), wpAnyG P ops Q S h1 f l a w → wpAny P .any ops Q f l a w
  | 0, _, _, _, h => h
  | f + 1, _, _, _, h => ⟨h.1, fun i hi => wpOp_mono (fun a' w' h' => wpAny_of_G f _ a' w' h'.2) (h.2 i hi)⟩
theorem G_mono (hS : ∀ w, S w → S' w) : ∀ (f : Nat) (l : Array Bool) (a : Act) (w : World), wpAnyG P ops Q S h1 f l a w → wpAnyG P ops Q S' h1 f l a w
  | 0, _, _, _, h => h
  | f + 1, _, _, _, h => ⟨h.1, fun i hi => wpOp_mono (fun a' w' h' => ⟨fun hh => hS _ (h'.1 hh), G_mono hS f _ a' w' h'.2⟩) (h.2 i hi)⟩
theorem getD_set {l : Array Bool} {i j : Nat} (h : l.getD j true = true) : (l.setIfInBounds i true).getD j true = true := by
  by_cases hij : i = j
  · subst hij
    by_cases hlt : i < l.size
    · simp [hlt]
    · simp [hlt]
  · rw [getD_set_ne true hij]; exact h
theorem G_free : ∀ (f : Nat) (l : Array Bool) (a : Act) (w : World), (∀ i, i < ops.size → h1 i = true → l.getD i true = true) → wpAnyG P ops Q S h1 f l a w → wpAnyG P ops Q S' h1 f l a w
  | 0, _, _, _, _, h => h
  | f + 1, l, _, _, hl, h => ⟨h.1, fun i hi => wpOp_mono (fun a' w' h' => ⟨(fun hh => by
      obtain ⟨h2, o, ho, _⟩ := mem_ready.1 hi
      rw [hl i (Array.getElem?_eq_some_iff.1 ho).1 hh] at h2
      cases h2), G_free f _ a' w' (fun k hk hk' => getD_set (hl k hk hk')) h'.2⟩) (h.2 i hi)⟩
theorem Closed.set {l : Array Bool} (hc : Closed ops l) {i : Nat} (hi : i ∈ Region.ready .any ops l) : Closed ops (l.setIfInBounds i true) := by
  intro j o ho hj e he hb
  refine getD_set_true ?_
  by_cases hij : i = j
  · subst hij
    obtain ⟨_, o', ho', hall⟩ := mem_ready.1 hi
    rw [ho] at ho'
    cases ho'
    exact hall e he hb
  · rw [getD_set_ne false hij] at hj
    exact hc j o ho hj e he hb
theorem G_first (hph : ∀ j i, h1 j = false → h1 i = true → j < ops.size → i < ops.size → waits ops ops.size j i = true) {i : Nat} {oi : Oper} {v : Value} (hi : ops[i]? = some oi) (hi1 : h1 i = true) (hsel : ∀ (j : Nat) (o : Oper) cs b, ops[j]? = some o → o.op ≠ .select cs b)
    (hQ : ∀ c a w, Q (.panic c) (a.put oi.dst v) w → Q (.panic c) a w) :
    ∀ (fuel : Nat) (listed : Array Bool) (a : Act) (w : World), Closed ops listed →
      (∀ j oj, ops[j]? = some oj → j ≠ i → listed.getD j true = false → (∀ e ∈ oj.after, Region.binds .any e = true → e.on ≠ i) → oi.apart ops oj = true) →
      i ∈ Region.ready .any ops listed → YieldsIf P ops S oi v a → S w →
      wpAnyG P ops Q S h1 fuel (listed.setIfInBounds i true) (a.put oi.dst v) w → wpAnyG P ops Q S h1 (fuel + 1) listed a w := by
  intro fuel
  induction fuel with
  | zero =>
    intro listed a w _ _ hr hy hS H
    refine ⟨fun h => (by rw [h] at hr; cases hr), fun j hj => ?_⟩
    by_cases hji : j = i
    · subst hji; exact hy.wpOp hi hS ⟨fun _ => hS, H⟩
    · have := ready_mono hj hji
      rw [H.1] at this
      cases this
  | succ fuel ih =>
    intro listed a w hcl hfree hr hy hS H
    refine ⟨fun h => (by rw [h] at hr; cases hr), fun j hj => ?_⟩
    by_cases hji : j = i
    · subst hji; exact hy.wpOp hi hS ⟨fun _ => hS, H⟩
    · have hm := H.2 j (ready_mono hj hji)
      obtain ⟨hjun, oj, hoj, hall⟩ := mem_ready.1 hj
      have hilt : i < ops.size := (Array.getElem?_eq_some_iff.1 hi).1
      have hjlt : j < ops.size := (Array.getElem?_eq_some_iff.1 hoj).1
      have hnl : listed.getD i false ≠ true := fun h => by
        have h0 := (mem_ready.1 hr).1
        rcases Nat.lt_or_ge i listed.size with h' | h'
        · simp [h'] at h0 h; rw [h0] at h; cases h
        · simp [Array.getElem?_eq_none h'] at h
      have hj1 : h1 j = true := by
        cases hb : h1 j
        · exact absurd (hcl.waits _ _ _ (fun o ho => by rw [hoj] at ho; cases ho; exact hall) (hph j i hb hi1 hjlt hilt)) hnl
        · rfl
      have hnot : ∀ e ∈ oj.after, Region.binds .any e = true → e.on ≠ i := fun e he hb heq => hnl (heq ▸ hall e he hb)
      have h2 := wpOp_putIf hoj (hfree j oj hoj hji hjun hnot) (fun cs b => hsel i oi cs b hi) (fun cs b => hsel j oj cs b hoj) hQ hy hm
      have hfree' : ∀ k ok, ops[k]? = some ok → k ≠ i → (listed.setIfInBounds j true).getD k true = false →
          (∀ e ∈ ok.after, Region.binds .any e = true → e.on ≠ i) → oi.apart ops ok = true := fun k ok hk hki hun hno => by
        refine hfree k ok hk hki ?_ hno
        by_cases hjk : j = k
        · subst hjk; exact hjun
        · rw [getD_set_ne true hjk] at hun; exact hun
      refine wpOp_mono (fun a' w' h3 => ⟨h3.2.1, ih (listed.setIfInBounds j true) a' w' (hcl.set hj) hfree' (ready_mono hr (Ne.symm hji)) h3.1 (h3.2.1 hj1) ?_⟩) h2
      rw [Array.setIfInBounds_comm _ _ hji]
      exact h3.2.2
theorem G_done {l : Array Bool} {a : Act} {w : World} (hr : Region.ready .any ops l = []) (h : Q .normal a w) : ∀ f, wpAnyG P ops Q S h1 f l a w
  | 0 => ⟨hr, h⟩
  | _ + 1 => ⟨fun _ => h, by rw [hr]; simp⟩
theorem plan_sound (top : Plan) (hph : ∀ j i, top.isFin j = true → top.isFin i = false → j < ops.size → i < ops.size → waits ops ops.size j i = true) (hsel : ∀ (j : Nat) (o : Oper) cs b, ops[j]? = some o → o.op ≠ .select cs b)
  (hQ : ∀ c a w d v, Q (.panic c) (Act.put a d v) w → Q (.panic c) a w) (p : Plan) : ∀ (l : Array Bool) (a : Act) (w : World), Closed ops l → modesIn top p = true → wpT P ops Q (p.tree ops) a w →
   (p.ok ops false l = true → ∀ f, p.len ≤ f → wpAnyG P ops Q (Ext w) (fun i => !top.isFin i) f l a w) ∧
   (p.ok ops true l = true → ∀ f, p.len ≤ f + 1 → ∀ i ∈ p.heads, i ∈ Region.ready .any ops l → wpOp P ops Q i (fun a' w' => ((!top.isFin i) = true → Ext w w') ∧ wpAnyG P ops Q (Ext w) (fun i => !top.isFin i) f (l.setIfInBounds i true) a' w') a w) := by
 have hph' : ∀ j i, (!top.isFin j) = false → (!top.isFin i) = true → j < ops.size → i < ops.size → waits ops ops.size j i = true := fun j i h1 h2 => hph j i (by simpa using h1) (by simpa using h2)
 induction p with
 | done =>
  intro l a w hc hm hT
  refine ⟨fun hok f hf => G_done (by simpa [Plan.ok] using hok) hT f, fun hok => by simp [Plan.ok] at hok⟩
 | alt p q ihp ihq =>
  intro l a w hc hm hT
  simp only [modesIn, Bool.and_eq_true] at hm
  obtain ⟨hTp, hTq⟩ := hT
  have hp := ihp l a w hc hm.1 hTp
  have hq := ihq l a w hc hm.2 hTq
  have hB : p.ok ops true l = true → q.ok ops true l = true → ∀ f, max p.len q.len ≤ f + 1 → ∀ i ∈ p.heads ++ q.heads, i ∈ Region.ready .any ops l → wpOp P ops Q i (fun a' w' => ((!top.isFin i) = true → Ext w w') ∧ wpAnyG P ops Q (Ext w) (fun i => !top.isFin i) f (l.setIfInBounds i true) a' w') a w := by
   intro h1 h2 f hf i hi hr
   rcases List.mem_append.1 hi with hi | hi
   ·exact hp.2 h1 f (by omega) i hi hr
   ·exact hq.2 h2 f (by omega) i hi hr
  refine ⟨fun hok f hf => ?_, fun hok f hf i hi hr => ?_⟩
  ·simp only [Plan.ok, Bool.and_eq_true, Bool.false_or] at hok
   obtain ⟨⟨⟨hne, hall⟩, h1⟩, h2⟩ := hok
   simp only [Plan.len] at hf
   have hpos : 0 < f := by
    cases hpl : p with
    | done => rw [hpl] at h1; simp [Plan.ok] at h1
    | st m i r => rw [hpl] at hf; simp only [Plan.len] at hf; omega
    | alt p1 q1 =>
     rcases Nat.eq_zero_or_pos f with h0 | h0
     ·exfalso
      have key : ∀ p : Plan, p.ok ops true l = true → 0 < p.len := by
       intro p
       induction p with
       | done => intro h; simp [Plan.ok] at h
       | st m i r _ => intro _; simp [Plan.len]
       | alt p q ih1 _ => intro h; simp only [Plan.ok, Bool.true_or, Bool.true_and, Bool.and_eq_true] at h; have := ih1 h.1; simp only [Plan.len]; omega
      have := key p h1
      omega
     ·exact h0
   obtain ⟨f, rfl⟩ : ∃ g, f = g + 1 := ⟨f - 1, by omega⟩
   refine ⟨fun h0 => by rw [h0] at hne; simp at hne, fun i hi => hB h1 h2 f hf i ?_ hi⟩
   have := List.all_eq_true.1 hall i hi
   simpa using this
  ·simp only [Plan.ok, Bool.and_eq_true, Bool.true_or, Bool.true_and] at hok
   exact hB hok.1 hok.2 f hf i hi hr
 | st m i r ih =>
  have hop : Nat.blt i ops.size = true → ops[i]? = some (ops.getD i default) := fun h => by
   have : i < ops.size := by simpa [Nat.blt_eq] using h
   simp [this]
  cases m with
  | take =>
   intro l a w hc hm hT
   refine ⟨fun hok f hf => ?_, fun hok => by simp [Plan.ok] at hok⟩
   simp only [Plan.ok, Bool.and_eq_true, Bool.not_false, true_and] at hok
   obtain ⟨⟨⟨hlt, hfr⟩, hrd⟩, hr⟩ := hok
   simp only [modesIn, Bool.and_eq_true] at hm
   obtain ⟨v, hy, hT⟩ := hT
   simp only [Plan.len] at hf
   obtain ⟨f, rfl⟩ : ∃ g, f = g + 1 := ⟨f - 1, by omega⟩
   have hrd' : i ∈ Region.ready .any ops l := by simpa using hrd
   exact G_first hph' (hop hlt) hm.1 hsel (fun c a w h => hQ c a w _ _ h) f l a w hc (Region.free_spec (hop hlt) hfr) hrd' hy (Below.refl _ _) ((ih _ _ w (hc.set hrd') hm.2 hT).1 hr f (by omega))
  | run =>
   intro l a w hc hm hT
   simp only [modesIn, Bool.and_eq_true] at hm
   have hB : Nat.blt i ops.size = true → r.ok ops false (l.setIfInBounds i true) = true → i ∈ Region.ready .any ops l → ∀ f, r.len ≤ f → wpOp P ops Q i (fun a' w' => ((!top.isFin i) = true → Ext w w') ∧ wpAnyG P ops Q (Ext w) (fun i => !top.isFin i) f (l.setIfInBounds i true) a' w') a w := by
    intro hlt hr hrd f hf
    simp only [Plan.tree, wpT] at hT
    have ho' := hop hlt
    generalize ops.getD i default = o' at ho' hT
    unfold wpOp
    simp only [ho']
    split
    ·rename_i hw
     rw [if_pos hw] at hT
     exact .inl (Oper.wp_mono (fun a' w' h => ⟨fun _ => h.1, G_mono (fun x hx => ext_trans h.1 hx) _ _ _ _ ((ih _ a' w' (hc.set hrd) hm.2 h.2).1 hr f hf)⟩) hT)
    ·rename_i hw
     rw [if_neg hw] at hT
     exact ⟨fun _ => Below.refl _ _, (ih _ _ w (hc.set hrd) hm.2 hT).1 hr f hf⟩
   refine ⟨fun hok f hf => ?_, fun hok f hf j hj hrd => ?_⟩
   ·simp only [Plan.ok, Bool.and_eq_true, Bool.false_or] at hok
    obtain ⟨⟨hlt, hrd⟩, hr⟩ := hok
    have hrd' : Region.ready .any ops l = [i] := by simpa using hrd
    simp only [Plan.len] at hf
    obtain ⟨f, rfl⟩ : ∃ g, f = g + 1 := ⟨f - 1, by omega⟩
    refine ⟨(fun h0 => by rw [h0] at hrd'; cases hrd'), fun j hj => ?_⟩
    have : j = i := by rw [hrd'] at hj; simpa using hj
    subst this
    exact hB hlt hr hj f (by omega)
   ·simp only [Plan.ok, Bool.and_eq_true, Bool.true_or, and_true] at hok
    have : j = i := by simpa [Plan.heads] using hj
    subst this
    simp only [Plan.len] at hf
    exact hB hok.1 hok.2 hrd f (by omega)
  | fin =>
   intro l a w hc hm hT
   simp only [modesIn, Bool.and_eq_true] at hm
   have hB : Nat.blt i ops.size = true → r.ok ops false (l.setIfInBounds i true) = true → i ∈ Region.ready .any ops l → ∀ f, r.len ≤ f → wpOp P ops Q i (fun a' w' => ((!top.isFin i) = true → Ext w w') ∧ wpAnyG P ops Q (Ext w) (fun i => !top.isFin i) f (l.setIfInBounds i true) a' w') a w := by
    intro hlt hr hrd f hf
    have hlt' : i < ops.size := by simpa [Nat.blt_eq] using hlt
    have hall : ∀ k, k < ops.size → (!top.isFin k) = true → (l.setIfInBounds i true).getD k true = true := by
     intro k hks hk
     obtain ⟨_, o, ho, hedge⟩ := mem_ready.1 hrd
     have := hc.waits _ i k (fun o' ho' => by rw [ho] at ho'; cases ho'; exact hedge) (hph i k hm.1 (by simpa using hk) hlt' hks)
     have h2 : l.getD k true = true := by
      rcases Nat.lt_or_ge k l.size with h' | h'
      ·simp [h'] at this ⊢; exact this
      ·simp [Array.getElem?_eq_none h'] at this
     exact getD_set h2
    simp only [Plan.tree, wpT] at hT
    have ho' := hop hlt
    generalize ops.getD i default = o' at ho' hT
    unfold wpOp
    simp only [ho']
    split
    ·rename_i hw
     rw [if_pos hw] at hT
     exact .inl (Oper.wp_mono (fun a' w' h => ⟨(fun hh => by rw [hm.1] at hh; cases hh), G_free _ _ _ _ hall ((ih _ a' w' (hc.set hrd) hm.2 h).1 hr f hf)⟩) hT)
    ·rename_i hw
     rw [if_neg hw] at hT
     exact ⟨fun _ => Below.refl _ _, (ih _ _ w (hc.set hrd) hm.2 hT).1 hr f hf⟩
   refine ⟨fun hok f hf => ?_, fun hok f hf j hj hrd => ?_⟩
   ·simp only [Plan.ok, Bool.and_eq_true, Bool.false_or] at hok
    obtain ⟨⟨hlt, hrd⟩, hr⟩ := hok
    have hrd' : Region.ready .any ops l = [i] := by simpa using hrd
    simp only [Plan.len] at hf
    obtain ⟨f, rfl⟩ : ∃ g, f = g + 1 := ⟨f - 1, by omega⟩
    refine ⟨(fun h0 => by rw [h0] at hrd'; cases hrd'), fun j hj => ?_⟩
    have : j = i := by rw [hrd'] at hj; simpa using hj
    subst this
    exact hB hlt hr hj f (by omega)
   ·simp only [Plan.ok, Bool.and_eq_true, Bool.true_or, and_true] at hok
    have : j = i := by simpa [Plan.heads] using hj
    subst this
    simp only [Plan.len] at hf
    exact hB hok.1 hok.2 hrd f (by omega)
end
/-- No way out by a panic. -/
def NoP (Q : Exit → Act → World → Prop) : Exit → Act → World → Prop
  | .panic _, _, _ => False
  | e, a, w => Q e a w
theorem NoP.out {Q : Exit → Act → World → Prop} {e : Exit} {a : Act} {w : World} (h : NoP Q e a w) : Q e a w := by
  cases e <;> first | exact h | exact h.elim
/-- The walk's judgements: of a piece of code, of a region's operations. -/
def W (P : Program) (n : Nat) (Q : Exit → Act → World → Prop) (c : Code) (L : Frm) (w : World) : Prop := ∀ a, Env n L a → c.wp P Q a w
def WT (P : Program) (n : Nat) (ops : Array Oper) (Q : Exit → Act → World → Prop) (T : IT) (L : Frm) (w : World) : Prop := ∀ a, Env n L a → wpT P ops Q T a w
def WX (n : Nat) (Q : Exit → Act → World → Prop) (e : Exit) (L : Frm) (w : World) : Prop := ∀ a, Env n L a → Q e a w
section
variable {P : Program} {n : Nat} {Q : Exit → Act → World → Prop} {L : Frm} {w : World}
/-- A region in the order of the text. -/
theorem w_g {id : Nat} {l : List Oper} (h : WT P n l.toArray Q (finT l) L w) : W P n Q (.region id l.toArray false) L w :=
  fun a ha => wp_region_lit (wpList_of_fin l a w (h a ha))
/-- A region that draws its order, by a plan. -/
theorem w_draw {id : Nat} {ops : Array Oper} (p : Plan) (hm : P.follows .mixedOrders = true) (hp : p.whole ops = true) (h : ∀ w', Ext w w' → WT P n ops (NoP Q) (p.tree ops) L w') : W P n Q (.region id ops true) L w := by
  intro a ha
  refine wp_mono (wp_region_any hm ?_) (fun e a w h => NoP.out h)
  simp only [Plan.whole, Bool.and_eq_true] at hp
  obtain ⟨⟨⟨⟨h1, h2⟩, h3⟩, h4⟩, h5⟩ := hp
  have hph : ∀ j i, p.isFin j = true → p.isFin i = false → j < ops.size → i < ops.size → waits ops ops.size j i = true := by
    intro j i hj hi hjs his
    have h6 := List.all_eq_true.1 h5 j (List.mem_range.2 hjs)
    rw [hj] at h6
    simp only [Bool.not_true, Bool.false_or] at h6
    have h7 := List.all_eq_true.1 h6 i (List.mem_range.2 his)
    rw [hi] at h7
    simpa using h7
  have hc : Closed ops (Array.replicate ops.size false) := by
    intro j o _ hj
    exfalso
    rcases Nat.lt_or_ge j ops.size with h' | h'
    · simp [h'] at hj
    · simp [Array.getElem?_eq_none (xs := Array.replicate ops.size false) (i := j) (by simpa using h')] at hj
  exact wpAny_of_G _ _ _ _ ((plan_sound (Q := NoP Q) p hph (Region.noSelect_spec h4) (fun c a w d v h => h) p _ a w.drew hc h2 (h w.drew (below_drew w) a ha)).1 h1 _ (by simpa using h3))
theorem w_s {x y : Code} (h : W P n (Exit.then (y.wp P Q) Q) x L w) : W P n Q (.seq x y) L w := fun a ha => wp_seq (h a ha)
theorem w_k (h : WX n Q .normal L w) : W P n Q .skip L w := fun a ha => wp_skip (h a ha)
theorem w_exit {id : Nat} (h : WX n Q (.exit id) L w) : W P n Q (.exit id) L w := fun a ha => wp_exit (h a ha)
theorem w_r (h : WX n Q .ret L w) : W P n Q .ret L w := fun a ha => wp_ret (h a ha)
theorem w_block {id : Nat} {c : Code} (h : W P n (Exit.inBlock id Q) c L w) : W P n Q (.block id c) L w := fun a ha => wp_block (h a ha)
theorem t_d {ops : Array Oper} (h : WX n Q .normal L w) : WT P n ops Q .done L w := h
theorem t_d' {ops : Array Oper} (h : WX n Q .normal L w) : WT P n ops (NoP Q) .done L w := h
theorem t_alt {ops : Array Oper} {p q : IT} (h : WT P n ops Q p L w) (k : WT P n ops Q q L w) : WT P n ops Q (.alt p q) L w := fun a ha => ⟨h a ha, k a ha⟩
theorem w_if {c : Operand} {x y : Code} {p : Prop} {d : Decidable p} (hc : ev L c = some (.bool (@decide p d))) (ht : p → W P n Q x L w) (hf : ¬ p → W P n Q y L w) : W P n Q (.cond c x y) L w := by
  intro a ha
  refine wp_cond_split (ha.ev hc) (fun h => ht (of_decide_eq_true h) a ha) (fun h => hf (of_decide_eq_false h) a ha)
theorem w_ifb {c : Operand} {x y : Code} {b : Bool} (hc : ev L c = some (.bool b)) (ht : b = true → W P n Q x L w) (hf : b = false → W P n Q y L w) : W P n Q (.cond c x y) L w :=
  fun a ha => wp_cond_split (ha.ev hc) (fun h => ht h a ha) (fun h => hf h a ha)
theorem w_yes {c : Operand} {x y : Code} (hc : ev L c = some (.bool true)) (h : W P n Q x L w) : W P n Q (.cond c x y) L w := fun a ha => wp_cond_true (ha.ev hc) (h a ha)
theorem w_no {c : Operand} {x y : Code} (hc : ev L c = some (.bool false)) (h : W P n Q y L w) : W P n Q (.cond c x y) L w := fun a ha => wp_cond_false (ha.ev hc) (h a ha)
/-- The ways out. -/
theorem x_s {y : Code} (h : W P n Q y L w) : WX n (Exit.then (y.wp P Q) Q) .normal L w := h
theorem x_then_exit {K : Act → World → Prop} {id : Nat} (h : WX n Q (.exit id) L w) : WX n (Exit.then K Q) (.exit id) L w := h
theorem x_t {K : Act → World → Prop} (h : WX n Q .ret L w) : WX n (Exit.then K Q) .ret L w := h
theorem x_block_exit {id : Nat} (h : WX n Q .normal L w) : WX n (Exit.inBlock id Q) (.exit id) L w := fun a ha => by
  show if id = id then _ else _
  rw [if_pos rfl]; exact h a ha
theorem x_block_other {id id' : Nat} (hne : Nat.beq id' id = false) (h : WX n Q (.exit id') L w) : WX n (Exit.inBlock id Q) (.exit id') L w := fun a ha => by
  show if id' = id then _ else _
  rw [if_neg (fun e => by subst e; simp at hne)]; exact h a ha
theorem x_b {id : Nat} (h : WX n Q .normal L w) : WX n (Exit.inBlock id Q) .normal L w := h
theorem x_block_ret {id : Nat} (h : WX n Q .ret L w) : WX n (Exit.inBlock id Q) .ret L w := h
theorem least (M : Nat → Prop) (h : ∃ k, M k) : ∃ k, M k ∧ ∀ j, M j → k ≤ j := by
  obtain ⟨k, hk⟩ := h
  induction k using Nat.strongRecOn with
  | _ k ih =>
    by_cases h : ∃ j, j < k ∧ M j
    · obtain ⟨j, hj, hM⟩ := h
      exact ih j hj hM
    · refine ⟨k, hk, fun j hj => ?_⟩
      rcases Nat.lt_or_ge j k with hlt | hge
      · exact absurd ⟨j, hlt, hj⟩ h
      · exact hge
/-- A loop: what holds at every round's head, by letters x; a measure. -/
theorem w_loop {X : Type} (I : X → World → Prop) (F : X → Frm) (μ : X → Nat) {c : Code} (x0 : X) (h0 : I x0 w) (hs : Sub (F x0) L)
    (round : ∀ x w', I x w' → W P n (Exit.then (fun a' w'' => ∃ x', I x' w'' ∧ Env n (F x') a' ∧ μ x' < μ x) Q) c (F x) w') : W P n Q (.loop c) L w := by
  intro a ha
  classical
  let M : Act → World → Nat → Prop := fun a w k => ∃ x, I x w ∧ Env n (F x) a ∧ μ x = k
  let ν : Act → World → Nat := fun a w => if h : ∃ k, M a w k then Classical.choose (least _ h) else 0
  have hν : ∀ a w, (∃ k, M a w k) → M a w (ν a w) ∧ ∀ j, M a w j → ν a w ≤ j := fun a w h => by
    show M a w (dite _ _ _) ∧ ∀ j, M a w j → dite _ _ _ ≤ j
    rw [dif_pos h]
    exact Classical.choose_spec (least _ h)
  refine wp_loop (fun a w => ∃ k, M a w k) ν ⟨_, x0, h0, ha.sub hs, rfl⟩ fun a w hI => ?_
  obtain ⟨⟨x, h1, h2, h3⟩, _⟩ := hν a w hI
  refine wp_mono (round x w h1 a h2) fun e a' w' hq => ?_
  cases e with
  | normal =>
    obtain ⟨x', k1, k2, k3⟩ := hq
    have hM : ∃ k, M a' w' k := ⟨_, x', k1, k2, rfl⟩
    exact ⟨hM, by have := (hν a' w' hM).2 _ ⟨x', k1, k2, rfl⟩; omega⟩
  | _ => exact hq
theorem x_r {X : Type} {I : X → World → Prop} {F : X → Frm} {μ : X → Nat} {m : Nat} (x' : X) (hI : I x' w) (hs : Sub (F x') L) (hm : μ x' < m) :
    WX n (Exit.then (fun a' w'' => ∃ x', I x' w'' ∧ Env n (F x') a' ∧ μ x' < m) Q) .normal L w := fun a ha => ⟨x', hI, ha.sub hs, hm⟩
end
end Go.Proofs.YtdaecknfahgddaaGreat
namespace Go.Proofs.YtdaecknfahgddaaGreat
open Go.RowKit
set_option linter.unusedVariables false
def intT : Ty Int := flatT 1 (fun n => [I n]) (by omega) (fun _ => rfl) (fun _ u hu => by simp at hu; rw [hu]; rfl)
def byteT : Ty UInt8 := flatT 1 (fun b => [.int .u8 (b.toNat : Int)]) (by omega) (fun _ => rfl) (fun _ u hu => by simp at hu; rw [hu]; rfl)
theorem take_succ {α : Type} {l : List α} {k : Nat} {x : α} (h : l[k]? = some x) : l.take (k + 1) = l.take k ++ [x] := by
  rw [List.take_add_one, h]; rfl
theorem int_flat (base : Nat) (w : World) (cs : List Value) (a : Int) (h : intT.R w cs a) : intT.O base w cs a [] := ⟨h, rfl⟩
theorem byte_flat (base : Nat) (w : World) (cs : List Value) (a : UInt8) (h : byteT.R w cs a) : byteT.O base w cs a [] := ⟨h, rfl⟩
structure Hop where
  ia : Int
  ing : Int
  eg : Int
  exp : Int
  mac : Int
  deriving DecidableEq
structure ASd where
  isd : Int
  core : Bool
  key : Int
  deriving DecidableEq
structure Lnk where
  a : Int
  ai : Int
  b : Int
  bi : Int
  kind : Int
  deriving DecidableEq
structure Stp where
  ia : Int
  ing : Int
  eg : Int
  deriving DecidableEq
structure Part where
  kind : Int
  ts : Int
  beta : Int
  hops : List Hop
  deriving DecidableEq
abbrev Path := List Part
structure Seg where
  ts : Int
  beta : Int
  hops : List Hop
  deriving DecidableEq
structure Topo where
  ases : List ASd
  links : List Lnk
  deriving DecidableEq
structure Pkt where
  kind : Int
  src : Int
  dst : Int
  path : Path
  pidx : Int
  hidx : Int
  beta : Int
  rid : Int
  seq : Int
  pay : List UInt8
  deriving DecidableEq
def hopT : Ty Hop := flatT 5 (fun d : Hop => [I d.ia, I d.ing, I d.eg, I d.exp, I d.mac]) (by omega) (fun _ => rfl) (fun _ u hu => by simp at hu; rcases hu with rfl | rfl | rfl | rfl | rfl <;> rfl)
theorem hop_flat (base : Nat) (w : World) (cs : List Value) (a : Hop) (h : hopT.R w cs a) : hopT.O base w cs a [] := ⟨h, rfl⟩
theorem hop_form {w : World} {cs : List Value} {d : Hop} (h : hopT.R w cs d) : cs = [I (d.ia), I (d.ing), I (d.eg), I (d.exp), I (d.mac)] := h
theorem hop_at {k : Nat} {w : World} {v : Value} {l : List Hop} (h : SlR hopT w v l) (hk : k < l.length) : ∃ g o c x, v = .slice (some ⟨g, o, none⟩) l.length c ∧ g < w.heap.size ∧ Hid (l[k]? = some x) ∧ w.cell? ⟨g, o + k * 5, none⟩ = some (I (x.ia)) ∧ w.cell? ⟨g, o + k * 5 + 1, none⟩ = some (I (x.ing)) ∧ w.cell? ⟨g, o + k * 5 + 2, none⟩ = some (I (x.eg)) ∧ w.cell? ⟨g, o + k * 5 + 3, none⟩ = some (I (x.exp)) ∧ w.cell? ⟨g, o + k * 5 + 4, none⟩ = some (I (x.mac)) := by
  obtain ⟨g, o, c, cs, e, h1, _, h4, h5⟩ := SlR.at_ h hk
  change cs = _ at h4
  subst h4
  exact ⟨g, o, c, _, e, h1, List.getElem?_eq_getElem hk, h5 0 _ rfl, h5 1 _ rfl, h5 2 _ rfl, h5 3 _ rfl, h5 4 _ rfl⟩
def asnT : Ty ASd := flatT 3 (fun d : ASd => [I d.isd, .bool d.core, I d.key]) (by omega) (fun _ => rfl) (fun _ u hu => by simp at hu; rcases hu with rfl | rfl | rfl <;> rfl)
theorem asn_flat (base : Nat) (w : World) (cs : List Value) (a : ASd) (h : asnT.R w cs a) : asnT.O base w cs a [] := ⟨h, rfl⟩
theorem asn_form {w : World} {cs : List Value} {d : ASd} (h : asnT.R w cs d) : cs = [I (d.isd), .bool d.core, I (d.key)] := h
def linkT : Ty Lnk := flatT 5 (fun d : Lnk => [I d.a, I d.ai, I d.b, I d.bi, I d.kind]) (by omega) (fun _ => rfl) (fun _ u hu => by simp at hu; rcases hu with rfl | rfl | rfl | rfl | rfl <;> rfl)
theorem link_flat (base : Nat) (w : World) (cs : List Value) (a : Lnk) (h : linkT.R w cs a) : linkT.O base w cs a [] := ⟨h, rfl⟩
theorem link_form {w : World} {cs : List Value} {d : Lnk} (h : linkT.R w cs d) : cs = [I (d.a), I (d.ai), I (d.b), I (d.bi), I (d.kind)] := h
theorem link_at {k : Nat} {w : World} {v : Value} {l : List Lnk} (h : SlR linkT w v l) (hk : k < l.length) : ∃ g o c x, v = .slice (some ⟨g, o, none⟩) l.length c ∧ g < w.heap.size ∧ Hid (l[k]? = some x) ∧ w.cell? ⟨g, o + k * 5, none⟩ = some (I (x.a)) ∧ w.cell? ⟨g, o + k * 5 + 1, none⟩ = some (I (x.ai)) ∧ w.cell? ⟨g, o + k * 5 + 2, none⟩ = some (I (x.b)) ∧ w.cell? ⟨g, o + k * 5 + 3, none⟩ = some (I (x.bi)) ∧ w.cell? ⟨g, o + k * 5 + 4, none⟩ = some (I (x.kind)) := by
  obtain ⟨g, o, c, cs, e, h1, _, h4, h5⟩ := SlR.at_ h hk
  change cs = _ at h4
  subst h4
  exact ⟨g, o, c, _, e, h1, List.getElem?_eq_getElem hk, h5 0 _ rfl, h5 1 _ rfl, h5 2 _ rfl, h5 3 _ rfl, h5 4 _ rfl⟩
def stepT : Ty Stp := flatT 3 (fun d : Stp => [I d.ia, I d.ing, I d.eg]) (by omega) (fun _ => rfl) (fun _ u hu => by simp at hu; rcases hu with rfl | rfl | rfl <;> rfl)
theorem step_flat (base : Nat) (w : World) (cs : List Value) (a : Stp) (h : stepT.R w cs a) : stepT.O base w cs a [] := ⟨h, rfl⟩
theorem step_form {w : World} {cs : List Value} {d : Stp} (h : stepT.R w cs d) : cs = [I (d.ia), I (d.ing), I (d.eg)] := h
theorem step_at {k : Nat} {w : World} {v : Value} {l : List Stp} (h : SlR stepT w v l) (hk : k < l.length) : ∃ g o c x, v = .slice (some ⟨g, o, none⟩) l.length c ∧ g < w.heap.size ∧ Hid (l[k]? = some x) ∧ w.cell? ⟨g, o + k * 3, none⟩ = some (I (x.ia)) ∧ w.cell? ⟨g, o + k * 3 + 1, none⟩ = some (I (x.ing)) ∧ w.cell? ⟨g, o + k * 3 + 2, none⟩ = some (I (x.eg)) := by
  obtain ⟨g, o, c, cs, e, h1, _, h4, h5⟩ := SlR.at_ h hk
  change cs = _ at h4
  subst h4
  exact ⟨g, o, c, _, e, h1, List.getElem?_eq_getElem hk, h5 0 _ rfl, h5 1 _ rfl, h5 2 _ rfl⟩
def partT_0 : Ty Part := flatT 3 (fun d : Part => [I d.kind, I d.ts, I d.beta]) (by omega) (fun _ => rfl) (fun _ u hu => by simp at hu; rcases hu with rfl | rfl | rfl <;> rfl)
def partT : Ty Part := (prodT partT_0 (slT hopT 86) id Part.hops)
theorem part_form {w : World} {cs : List Value} {d : Part} (h : partT.R w cs d) : ∃ A3 cA3, cs = [I (d.kind), I (d.ts), I (d.beta), .slice A3 d.hops.length cA3] ∧ (SlR hopT w (.slice A3 d.hops.length cA3) d.hops ∧ d.hops.length ≤ cA3) := by
  obtain ⟨xs0, ys0, e0, g0, r0⟩ := h
  change _ = _ at g0
  subst g0
  obtain ⟨v1, rfl, hv1⟩ := r0
  obtain ⟨A3, cA3, rfl, hc1⟩ := hv1.form
  subst e0
  exact ⟨A3, cA3, rfl, ⟨hv1, hc1⟩⟩
theorem part_mk {w : World} {d : Part} {A3 : Option Addr} {cA3 : Nat} (h3 : SlR hopT w (.slice A3 d.hops.length cA3) d.hops) : partT.R w [I (d.kind), I (d.ts), I (d.beta), .slice A3 d.hops.length cA3] d := ⟨[_, _, _], _, rfl, rfl, ⟨_, rfl, h3⟩⟩
theorem part_oform {base : Nat} {w : World} {cs : List Value} {d : Part} {fp : List Nat} (h : partT.O base w cs d fp) : ∃ A3 cA3 f3, cs = [I (d.kind), I (d.ts), I (d.beta), .slice A3 d.hops.length cA3] ∧ SlO hopT 86 base w (.slice A3 d.hops.length cA3) d.hops f3 ∧ fp = f3 ∧ fp.Nodup := by
  have hnd := partT.nodup _ _ _ _ _ h
  obtain ⟨xs0, ys0, p0, q0, e0, g0, r0, t0, _⟩ := h
  obtain ⟨m0, n0⟩ := g0
  subst m0 n0
  obtain ⟨v1, rfl, hv1⟩ := r0
  obtain ⟨A3, cA3, rfl, hc1⟩ := hv1.form
  subst e0
  subst t0
  exact ⟨A3, cA3, _, rfl, hv1, by simp, hnd⟩
theorem part_at {k : Nat} {w : World} {v : Value} {l : List Part} (h : SlR partT w v l) (hk : k < l.length) : ∃ g o c x A3 cA3, v = .slice (some ⟨g, o, none⟩) l.length c ∧ g < w.heap.size ∧ Hid (l[k]? = some x) ∧ SlR hopT w (.slice A3 x.hops.length cA3) x.hops ∧ x.hops.length ≤ cA3 ∧ w.cell? ⟨g, o + k * 4, none⟩ = some (I (x.kind)) ∧ w.cell? ⟨g, o + k * 4 + 1, none⟩ = some (I (x.ts)) ∧ w.cell? ⟨g, o + k * 4 + 2, none⟩ = some (I (x.beta)) ∧ w.cell? ⟨g, o + k * 4 + 3, none⟩ = some (.slice A3 x.hops.length cA3) := by
  obtain ⟨g, o, c, cs, e, h1, _, h4, h5⟩ := SlR.at_ h hk
  obtain ⟨A3, cA3, rfl, ⟨k3, m3⟩⟩ := part_form h4
  exact ⟨g, o, c, _, A3, cA3, e, h1, List.getElem?_eq_getElem hk, k3, m3, h5 0 _ rfl, h5 1 _ rfl, h5 2 _ rfl, h5 3 _ rfl⟩
def pathT : Ty Path := slT partT 82
theorem path_form {w : World} {cs : List Value} {d : Path} (h : pathT.R w cs d) : ∃ A0 cA0, cs = [.slice A0 d.length cA0] ∧ (SlR partT w (.slice A0 d.length cA0) d ∧ d.length ≤ cA0) := by
  obtain ⟨v, rfl, hv⟩ := h
  obtain ⟨A, c, rfl, hc⟩ := hv.form
  exact ⟨A, c, rfl, hv, hc⟩
theorem path_mk {w : World} {d : Path} {A0 : Option Addr} {cA0 : Nat} (h0 : SlR partT w (.slice A0 d.length cA0) d) : pathT.R w [.slice A0 d.length cA0] d := ⟨_, rfl, h0⟩
theorem path_oform {base : Nat} {w : World} {cs : List Value} {d : Path} {fp : List Nat} (h : pathT.O base w cs d fp) : ∃ A0 cA0 f0, cs = [.slice A0 d.length cA0] ∧ SlO partT 82 base w (.slice A0 d.length cA0) d f0 ∧ fp = f0 ∧ fp.Nodup := by
  obtain ⟨v, rfl, hv⟩ := h
  obtain ⟨A, c, rfl, hc⟩ := hv.form
  exact ⟨A, c, fp, rfl, hv, rfl, hv.nodup⟩
def segT_0 : Ty Seg := flatT 2 (fun d : Seg => [I d.ts, I d.beta]) (by omega) (fun _ => rfl) (fun _ u hu => by simp at hu; rcases hu with rfl | rfl <;> rfl)
def segT : Ty Seg := (prodT segT_0 (slT hopT 86) id Seg.hops)
theorem seg_form {w : World} {cs : List Value} {d : Seg} (h : segT.R w cs d) : ∃ A2 cA2, cs = [I (d.ts), I (d.beta), .slice A2 d.hops.length cA2] ∧ (SlR hopT w (.slice A2 d.hops.length cA2) d.hops ∧ d.hops.length ≤ cA2) := by
  obtain ⟨xs0, ys0, e0, g0, r0⟩ := h
  change _ = _ at g0
  subst g0
  obtain ⟨v1, rfl, hv1⟩ := r0
  obtain ⟨A2, cA2, rfl, hc1⟩ := hv1.form
  subst e0
  exact ⟨A2, cA2, rfl, ⟨hv1, hc1⟩⟩
theorem seg_mk {w : World} {d : Seg} {A2 : Option Addr} {cA2 : Nat} (h2 : SlR hopT w (.slice A2 d.hops.length cA2) d.hops) : segT.R w [I (d.ts), I (d.beta), .slice A2 d.hops.length cA2] d := ⟨[_, _], _, rfl, rfl, ⟨_, rfl, h2⟩⟩
def topoT : Ty Topo := (prodT (slT asnT 135) (slT linkT 152) Topo.ases Topo.links)
theorem topo_form {w : World} {cs : List Value} {d : Topo} (h : topoT.R w cs d) : ∃ A0 cA0 A1 cA1, cs = [.slice A0 d.ases.length cA0, .slice A1 d.links.length cA1] ∧ (SlR asnT w (.slice A0 d.ases.length cA0) d.ases ∧ d.ases.length ≤ cA0) ∧ (SlR linkT w (.slice A1 d.links.length cA1) d.links ∧ d.links.length ≤ cA1) := by
  obtain ⟨xs0, ys0, e0, g0, r0⟩ := h
  obtain ⟨v0, rfl, hv0⟩ := g0
  obtain ⟨A0, cA0, rfl, hc0⟩ := hv0.form
  obtain ⟨v1, rfl, hv1⟩ := r0
  obtain ⟨A1, cA1, rfl, hc1⟩ := hv1.form
  subst e0
  exact ⟨A0, cA0, A1, cA1, rfl, ⟨hv0, hc0⟩, ⟨hv1, hc1⟩⟩
theorem topo_mk {w : World} {d : Topo} {A0 : Option Addr} {cA0 : Nat} (h0 : SlR asnT w (.slice A0 d.ases.length cA0) d.ases) {A1 : Option Addr} {cA1 : Nat} (h1 : SlR linkT w (.slice A1 d.links.length cA1) d.links) : topoT.R w [.slice A0 d.ases.length cA0, .slice A1 d.links.length cA1] d := ⟨[_], _, rfl, ⟨_, rfl, h0⟩, ⟨_, rfl, h1⟩⟩
def pktT_0 : Ty Pkt := flatT 3 (fun d : Pkt => [I d.kind, I d.src, I d.dst]) (by omega) (fun _ => rfl) (fun _ u hu => by simp at hu; rcases hu with rfl | rfl | rfl <;> rfl)
def pktT_2 : Ty Pkt := flatT 5 (fun d : Pkt => [I d.pidx, I d.hidx, I d.beta, I d.rid, I d.seq]) (by omega) (fun _ => rfl) (fun _ u hu => by simp at hu; rcases hu with rfl | rfl | rfl | rfl | rfl <;> rfl)
def pktT : Ty Pkt := (prodT pktT_0 (prodT pathT (prodT pktT_2 (slT byteT 5) id Pkt.pay) Pkt.path id) id id)
theorem pkt_form {w : World} {cs : List Value} {d : Pkt} (h : pktT.R w cs d) : ∃ A3 cA3 A9 cA9, cs = [I (d.kind), I (d.src), I (d.dst), .slice A3 d.path.length cA3, I (d.pidx), I (d.hidx), I (d.beta), I (d.rid), I (d.seq), .slice A9 d.pay.length cA9] ∧ (SlR partT w (.slice A3 d.path.length cA3) d.path ∧ d.path.length ≤ cA3) ∧ (SlR byteT w (.slice A9 d.pay.length cA9) d.pay ∧ d.pay.length ≤ cA9) := by
  obtain ⟨xs0, ys0, e0, g0, r0⟩ := h
  change _ = _ at g0
  subst g0
  obtain ⟨xs1, ys1, e1, g1, r1⟩ := r0
  obtain ⟨A3, cA3, rfl, hw3⟩ := path_form g1
  obtain ⟨xs2, ys2, e2, g2, r2⟩ := r1
  change _ = _ at g2
  subst g2
  obtain ⟨v3, rfl, hv3⟩ := r2
  obtain ⟨A9, cA9, rfl, hc3⟩ := hv3.form
  subst e2
  subst e1
  subst e0
  exact ⟨A3, cA3, A9, cA9, rfl, hw3, ⟨hv3, hc3⟩⟩
theorem pkt_mk {w : World} {d : Pkt} {A3 : Option Addr} {cA3 : Nat} (h3 : SlR partT w (.slice A3 d.path.length cA3) d.path) {A9 : Option Addr} {cA9 : Nat} (h9 : SlR byteT w (.slice A9 d.pay.length cA9) d.pay) : pktT.R w [I (d.kind), I (d.src), I (d.dst), .slice A3 d.path.length cA3, I (d.pidx), I (d.hidx), I (d.beta), I (d.rid), I (d.seq), .slice A9 d.pay.length cA9] d := ⟨[_, _, _], _, rfl, rfl, ⟨[_], _, rfl, ⟨_, rfl, h3⟩, ⟨[_, _, _, _, _], _, rfl, rfl, ⟨_, rfl, h9⟩⟩⟩⟩
theorem pkt_oform {base : Nat} {w : World} {cs : List Value} {d : Pkt} {fp : List Nat} (h : pktT.O base w cs d fp) : ∃ A3 cA3 A9 cA9 f3 f9, cs = [I (d.kind), I (d.src), I (d.dst), .slice A3 d.path.length cA3, I (d.pidx), I (d.hidx), I (d.beta), I (d.rid), I (d.seq), .slice A9 d.pay.length cA9] ∧ SlO partT 82 base w (.slice A3 d.path.length cA3) d.path f3 ∧ SlO byteT 5 base w (.slice A9 d.pay.length cA9) d.pay f9 ∧ fp = f3 ++ f9 ∧ fp.Nodup := by
  have hnd := pktT.nodup _ _ _ _ _ h
  obtain ⟨xs0, ys0, p0, q0, e0, g0, r0, t0, _⟩ := h
  obtain ⟨m0, n0⟩ := g0
  subst m0 n0
  obtain ⟨xs1, ys1, p1, q1, e1, g1, r1, t1, _⟩ := r0
  obtain ⟨A3, cA3, z3, rfl, hw3, rfl, _⟩ := path_oform g1
  obtain ⟨xs2, ys2, p2, q2, e2, g2, r2, t2, _⟩ := r1
  obtain ⟨m2, n2⟩ := g2
  subst m2 n2
  obtain ⟨v3, rfl, hv3⟩ := r2
  obtain ⟨A9, cA9, rfl, hc3⟩ := hv3.form
  subst e2
  subst t2
  subst e1
  subst t1
  subst e0
  subst t0
  exact ⟨A3, cA3, A9, cA9, _, _, rfl, hw3, hv3, by simp, hnd⟩
theorem pkt_omk {base : Nat} {w : World} {d : Pkt} {A3 : Option Addr} {cA3 : Nat} {f3 : List Nat} (h3 : SlO partT 82 base w (.slice A3 d.path.length cA3) d.path f3) {A9 : Option Addr} {cA9 : Nat} {f9 : List Nat} (h9 : SlO byteT 5 base w (.slice A9 d.pay.length cA9) d.pay f9) (hnd : (f3 ++ f9).Nodup) : ∃ fp, pktT.O base w [I (d.kind), I (d.src), I (d.dst), .slice A3 d.path.length cA3, I (d.pidx), I (d.hidx), I (d.beta), I (d.rid), I (d.seq), .slice A9 d.pay.length cA9] d fp ∧ ∀ b, b ∈ fp ↔ b ∈ f3 ++ f9 := ⟨([] ++ (f3 ++ ([] ++ f9))), ⟨[_, _, _], _, [], (f3 ++ ([] ++ f9)), rfl, ⟨rfl, rfl⟩, ⟨[_], _, f3, ([] ++ f9), rfl, ⟨_, rfl, h3⟩, ⟨[_, _, _, _, _], _, [], f9, rfl, ⟨rfl, rfl⟩, ⟨_, rfl, h9⟩, rfl, (by first | exact hnd | exact (List.nodup_append.1 hnd).2.1 | simpa using hnd | (simpa using (List.nodup_append.1 hnd).2.1) | (simp at hnd ⊢; simp_all))⟩, rfl, (by first | exact hnd | exact (List.nodup_append.1 hnd).2.1 | simpa using hnd | (simpa using (List.nodup_append.1 hnd).2.1) | (simp at hnd ⊢; simp_all))⟩, rfl, (by first | exact hnd | exact (List.nodup_append.1 hnd).2.1 | simpa using hnd | (simpa using (List.nodup_append.1 hnd).2.1) | (simp at hnd ⊢; simp_all))⟩, fun b => by simp⟩
theorem int_at {k : Nat} {w : World} {v : Value} {l : List Int} (h : SlR intT w v l) (hk : k < l.length) : ∃ g o c x, v = .slice (some ⟨g, o, none⟩) l.length c ∧ g < w.heap.size ∧ Hid (l[k]? = some x) ∧ w.cell? ⟨g, o + k, none⟩ = some (I x) := by
  obtain ⟨g, o, c, cs, e, h1, _, h4, h5⟩ := SlR.at_ h hk
  change cs = _ at h4
  subst h4
  exact ⟨g, o, c, _, e, h1, List.getElem?_eq_getElem hk, by simpa [intT, slT, flatT] using h5 0 _ rfl⟩
end Go.Proofs.YtdaecknfahgddaaGreat
namespace Go.Proofs.YtdaecknfahgddaaGreat
open Go.RowKit
set_option linter.unusedVariables false
section
variable {P : Program} {n : Nat} {ops : Array Oper} {Q : Exit → Act → World → Prop} {L : Frm} {w : World} {m : Md} {r : IT} {d : Nat} {ty : TypeId} {pos : String} {af : Array Edge}
/-- In every later world the operation hands back v and leaves the world as_ it is. -/
def Reads (P : Program) (n : Nat) (op : Op) (ty : TypeId) (pos : String) (L : Frm) (w : World) (v : Value) : Prop :=
  ∀ a, Env n L a → ∀ dst af gd w', Ext w w' → (execOp a.eval ⟨dst, op, ty, pos, af, gd⟩).run P w' = .ok (.value v) w'
theorem t_read {op : Op} {v : Value} (h : Reads P n op ty pos L w v) (k : WT P n ops Q r ((d, v) :: L) w) (hn : Nat.blt d n = true) : WT P n ops Q (.st m ⟨some d, op, ty, pos, af, none⟩ r) L w := by
  intro a ha
  have hk := k _ (ha.put hn v)
  cases m with
  | take => exact ⟨v, .inl ⟨rfl, fun w' hw' => h a ha _ _ _ w' hw'⟩, hk⟩
  | run =>
    simp only [wpT, Region.wanted, if_true]
    unfold Oper.wp
    rw [h a ha _ _ _ w (Below.refl _ _)]
    exact ⟨Below.refl _ _, hk⟩
  | fin =>
    simp only [wpT, Region.wanted, if_true]
    unfold Oper.wp
    rw [h a ha _ _ _ w (Below.refl _ _)]
    exact hk
theorem yielded_at {a : Act} (ha : Env n L a) {j tj : Nat} {g : Bool} (hj : (ops[j]?).bind (·.dst) = some tj) (hg : look L tj = some (.bool g)) : yielded ops a.tmps j = some g := by
  unfold yielded
  rw [hj, Option.bind_some, ha.at_ _ _ hg]
theorem t_on {op : Op} {j tj : Nat} {b : Bool} {dst : Option Nat} (hj : (ops[j]?).bind (·.dst) = some tj) (hg : look L tj = some (.bool b)) (k : WT P n ops Q (.st m ⟨dst, op, ty, pos, af, none⟩ r) L w) : WT P n ops Q (.st m ⟨dst, op, ty, pos, af, some (j, b)⟩ r) L w := by
  intro a ha
  have hy := yielded_at ha hj hg
  have hk := k a ha
  cases m with
  | take =>
    obtain ⟨v, hv, hk⟩ := hk
    refine ⟨v, ?_, hk⟩
    rcases hv with ⟨_, hv⟩ | ⟨hv, _⟩
    · exact .inl ⟨by simp [Region.wanted, hy], hv⟩
    · cases hv
  | run => simpa [wpT, Region.wanted, hy, Oper.wp, Oper.upon, execOp] using hk
  | fin => simpa [wpT, Region.wanted, hy, Oper.wp, Oper.upon, execOp] using hk
theorem t_off {op : Op} {j tj : Nat} {b g : Bool} (hj : (ops[j]?).bind (·.dst) = some tj) (hg : look L tj = some (.bool g)) (hb : (g == b) = false) (k : WT P n ops Q r ((d, undef) :: L) w) (hn : Nat.blt d n = true) : WT P n ops Q (.st m ⟨some d, op, ty, pos, af, some (j, b)⟩ r) L w := by
  intro a ha
  have hy := yielded_at ha hj hg
  have hw : Region.wanted (⟨some d, op, ty, pos, af, some (j, b)⟩ : Oper) (yielded ops a.tmps) = false := by
    simp only [Region.wanted, hy]
    cases g <;> cases b <;> simp_all
  have hk := k _ (ha.put hn undef)
  cases m with
  | take => exact ⟨undef, .inr ⟨hw, rfl⟩, hk⟩
  | run => simp only [wpT, hw]; exact hk
  | fin => simp only [wpT, hw]; exact hk
/-- Part on a slot's truth value: from here on it is known. -/
theorem t_part {T : IT} {t : Nat} {g : Bool} (hg : look L t = some (.bool g)) (ht : g = true → WT P n ops Q T ((t, .bool true) :: L) w) (hf : g = false → WT P n ops Q T ((t, .bool false) :: L) w) : WT P n ops Q T L w := by
  intro a ha
  have key : ∀ b, g = b → Env n ((t, .bool b) :: L) a := fun b hb => ⟨ha.defers, ha.size, fun s v hv => by
    rw [look_cons] at hv
    by_cases hs : s = t
    · subst hs
      rw [if_pos rfl] at hv
      cases hv
      subst hb
      exact ha.at_ _ _ hg
    · rw [if_neg hs] at hv
      exact ha.at_ _ _ hv⟩
  cases hb : g
  · exact hf hb a (key _ hb)
  · exact ht hb a (key _ hb)
theorem t_partp {T : IT} {t : Nat} {p : Prop} {dp : Decidable p} (hg : look L t = some (.bool (@decide p dp))) (ht : p → WT P n ops Q T ((t, .bool true) :: L) w) (hf : ¬ p → WT P n ops Q T ((t, .bool false) :: L) w) : WT P n ops Q T L w :=
  t_part hg (fun h => ht (of_decide_eq_true h)) (fun h => hf (of_decide_eq_false h))
theorem t_m {x : Operand} {v : Value} (hx : ev L x = some v) (k : WT P n ops Q r ((d, v) :: L) w) (hn : Nat.blt d n = true) : WT P n ops Q (.st m ⟨some d, .move x, ty, pos, af, none⟩ r) L w :=
  t_read (fun a ha _ _ _ w' _ => by simp [execOp, ha.ev hx]) k hn
theorem t_a {x : Operand} {v : Value} (hx : ev L x = some v) (k : WT P n ops Q r ((d, v) :: L) w) (hn : Nat.blt d n = true) : WT P n ops Q (.st m ⟨some d, .assign x, ty, pos, af, none⟩ r) L w :=
  t_read (fun a ha _ _ _ w' _ => by simp [execOp, ha.ev hx]) k hn
theorem t_q {c x y : Operand} {v : Value} (hc : ev L c = some (.bool true)) (hx : ev L x = some v) (k : WT P n ops Q r ((d, v) :: L) w) (hn : Nat.blt d n = true) : WT P n ops Q (.st m ⟨some d, .pick c x y, ty, pos, af, none⟩ r) L w :=
  t_read (fun a ha _ _ _ w' _ => by simp [execOp, ha.ev hx, ha.ev hc, asBool]) k hn
theorem t_p {c x y : Operand} {v : Value} (hc : ev L c = some (.bool false)) (hx : ev L y = some v) (k : WT P n ops Q r ((d, v) :: L) w) (hn : Nat.blt d n = true) : WT P n ops Q (.st m ⟨some d, .pick c x y, ty, pos, af, none⟩ r) L w :=
  t_read (fun a ha _ _ _ w' _ => by simp [execOp, ha.ev hx, ha.ev hc, asBool]) k hn
theorem t_extract {x : Operand} {vs : Array Value} {i : Nat} {v : Value} (hx : ev L x = some (.tuple vs)) (hi : vs[i]? = some v) (k : WT P n ops Q r ((d, v) :: L) w) (hn : Nat.blt d n = true) : WT P n ops Q (.st m ⟨some d, .extract x i, ty, pos, af, none⟩ r) L w :=
  t_read (fun a ha _ _ _ w' _ => by simp [execOp, ha.ev hx, Instr.extract, hi]) k hn
theorem wr64 {a : Int} (h : -9223372036854775808 ≤ a ∧ a ≤ 9223372036854775807) : IntKind.i64.wrap a = a := Go.IntWalk.i64_in _ h
theorem t_add {x y : Operand} {t t' : TypeId} {a b : Int} (hx : ev L x = some (I a)) (hy : ev L y = some (I b)) (hr : -9223372036854775808 ≤ a + b ∧ a + b ≤ 9223372036854775807) (k : WT P n ops Q r ((d, I (a + b)) :: L) w) (hn : Nat.blt d n = true) : WT P n ops Q (.st m ⟨some d, .binOp .add t x y t', ty, pos, af, none⟩ r) L w :=
  t_read (fun e ha _ _ _ w' _ => by simp [execOp, ha.ev hx, ha.ev hy, eqGuard, binOp, Op.intArith, wr64 hr]) k hn
theorem t_addw {x y : Operand} {t t' : TypeId} {a b : Int} (hx : ev L x = some (I a)) (hy : ev L y = some (I b)) (k : WT P n ops Q r ((d, I (IntKind.i64.wrap (a + b))) :: L) w) (hn : Nat.blt d n = true) : WT P n ops Q (.st m ⟨some d, .binOp .add t x y t', ty, pos, af, none⟩ r) L w :=
  t_read (fun e ha _ _ _ w' _ => by simp [execOp, ha.ev hx, ha.ev hy, eqGuard, binOp, Op.intArith]) k hn
theorem t_sub {x y : Operand} {t t' : TypeId} {a b : Int} (hx : ev L x = some (I a)) (hy : ev L y = some (I b)) (hr : -9223372036854775808 ≤ a - b ∧ a - b ≤ 9223372036854775807) (k : WT P n ops Q r ((d, I (a - b)) :: L) w) (hn : Nat.blt d n = true) : WT P n ops Q (.st m ⟨some d, .binOp .sub t x y t', ty, pos, af, none⟩ r) L w :=
  t_read (fun e ha _ _ _ w' _ => by simp [execOp, ha.ev hx, ha.ev hy, eqGuard, binOp, Op.intArith, wr64 hr]) k hn
theorem t_mul {x y : Operand} {t t' : TypeId} {a b : Int} (hx : ev L x = some (I a)) (hy : ev L y = some (I b)) (hr : -9223372036854775808 ≤ a * b ∧ a * b ≤ 9223372036854775807) (k : WT P n ops Q r ((d, I (a * b)) :: L) w) (hn : Nat.blt d n = true) : WT P n ops Q (.st m ⟨some d, .binOp .mul t x y t', ty, pos, af, none⟩ r) L w :=
  t_read (fun e ha _ _ _ w' _ => by simp [execOp, ha.ev hx, ha.ev hy, eqGuard, binOp, Op.intArith, wr64 hr]) k hn
theorem t_mulw {x y : Operand} {t t' : TypeId} {a b : Int} (hx : ev L x = some (I a)) (hy : ev L y = some (I b)) (k : WT P n ops Q r ((d, I (IntKind.i64.wrap (a * b))) :: L) w) (hn : Nat.blt d n = true) : WT P n ops Q (.st m ⟨some d, .binOp .mul t x y t', ty, pos, af, none⟩ r) L w :=
  t_read (fun e ha _ _ _ w' _ => by simp [execOp, ha.ev hx, ha.ev hy, eqGuard, binOp, Op.intArith]) k hn
theorem t_lss {x y : Operand} {t t' : TypeId} {kd : IntKind} {a b : Int} (hx : ev L x = some (.int kd a)) (hy : ev L y = some (.int kd b)) (k : WT P n ops Q r ((d, .bool (decide (a < b))) :: L) w) (hn : Nat.blt d n = true) : WT P n ops Q (.st m ⟨some d, .binOp .lss t x y t', ty, pos, af, none⟩ r) L w :=
  t_read (fun e ha _ _ _ w' _ => by simp [execOp, ha.ev hx, ha.ev hy, eqGuard, binOp, Op.intCmp]) k hn
theorem t_leq {x y : Operand} {t t' : TypeId} {kd : IntKind} {a b : Int} (hx : ev L x = some (.int kd a)) (hy : ev L y = some (.int kd b)) (k : WT P n ops Q r ((d, .bool (decide (a ≤ b))) :: L) w) (hn : Nat.blt d n = true) : WT P n ops Q (.st m ⟨some d, .binOp .leq t x y t', ty, pos, af, none⟩ r) L w :=
  t_read (fun e ha _ _ _ w' _ => by simp [execOp, ha.ev hx, ha.ev hy, eqGuard, binOp, Op.intCmp]) k hn
theorem t_gtr {x y : Operand} {t t' : TypeId} {kd : IntKind} {a b : Int} (hx : ev L x = some (.int kd a)) (hy : ev L y = some (.int kd b)) (k : WT P n ops Q r ((d, .bool (decide (b < a))) :: L) w) (hn : Nat.blt d n = true) : WT P n ops Q (.st m ⟨some d, .binOp .gtr t x y t', ty, pos, af, none⟩ r) L w :=
  t_read (fun e ha _ _ _ w' _ => by simp [execOp, ha.ev hx, ha.ev hy, eqGuard, binOp, Op.intCmp]) k hn
theorem t_geq {x y : Operand} {t t' : TypeId} {kd : IntKind} {a b : Int} (hx : ev L x = some (.int kd a)) (hy : ev L y = some (.int kd b)) (k : WT P n ops Q r ((d, .bool (decide (b ≤ a))) :: L) w) (hn : Nat.blt d n = true) : WT P n ops Q (.st m ⟨some d, .binOp .geq t x y t', ty, pos, af, none⟩ r) L w :=
  t_read (fun e ha _ _ _ w' _ => by simp [execOp, ha.ev hx, ha.ev hy, eqGuard, binOp, Op.intCmp]) k hn
theorem t_eql {x y : Operand} {t t' : TypeId} {kd : IntKind} {a b : Int} (hx : ev L x = some (.int kd a)) (hy : ev L y = some (.int kd b)) (k : WT P n ops Q r ((d, .bool (decide (a = b))) :: L) w) (hn : Nat.blt d n = true) : WT P n ops Q (.st m ⟨some d, .binOp .eql t x y t', ty, pos, af, none⟩ r) L w :=
  t_read (fun e ha _ _ _ w' _ => by simp [execOp, ha.ev hx, ha.ev hy, eqGuard, binOp, Op.intCmp]; rfl) k hn
theorem t_neq {x y : Operand} {t t' : TypeId} {kd : IntKind} {a b : Int} (hx : ev L x = some (.int kd a)) (hy : ev L y = some (.int kd b)) (k : WT P n ops Q r ((d, .bool (decide (a ≠ b))) :: L) w) (hn : Nat.blt d n = true) : WT P n ops Q (.st m ⟨some d, .binOp .neq t x y t', ty, pos, af, none⟩ r) L w :=
  t_read (fun e ha _ _ _ w' _ => by simp [execOp, ha.ev hx, ha.ev hy, eqGuard, binOp, Op.intCmp, bne]; rfl) k hn
theorem run_eq_bool {t : TypeId} (ht : P.underlying t = some .bool) (a b : Bool) (w : World) : (Op.equal t (.bool a) (.bool b)).run P w = .ok (a == b) w := by
  unfold Op.equal
  obtain ⟨d, hd⟩ : ∃ d, Op.maxDepth = d + 1 := ⟨9999, rfl⟩
  rw [hd]
  simp [Op.equalIn, run_underlying ht]
theorem t_neqb {x y : Operand} {t t' : TypeId} {a b : Bool} (ht : P.underlying t = some .bool) (hx : ev L x = some (.bool a)) (hy : ev L y = some (.bool b)) (k : WT P n ops Q r ((d, .bool (decide (a ≠ b))) :: L) w) (hn : Nat.blt d n = true) : WT P n ops Q (.st m ⟨some d, .binOp .neq t x y t', ty, pos, af, none⟩ r) L w :=
  t_read (fun e ha _ _ _ w' _ => by
    have h := run_eq_bool (P := P) ht a b w'
    have e : (!(a == b)) = decide (a ≠ b) := by cases a <;> cases b <;> rfl
    simp [execOp, ha.ev hx, ha.ev hy, eqGuard, binOp, h]
    try (cases a <;> cases b <;> rfl)) k hn
theorem t_rem {x y : Operand} {t t' : TypeId} {a b : Int} (hx : ev L x = some (I a)) (hy : ev L y = some (I b)) (hr : 0 ≤ a ∧ 0 < b) (k : WT P n ops Q r ((d, I (a % b)) :: L) w) (hn : Nat.blt d n = true) : WT P n ops Q (.st m ⟨some d, .binOp .rem t x y t', ty, pos, af, none⟩ r) L w :=
  t_read (fun e ha _ _ _ w' _ => by
    have hb : b ≠ 0 := by omega
    simp [execOp, ha.ev hx, ha.ev hy, eqGuard, binOp, Op.intDiv, hb, Int.tmod_eq_emod_of_nonneg hr.1]) k hn
theorem t_remt {x y : Operand} {t t' : TypeId} {a b : Int} (hx : ev L x = some (I a)) (hy : ev L y = some (I b)) (hr : b ≠ 0) (k : WT P n ops Q r ((d, I (a.tmod b)) :: L) w) (hn : Nat.blt d n = true) : WT P n ops Q (.st m ⟨some d, .binOp .rem t x y t', ty, pos, af, none⟩ r) L w :=
  t_read (fun e ha _ _ _ w' _ => by simp [execOp, ha.ev hx, ha.ev hy, eqGuard, binOp, Op.intDiv, hr]) k hn
theorem t_quo {x y : Operand} {t t' : TypeId} {a b : Int} (hx : ev L x = some (I a)) (hy : ev L y = some (I b)) (hr : 0 ≤ a ∧ 0 < b ∧ a ≤ 9223372036854775807) (k : WT P n ops Q r ((d, I (a / b)) :: L) w) (hn : Nat.blt d n = true) : WT P n ops Q (.st m ⟨some d, .binOp .quo t x y t', ty, pos, af, none⟩ r) L w :=
  t_read (fun e ha _ _ _ w' _ => by
    have hb : b ≠ 0 := by omega
    have h1 : 0 ≤ a / b := Int.ediv_nonneg hr.1 (by omega)
    have h2 : a / b ≤ a := Int.ediv_le_self b hr.1
    simp [execOp, ha.ev hx, ha.ev hy, eqGuard, binOp, Op.intDiv, hb, Int.tdiv_eq_ediv_of_nonneg hr.1, wr64 (a := a / b) (by omega)]) k hn
theorem t_not {x : Operand} {t : TypeId} {p : Prop} {dp : Decidable p} (hx : ev L x = some (.bool (@decide p dp))) (k : WT P n ops Q r ((d, .bool (decide (¬ p))) :: L) w) (hn : Nat.blt d n = true) : WT P n ops Q (.st m ⟨some d, .unOp .not t x, ty, pos, af, none⟩ r) L w :=
  t_read (fun e ha _ _ _ w' _ => by simp [execOp, ha.ev hx, Op.unary]) k hn
theorem t_notb {x : Operand} {t : TypeId} {b : Bool} (hx : ev L x = some (.bool b)) (k : WT P n ops Q r ((d, .bool (!b)) :: L) w) (hn : Nat.blt d n = true) : WT P n ops Q (.st m ⟨some d, .unOp .not t x, ty, pos, af, none⟩ r) L w :=
  t_read (fun e ha _ _ _ w' _ => by simp [execOp, ha.ev hx, Op.unary]) k hn
def Md.isTake : Md → Bool
  | .take => true
  | _ => false
theorem exec_call {a : Act} {f : FuncId} {xs : List Operand} {at_ : Array TypeId} {dst : Option Nat} {gd : Option (Nat × Bool)} : execOp a.eval ⟨dst, .call ⟨.value (.func f), xs.toArray, at_⟩, ty, pos, af, gd⟩ = callFunc f (xs.map a.eval).toArray := by
  show callFunc f (#[] ++ xs.toArray.map a.eval ++ #[]) = _
  simp
/-- A call of a function that makes new memory alone. -/
theorem t_c {f : FuncId} {xs : List Operand} {at_ : Array TypeId} {vs : List Value} {R : Ending → World → Prop} (hcall : ∀ as_ w, (callFunc f as_).run P w = .ok (.enter f as_) w) (hv : evs L xs = some vs) (hc : Calls P f vs.toArray w R)
    (k : ∀ e w', R e w' → ∃ v, e = .returned v ∧ Ext w w' ∧ WT P n ops Q r ((d, v) :: L) w') (hm : m.isTake = false) (hn : Nat.blt d n = true) : WT P n ops Q (.st m ⟨some d, .call ⟨.value (.func f), xs.toArray, at_⟩, ty, pos, af, none⟩ r) L w := by
  intro a ha
  cases m with
  | take => cases hm
  | run =>
    simp only [wpT, Region.wanted, if_true]
    unfold Oper.wp
    rw [exec_call, ha.evs hv, hcall]
    refine hc.mono fun e w' he => ?_
    obtain ⟨v, rfl, hx, hk⟩ := k e w' he
    exact ⟨hx, hk _ (ha.put hn v)⟩
  | fin =>
    simp only [wpT, Region.wanted, if_true]
    unfold Oper.wp
    rw [exec_call, ha.evs hv, hcall]
    refine hc.mono fun e w' he => ?_
    obtain ⟨v, rfl, hx, hk⟩ := k e w' he
    exact hk _ (ha.put hn v)
/-- A call of a function that writes. -/
theorem t_f {f : FuncId} {xs : List Operand} {at_ : Array TypeId} {vs : List Value} {R : Ending → World → Prop} (hcall : ∀ as_ w, (callFunc f as_).run P w = .ok (.enter f as_) w) (hv : evs L xs = some vs) (hc : Calls P f vs.toArray w R)
    (k : ∀ e w', R e w' → ∃ v, e = .returned v ∧ WT P n ops Q r ((d, v) :: L) w') (hn : Nat.blt d n = true) : WT P n ops Q (.st .fin ⟨some d, .call ⟨.value (.func f), xs.toArray, at_⟩, ty, pos, af, none⟩ r) L w := by
  intro a ha
  simp only [wpT, Region.wanted, if_true]
  unfold Oper.wp
  rw [exec_call, ha.evs hv, hcall]
  refine hc.mono fun e w' he => ?_
  obtain ⟨v, rfl, hk⟩ := k e w' he
  exact hk _ (ha.put hn v)
/-- A call of a function that leaves the world as_ it is. -/
theorem t_calls {f : FuncId} {xs : List Operand} {at_ : Array TypeId} {vs : List Value} {v : Value} (hcall : ∀ as_ w, (callFunc f as_).run P w = .ok (.enter f as_) w) (hv : evs L xs = some vs) (hc : Calls P f vs.toArray w fun e w' => e = .returned v ∧ w = w')
    (k : WT P n ops Q r ((d, v) :: L) w) (hm : m.isTake = false) (hn : Nat.blt d n = true) : WT P n ops Q (.st m ⟨some d, .call ⟨.value (.func f), xs.toArray, at_⟩, ty, pos, af, none⟩ r) L w :=
  t_c hcall hv hc (fun e w' ⟨he, hw⟩ => ⟨v, he, hw ▸ Below.refl _ _, hw ▸ k⟩) hm hn
/-- A call that hands back a known value and makes new memory. -/
theorem t_x {f : FuncId} {xs : List Operand} {at_ : Array TypeId} {vs : List Value} {v : Value} (hcall : ∀ as_ w, (callFunc f as_).run P w = .ok (.enter f as_) w) (hv : evs L xs = some vs) (hc : Calls P f vs.toArray w fun e w' => e = .returned v ∧ Below w.heap.size w w')
    (k : ∀ w', Ext w w' → WT P n ops Q r ((d, v) :: L) w') (hm : m.isTake = false) (hn : Nat.blt d n = true) : WT P n ops Q (.st m ⟨some d, .call ⟨.value (.func f), xs.toArray, at_⟩, ty, pos, af, none⟩ r) L w :=
  t_c hcall hv hc (fun e w' ⟨he, hw⟩ => ⟨v, he, hw, k w' hw⟩) hm hn
def frm : Nat → List Value → Frm
  | _, [] => []
  | i, v :: vs => (i, v) :: frm (i + 1) vs
theorem look_frm (vs : List Value) : ∀ i t v, look (frm i vs) t = some v → i ≤ t ∧ vs[t - i]? = some v := by
  induction vs with
  | nil => intro i t v h; cases h
  | cons u vs ih =>
    intro i t v h
    rw [frm, look_cons] at h
    by_cases ht : t = i
    · subst ht
      rw [if_pos rfl] at h
      exact ⟨Nat.le_refl _, by simpa using h⟩
    · rw [if_neg ht] at h
      obtain ⟨h1, h2⟩ := ih (i + 1) t v h
      refine ⟨by omega, ?_⟩
      rw [show t - i = (t - (i + 1)) + 1 by omega, List.getElem?_cons_succ]
      exact h2
theorem enter {f : FuncId} {fn : Func} {c : Code} {args : List Value} {R : Ending → World → Prop} (hf : P.funcs[f]? = some fn) (hb : fn.body = some c) (hn : fn.ntmps = n) (ha : Nat.ble args.length n = true) (h : W P n (bodyPost P fn R) c (frm 0 args) w) : Calls P f args.toArray w R := by
  have hl : args.length ≤ n := by simpa using ha
  refine calls_of_wp hf hb (h _ ⟨rfl, by simp [hn]; omega, fun t v hv => ?_⟩)
  obtain ⟨_, h2⟩ := look_frm args 0 t v hv
  have hlt : t < args.length := by
    have := (List.getElem?_eq_some_iff.1 h2).1
    omega
  show (args.toArray ++ _)[t]? = _
  rw [Array.getElem?_append_left (by simpa using hlt)]
  simpa using h2
theorem x_ret1 {fn : Func} {R : Ending → World → Prop} {t : Nat} {v : Value} (hr : fn.results = #[.tmp t]) (hv : look L t = some v) (h : R (.returned v) w) : WX n (bodyPost P fn R) .ret L w := by
  intro a ha
  have := ha.at_ _ _ hv
  exact bodyPost_ret (by simp [results, hr, this]) ha.defers h
theorem x_ret2 {fn : Func} {R : Ending → World → Prop} {t u : Nat} {v x : Value} (hr : fn.results = #[.tmp t, .tmp u]) (hv : look L t = some v) (hx : look L u = some x) (h : R (.returned (.tuple #[v, x])) w) : WX n (bodyPost P fn R) .ret L w := by
  intro a ha
  have h1 := ha.at_ _ _ hv
  have h2 := ha.at_ _ _ hx
  exact bodyPost_ret (by simp [results, hr, h1, h2]) ha.defers h
theorem x_ret3 {fn : Func} {R : Ending → World → Prop} {t u s : Nat} {v x y : Value} (hr : fn.results = #[.tmp t, .tmp u, .tmp s]) (hv : look L t = some v) (hx : look L u = some x) (hy : look L s = some y) (h : R (.returned (.tuple #[v, x, y])) w) : WX n (bodyPost P fn R) .ret L w := by
  intro a ha
  have h1 := ha.at_ _ _ hv
  have h2 := ha.at_ _ _ hx
  have h3 := ha.at_ _ _ hy
  exact bodyPost_ret (by simp [results, hr, h1, h2, h3]) ha.defers h
theorem x_end1 {fn : Func} {R : Ending → World → Prop} (h : WX n (bodyPost P fn R) .ret L w) : WX n (bodyPost P fn R) .normal L w := h
end
end Go.Proofs.YtdaecknfahgddaaGreat
namespace Go.Proofs.YtdaecknfahgddaaGreat
open Go.RowKit
set_option linter.unusedVariables false
/-- The pointer p leads to cells that read as_ x. -/
def Ptr {α : Type} (T : Ty α) (w : World) (p : Value) (x : α) : Prop :=
  ∃ g o cs, p = .pointer (some ⟨g, o, none⟩) ∧ T.R w cs x ∧ ∀ j u, cs[j]? = some u → w.cell? ⟨g, o + j, none⟩ = some u
/-- The value of a struct reads as_ x. -/
def VA {α : Type} (T : Ty α) (w : World) (v : Value) (x : α) : Prop := ∃ cs : List Value, v = .agg cs.toArray ∧ T.R w cs x
theorem Ptr.below {α : Type} {T : Ty α} {w w' : World} {p : Value} {x : α} (h : Ptr T w p x) (hb : Below w.heap.size w w') : Ptr T w' p x := by
  obtain ⟨g, o, cs, h1, h2, h3⟩ := h
  exact ⟨g, o, cs, h1, T.keep _ _ _ _ h2 hb, fun j u hu => ck hb (h3 j u hu)⟩
theorem VA.below {α : Type} {T : Ty α} {w w' : World} {v : Value} {x : α} (h : VA T w v x) (hb : Below w.heap.size w w') : VA T w' v x := by
  obtain ⟨cs, h1, h2⟩ := h
  exact ⟨cs, h1, T.keep _ _ _ _ h2 hb⟩
/-- A part of a kind of data: the cells from off on. -/
def Lens {α β : Type} (T : Ty α) (U : Ty β) (off : Nat) (f : α → β) : Prop :=
  ∀ w cs x, T.R w cs x → ∃ cs', U.R w cs' (f x) ∧ ∀ j u, cs'[j]? = some u → cs[off + j]? = some u
theorem Ptr.lens {α β : Type} {T : Ty α} {U : Ty β} {off : Nat} {f : α → β} (ln : Lens T U off f) {w : World} {g o : Nat} {x : α} (h : Ptr T w (.pointer (some ⟨g, o, none⟩)) x) : Ptr U w (.pointer (some ⟨g, o + off, none⟩)) (f x) := by
  obtain ⟨g', o', cs, h1, h2, h3⟩ := h
  cases h1
  obtain ⟨cs', h4, h5⟩ := ln _ _ _ h2
  exact ⟨g, _, cs', rfl, h4, fun j u hu => by rw [Nat.add_assoc]; exact h3 _ _ (h5 j u hu)⟩
/-- Whether a type's values are structs or arrays; a type's size; a field's place. -/
def aggB (P : Program) (t : TypeId) : Option Bool := (P.underlying t).map fun
  | .struct _ | .array _ _ => true
  | _ => false
def sizeB (P : Program) (t : TypeId) : Option Nat := (P.info? t).map (·.size)
def fieldB (P : Program) (s i : Nat) : Option Nat := match P.underlying s with
  | some (.struct fs) => match fs[i]? with
    | some f => match P.info? f.type with
      | some j => if j.size = 0 then none else some f.offset
      | none => none
    | none => none
  | _ => none
theorem run_isAgg {P : Program} {t : TypeId} {b : Bool} (h : aggB P t = some b) (w : World) : (isAgg t).run P w = .ok b w := by
  unfold aggB at h
  cases hu : P.underlying t with
  | none => rw [hu] at h; cases h
  | some u =>
    rw [hu] at h
    unfold isAgg underlying
    cases u <;> (simp at h; subst h; simp [program, Sem.run, hu])
theorem run_sizeOf {P : Program} {t : TypeId} {k : Nat} (h : sizeB P t = some k) (w : World) : (sizeOf t).run P w = .ok k w := by
  unfold sizeB at h
  cases hu : P.info? t with
  | none => rw [hu] at h; cases h
  | some u =>
    rw [hu] at h
    simp at h
    simp [sizeOf, typeInfo, program, Sem.run, hu, h]
theorem run_loadCells {P : Program} {w : World} {g o : Nat} {cs : List Value} (h : ∀ j u, cs[j]? = some u → w.cell? ⟨g, o + j, none⟩ = some u) : (loadCells ⟨g, o, none⟩ cs.length).run P w = .ok cs.toArray w := by
  have key : ∀ (t : List Value) (i : Nat) (acc : Array Value), (∀ j u, t[j]? = some u → w.cell? ⟨g, o + (i + j), none⟩ = some u) → (loadCellsFrom ⟨g, o, none⟩ i t.length acc).run P w = .ok (acc ++ t.toArray) w := by
    intro t
    induction t with
    | nil => intro i acc _; simp [loadCellsFrom]
    | cons c t ih =>
      intro i acc ht
      have h0 : w.cell? ⟨g, o + i, none⟩ = some c := by simpa using ht 0 c rfl
      have ha : (⟨g, o, none⟩ : Addr).add i = ⟨g, o + i, none⟩ := Addr.add_lit _ _ _
      simp only [List.length_cons, loadCellsFrom, Sem.run_bind, load, ha]
      simp only [Sem.run, h0, Result.andThen_ok]
      rw [ih (i + 1) (acc.push c) (fun j u hu => by have := ht (j + 1) u hu; rwa [show i + (j + 1) = i + 1 + j by omega] at this)]
      simp
  have := key cs 0 #[] (fun j u hu => by simpa using h j u hu)
  simpa [loadCells] using this
section
variable {P : Program} {n : Nat} {ops : Array Oper} {Q : Exit → Act → World → Prop} {L : Frm} {w w0 : World} {m : Md} {r : IT} {d : Nat} {ty : TypeId} {pos : String} {af : Array Edge}
theorem t_len {α : Type} {T : Ty α} {x : Operand} {t e : TypeId} {ar : Array TypeId} {size bytes : Nat} {v : Value} {l : List α} (et : ElemT P t e size bytes) (h : SlR T w0 v l) (hx : ev L x = some v) (har : ar = #[t]) (k : WT P n ops Q r ((d, I (l.length : Int)) :: L) w) (hn : Nat.blt d n = true) :
    WT P n ops Q (.st m ⟨some d, .call ⟨.builtin .len, #[x], ar⟩, ty, pos, af, none⟩ r) L w := by
  obtain ⟨A, c, rfl, _⟩ := h.form
  subst har
  exact t_read (fun a ha _ _ _ w' _ => by simp [execOp, resolve, invoke, builtin, ha.ev hx, Builtin.len_, run_underlying et.und, goInt]) k hn
theorem t_idx {α : Type} {T : Ty α} {t e : TypeId} {bytes : Nat} (et : ElemT P t e T.size bytes) {v : Value} {l : List α} {k : Nat} {x : α} {i : Int} {xo io : Operand} (h : SlR T w0 v l) (hk : l[k]? = some x) (B : Ext w0 w) (hx : ev L xo = some v) (hi : ev L io = some (I i)) (hik : i = ((k : Nat) : Int))
    (kk : ∀ p, Ptr T w0 p x → WT P n ops Q r ((d, p) :: L) w) (hn : Nat.blt d n = true) : WT P n ops Q (.st m ⟨some d, .indexAddr t xo io, ty, pos, af, none⟩ r) L w := by
  have hlt : k < l.length := (List.getElem?_eq_some_iff.1 hk).1
  obtain ⟨g, o, c, cs, rfl, h1, h2, h3, h4⟩ := SlR.at_ h hlt
  have hxk : l[k] = x := by rw [List.getElem?_eq_getElem hlt] at hk; exact Option.some.inj hk
  rw [hxk] at h3
  obtain ⟨inf, z, hinf, _, hsz, _, _⟩ := et.info
  refine t_read (fun a ha _ _ _ w' _ => ?_) (kk (.pointer (some ⟨g, o + k * T.size, none⟩)) ⟨g, _, cs, rfl, h3, h4⟩) hn
  subst hik
  have hc : (0 : Int) ≤ (k : Int) ∧ (k : Int) < (l.length : Int) := by omega
  simp [execOp, ha.ev hx, ha.ev hi, Instr.indexAt, asIntOf, run_underlying et.und, hc, sizeOf, typeInfo, hinf, hsz, Addr.add_lit, hlt]
theorem t_fld {α β : Type} {T : Ty α} {U : Ty β} {off : Nat} {f : α → β} {s i : Nat} {p : Value} {x : α} {xo : Operand} (ln : Lens T U off f) (h : Ptr T w0 p x) (hf : fieldB P s i = some off) (hx : ev L xo = some p)
    (kk : ∀ p', Ptr U w0 p' (f x) → WT P n ops Q r ((d, p') :: L) w) (hn : Nat.blt d n = true) : WT P n ops Q (.st m ⟨some d, .fieldAddr s xo i, ty, pos, af, none⟩ r) L w := by
  obtain ⟨g, o, cs, rfl, h1⟩ := id h
  refine t_read (fun a ha _ _ _ w' _ => ?_) (kk _ (Ptr.lens ln h)) hn
  unfold fieldB at hf
  split at hf
  · rename_i fs hu
    split at hf
    · rename_i fd hfd
      split at hf
      · rename_i inf hinf
        split at hf
        · cases hf
        · rename_i hne
          cases hf
          simp [execOp, ha.ev hx, Instr.fieldAt, run_underlying hu, hfd, Instr.sureAddr, fieldPlace, sizeOf, typeInfo, hinf, hne, Addr.add_lit]
      · cases hf
    · cases hf
  · cases hf
/-- The same at an address that is known. -/
theorem t_y {g o o' off : Nat} {s i : Nat} {xo : Operand} (hf : fieldB P s i = some off) (hx : ev L xo = some (.pointer (some ⟨g, o, none⟩))) (ho : o + off = o')
    (kk : WT P n ops Q r ((d, .pointer (some ⟨g, o', none⟩)) :: L) w) (hn : Nat.blt d n = true) : WT P n ops Q (.st m ⟨some d, .fieldAddr s xo i, ty, pos, af, none⟩ r) L w := by
  subst ho
  refine t_read (fun a ha _ _ _ w' _ => ?_) kk hn
  unfold fieldB at hf
  split at hf
  · rename_i fs hu
    split at hf
    · rename_i fd hfd
      split at hf
      · rename_i inf hinf
        split at hf
        · cases hf
        · rename_i hne
          cases hf
          simp [execOp, ha.ev hx, Instr.fieldAt, run_underlying hu, hfd, Instr.sureAddr, fieldPlace, sizeOf, typeInfo, hinf, hne, Addr.add_lit]
      · cases hf
    · cases hf
  · cases hf
/-- A load of one cell. -/
theorem t_ld1 {t : TypeId} {g o : Nat} {xo : Operand} {u : Value} (ha : aggB P t = some false) (hc : w0.cell? ⟨g, o, none⟩ = some u) (B : Ext w0 w) (hx : ev L xo = some (.pointer (some ⟨g, o, none⟩))) (k : WT P n ops Q r ((d, u) :: L) w) (hn : Nat.blt d n = true) : WT P n ops Q (.st m ⟨some d, .load t xo, ty, pos, af, none⟩ r) L w :=
  t_read (fun a hE _ _ _ w' hw' => by
    have hc' := ck (ext_trans B hw') hc
    simp [execOp, hE.ev hx, Instr.loadAt, Instr.sureAddr, loadVar, run_isAgg ha, load, Sem.run, hc']) k hn
/-- A load of a struct's cells. -/
theorem t_ldn {t : TypeId} {g o : Nat} {xo : Operand} {cs : List Value} (ha : aggB P t = some true) (hs : sizeB P t = some cs.length) (hc : ∀ j u, cs[j]? = some u → w0.cell? ⟨g, o + j, none⟩ = some u) (B : Ext w0 w) (hx : ev L xo = some (.pointer (some ⟨g, o, none⟩))) (k : WT P n ops Q r ((d, .agg cs.toArray) :: L) w) (hn : Nat.blt d n = true) : WT P n ops Q (.st m ⟨some d, .load t xo, ty, pos, af, none⟩ r) L w :=
  t_read (fun a hE _ _ _ w' hw' => by
    have hc' := run_loadCells (P := P) (fun j u hu => ck (ext_trans B hw') (hc j u hu))
    simp [execOp, hE.ev hx, Instr.loadAt, Instr.sureAddr, loadVar, run_isAgg ha, run_sizeOf hs, hc']) k hn
theorem t_ldi {t : TypeId} {xo : Operand} {p : Value} {a : Int} (h : Ptr intT w0 p a) (ha : aggB P t = some false) (B : Ext w0 w) (hx : ev L xo = some p) (k : WT P n ops Q r ((d, I a) :: L) w) (hn : Nat.blt d n = true) : WT P n ops Q (.st m ⟨some d, .load t xo, ty, pos, af, none⟩ r) L w := by
  obtain ⟨g, o, cs, rfl, h2, h3⟩ := h
  have h2' : cs = [I a] := h2
  subst h2'
  exact t_ld1 ha (by simpa using h3 0 _ rfl) B hx k hn
theorem t_ldu {t : TypeId} {xo : Operand} {p : Value} {a : UInt8} (h : Ptr byteT w0 p a) (ha : aggB P t = some false) (B : Ext w0 w) (hx : ev L xo = some p) (k : WT P n ops Q r ((d, .int .u8 (a.toNat : Int)) :: L) w) (hn : Nat.blt d n = true) : WT P n ops Q (.st m ⟨some d, .load t xo, ty, pos, af, none⟩ r) L w := by
  obtain ⟨g, o, cs, rfl, h2, h3⟩ := h
  have h2' : cs = [.int .u8 (a.toNat : Int)] := h2
  subst h2'
  exact t_ld1 ha (by simpa using h3 0 _ rfl) B hx k hn
def boolT : Ty Bool := flatT 1 (fun b => [.bool b]) (by omega) (fun _ => rfl) (fun _ u hu => by simp at hu; rw [hu]; rfl)
theorem t_ldb {t : TypeId} {xo : Operand} {p : Value} {a : Bool} (h : Ptr boolT w0 p a) (ha : aggB P t = some false) (B : Ext w0 w) (hx : ev L xo = some p) (k : WT P n ops Q r ((d, .bool a) :: L) w) (hn : Nat.blt d n = true) : WT P n ops Q (.st m ⟨some d, .load t xo, ty, pos, af, none⟩ r) L w := by
  obtain ⟨g, o, cs, rfl, h2, h3⟩ := h
  have h2' : cs = [.bool a] := h2
  subst h2'
  exact t_ld1 ha (by simpa using h3 0 _ rfl) B hx k hn
theorem t_lds {α : Type} {T : Ty α} {e : TypeId} {t : TypeId} {xo : Operand} {p : Value} {l : List α} (h : Ptr (slT T e) w0 p l) (ha : aggB P t = some false) (B : Ext w0 w) (hx : ev L xo = some p) (k : ∀ v, SlR T w0 v l → WT P n ops Q r ((d, v) :: L) w) (hn : Nat.blt d n = true) : WT P n ops Q (.st m ⟨some d, .load t xo, ty, pos, af, none⟩ r) L w := by
  obtain ⟨g, o, cs, rfl, ⟨v, rfl, hv⟩, h3⟩ := h
  exact t_ld1 ha (by simpa using h3 0 _ rfl) B hx (k v hv) hn
theorem t_lda {α : Type} {T : Ty α} {t : TypeId} {xo : Operand} {p : Value} {x : α} (h : Ptr T w0 p x) (ha : aggB P t = some true) (hs : sizeB P t = some T.size) (B : Ext w0 w) (hx : ev L xo = some p) (k : ∀ v, VA T w0 v x → WT P n ops Q r ((d, v) :: L) w) (hn : Nat.blt d n = true) : WT P n ops Q (.st m ⟨some d, .load t xo, ty, pos, af, none⟩ r) L w := by
  obtain ⟨g, o, cs, rfl, h2, h3⟩ := h
  exact t_ldn ha (by rw [T.len _ _ _ h2]; exact hs) h3 B hx (k _ ⟨cs, rfl, h2⟩) hn
theorem flatten_drop {css : List (List Value)} {size : Nat} (h : ∀ (i : Nat) cs, css[i]? = some cs → cs.length = size) (m : Nat) : (css.drop m).flatten = css.flatten.drop (m * size) := by
  induction css generalizing m with
  | nil => simp
  | cons a t ih =>
    have ha := h 0 a rfl
    cases m with
    | zero => simp
    | succ m =>
      have hs : (m + 1) * size = a.length + m * size := by rw [ha, Nat.add_mul, Nat.one_mul]; omega
      rw [List.drop_succ_cons, List.flatten_cons, ih (fun i cs hi => h (i + 1) cs hi), hs, ← List.drop_drop, List.drop_left]
theorem SlR.drop {α : Type} {T : Ty α} {w : World} {A : Option Addr} {c k n' : Nat} {l : List α} (h : SlR T w (.slice A n' c) l) (hk : k ≤ l.length) : SlR T w (.slice (if c = k then A else A.map (·.add (k * T.size))) (l.length - k) (c - k)) (l.drop k) := by
  obtain ⟨A', c', css, e, h1, h2, h3, h4⟩ := h
  cases e
  have hall : ∀ (i : Nat) cs, css[i]? = some cs → cs.length = T.size := fun i cs hi => by
    have hlt : i < l.length := by rw [← h2]; exact (List.getElem?_eq_some_iff.1 hi).1
    exact T.len _ _ _ (h4 i cs _ hi (List.getElem?_eq_getElem hlt))
  refine ⟨_, _, css.drop k, by rw [List.length_drop], by rw [List.length_drop]; omega, by rw [List.length_drop, List.length_drop, h2], fun hp => ?_, fun i cs x hi hx => ?_⟩
  · rw [flatten_drop hall] at hp ⊢
    rw [List.length_drop] at hp
    obtain ⟨g, o, rfl, hg⟩ := h3 (by omega)
    have hne : ¬ c = k := by
      intro hck
      have : css.flatten.length = css.length * T.size := flatten_len hall
      have h9 : css.length = k := by omega
      rw [this, h9] at hp
      omega
    rw [if_neg hne]
    refine ⟨g, o + k * T.size, by simp [Addr.add_lit], fun j u hu => ?_⟩
    rw [Nat.add_assoc]
    exact hg _ u (by rw [List.getElem?_drop] at hu; exact hu)
  · rw [List.getElem?_drop] at hi hx
    exact h4 _ _ _ hi hx
theorem t_sld {α : Type} {T : Ty α} {t e : TypeId} {bytes : Nat} (et : ElemT P t e T.size bytes) {v : Value} {l : List α} {xo lo : Operand} {k : Nat} {i : Int} (h : SlR T w0 v l) (hx : ev L xo = some v) (hi' : ev L lo = some (I i)) (hik : i = ((k : Nat) : Int)) (hk : k ≤ l.length)
    (kk : ∀ v', SlR T w0 v' (l.drop k) → WT P n ops Q r ((d, v') :: L) w) (hn : Nat.blt d n = true) : WT P n ops Q (.st m ⟨some d, .slice t xo (some lo) none none, ty, pos, af, none⟩ r) L w := by
  obtain ⟨A, c, rfl, h1⟩ := h.form
  obtain ⟨inf, z, hinf, _, hsz, _, _⟩ := et.info
  subst hik
  refine t_read (fun a ha _ _ _ w' _ => ?_) (kk _ (h.drop hk)) hn
  have hc : (0 : Int) ≤ (k : Int) ∧ (k : Int) ≤ (l.length : Int) := by omega
  simp [execOp, ha.ev hx, ha.ev hi', Instr.sliceAt, Instr.slice, Instr.sliceBounds, Instr.sliceBound, asIntOf, run_underlying et.und, hk, sizeOf, typeInfo, hinf, hsz]
end
end Go.Proofs.YtdaecknfahgddaaGreat
namespace Go.Proofs.YtdaecknfahgddaaGreat
open Go.RowKit
set_option linter.unusedVariables false
/-- A thing that is owned: in the blocks fp, all from b on. -/
structure Ow where
  P : Nat → World → List Nat → Prop
  lt : ∀ {b w fp}, P b w fp → ∀ x ∈ fp, b ≤ x ∧ x < w.heap.size
  keep : ∀ {b w w' fp}, P b w fp → (∀ x ∈ fp, w'.heap[x]? = w.heap[x]?) → P b w' fp
  mono : ∀ {b b' w fp}, b' ≤ b → P b w fp → P b' w fp
def tyO {α : Type} (T : Ty α) (cs : List Value) (a : α) : Ow := ⟨fun b w fp => T.O b w cs a fp, fun h => T.lt _ _ _ _ _ h, fun h k => T.okeep _ _ _ _ _ _ h k, fun hb h => T.mono _ _ _ _ _ _ hb h⟩
def slO {α : Type} (T : Ty α) (e : TypeId) (v : Value) (l : List α) : Ow := ⟨fun b w fp => SlO T e b w v l fp, fun h => h.size_ok, fun h k => h.keep k, fun hb h => h.mono hb⟩
def bxO (g : Nat) (t : TypeId) (C : Array Value) : Ow := ⟨fun b w fp => fp = [g] ∧ b ≤ g ∧ w.heap[g]? = some (.cells C t (0, 0)),
  fun ⟨h1, h2, h3⟩ x hx => by
    subst h1
    simp at hx
    subst hx
    exact ⟨h2, (Array.getElem?_eq_some_iff.1 h3).1⟩,
  fun ⟨h1, h2, h3⟩ k => ⟨h1, h2, by rw [k _ (by rw [h1]; simp)]; exact h3⟩, fun hb ⟨h1, h2, h3⟩ => ⟨h1, by omega, h3⟩⟩
def SepF (b : Nat) (w : World) : List Ow → List Nat → Prop
  | [], fp => fp = []
  | o :: os, fp => ∃ f g, fp = f ++ g ∧ o.P b w f ∧ SepF b w os g ∧ ∀ x ∈ f, x ∉ g
/-- All these are owned, from b on, and none shares a block with another. -/
def Sep (b : Nat) (w : World) (os : List Ow) : Prop := b ≤ w.heap.size ∧ ∃ fp, SepF b w os fp
theorem SepF.lt {b : Nat} {w : World} {os : List Ow} {fp : List Nat} (h : SepF b w os fp) : ∀ x ∈ fp, b ≤ x ∧ x < w.heap.size := by
  induction os generalizing fp with
  | nil => intro x hx; rw [show fp = [] from h] at hx; cases hx
  | cons o os ih =>
    obtain ⟨f, g, rfl, h1, h2, _⟩ := h
    intro x hx
    rcases List.mem_append.1 hx with hx | hx
    · exact o.lt h1 x hx
    · exact ih h2 x hx
theorem SepF.keep {b : Nat} {w w' : World} {os : List Ow} {fp : List Nat} (h : SepF b w os fp) (hk : ∀ x ∈ fp, w'.heap[x]? = w.heap[x]?) : SepF b w' os fp := by
  induction os generalizing fp with
  | nil => exact h
  | cons o os ih =>
    obtain ⟨f, g, rfl, h1, h2, h3⟩ := h
    exact ⟨f, g, rfl, o.keep h1 fun x hx => hk x (List.mem_append.2 (.inl hx)), ih h2 fun x hx => hk x (List.mem_append.2 (.inr hx)), h3⟩
theorem SepF.mono {b b' : Nat} {w : World} {os : List Ow} {fp : List Nat} (hb : b' ≤ b) (h : SepF b w os fp) : SepF b' w os fp := by
  induction os generalizing fp with
  | nil => exact h
  | cons o os ih =>
    obtain ⟨f, g, rfl, h1, h2, h3⟩ := h
    exact ⟨f, g, rfl, o.mono hb h1, ih h2, h3⟩
section
variable {b : Nat} {w w' : World} {o o1 o2 o3 o4 : Ow} {os : List Ow}
theorem Sep.nil (w : World) : Sep w.heap.size w [] := ⟨Nat.le_refl _, [], rfl⟩
theorem Sep.base (h : Sep b w os) : b ≤ w.heap.size := h.1
theorem Sep.mono {b' : Nat} (h : Sep b w os) (hb : b' ≤ b) : Sep b' w os := by
  obtain ⟨h1, fp, h2⟩ := h
  exact ⟨by omega, fp, h2.mono hb⟩
theorem Sep.below (h : Sep b w os) (x : Ext w w') : Sep b w' os := by
  obtain ⟨h1, fp, h2⟩ := h
  exact ⟨Nat.le_trans h1 x.size, fp, h2.keep fun y hy => x.block y (h2.lt y hy).2⟩
theorem Sep.f1 (h : Sep b w (o1 :: o2 :: os)) : Sep b w (o2 :: o1 :: os) := by
  obtain ⟨h1, fp, f, g, rfl, h2, ⟨f', g', rfl, h3, h4, h5⟩, h6⟩ := h
  refine ⟨h1, f' ++ (f ++ g'), f', f ++ g', rfl, h3, ⟨f, g', rfl, h2, h4, fun x hx hy => h6 x hx (List.mem_append.2 (.inr hy))⟩, fun x hx hy => ?_⟩
  rcases List.mem_append.1 hy with hy | hy
  · exact h6 x hy (List.mem_append.2 (.inl hx))
  · exact h5 x hx hy
theorem Sep.tail (h : Sep b w (o :: os)) : Sep b w os := by
  obtain ⟨h1, fp, f, g, rfl, h2, h3, h6⟩ := h
  exact ⟨h1, g, h3⟩
theorem Sep.t4 {o1 o2 o3 o4 : Ow} (h : Sep b w (o1 :: o2 :: o3 :: o4 :: os)) : Sep b w os := h.tail.tail.tail.tail
theorem Sep.f2 (h : Sep b w (o1 :: o2 :: o3 :: os)) : Sep b w (o3 :: o1 :: o2 :: os) := by
  obtain ⟨h1, fp, f, g, rfl, h2, h3, h6⟩ := h
  obtain ⟨_, fp', h7⟩ := Sep.f1 (⟨h1, g, h3⟩ : Sep b w (o2 :: o3 :: os))
  have hg : ∃ f3 g3, SepF b w (o3 :: o2 :: os) (f3 ++ g3) ∧ o3.P b w f3 ∧ SepF b w (o2 :: os) g3 ∧ (∀ x ∈ f3, x ∉ g3) ∧ ∀ x, x ∈ f3 ++ g3 → x ∈ g := by
    obtain ⟨f2, g2, rfl, k1, ⟨f3, g3, rfl, k2, k3, k4⟩, k5⟩ := h3
    refine ⟨f3, f2 ++ g3, ⟨f3, f2 ++ g3, rfl, k2, ⟨f2, g3, rfl, k1, k3, fun x hx hy => k5 x hx (List.mem_append.2 (.inr hy))⟩, ?_⟩, k2, ⟨f2, g3, rfl, k1, k3, fun x hx hy => k5 x hx (List.mem_append.2 (.inr hy))⟩, ?_, ?_⟩
    · intro x hx hy
      rcases List.mem_append.1 hy with hy | hy
      · exact k5 x hy (List.mem_append.2 (.inl hx))
      · exact k4 x hx hy
    · intro x hx hy
      rcases List.mem_append.1 hy with hy | hy
      · exact k5 x hy (List.mem_append.2 (.inl hx))
      · exact k4 x hx hy
    · intro x hx
      simp only [List.mem_append] at hx ⊢
      rcases hx with hx | hx | hx
      · exact .inr (.inl hx)
      · exact .inl hx
      · exact .inr (.inr hx)
  obtain ⟨f3, g3, k0, k1, k2, k3, k4⟩ := hg
  refine Sep.f1 ⟨h1, f ++ (f3 ++ g3), f, f3 ++ g3, rfl, h2, k0, fun x hx hy => h6 x hx (k4 x hy)⟩
theorem Sep.f3 (h : Sep b w (o1 :: o2 :: o3 :: o4 :: os)) : Sep b w (o4 :: o1 :: o2 :: o3 :: os) := by
  obtain ⟨h1, fp, f, g, rfl, h2, ⟨f2, g2, rfl, k1, ⟨f3, g3, rfl, k2, ⟨f4, g4, rfl, k3, k4, k5⟩, k6⟩, k7⟩, h6⟩ := h
  simp only [List.mem_append, not_or] at h6 k7 k6
  refine ⟨h1, f4 ++ (f ++ (f2 ++ (f3 ++ g4))), f4, _, rfl, k3, ⟨f, _, rfl, h2, ⟨f2, _, rfl, k1, ⟨f3, g4, rfl, k2, k4, fun x hx => (k6 x hx).2⟩, ?_⟩, ?_⟩, ?_⟩
  · intro x hx hy
    rcases List.mem_append.1 hy with hy | hy
    · exact (k7 x hx).1 hy
    · exact (k7 x hx).2.2 hy
  · intro x hx hy
    simp only [List.mem_append] at hy
    rcases hy with hy | hy | hy
    · exact (h6 x hx).1 hy
    · exact (h6 x hx).2.1 hy
    · exact (h6 x hx).2.2.2 hy
  · intro x hx hy
    simp only [List.mem_append] at hy
    rcases hy with hy | hy | hy | hy
    · exact (h6 x hy).2.2.1 hx
    · exact (k7 x hy).2.1 hx
    · exact (k6 x hy).1 hx
    · exact k5 x hx hy
/-- Something new beside what there is. -/
theorem Sep.add {fp : List Nat} (h : Sep b w os) (x : Ext w w') (ho : o.P w.heap.size w' fp) : Sep b w' (o :: os) := by
  obtain ⟨h1, g, h2⟩ := h
  refine ⟨Nat.le_trans h1 x.size, fp ++ g, fp, g, rfl, o.mono h1 ho, h2.keep fun y hy => x.block y (h2.lt y hy).2, fun y hy hz => ?_⟩
  have := (o.lt ho y hy).1
  have := (h2.lt y hz).2
  omega
theorem Sep.addNil {α : Type} {T : Ty α} {e : TypeId} (h : Sep b w os) : Sep b w (slO T e (.slice none 0 0) ([] : List α) :: os) := by
  obtain ⟨h1, g, h2⟩ := h
  exact ⟨h1, g, [], g, rfl, SlO.nil, h2, fun x hx => by cases hx⟩
theorem Sep.head (h : Sep b w (o :: os)) : ∃ fp, o.P b w fp := by
  obtain ⟨h1, fp, f, g, rfl, h2, h3, h6⟩ := h
  exact ⟨f, h2⟩
theorem Sep.box {g : Nat} {t : TypeId} {C : Array Value} (h : Sep b w (bxO g t C :: os)) : w.heap[g]? = some (.cells C t (0, 0)) := by
  obtain ⟨fp, _, _, h3⟩ := h.head
  exact h3
theorem Sep.sl {α : Type} {T : Ty α} {e : TypeId} {v : Value} {l : List α} (h : Sep b w (slO T e v l :: os)) : SlR T w v l := by
  obtain ⟨fp, h3⟩ := h.head
  exact SlO.read h3
/-- One thing is turned into another in the same blocks and new ones. -/
theorem Sep.turn {w' : World} {fp' : List Nat → List Nat → Prop} (h : Sep b w (o1 :: os)) (hk : ∀ f, o1.P b w f → ∃ f', o2.P b w' f' ∧ (∀ x ∈ f', x ∈ f ∨ w.heap.size ≤ x) ∧ Kept f w w') : Sep b w' (o2 :: os) := by
  obtain ⟨h1, fp, f, g, rfl, h2, h3, h6⟩ := h
  obtain ⟨f', k1, k2, k3⟩ := hk f h2
  refine ⟨Nat.le_trans h1 k3.size, f' ++ g, f', g, rfl, k1, h3.keep fun x hx => k3.block x (h3.lt x hx).2 (fun hf => h6 x hf hx), fun x hx hy => ?_⟩
  rcases k2 x hx with h | h
  · exact h6 x h hy
  · have := (h3.lt x hy).2; omega
end
theorem cell_box {w : World} {g j : Nat} {t : TypeId} {C : Array Value} {fr : Nat × Nat} (h : w.heap[g]? = some (.cells C t fr)) : w.cell? ⟨g, j, none⟩ = C[j]? := by
  simp [World.cell?, h]
theorem frozen_box {w : World} {g j : Nat} {t : TypeId} {C : Array Value} (h : w.heap[g]? = some (.cells C t (0, 0))) : w.frozen? ⟨g, j, none⟩ = false := by
  simp [World.frozen?, h]
theorem heap_set {w : World} {g j : Nat} {t : TypeId} {C : Array Value} {fr : Nat × Nat} {u : Value} (h : w.heap[g]? = some (.cells C t fr)) : (w.setCell ⟨g, j, none⟩ u).heap[g]? = some (.cells (C.setIfInBounds j u) t fr) := by
  simp [World.setCell, Array.getElem?_modify, h]
section
variable {P : Program} {n : Nat} {ops : Array Oper} {Q : Exit → Act → World → Prop} {L : Frm} {w w0 : World} {m : Md} {r : IT} {d : Nat} {ty : TypeId} {pos : String} {af : Array Edge} {b : Nat} {os : List Ow}
theorem bx {b : Nat} {w0 w w' : World} (hb : b ≤ w0.heap.size) (B : Below b w0 w) (x : Ext w w') : Below b w0 w' := B.trans (x.mono (Nat.le_trans hb B.size))
theorem ext_new (w : World) (o : Obj) : Ext w (w.alloc o) := ext_alloc1 w o
/-- A step that makes memory. -/
theorem t_make {op : Op} {v : Value} {w' : World} (hx : Ext w w') (h : ∀ a, Env n L a → ∀ dst af gd, (execOp a.eval ⟨dst, op, ty, pos, af, gd⟩).run P w = .ok (.value v) w') (k : WT P n ops Q r ((d, v) :: L) w') (hm : m.isTake = false) (hn : Nat.blt d n = true) : WT P n ops Q (.st m ⟨some d, op, ty, pos, af, none⟩ r) L w := by
  intro a ha
  cases m with
  | take => cases hm
  | run =>
    simp only [wpT, Region.wanted, if_true]
    unfold Oper.wp
    rw [h a ha]
    exact ⟨hx, k _ (ha.put hn v)⟩
  | fin =>
    simp only [wpT, Region.wanted, if_true]
    unfold Oper.wp
    rw [h a ha]
    exact k _ (ha.put hn v)
/-- A box that is only read: the pointer leads to the value's data. -/
theorem t_boxr {α : Type} {T : Ty α} {t : TypeId} {xo : Operand} {v : Value} {x : α} (h : VA T w v x) (hx : ev L xo = some v) (k : ∀ p w', Ext w w' → Ptr T w' p x → WT P n ops Q r ((d, p) :: L) w') (hm : m.isTake = false) (hn : Nat.blt d n = true) : WT P n ops Q (.st m ⟨some d, .box t xo, ty, pos, af, none⟩ r) L w := by
  obtain ⟨cs, rfl, h2⟩ := h
  have he := ext_new w (.cells cs.toArray t)
  refine t_make (v := .pointer (some ⟨w.heap.size, 0, none⟩)) he (fun a ha _ _ _ => ?_) (k _ _ he ⟨w.heap.size, 0, cs, rfl, T.keep _ _ _ _ h2 he, fun j u hu => ?_⟩) hm hn
  · simp [execOp, ha.ev hx, Instr.box, newVar, newRow, newObj, Sem.run, Value.cells]
  · rw [cell_box (heap_alloc_new w _)]
    simpa using hu
/-- A box of one's own. -/
theorem t_boxo {t : TypeId} {xo : Operand} {v : Value} {C : Array Value} (S : Sep b w os) (hx : ev L xo = some v) (hC : v.cells = C) (k : ∀ g w', Ext w w' → Sep b w' (bxO g t C :: os) → WT P n ops Q r ((d, .pointer (some ⟨g, 0, none⟩)) :: L) w') (hm : m.isTake = false) (hn : Nat.blt d n = true) : WT P n ops Q (.st m ⟨some d, .box t xo, ty, pos, af, none⟩ r) L w := by
  have he := ext_new w (.cells C t)
  refine t_make (v := .pointer (some ⟨w.heap.size, 0, none⟩)) he (fun a ha _ _ _ => ?_) (k _ _ he (S.add (fp := [w.heap.size]) he ⟨rfl, Nat.le_refl _, heap_alloc_new w _⟩)) hm hn
  simp [execOp, ha.ev hx, Instr.box, newVar, newRow, newObj, Sem.run, hC]
theorem t_w {t : TypeId} {C : Array Value} {z : Value} (S : Sep b w os) (hz : (P.info? t).map (·.zero) = some (some z)) (hC : z.cells = C) (k : ∀ g w', Ext w w' → Sep b w' (bxO g t C :: os) → WT P n ops Q r ((d, .pointer (some ⟨g, 0, none⟩)) :: L) w') (hm : m.isTake = false) (hn : Nat.blt d n = true) : WT P n ops Q (.st m ⟨some d, .alloc t, ty, pos, af, none⟩ r) L w := by
  have he := ext_new w (.cells C t)
  refine t_make (v := .pointer (some ⟨w.heap.size, 0, none⟩)) he (fun a ha _ _ _ => ?_) (k _ _ he (S.add (fp := [w.heap.size]) he ⟨rfl, Nat.le_refl _, heap_alloc_new w _⟩)) hm hn
  cases hi : P.info? t with
  | none => rw [hi] at hz; cases hz
  | some inf =>
    rw [hi] at hz
    simp at hz
    simp [execOp, Instr.alloc, zeroValue, typeInfo, hi, hz, newVar, newRow, newObj, program, Sem.run, hC]
/-- A load from a box. -/
theorem t_bx1 {t tb : TypeId} {g j : Nat} {C : Array Value} {xo : Operand} {u : Value} (hb : w.heap[g]? = some (.cells C tb (0, 0))) (ha : aggB P t = some false) (hx : ev L xo = some (.pointer (some ⟨g, j, none⟩))) (hu : C[j]? = some u) (k : WT P n ops Q r ((d, u) :: L) w) (hn : Nat.blt d n = true) : WT P n ops Q (.st m ⟨some d, .load t xo, ty, pos, af, none⟩ r) L w :=
  t_ld1 ha (w0 := w) (by rw [cell_box hb]; exact hu) (Below.refl _ _) hx k hn
theorem t_b {t tb : TypeId} {g sz : Nat} {C : Array Value} {xo : Operand} (hb : w.heap[g]? = some (.cells C tb (0, 0))) (ha : aggB P t = some true) (hs : sizeB P t = some sz) (hsz : C.size = sz) (hx : ev L xo = some (.pointer (some ⟨g, 0, none⟩))) (k : WT P n ops Q r ((d, .agg C) :: L) w) (hn : Nat.blt d n = true) : WT P n ops Q (.st m ⟨some d, .load t xo, ty, pos, af, none⟩ r) L w :=
  t_ldn (cs := C.toList) ha (by rw [Array.length_toList, hsz]; exact hs) (w0 := w) (fun j u hu => by rw [cell_box hb]; simpa using hu) (Below.refl _ _) hx (by simpa using k) hn
theorem t_store {op : Op} {w' : World} (h : ∀ a, Env n L a → ∀ dst af gd, (execOp a.eval ⟨dst, op, ty, pos, af, gd⟩).run P w = .ok .skip w') (k : WT P n ops Q r L w') : WT P n ops Q (.st .fin ⟨none, op, ty, pos, af, none⟩ r) L w := by
  intro a ha
  simp only [wpT, Region.wanted, if_true]
  unfold Oper.wp
  rw [h a ha]
  exact k _ ha
theorem run_store1 {w : World} {g j : Nat} {t : TypeId} {C : Array Value} {u c : Value} (h : w.heap[g]? = some (.cells C t (0, 0))) (hc : C[j]? = some c) (hu : u.oneCell' = true) : (store ⟨g, j, none⟩ u).run P w = .ok () (w.setCell ⟨g, j, none⟩ u) := by
  have h1 : w.cell? ⟨g, j, none⟩ = some c := by rw [cell_box h]; exact hc
  have h2 := frozen_box (j := j) h
  cases u <;> simp [Value.oneCell'] at hu <;> simp [store, Sem.run, h1, h2]
/-- A store of one cell into a box. -/
theorem t_st1 {t tb : TypeId} {g j : Nat} {C : Array Value} {po xo : Operand} {u c : Value} (S : Sep b w (bxO g tb C :: os)) (hs : sizeB P t = some 1) (hp : ev L po = some (.pointer (some ⟨g, j, none⟩))) (hx : ev L xo = some u) (hc : C[j]? = some c) (hu : u.oneCell' = true) (huc : u.cells = #[u])
    (k : ∀ w', Below b w w' → Sep b w' (bxO g tb (C.setIfInBounds j u) :: os) → WT P n ops Q r L w') : WT P n ops Q (.st .fin ⟨none, .store t po xo, ty, pos, af, none⟩ r) L w := by
  have hb := S.box
  refine t_store (w' := w.setCell ⟨g, j, none⟩ u) (fun a ha _ _ _ => ?_) (k _ ?_ (S.turn (fp' := fun _ _ => True) fun f hf => ?_))
  · simp [execOp, ha.ev hp, ha.ev hx, Instr.storeAt, Instr.sureAddr, storeVar, huc, run_sizeOf hs, storeCells, Addr.add, run_store1 hb hc hu]
  · obtain ⟨fp, _, hg, _⟩ := S.head
    exact (Below.refl _ _).setCell hg u
  · obtain ⟨h1, h2, h3⟩ := hf
    refine ⟨f, ⟨h1, h2, heap_set h3⟩, fun x hx => .inl hx, (Kept.refl _ _).setCell (by rw [h1]; simp) u⟩
theorem run_storeCells {g : Nat} {t : TypeId} : ∀ (vs : List Value) (i : Nat) (w : World) (C : Array Value), w.heap[g]? = some (.cells C t (0, 0)) → i + vs.length ≤ C.size → (∀ u ∈ vs, u.oneCell' = true) →
    ∃ w' C', (storeCells ⟨g, 0, none⟩ vs i).run P w = .ok () w' ∧ w'.heap[g]? = some (.cells C' t (0, 0)) ∧ C'.size = C.size ∧ Kept [g] w w' ∧ ∀ j, C'[j]? = if i ≤ j ∧ j < i + vs.length then vs[j - i]? else C[j]? := by
  intro vs
  induction vs with
  | nil =>
    intro i w C h _ _
    exact ⟨w, C, by simp [storeCells], h, rfl, Kept.refl _ _, fun j => by rw [if_neg (by simp)]⟩
  | cons u vs ih =>
    intro i w C h hlen h1
    simp only [List.length_cons] at hlen
    have hi : i < C.size := by omega
    have hc : C[i]? = some C[i] := Array.getElem?_eq_getElem hi
    have hrun := run_store1 (P := P) h hc (h1 u (by simp))
    obtain ⟨w', C', k1, k2, k3, k4, k5⟩ := ih (i + 1) (w.setCell ⟨g, i, none⟩ u) (C.setIfInBounds i u) (heap_set h) (by simp; omega) (fun x hx => h1 x (by simp [hx]))
    refine ⟨w', C', ?_, k2, by simpa using k3, ((Kept.refl _ _).setCell (by simp) u).trans k4, fun j => ?_⟩
    · have ha : (⟨g, 0, none⟩ : Addr).add i = ⟨g, i, none⟩ := by rw [Addr.add_lit]; simp
      simp only [storeCells, Sem.run_bind, ha, hrun, Result.andThen_ok, k1]
    · rw [k5 j]
      by_cases hj : j = i
      · subst hj
        rw [if_neg (by omega), if_pos (by simp)]
        simp [hi]
      · by_cases hj2 : i + 1 ≤ j ∧ j < i + 1 + vs.length
        · rw [if_pos hj2, if_pos (by simp; omega), show j - i = (j - (i + 1)) + 1 by omega, List.getElem?_cons_succ]
        · rw [if_neg hj2, if_neg (by simp; omega), Array.getElem?_setIfInBounds_ne (by omega)]
/-- A store of a whole struct into its box. -/
theorem t_stn {t tb : TypeId} {g sz : Nat} {C V : Array Value} {po xo : Operand} (S : Sep b w (bxO g tb C :: os)) (hs : sizeB P t = some sz) (hp : ev L po = some (.pointer (some ⟨g, 0, none⟩))) (hx : ev L xo = some (.agg V)) (hsz : V.size = sz) (hV : V.size = C.size) (hu : ∀ u ∈ V.toList, u.oneCell' = true)
    (k : ∀ w', Below b w w' → Sep b w' (bxO g tb V :: os) → WT P n ops Q r L w') : WT P n ops Q (.st .fin ⟨none, .store t po xo, ty, pos, af, none⟩ r) L w := by
  subst hsz
  have hb := S.box
  obtain ⟨w', C', k1, k2, k3, k4, k5⟩ := run_storeCells (P := P) V.toList 0 w C hb (by simp [hV]) hu
  have hC : C' = V := by
    apply Array.ext_getElem?
    intro j
    rw [k5 j]
    by_cases hj : j < V.size
    · rw [if_pos (by simpa using hj)]; simp
    · rw [if_neg (by simpa using hj), Array.getElem?_eq_none (by omega), Array.getElem?_eq_none (by omega)]
  subst hC
  obtain ⟨fp, _, hg, _⟩ := S.head
  refine t_store (w' := w') (fun a ha _ _ _ => ?_) (k _ (k4.below (by simpa using hg) S.base) (S.turn (fp' := fun _ _ => True) fun f hf => ?_))
  · simp [execOp, ha.ev hp, ha.ev hx, Instr.storeAt, Instr.sureAddr, storeVar, Value.cells, run_sizeOf hs, k1]
  · obtain ⟨h1, h2, h3⟩ := hf
    subst h1
    exact ⟨[g], ⟨rfl, h2, k2⟩, fun x hx => .inl hx, k4⟩
theorem oc {z : Value} {l : List Value} (h : z.oneCell' = true) (t : ∀ u ∈ l, u.oneCell' = true) : ∀ u ∈ z :: l, u.oneCell' = true := fun u hu => by
  rcases List.mem_cons.1 hu with rfl | hu
  · exact h
  · exact t u hu
theorem oc0 : ∀ u ∈ ([] : List Value), u.oneCell' = true := fun u hu => by cases hu
/-- append of plain elements. -/
theorem t_cat {α : Type} {T : Ty α} (hT : ∀ base w cs a, T.R w cs a → T.O base w cs a []) {t e : TypeId} {bytes : Nat} (et : ElemT P t e T.size bytes) {s x : Operand} {ar : Array TypeId} {v u : Value} {l l' : List α} (S : Sep b w (slO T e v l :: os)) (hR : SlR T w u l') (hs : ev L s = some v) (hx : ev L x = some u) (har : ar = #[t, t])
    (hby : (l.length + l'.length) * bytes ≤ 140737488355328) (h63 : l.length + l'.length ≤ maxLen)
    (k : ∀ v' w', Below b w w' → Sep b w' (slO T e v' (l ++ l') :: os) → WT P n ops Q r ((d, v') :: L) w') (hn : Nat.blt d n = true) : WT P n ops Q (.st .fin ⟨some d, .call ⟨.builtin .append, #[s, x], ar⟩, ty, pos, af, none⟩ r) L w := by
  intro a ha
  subst har
  have hb := S.base
  obtain ⟨h1, fp, f, g, rfl, h2, h3, h6⟩ := S
  simp only [wpT, Region.wanted, if_true]
  refine wp_cat hT s x et h2 hR hby h63 hb rfl (ha.ev hs) (ha.ev hx) fun v' w' fp' hO hfp hk => ?_
  have hB : Below b w w' := hk.below (fun y hy => (h2.size_ok y hy).1) hb
  refine k v' w' hB ⟨Nat.le_trans hb hk.size, fp' ++ g, fp', g, rfl, hO, h3.keep fun y hy => hk.block y (h3.lt y hy).2 (fun hf => h6 y hf hy), fun y hy hz => ?_⟩ _ (ha.put hn v')
  rcases hfp y hy with h | h
  · exact h6 y h hz
  · have := (h3.lt y hz).2; omega
/-- append of one element that is owned: it goes over into the slice. -/
theorem t_snoc {α : Type} {T : Ty α} {t e : TypeId} {bytes : Nat} (et : ElemT P t e T.size bytes) {s x : Operand} {ar : Array TypeId} {v : Value} {A : Option Addr} {c : Nat} {cs : List Value} {y : α} {l : List α} (S : Sep b w (slO T e v l :: tyO T cs y :: os)) (hr : Rd w A cs) (hs : ev L s = some v) (hx : ev L x = some (.slice A 1 c)) (har : ar = #[t, t])
    (hby : (l.length + 1) * bytes ≤ 140737488355328) (h63 : l.length + 1 ≤ maxLen)
    (k : ∀ v' w', Below b w w' → Sep b w' (slO T e v' (l ++ [y]) :: os) → WT P n ops Q r ((d, v') :: L) w') (hn : Nat.blt d n = true) : WT P n ops Q (.st .fin ⟨some d, .call ⟨.builtin .append, #[s, x], ar⟩, ty, pos, af, none⟩ r) L w := by
  intro a ha
  subst har
  have hb := S.base
  obtain ⟨h1, fp, f, g, rfl, ⟨css, fps, k1, k2, k3, k4, k5, k6⟩, ⟨f2, g2, rfl, m1, m2, m3⟩, h6⟩ := S
  have hfl : ∀ y ∈ f, b ≤ y ∧ y < w.heap.size := SlO.size_ok ⟨css, fps, k1, k2, k3, k4, k5, k6⟩
  have hel : T.O b w cs y f2 := m1
  have hlen : cs.length = 1 * T.size := by rw [T.len _ _ _ (T.read _ _ _ _ _ hel)]; omega
  have hd : ∀ z ∈ f2, z ∉ f := fun z hz hf => h6 z hf (List.mem_append.2 (.inl hz))
  simp only [wpT, Region.wanted, if_true]
  refine wp_app s x et k3 hr hlen (T.one _ _ _ (T.read _ _ _ _ _ hel)) hby h63 hb rfl (ha.ev hs) (ha.ev hx) fun v' w' ho' hg' hv' => ?_
  obtain ⟨fp', g1, g2', g3⟩ := SlO.grow (css' := [cs]) (fps' := [f2]) (l' := [y]) (m := 1) k1 k2 k3 k4 k5 k6 rfl rfl (fun i c' a' f' hi ha hf' => by
    rcases i with _ | i
    · simp at hi ha hf'
      subst hi ha hf'
      exact hel
    · simp at hi) (by simpa using T.nodup _ _ _ _ _ hel) (by simpa using hd) rfl (by simpa using ho') hg' hv'
  have hB : Below b w w' := g3.below (fun y hy => (hfl y hy).1) hb
  refine k v' w' hB ⟨Nat.le_trans hb g3.size, fp' ++ g2, fp', g2, rfl, g1, m2.keep fun y hy => g3.block y (m2.lt y hy).2 (fun hf => h6 y hf (List.mem_append.2 (.inr hy))), fun z hz hy => ?_⟩ _ (ha.put hn v')
  rcases g2' z hz with h | h | h
  · exact h6 z h (List.mem_append.2 (.inr hy))
  · exact m3 z (by simpa using h) hy
  · have := (m2.lt z hy).2; omega
end
end Go.Proofs.YtdaecknfahgddaaGreat
namespace Go.Proofs.YtdaecknfahgddaaGreat
open Go.RowKit
set_option linter.unusedVariables false
theorem mixed : Tryz.prog.follows .mixedOrders = true := by kernel_rfl
theorem getx {α : Type} {l : List α} {k : Nat} (h : k < l.length) : ∃ x, l[k]? = some x := ⟨_, List.getElem?_eq_getElem h⟩
theorem one_at {c : Value} {cs : List Value} {off : Nat} (h : cs[off]? = some c) : ∀ j u, [c][j]? = some u → cs[off + j]? = some u := by
  intro j u hu
  cases j with
  | zero => simp at hu; subst hu; simpa using h
  | succ j => simp at hu
theorem ab_int : aggB Tryz.prog 3 = some false := by kernel_rfl
theorem sb_int : sizeB Tryz.prog 3 = some 1 := by kernel_rfl
theorem ab_bool : aggB Tryz.prog 4 = some false := by kernel_rfl
theorem ab_byte : aggB Tryz.prog 5 = some false := by kernel_rfl
theorem sb_byte : sizeB Tryz.prog 5 = some 1 := by kernel_rfl
theorem ab_str : aggB Tryz.prog 9 = some false := by kernel_rfl
theorem e_int : ElemT Tryz.prog 44 3 1 8 := ElemT.mk' Tryz.underlying44 (z := I 0) (by kernel_rfl) rfl (by omega)
theorem ab_s_byte : aggB Tryz.prog 22 = some false := by kernel_rfl
theorem sb_s_byte : sizeB Tryz.prog 22 = some 1 := by kernel_rfl
theorem e_byte : ElemT Tryz.prog 22 5 1 1 := ElemT.mk' Tryz.underlying22 (z := .int .u8 0) (by kernel_rfl) rfl (by omega)
theorem ab_hop : aggB Tryz.prog 86 = some true := by kernel_rfl
theorem sb_hop : sizeB Tryz.prog 86 = some 5 := by kernel_rfl
theorem z_hop : (Tryz.prog.info? 86).map (·.zero) = some (some (.agg #[I 0, I 0, I 0, I 0, I 0])) := by kernel_rfl
theorem fb_hop_0 : fieldB Tryz.prog 86 0 = some 0 := by kernel_rfl
theorem ln_hop_0 : Lens hopT intT 0 Hop.ia := fun w cs x h => by
  obtain rfl := hop_form h
  exact ⟨[I x.ia], rfl, one_at rfl⟩
theorem fb_hop_1 : fieldB Tryz.prog 86 1 = some 1 := by kernel_rfl
theorem ln_hop_1 : Lens hopT intT 1 Hop.ing := fun w cs x h => by
  obtain rfl := hop_form h
  exact ⟨[I x.ing], rfl, one_at rfl⟩
theorem fb_hop_2 : fieldB Tryz.prog 86 2 = some 2 := by kernel_rfl
theorem ln_hop_2 : Lens hopT intT 2 Hop.eg := fun w cs x h => by
  obtain rfl := hop_form h
  exact ⟨[I x.eg], rfl, one_at rfl⟩
theorem fb_hop_3 : fieldB Tryz.prog 86 3 = some 3 := by kernel_rfl
theorem ln_hop_3 : Lens hopT intT 3 Hop.exp := fun w cs x h => by
  obtain rfl := hop_form h
  exact ⟨[I x.exp], rfl, one_at rfl⟩
theorem fb_hop_4 : fieldB Tryz.prog 86 4 = some 4 := by kernel_rfl
theorem ln_hop_4 : Lens hopT intT 4 Hop.mac := fun w cs x h => by
  obtain rfl := hop_form h
  exact ⟨[I x.mac], rfl, one_at rfl⟩
theorem ab_s_hop : aggB Tryz.prog 80 = some false := by kernel_rfl
theorem sb_s_hop : sizeB Tryz.prog 80 = some 1 := by kernel_rfl
theorem e_hop : ElemT Tryz.prog 80 86 5 40 := ElemT.mk' Tryz.underlying80 (z := .agg #[I 0, I 0, I 0, I 0, I 0]) (by kernel_rfl) rfl (by omega)
theorem ab_asn : aggB Tryz.prog 135 = some true := by kernel_rfl
theorem sb_asn : sizeB Tryz.prog 135 = some 3 := by kernel_rfl
theorem z_asn : (Tryz.prog.info? 135).map (·.zero) = some (some (.agg #[I 0, .bool false, I 0])) := by kernel_rfl
theorem fb_asn_0 : fieldB Tryz.prog 135 0 = some 0 := by kernel_rfl
theorem ln_asn_0 : Lens asnT intT 0 ASd.isd := fun w cs x h => by
  obtain rfl := asn_form h
  exact ⟨[I x.isd], rfl, one_at rfl⟩
theorem fb_asn_1 : fieldB Tryz.prog 135 1 = some 1 := by kernel_rfl
theorem ln_asn_1 : Lens asnT boolT 1 ASd.core := fun w cs x h => by
  obtain rfl := asn_form h
  exact ⟨[.bool x.core], rfl, one_at rfl⟩
theorem fb_asn_2 : fieldB Tryz.prog 135 2 = some 2 := by kernel_rfl
theorem ln_asn_2 : Lens asnT intT 2 ASd.key := fun w cs x h => by
  obtain rfl := asn_form h
  exact ⟨[I x.key], rfl, one_at rfl⟩
theorem ab_s_asn : aggB Tryz.prog 24 = some false := by kernel_rfl
theorem sb_s_asn : sizeB Tryz.prog 24 = some 1 := by kernel_rfl
theorem e_asn : ElemT Tryz.prog 24 135 3 24 := ElemT.mk' Tryz.underlying24 (z := .agg #[I 0, .bool false, I 0]) (by kernel_rfl) rfl (by omega)
theorem ab_link : aggB Tryz.prog 152 = some true := by kernel_rfl
theorem sb_link : sizeB Tryz.prog 152 = some 5 := by kernel_rfl
theorem z_link : (Tryz.prog.info? 152).map (·.zero) = some (some (.agg #[I 0, I 0, I 0, I 0, I 0])) := by kernel_rfl
theorem fb_link_0 : fieldB Tryz.prog 152 0 = some 0 := by kernel_rfl
theorem ln_link_0 : Lens linkT intT 0 Lnk.a := fun w cs x h => by
  obtain rfl := link_form h
  exact ⟨[I x.a], rfl, one_at rfl⟩
theorem fb_link_1 : fieldB Tryz.prog 152 1 = some 1 := by kernel_rfl
theorem ln_link_1 : Lens linkT intT 1 Lnk.ai := fun w cs x h => by
  obtain rfl := link_form h
  exact ⟨[I x.ai], rfl, one_at rfl⟩
theorem fb_link_2 : fieldB Tryz.prog 152 2 = some 2 := by kernel_rfl
theorem ln_link_2 : Lens linkT intT 2 Lnk.b := fun w cs x h => by
  obtain rfl := link_form h
  exact ⟨[I x.b], rfl, one_at rfl⟩
theorem fb_link_3 : fieldB Tryz.prog 152 3 = some 3 := by kernel_rfl
theorem ln_link_3 : Lens linkT intT 3 Lnk.bi := fun w cs x h => by
  obtain rfl := link_form h
  exact ⟨[I x.bi], rfl, one_at rfl⟩
theorem fb_link_4 : fieldB Tryz.prog 152 4 = some 4 := by kernel_rfl
theorem ln_link_4 : Lens linkT intT 4 Lnk.kind := fun w cs x h => by
  obtain rfl := link_form h
  exact ⟨[I x.kind], rfl, one_at rfl⟩
theorem ab_s_link : aggB Tryz.prog 25 = some false := by kernel_rfl
theorem sb_s_link : sizeB Tryz.prog 25 = some 1 := by kernel_rfl
theorem e_link : ElemT Tryz.prog 25 152 5 40 := ElemT.mk' Tryz.underlying25 (z := .agg #[I 0, I 0, I 0, I 0, I 0]) (by kernel_rfl) rfl (by omega)
theorem ab_step : aggB Tryz.prog 78 = some true := by kernel_rfl
theorem sb_step : sizeB Tryz.prog 78 = some 3 := by kernel_rfl
theorem z_step : (Tryz.prog.info? 78).map (·.zero) = some (some (.agg #[I 0, I 0, I 0])) := by kernel_rfl
theorem fb_step_0 : fieldB Tryz.prog 78 0 = some 0 := by kernel_rfl
theorem ln_step_0 : Lens stepT intT 0 Stp.ia := fun w cs x h => by
  obtain rfl := step_form h
  exact ⟨[I x.ia], rfl, one_at rfl⟩
theorem fb_step_1 : fieldB Tryz.prog 78 1 = some 1 := by kernel_rfl
theorem ln_step_1 : Lens stepT intT 1 Stp.ing := fun w cs x h => by
  obtain rfl := step_form h
  exact ⟨[I x.ing], rfl, one_at rfl⟩
theorem fb_step_2 : fieldB Tryz.prog 78 2 = some 2 := by kernel_rfl
theorem ln_step_2 : Lens stepT intT 2 Stp.eg := fun w cs x h => by
  obtain rfl := step_form h
  exact ⟨[I x.eg], rfl, one_at rfl⟩
theorem e_step : ElemT Tryz.prog 47 78 3 24 := ElemT.mk' Tryz.underlying47 (z := .agg #[I 0, I 0, I 0]) (by kernel_rfl) rfl (by omega)
theorem ab_part : aggB Tryz.prog 82 = some true := by kernel_rfl
theorem sb_part : sizeB Tryz.prog 82 = some 4 := by kernel_rfl
theorem z_part : (Tryz.prog.info? 82).map (·.zero) = some (some (.agg #[I 0, I 0, I 0, .slice none 0 0])) := by kernel_rfl
theorem fb_part_0 : fieldB Tryz.prog 82 0 = some 0 := by kernel_rfl
theorem ln_part_0 : Lens partT intT 0 Part.kind := fun w cs x h => by
  obtain ⟨A3, c3, rfl, ⟨h3, _⟩⟩ := part_form h
  exact ⟨[I x.kind], rfl, one_at rfl⟩
theorem fb_part_1 : fieldB Tryz.prog 82 1 = some 1 := by kernel_rfl
theorem ln_part_1 : Lens partT intT 1 Part.ts := fun w cs x h => by
  obtain ⟨A3, c3, rfl, ⟨h3, _⟩⟩ := part_form h
  exact ⟨[I x.ts], rfl, one_at rfl⟩
theorem fb_part_2 : fieldB Tryz.prog 82 2 = some 2 := by kernel_rfl
theorem ln_part_2 : Lens partT intT 2 Part.beta := fun w cs x h => by
  obtain ⟨A3, c3, rfl, ⟨h3, _⟩⟩ := part_form h
  exact ⟨[I x.beta], rfl, one_at rfl⟩
theorem fb_part_3 : fieldB Tryz.prog 82 3 = some 3 := by kernel_rfl
theorem ln_part_3 : Lens partT (slT hopT 86) 3 Part.hops := fun w cs x h => by
  obtain ⟨A3, c3, rfl, ⟨h3, _⟩⟩ := part_form h
  exact ⟨[.slice A3 x.hops.length c3], ⟨_, rfl, h3⟩, one_at rfl⟩
theorem ab_s_part : aggB Tryz.prog 28 = some false := by kernel_rfl
theorem sb_s_part : sizeB Tryz.prog 28 = some 1 := by kernel_rfl
theorem e_part : ElemT Tryz.prog 28 82 4 48 := ElemT.mk' Tryz.underlying28 (z := .agg #[I 0, I 0, I 0, .slice none 0 0]) (by kernel_rfl) rfl (by omega)
theorem ab_path : aggB Tryz.prog 30 = some true := by kernel_rfl
theorem sb_path : sizeB Tryz.prog 30 = some 1 := by kernel_rfl
theorem z_path : (Tryz.prog.info? 30).map (·.zero) = some (some (.agg #[.slice none 0 0])) := by kernel_rfl
theorem fb_path_0 : fieldB Tryz.prog 30 0 = some 0 := by kernel_rfl
theorem ln_path_0 : Lens pathT (slT partT 82) 0 (fun x : Path => x) := fun w cs x h => by
  obtain ⟨A0, c0, rfl, ⟨h0, _⟩⟩ := path_form h
  exact ⟨[.slice A0 x.length c0], ⟨_, rfl, h0⟩, one_at rfl⟩
theorem ab_seg : aggB Tryz.prog 118 = some true := by kernel_rfl
theorem sb_seg : sizeB Tryz.prog 118 = some 3 := by kernel_rfl
theorem z_seg : (Tryz.prog.info? 118).map (·.zero) = some (some (.agg #[I 0, I 0, .slice none 0 0])) := by kernel_rfl
theorem fb_seg_0 : fieldB Tryz.prog 118 0 = some 0 := by kernel_rfl
theorem ln_seg_0 : Lens segT intT 0 Seg.ts := fun w cs x h => by
  obtain ⟨A2, c2, rfl, ⟨h2, _⟩⟩ := seg_form h
  exact ⟨[I x.ts], rfl, one_at rfl⟩
theorem fb_seg_1 : fieldB Tryz.prog 118 1 = some 1 := by kernel_rfl
theorem ln_seg_1 : Lens segT intT 1 Seg.beta := fun w cs x h => by
  obtain ⟨A2, c2, rfl, ⟨h2, _⟩⟩ := seg_form h
  exact ⟨[I x.beta], rfl, one_at rfl⟩
theorem fb_seg_2 : fieldB Tryz.prog 118 2 = some 2 := by kernel_rfl
theorem ln_seg_2 : Lens segT (slT hopT 86) 2 Seg.hops := fun w cs x h => by
  obtain ⟨A2, c2, rfl, ⟨h2, _⟩⟩ := seg_form h
  exact ⟨[.slice A2 x.hops.length c2], ⟨_, rfl, h2⟩, one_at rfl⟩
theorem ab_topo : aggB Tryz.prog 27 = some true := by kernel_rfl
theorem sb_topo : sizeB Tryz.prog 27 = some 2 := by kernel_rfl
theorem z_topo : (Tryz.prog.info? 27).map (·.zero) = some (some (.agg #[.slice none 0 0, .slice none 0 0])) := by kernel_rfl
theorem fb_topo_0 : fieldB Tryz.prog 27 0 = some 0 := by kernel_rfl
theorem ln_topo_0 : Lens topoT (slT asnT 135) 0 Topo.ases := fun w cs x h => by
  obtain ⟨A0, c0, A1, c1, rfl, ⟨h0, _⟩, ⟨h1, _⟩⟩ := topo_form h
  exact ⟨[.slice A0 x.ases.length c0], ⟨_, rfl, h0⟩, one_at rfl⟩
theorem fb_topo_1 : fieldB Tryz.prog 27 1 = some 1 := by kernel_rfl
theorem ln_topo_1 : Lens topoT (slT linkT 152) 1 Topo.links := fun w cs x h => by
  obtain ⟨A0, c0, A1, c1, rfl, ⟨h0, _⟩, ⟨h1, _⟩⟩ := topo_form h
  exact ⟨[.slice A1 x.links.length c1], ⟨_, rfl, h1⟩, one_at rfl⟩
theorem ab_pkt : aggB Tryz.prog 51 = some true := by kernel_rfl
theorem sb_pkt : sizeB Tryz.prog 51 = some 10 := by kernel_rfl
theorem z_pkt : (Tryz.prog.info? 51).map (·.zero) = some (some (.agg #[I 0, I 0, I 0, .slice none 0 0, I 0, I 0, I 0, I 0, I 0, .slice none 0 0])) := by kernel_rfl
theorem fb_pkt_0 : fieldB Tryz.prog 51 0 = some 0 := by kernel_rfl
theorem ln_pkt_0 : Lens pktT intT 0 Pkt.kind := fun w cs x h => by
  obtain ⟨A3, c3, A9, c9, rfl, ⟨h3, _⟩, ⟨h9, _⟩⟩ := pkt_form h
  exact ⟨[I x.kind], rfl, one_at rfl⟩
theorem fb_pkt_1 : fieldB Tryz.prog 51 1 = some 1 := by kernel_rfl
theorem ln_pkt_1 : Lens pktT intT 1 Pkt.src := fun w cs x h => by
  obtain ⟨A3, c3, A9, c9, rfl, ⟨h3, _⟩, ⟨h9, _⟩⟩ := pkt_form h
  exact ⟨[I x.src], rfl, one_at rfl⟩
theorem fb_pkt_2 : fieldB Tryz.prog 51 2 = some 2 := by kernel_rfl
theorem ln_pkt_2 : Lens pktT intT 2 Pkt.dst := fun w cs x h => by
  obtain ⟨A3, c3, A9, c9, rfl, ⟨h3, _⟩, ⟨h9, _⟩⟩ := pkt_form h
  exact ⟨[I x.dst], rfl, one_at rfl⟩
theorem fb_pkt_3 : fieldB Tryz.prog 51 3 = some 3 := by kernel_rfl
theorem ln_pkt_3 : Lens pktT pathT 3 Pkt.path := fun w cs x h => by
  obtain ⟨A3, c3, A9, c9, rfl, ⟨h3, _⟩, ⟨h9, _⟩⟩ := pkt_form h
  exact ⟨[.slice A3 x.path.length c3], path_mk h3, one_at rfl⟩
theorem fb_pkt_4 : fieldB Tryz.prog 51 4 = some 4 := by kernel_rfl
theorem ln_pkt_4 : Lens pktT intT 4 Pkt.pidx := fun w cs x h => by
  obtain ⟨A3, c3, A9, c9, rfl, ⟨h3, _⟩, ⟨h9, _⟩⟩ := pkt_form h
  exact ⟨[I x.pidx], rfl, one_at rfl⟩
theorem fb_pkt_5 : fieldB Tryz.prog 51 5 = some 5 := by kernel_rfl
theorem ln_pkt_5 : Lens pktT intT 5 Pkt.hidx := fun w cs x h => by
  obtain ⟨A3, c3, A9, c9, rfl, ⟨h3, _⟩, ⟨h9, _⟩⟩ := pkt_form h
  exact ⟨[I x.hidx], rfl, one_at rfl⟩
theorem fb_pkt_6 : fieldB Tryz.prog 51 6 = some 6 := by kernel_rfl
theorem ln_pkt_6 : Lens pktT intT 6 Pkt.beta := fun w cs x h => by
  obtain ⟨A3, c3, A9, c9, rfl, ⟨h3, _⟩, ⟨h9, _⟩⟩ := pkt_form h
  exact ⟨[I x.beta], rfl, one_at rfl⟩
theorem fb_pkt_7 : fieldB Tryz.prog 51 7 = some 7 := by kernel_rfl
theorem ln_pkt_7 : Lens pktT intT 7 Pkt.rid := fun w cs x h => by
  obtain ⟨A3, c3, A9, c9, rfl, ⟨h3, _⟩, ⟨h9, _⟩⟩ := pkt_form h
  exact ⟨[I x.rid], rfl, one_at rfl⟩
theorem fb_pkt_8 : fieldB Tryz.prog 51 8 = some 8 := by kernel_rfl
theorem ln_pkt_8 : Lens pktT intT 8 Pkt.seq := fun w cs x h => by
  obtain ⟨A3, c3, A9, c9, rfl, ⟨h3, _⟩, ⟨h9, _⟩⟩ := pkt_form h
  exact ⟨[I x.seq], rfl, one_at rfl⟩
theorem fb_pkt_9 : fieldB Tryz.prog 51 9 = some 9 := by kernel_rfl
theorem ln_pkt_9 : Lens pktT (slT byteT 5) 9 Pkt.pay := fun w cs x h => by
  obtain ⟨A3, c3, A9, c9, rfl, ⟨h3, _⟩, ⟨h9, _⟩⟩ := pkt_form h
  exact ⟨[.slice A9 x.pay.length c9], ⟨_, rfl, h9⟩, one_at rfl⟩
end Go.Proofs.YtdaecknfahgddaaGreat
namespace Go.Proofs.YtdaecknfahgddaaGreat
open Go.RowKit
set_option linter.unusedVariables false
def evp (L : Frm) : List (Nat × Operand) → Option (List (Nat × Value))
  | [] => some []
  | x :: xs => match ev L x.2, evp L xs with
    | some v, some vs => some ((x.1, v) :: vs)
    | _, _ => none
theorem Env.evp {n : Nat} {L : Frm} {a : Act} (h : Env n L a) {xs : List (Nat × Operand)} {vs : List (Nat × Value)} (hx : evp L xs = some vs) : (xs.map fun x => (x.1, a.eval x.2)) = vs := by
  induction xs generalizing vs with
  | nil => cases hx; rfl
  | cons x t ih =>
    unfold Go.Proofs.YtdaecknfahgddaaGreat.evp at hx
    split at hx
    · rename_i v vs' h1 h2
      cases hx
      rw [List.map_cons, h.ev h1, ih h2]
    · cases hx
section
variable {P : Program} {n : Nat} {ops : Array Oper} {Q : Exit → Act → World → Prop} {L : Frm} {w w0 : World} {m : Md} {r : IT} {d : Nat} {ty : TypeId} {pos : String} {af : Array Edge} {b : Nat} {os : List Ow}
theorem t_g {t : TypeId} {ps : List (Nat × Operand)} {vs : List (Nat × Value)} {v : Value} (hb : ∀ w, (Instr.build t vs.toArray).run P w = .ok v w) (hv : evp L ps = some vs) (k : WT P n ops Q r ((d, v) :: L) w) (hn : Nat.blt d n = true) : WT P n ops Q (.st m ⟨some d, .build t ps.toArray, ty, pos, af, none⟩ r) L w :=
  t_read (fun a ha _ _ _ w' _ => by
    have h := ha.evp hv
    have e : (ps.toArray.map fun x => (x.1, a.eval x.2)) = vs.toArray := by rw [List.map_toArray, h]
    simp only [execOp]
    rw [show (ps.toArray.map fun x => match x with | (i, x) => (i, a.eval x)) = vs.toArray from e]
    simp [hb]) k hn
/-- A slice literal whose elements are plain: a slice of one's own. -/
theorem t_lit {α : Type} {T : Ty α} (hT : ∀ base w cs a, T.R w cs a → T.O base w cs a []) {t e : TypeId} {len : Nat} {ps : List (Nat × Operand)} {vs : List (Nat × Value)} {C : Array Value} {l : List α} {css : List (List Value)} (S : Sep b w os)
    (hb : ∀ w, (Instr.buildSlice t len vs.toArray).run P w = .ok (.slice (some ⟨w.heap.size, 0, none⟩) len len) (w.alloc (.cells C e))) (hv : evp L ps = some vs) (hC : C.toList = css.flatten) (hl : l.length = len) (hcl : css.length = l.length) (hlen : l.length ≤ maxLen) (hR : ∀ (w : World) (i : Nat) cs a, css[i]? = some cs → l[i]? = some a → T.R w cs a)
    (k : ∀ u w', Ext w w' → Sep b w' (slO T e u l :: os) → WT P n ops Q r ((d, u) :: L) w') (hm : m.isTake = false) (hn : Nat.blt d n = true) : WT P n ops Q (.st m ⟨some d, .buildSlice t len ps.toArray, ty, pos, af, none⟩ r) L w := by
  have he := ext_new w (.cells C e)
  have hall : ∀ (i : Nat) cs, css[i]? = some cs → cs.length = T.size := fun i cs hi => by
    have hlt : i < l.length := by rw [← hcl]; exact (List.getElem?_eq_some_iff.1 hi).1
    exact T.len _ _ _ (hR w i cs _ hi (List.getElem?_eq_getElem hlt))
  have hsz : C.size = l.length * T.size := by rw [← Array.length_toList, hC, flatten_len hall, hcl]
  have hO : SlO T e w.heap.size (w.alloc (.cells C e)) (.slice (some ⟨w.heap.size, 0, none⟩) len len) l [w.heap.size] := by
    subst hl
    refine ⟨css, l.map fun _ => [], hcl, by simp, ?_, fun i cs a f hi ha hf => ?_, ?_, by simp⟩
    · rw [← hC]
      exact World.ownsRow_lit w C l.length (Nat.le_refl _) hlen hsz
    · simp at hf
      obtain ⟨_, _, rfl⟩ := hf
      exact hT _ _ _ _ (hR _ i cs a hi ha)
    · rw [flat_nil]; rfl
  refine t_make he (fun a ha _ _ _ => ?_) (k _ _ he (S.add he hO)) hm hn
  have h := ha.evp hv
  have e' : (ps.toArray.map fun x => (x.1, a.eval x.2)) = vs.toArray := by rw [List.map_toArray, h]
  simp only [execOp]
  rw [show (ps.toArray.map fun x => match x with | (i, x) => (i, a.eval x)) = vs.toArray from e']
  simp [hb]
/-- A slice literal of one element, to be appended: its cells can be read. -/
theorem t_lit1 {t e : TypeId} {ps : List (Nat × Operand)} {vs : List (Nat × Value)} {C : Array Value} (hb : ∀ w, (Instr.buildSlice t 1 vs.toArray).run P w = .ok (.slice (some ⟨w.heap.size, 0, none⟩) 1 1) (w.alloc (.cells C e))) (hv : evp L ps = some vs)
    (k : ∀ A w', Ext w w' → Rd w' A C.toList → WT P n ops Q r ((d, .slice A 1 1) :: L) w') (hm : m.isTake = false) (hn : Nat.blt d n = true) : WT P n ops Q (.st m ⟨some d, .buildSlice t 1 ps.toArray, ty, pos, af, none⟩ r) L w := by
  have he := ext_new w (.cells C e)
  refine t_make he (fun a ha _ _ _ => ?_) (k _ _ he fun _ => ⟨w.heap.size, 0, rfl, fun j u hu => ?_⟩) hm hn
  · have h := ha.evp hv
    have e' : (ps.toArray.map fun x => (x.1, a.eval x.2)) = vs.toArray := by rw [List.map_toArray, h]
    simp only [execOp]
    rw [show (ps.toArray.map fun x => match x with | (i, x) => (i, a.eval x)) = vs.toArray from e']
    simp [hb]
  · rw [cell_box (heap_alloc_new w _)]
    simpa using hu
/-- A slice literal of elements that are owned. -/
theorem t_lit2 {α : Type} {T : Ty α} {t e : TypeId} {ps : List (Nat × Operand)} {vs : List (Nat × Value)} {C : Array Value} {cs1 cs2 : List Value} {x1 x2 : α} (S : Sep b w (tyO T cs1 x1 :: tyO T cs2 x2 :: os))
  (hb : ∀ w, (Instr.buildSlice t 2 vs.toArray).run P w = .ok (.slice (some ⟨w.heap.size, 0, none⟩) 2 2) (w.alloc (.cells C e))) (hv : evp L ps = some vs) (hC : C.toList = cs1 ++ cs2)
  (k : ∀ u w', Ext w w' → Sep b w' (slO T e u [x1, x2] :: os) → WT P n ops Q r ((d, u) :: L) w') (hm : m.isTake = false) (hn : Nat.blt d n = true) : WT P n ops Q (.st m ⟨some d, .buildSlice t 2 ps.toArray, ty, pos, af, none⟩ r) L w := by
 have he := ext_new w (.cells C e)
 obtain ⟨h1, fp, f, g, rfl, h2, ⟨f2, g2, rfl, m1, m2, m3⟩, h6⟩ := S
 have hO1 : T.O b w cs1 x1 f := h2
 have hO2 : T.O b w cs2 x2 f2 := m1
 have hl1 := T.len _ _ _ (T.read _ _ _ _ _ hO1)
 have hl2 := T.len _ _ _ (T.read _ _ _ _ _ hO2)
 have hlt1 := T.lt _ _ _ _ _ hO1
 have hlt2 := T.lt _ _ _ _ _ hO2
 have hO : SlO T e b (w.alloc (.cells C e)) (.slice (some ⟨w.heap.size, 0, none⟩) 2 2) [x1, x2] (w.heap.size :: (f ++ f2)) := by
  refine ⟨[cs1, cs2], [f, f2], rfl, rfl, ?_, fun i cs a f' hi ha hf => ?_, by simp [Value.ownBlock], ?_⟩
  ·have := World.ownsRow_lit (base := b) (e := e) (size := T.size) w C 2 h1 (by simp [maxLen]) (by rw [← Array.length_toList, hC, List.length_append]; omega)
   rw [hC] at this
   simpa using this
  ·rcases i with _ | _ | i
   ·simp at hi ha hf
    subst hi ha hf
    exact T.obelow hO1 he
   ·simp at hi ha hf
    subst hi ha hf
    exact T.obelow hO2 he
   ·simp at hi
  ·rw [List.nodup_cons]
   refine ⟨fun hm => ?_, ?_⟩
   ·rcases List.mem_append.1 hm with hm | hm
    ·have := (hlt1 _ hm).2; omega
    ·have := (hlt2 _ hm).2; omega
   ·rw [List.nodup_append]
    exact ⟨T.nodup _ _ _ _ _ hO1, T.nodup _ _ _ _ _ hO2, fun x hx y hy hxy => h6 x hx (List.mem_append.2 (.inl (hxy ▸ hy)))⟩
 have hS : Sep b (w.alloc (.cells C e)) (slO T e (.slice (some ⟨w.heap.size, 0, none⟩) 2 2) [x1, x2] :: os) := by
  refine ⟨Nat.le_trans h1 he.size, _, w.heap.size :: (f ++ f2), g2, rfl, hO, m2.keep fun y hy => he.block y (m2.lt y hy).2, fun y hy hz => ?_⟩
  rcases List.mem_cons.1 hy with hy | hy
  ·have := (m2.lt y hz).2; omega
  ·rcases List.mem_append.1 hy with hy | hy
   ·exact h6 y hy (List.mem_append.2 (.inr hz))
   ·exact m3 y hy hz
 refine t_make he (fun a ha _ _ _ => ?_) (k _ _ he hS) hm hn
 have h := ha.evp hv
 have e' : (ps.toArray.map fun x => (x.1, a.eval x.2)) = vs.toArray := by rw [List.map_toArray, h]
 simp only [execOp]
 rw [show (ps.toArray.map fun x => match x with | (i, x) => (i, a.eval x)) = vs.toArray from e']
 simp [hb]
theorem run_loadBox {t tb : TypeId} {g : Nat} {C : Array Value} (hb : w.heap[g]? = some (.cells C tb (0, 0))) (ha : aggB P t = some true) (hs : sizeB P t = some C.size) : (loadVar t ⟨g, 0, none⟩).run P w = .ok (.agg C) w := by
  have hc := run_loadCells (P := P) (w := w) (g := g) (o := 0) (cs := C.toList) (fun j u hu => by rw [cell_box hb]; simpa using hu)
  simp only [Array.length_toList] at hc
  simp [loadVar, run_isAgg ha, run_sizeOf hs, hc]
theorem x_retc {fn : Func} {R : Ending → World → Prop} {t g sz : Nat} {tt tb : TypeId} {C : Array Value} (hr : fn.results = #[.cell t tt]) (hv : look L t = some (.pointer (some ⟨g, 0, none⟩))) (hb : w.heap[g]? = some (.cells C tb (0, 0))) (ha : aggB P tt = some true) (hs : sizeB P tt = some sz) (hsz : C.size = sz) (h : R (.returned (.agg C)) w) : WX n (bodyPost P fn R) .ret L w := by
  intro a hE
  subst hsz
  have h1 := hE.at_ _ _ hv
  refine bodyPost_ret ?_ hE.defers h
  simp [results, hr, h1, asAddr, run_loadBox hb ha hs]
theorem x_retct {fn : Func} {R : Ending → World → Prop} {t g u sz : Nat} {tt tb : TypeId} {C : Array Value} {x : Value} (hr : fn.results = #[.cell t tt, .tmp u]) (hv : look L t = some (.pointer (some ⟨g, 0, none⟩))) (hb : w.heap[g]? = some (.cells C tb (0, 0))) (ha : aggB P tt = some true) (hs : sizeB P tt = some sz) (hsz : C.size = sz) (hx : look L u = some x) (h : R (.returned (.tuple #[.agg C, x])) w) : WX n (bodyPost P fn R) .ret L w := by
  intro a hE
  subst hsz
  have h1 := hE.at_ _ _ hv
  have h2 := hE.at_ _ _ hx
  refine bodyPost_ret ?_ hE.defers h
  simp [results, hr, h1, h2, asAddr, run_loadBox hb ha hs]
theorem x_retctt {fn : Func} {R : Ending → World → Prop} {t g u s sz : Nat} {tt tb : TypeId} {C : Array Value} {x y : Value} (hr : fn.results = #[.cell t tt, .tmp u, .tmp s]) (hv : look L t = some (.pointer (some ⟨g, 0, none⟩))) (hb : w.heap[g]? = some (.cells C tb (0, 0))) (ha : aggB P tt = some true) (hs : sizeB P tt = some sz) (hsz : C.size = sz) (hx : look L u = some x) (hy : look L s = some y) (h : R (.returned (.tuple #[.agg C, x, y])) w) : WX n (bodyPost P fn R) .ret L w := by
  intro a hE
  subst hsz
  have h1 := hE.at_ _ _ hv
  have h2 := hE.at_ _ _ hx
  have h3 := hE.at_ _ _ hy
  refine bodyPost_ret ?_ hE.defers h
  simp [results, hr, h1, h2, h3, asAddr, run_loadBox hb ha hs]
theorem t_conv {s t : TypeId} {x : Operand} {k1 k2 : IntKind} {sd : TypeDesc} {a : Int} (hs : P.underlying s = some sd) (ht : P.underlying t = some (.int k2)) (hx : ev L x = some (.int k1 a)) (k : WT P n ops Q r ((d, .int k2 (k2.wrap a)) :: L) w) (hn : Nat.blt d n = true) : WT P n ops Q (.st m ⟨some d, .convert s t x, ty, pos, af, none⟩ r) L w :=
  t_read (fun e ha _ _ _ w' _ => by simp [execOp, ha.ev hx, convert, run_underlying hs, run_underlying ht, Conv.intToInt]) k hn
end
end Go.Proofs.YtdaecknfahgddaaGreat
namespace Go.Proofs.YtdaecknfahgddaaGreat
open Go.RowKit
set_option linter.unusedVariables false
theorem bs_int1 (a0 : Int) (w : World) : (Instr.buildSlice 44 1 #[(0, I a0)]).run Tryz.prog w = .ok (.slice (some ⟨w.heap.size, 0, none⟩) 1 1) (w.alloc (.cells #[I a0] 3)) := by kernel_rfl
theorem bs_int2 (a0 a1 : Int) (w : World) : (Instr.buildSlice 44 2 #[(0, I a0), (1, I a1)]).run Tryz.prog w = .ok (.slice (some ⟨w.heap.size, 0, none⟩) 2 2) (w.alloc (.cells #[I a0, I a1] 3)) := by kernel_rfl
theorem bs_int3 (a0 a1 a2 : Int) (w : World) : (Instr.buildSlice 44 3 #[(0, I a0), (1, I a1), (2, I a2)]).run Tryz.prog w = .ok (.slice (some ⟨w.heap.size, 0, none⟩) 3 3) (w.alloc (.cells #[I a0, I a1, I a2] 3)) := by kernel_rfl
theorem bs_int4 (a0 a1 a2 a3 : Int) (w : World) : (Instr.buildSlice 44 4 #[(0, I a0), (1, I a1), (2, I a2), (3, I a3)]).run Tryz.prog w = .ok (.slice (some ⟨w.heap.size, 0, none⟩) 4 4) (w.alloc (.cells #[I a0, I a1, I a2, I a3] 3)) := by kernel_rfl
theorem bs_int5 (a0 a1 a2 a3 a4 : Int) (w : World) : (Instr.buildSlice 44 5 #[(0, I a0), (1, I a1), (2, I a2), (3, I a3), (4, I a4)]).run Tryz.prog w = .ok (.slice (some ⟨w.heap.size, 0, none⟩) 5 5) (w.alloc (.cells #[I a0, I a1, I a2, I a3, I a4] 3)) := by kernel_rfl
theorem bs_int6 (a0 a1 a2 a3 a4 a5 : Int) (w : World) : (Instr.buildSlice 44 6 #[(0, I a0), (1, I a1), (2, I a2), (3, I a3), (4, I a4), (5, I a5)]).run Tryz.prog w = .ok (.slice (some ⟨w.heap.size, 0, none⟩) 6 6) (w.alloc (.cells #[I a0, I a1, I a2, I a3, I a4, I a5] 3)) := by kernel_rfl
theorem bs_int8 (a0 a1 a2 a3 a4 a5 a6 a7 : Int) (w : World) : (Instr.buildSlice 44 8 #[(0, I a0), (1, I a1), (2, I a2), (3, I a3), (4, I a4), (5, I a5), (6, I a6), (7, I a7)]).run Tryz.prog w = .ok (.slice (some ⟨w.heap.size, 0, none⟩) 8 8) (w.alloc (.cells #[I a0, I a1, I a2, I a3, I a4, I a5, I a6, I a7] 3)) := by kernel_rfl
theorem bs_int0 (w : World) : (Instr.buildSlice 44 0 #[]).run Tryz.prog w = .ok (.slice (some ⟨w.heap.size, 0, none⟩) 0 0) (w.alloc (.cells #[] 3)) := by kernel_rfl
theorem bs_byte0 (w : World) : (Instr.buildSlice 22 0 #[]).run Tryz.prog w = .ok (.slice (some ⟨w.heap.size, 0, none⟩) 0 0) (w.alloc (.cells #[] 5)) := by kernel_rfl
theorem bs_hop0 (w : World) : (Instr.buildSlice 80 0 #[]).run Tryz.prog w = .ok (.slice (some ⟨w.heap.size, 0, none⟩) 0 0) (w.alloc (.cells #[] 86)) := by kernel_rfl
theorem bs_byte1 (a : Int) (w : World) : (Instr.buildSlice 22 1 #[(0, .int .u8 a)]).run Tryz.prog w = .ok (.slice (some ⟨w.heap.size, 0, none⟩) 1 1) (w.alloc (.cells #[.int .u8 a] 5)) := by kernel_rfl
theorem bs_hop1 (c0 c1 c2 c3 c4 : Value) (w : World) : (Instr.buildSlice 80 1 #[(0, .agg #[c0, c1, c2, c3, c4])]).run Tryz.prog w = .ok (.slice (some ⟨w.heap.size, 0, none⟩) 1 1) (w.alloc (.cells #[c0, c1, c2, c3, c4] 86)) := by kernel_rfl
theorem bs_part1 (c0 c1 c2 c3 : Value) (w : World) : (Instr.buildSlice 28 1 #[(0, .agg #[c0, c1, c2, c3])]).run Tryz.prog w = .ok (.slice (some ⟨w.heap.size, 0, none⟩) 1 1) (w.alloc (.cells #[c0, c1, c2, c3] 82)) := by kernel_rfl
theorem bs_part2 (c0 c1 c2 c3 d0 d1 d2 d3 : Value) (w : World) : (Instr.buildSlice 28 2 #[(0, .agg #[c0, c1, c2, c3]), (1, .agg #[d0, d1, d2, d3])]).run Tryz.prog w = .ok (.slice (some ⟨w.heap.size, 0, none⟩) 2 2) (w.alloc (.cells #[c0, c1, c2, c3, d0, d1, d2, d3] 82)) := by kernel_rfl
theorem b_hop (a b c d e : Int) (w : World) : (Instr.build 86 #[(0, I a), (1, I b), (2, I c), (3, I d), (4, I e)]).run Tryz.prog w = .ok (.agg #[I a, I b, I c, I d, I e]) w := by kernel_rfl
theorem b_part0 (w : World) : (Instr.build 82 #[]).run Tryz.prog w = .ok (.agg #[I 0, I 0, I 0, .slice none 0 0]) w := by kernel_rfl
theorem b_part (a b c : Int) (A : Option Addr) (k q : Nat) (w : World) : (Instr.build 82 #[(0, I a), (1, I b), (2, I c), (3, .slice A k q)]).run Tryz.prog w = .ok (.agg #[I a, I b, I c, .slice A k q]) w := by kernel_rfl
theorem b_part3 (a b c : Int) (w : World) : (Instr.build 82 #[(0, I a), (1, I b), (2, I c)]).run Tryz.prog w = .ok (.agg #[I a, I b, I c, .slice none 0 0]) w := by kernel_rfl
theorem b_path0 (w : World) : (Instr.build 30 #[]).run Tryz.prog w = .ok (.agg #[.slice none 0 0]) w := by kernel_rfl
theorem b_path (A : Option Addr) (k q : Nat) (w : World) : (Instr.build 30 #[(0, .slice A k q)]).run Tryz.prog w = .ok (.agg #[.slice A k q]) w := by kernel_rfl
theorem SlR.cells {α : Type} {T : Ty α} {w : World} {v : Value} {l : List α} (h : SlR T w v l) : v.cells = #[v] ∧ v.oneCell' = true := by
  obtain ⟨A, c, rfl, _⟩ := h.form
  exact ⟨rfl, rfl⟩
theorem litR_int (l : List Int) : ∀ (w : World) (i : Nat) cs a, (l.map fun a => [I a])[i]? = some cs → l[i]? = some a → intT.R w cs a := by
  intro w i cs a h1 h2
  rw [List.getElem?_map, h2] at h1
  simp at h1
  exact h1.symm
theorem litR_nil {α : Type} {T : Ty α} : ∀ (w : World) (i : Nat) cs a, ([] : List (List Value))[i]? = some cs → ([] : List α)[i]? = some a → T.R w cs a := by
  intro w i cs a h1 h2
  simp at h1
theorem litR_one {α : Type} {T : Ty α} {c : List Value} {x : α} (h : ∀ w, T.R w c x) : ∀ (w : World) (i : Nat) cs a, [c][i]? = some cs → [x][i]? = some a → T.R w cs a := by
  intro w i cs a h1 h2
  cases i with
  | zero => simp at h1 h2; subst h1 h2; exact h w
  | succ i => simp at h1
theorem va1 {α : Type} {T : Ty α} {P : Program} {f : FuncId} {w : World} {v : Value} {x : α} {R : Ending → World → Prop} {vs : List Value} (h : VA T w v x) (hc : ∀ cs, T.R w cs x → Calls P f (Value.agg cs.toArray :: vs).toArray w R) : Calls P f (v :: vs).toArray w R := by
  obtain ⟨cs, rfl, h2⟩ := h
  exact hc cs h2
theorem va2 {α β : Type} {T : Ty α} {U : Ty β} {P : Program} {f : FuncId} {w : World} {v u : Value} {x : α} {y : β} {R : Ending → World → Prop} {vs : List Value} (h : VA T w v x) (h' : VA U w u y) (hc : ∀ cs ds, T.R w cs x → U.R w ds y → Calls P f (Value.agg cs.toArray :: Value.agg ds.toArray :: vs).toArray w R) : Calls P f (v :: u :: vs).toArray w R := by
  obtain ⟨cs, rfl, h2⟩ := h
  obtain ⟨ds, rfl, h3⟩ := h'
  exact hc cs ds h2 h3
theorem hop_va {w : World} {v : Value} {x : Hop} (h : VA hopT w v x) : v = .agg #[I x.ia, I x.ing, I x.eg, I x.exp, I x.mac] := by
  obtain ⟨cs, rfl, h2⟩ := h
  rw [hop_form h2]
theorem hop_mkv (w : World) (x : Hop) : VA hopT w (.agg #[I x.ia, I x.ing, I x.eg, I x.exp, I x.mac]) x := ⟨_, rfl, rfl⟩
theorem asn_va {w : World} {v : Value} {x : ASd} (h : VA asnT w v x) : v = .agg #[I x.isd, .bool x.core, I x.key] := by
  obtain ⟨cs, rfl, h2⟩ := h
  rw [asn_form h2]
theorem link_va {w : World} {v : Value} {x : Lnk} (h : VA linkT w v x) : v = .agg #[I x.a, I x.ai, I x.b, I x.bi, I x.kind] := by
  obtain ⟨cs, rfl, h2⟩ := h
  rw [link_form h2]
theorem step_va {w : World} {v : Value} {x : Stp} (h : VA stepT w v x) : v = .agg #[I x.ia, I x.ing, I x.eg] := by
  obtain ⟨cs, rfl, h2⟩ := h
  rw [step_form h2]
theorem part_va {w : World} {v : Value} {x : Part} (h : VA partT w v x) : ∃ v3, v = .agg #[I x.kind, I x.ts, I x.beta, v3] ∧ SlR hopT w v3 x.hops := by
  obtain ⟨cs, rfl, h2⟩ := h
  obtain ⟨A3, c3, rfl, ⟨h3, _⟩⟩ := part_form h2
  exact ⟨_, rfl, h3⟩
theorem part_mkv {w : World} {v3 : Value} {x : Part} (h3 : SlR hopT w v3 x.hops) : VA partT w (.agg #[I x.kind, I x.ts, I x.beta, v3]) x := by
  obtain ⟨A3, c3, rfl, _⟩ := h3.form
  exact ⟨_, rfl, part_mk h3⟩
theorem path_va {w : World} {v : Value} {x : Path} (h : VA pathT w v x) : ∃ v0, v = .agg #[v0] ∧ SlR partT w v0 x := by
  obtain ⟨cs, rfl, h2⟩ := h
  obtain ⟨A0, c0, rfl, ⟨h0, _⟩⟩ := path_form h2
  exact ⟨_, rfl, h0⟩
theorem path_mkv {w : World} {v0 : Value} {x : Path} (h0 : SlR partT w v0 x) : VA pathT w (.agg #[v0]) x := by
  obtain ⟨A0, c0, rfl, _⟩ := h0.form
  exact ⟨_, rfl, path_mk h0⟩
theorem seg_va {w : World} {v : Value} {x : Seg} (h : VA segT w v x) : ∃ v2, v = .agg #[I x.ts, I x.beta, v2] ∧ SlR hopT w v2 x.hops := by
  obtain ⟨cs, rfl, h2⟩ := h
  obtain ⟨A2, c2, rfl, ⟨h2, _⟩⟩ := seg_form h2
  exact ⟨_, rfl, h2⟩
theorem seg_mkv {w : World} {v2 : Value} {x : Seg} (h2 : SlR hopT w v2 x.hops) : VA segT w (.agg #[I x.ts, I x.beta, v2]) x := by
  obtain ⟨A2, c2, rfl, _⟩ := h2.form
  exact ⟨_, rfl, seg_mk h2⟩
theorem topo_va {w : World} {v : Value} {x : Topo} (h : VA topoT w v x) : ∃ v0 v1, v = .agg #[v0, v1] ∧ SlR asnT w v0 x.ases ∧ SlR linkT w v1 x.links := by
  obtain ⟨cs, rfl, h2⟩ := h
  obtain ⟨A0, c0, A1, c1, rfl, ⟨h0, _⟩, ⟨h1, _⟩⟩ := topo_form h2
  exact ⟨_, _, rfl, h0, h1⟩
theorem topo_mkv {w : World} {v0 v1 : Value} {x : Topo} (h0 : SlR asnT w v0 x.ases) (h1 : SlR linkT w v1 x.links) : VA topoT w (.agg #[v0, v1]) x := by
  obtain ⟨A0, c0, rfl, _⟩ := h0.form
  obtain ⟨A1, c1, rfl, _⟩ := h1.form
  exact ⟨_, rfl, topo_mk h0 h1⟩
theorem pkt_va {w : World} {v : Value} {x : Pkt} (h : VA pktT w v x) : ∃ v3 v9, v = .agg #[I x.kind, I x.src, I x.dst, v3, I x.pidx, I x.hidx, I x.beta, I x.rid, I x.seq, v9] ∧ SlR partT w v3 x.path ∧ SlR byteT w v9 x.pay := by
  obtain ⟨cs, rfl, h2⟩ := h
  obtain ⟨A3, c3, A9, c9, rfl, ⟨h3, _⟩, ⟨h9, _⟩⟩ := pkt_form h2
  exact ⟨_, _, rfl, h3, h9⟩
theorem pkt_mkv {w : World} {v3 v9 : Value} {x : Pkt} (h3 : SlR partT w v3 x.path) (h9 : SlR byteT w v9 x.pay) : VA pktT w (.agg #[I x.kind, I x.src, I x.dst, v3, I x.pidx, I x.hidx, I x.beta, I x.rid, I x.seq, v9]) x := by
  obtain ⟨A3, c3, rfl, _⟩ := h3.form
  obtain ⟨A9, c9, rfl, _⟩ := h9.form
  exact ⟨_, rfl, pkt_mk h3 h9⟩
end Go.Proofs.YtdaecknfahgddaaGreat
namespace Go.Proofs.YtdaecknfahgddaaGreat
open Go.RowKit
set_option linter.unusedVariables false
/-- A store into one cell of one element of an owned slice, whatever its elements lead to. -/
theorem SlO.put2 {α : Type} {T : Ty α} {e base : Nat} {w : World} {g n c : Nat} {l : List α} {fp : List Nat} (h : SlO T e base w (.slice (some ⟨g, 0, none⟩) n c) l fp) (hn : n = l.length) {i j : Nat} {a : α} (hi : l[i]? = some a) (hj : j < T.size) {u : Value} {a' : α}
    (hc : ∀ w cs f, T.O base w cs a f → T.O base w (cs.set j u) a' f) : SlO T e base (w.setCell ⟨g, i * T.size + j, none⟩ u) (.slice (some ⟨g, 0, none⟩) n c) (l.set i a') fp := by
  subst hn
  obtain ⟨css, fps, h1, h2, h3, h4, h5, h6⟩ := h
  have hlt : i < l.length := (List.getElem?_eq_some_iff.1 hi).1
  have hall : ∀ (i : Nat) cs, css[i]? = some cs → cs.length = T.size := fun i cs hi => by
    have hl : i < css.length := (List.getElem?_eq_some_iff.1 hi).1
    exact T.len _ _ _ (T.read _ _ _ _ _ (h4 i cs _ _ hi (List.getElem?_eq_getElem (by omega)) (List.getElem?_eq_getElem (by omega))))
  have hk : css[i]? = some (css[i]'(by omega)) := List.getElem?_eq_getElem (by omega)
  have hg : g ∉ fps.flatten := by
    rw [h5] at h6
    simp only [Value.ownBlock, Option.toList_some, List.singleton_append, List.nodup_cons] at h6
    exact h6.1
  have hmv : ∀ k cs x f, fps[k]? = some f → T.O base w cs x f → T.O base (w.setCell ⟨g, i * T.size + j, none⟩ u) cs x f := fun k cs x f hf hO =>
    T.okeep _ _ _ _ _ _ hO fun y hy => far_set (fun e => hg (e ▸ List.mem_flatten.2 ⟨f, List.mem_of_getElem? hf, hy⟩))
  refine ⟨css.set i ((css[i]'(by omega)).set j u), fps, by simp [h1], by simp [h2], ?_, ?_, h5, h6⟩
  · rw [List.length_set, ← flatten_set hall i _ hk j hj u]
    exact own_set h3 _ _
  · intro k cs x f hk' hx hf
    by_cases hki : k = i
    · subst hki
      rw [List.getElem?_set_self (by omega)] at hk' hx
      injection hk' with hk'
      injection hx with hx
      subst hk' hx
      exact hc _ _ _ (hmv k _ _ _ hf (h4 k _ _ _ hk hi hf))
    · rw [List.getElem?_set_ne (by omega)] at hk' hx
      exact hmv k _ _ _ hf (h4 k _ _ _ hk' hx hf)
theorem flat_apart {fps : List (List Nat)} (h : fps.flatten.Nodup) : ∀ (i j : Nat) f g, i < j → fps[i]? = some f → fps[j]? = some g → ∀ x ∈ f, x ∉ g := by
  induction fps with
  | nil => intro i j f g _ hi; simp at hi
  | cons a t ih =>
    rw [List.flatten_cons, List.nodup_append] at h
    obtain ⟨h1, h2, h3⟩ := h
    intro i j f g hij hi hj x hx hg
    cases j with
    | zero => omega
    | succ j =>
      simp at hj
      cases i with
      | zero =>
        simp at hi
        subst hi
        exact h3 x hx x (List.mem_flatten.2 ⟨g, List.mem_of_getElem? hj, hg⟩) rfl
      | succ i =>
        simp at hi
        exact ih h2 i j f g (by omega) hi hj x hx hg
/-- An element of an owned slice: its cells, its own blocks, and how the slice stands when these alone have been written. -/
theorem SlO.focus {α : Type} {T : Ty α} {e base : Nat} {w : World} {g n c : Nat} {l : List α} {fp : List Nat} (h : SlO T e base w (.slice (some ⟨g, 0, none⟩) n c) l fp) {i : Nat} {a : α} (hi : l[i]? = some a) :
  ∃ cs f, T.O base w cs a f ∧ (∀ x ∈ f, x ∈ fp) ∧ (∀ j u, cs[j]? = some u → w.cell? ⟨g, i * T.size + j, none⟩ = some u) ∧
   ∀ w' a', T.O base w' cs a' f → Kept f w w' → SlO T e base w' (.slice (some ⟨g, 0, none⟩) n c) (l.set i a') fp := by
 obtain ⟨css, fps, h1, h2, h3, h4, h5, h6⟩ := h
 have hlt : i < l.length := (List.getElem?_eq_some_iff.1 hi).1
 have hall : ∀ (i : Nat) cs, css[i]? = some cs → cs.length = T.size := fun i cs hi => by
  have hl : i < css.length := (List.getElem?_eq_some_iff.1 hi).1
  exact T.len _ _ _ (T.read _ _ _ _ _ (h4 i cs _ _ hi (List.getElem?_eq_getElem (by omega)) (List.getElem?_eq_getElem (by omega))))
 have hk : css[i]? = some (css[i]'(by omega)) := List.getElem?_eq_getElem (by omega)
 have hf : fps[i]? = some (fps[i]'(by omega)) := List.getElem?_eq_getElem (by omega)
 have hnd := h6
 rw [h5] at hnd
 simp only [Value.ownBlock, Option.toList_some, List.singleton_append, List.nodup_cons] at hnd
 have hin : ∀ (k : Nat) f, fps[k]? = some f → ∀ x ∈ f, x ∈ fps.flatten := fun k f hk x hx => List.mem_flatten.2 ⟨f, List.mem_of_getElem? hk, hx⟩
 have hdis : ∀ (k : Nat) f, fps[k]? = some f → k ≠ i → ∀ x ∈ f, x ∉ (fps[i]'(by omega)) := by
  intro k f hkf hne x hx hxi
  rcases Nat.lt_or_ge k i with hlt' | hge
  ·exact flat_apart hnd.2 k i _ _ hlt' hkf hf x hx hxi
  ·exact flat_apart hnd.2 i k _ _ (by omega) hf hkf x hxi hx
 refine ⟨_, _, h4 i _ _ _ hk hi hf, fun x hx => by rw [h5]; exact List.mem_append.2 (.inr (hin i _ hf x hx)), fun j u hu => ?_, fun w' a' hO hK => ?_⟩
 ·have hj : j < T.size := by rw [← hall i _ hk]; exact (List.getElem?_eq_some_iff.1 hu).1
  have hfl := flatten_at hall i _ hk j hj
  have hc := h3.cells (g := g) rfl (i * T.size + j) u (by rw [hfl]; exact hu)
  simpa [Addr.add_lit] using hc
 ·refine ⟨css, fps, by simp [h1], by simp [h2], ?_, ?_, h5, h6⟩
  ·rw [List.length_set]
   refine ⟨h3.1, ?_⟩
   rcases h3.2 with hn | ⟨g', cap, cur, hv, hb, hgg, rest⟩
   ·exact .inl hn
   ·cases hv
    refine .inr ⟨g, c, cur, rfl, hb, ?_, rest⟩
    rw [hK.block g (Array.getElem?_eq_some_iff.1 hgg).1 (fun hx => hnd.1 (hin i _ hf g hx))]
    exact hgg
  ·intro k cs x f hk' hx hkf
   by_cases hki : k = i
   ·subst hki
    rw [List.getElem?_set_self (by omega)] at hx
    rw [hk] at hk'
    rw [hf] at hkf
    injection hk' with hk'
    injection hx with hx
    injection hkf with hkf
    subst hk' hx hkf
    exact hO
   ·rw [List.getElem?_set_ne (by omega)] at hx
    have hO' := h4 k cs x f hk' hx hkf
    exact T.okeep _ _ _ _ _ _ hO' fun y hy => hK.block y (T.lt _ _ _ _ _ hO' y hy).2 (hdis k f hkf hki y hy)
section
variable {P : Program} {n : Nat} {ops : Array Oper} {Q : Exit → Act → World → Prop} {L : Frm} {w w0 : World} {m : Md} {r : IT} {d : Nat} {ty : TypeId} {pos : String} {af : Array Edge} {b : Nat} {os : List Ow}
theorem Sep.addr {α : Type} {T : Ty α} {e : TypeId} {v : Value} {l : List α} (S : Sep b w (slO T e v l :: os)) (hp : 0 < l.length) : ∃ g c, v = .slice (some ⟨g, 0, none⟩) l.length c := by
  obtain ⟨fp, h⟩ := S.head
  obtain ⟨g, c, h1, _⟩ := SlO.addr h hp
  exact ⟨g, c, h1⟩
/-- The address of an element of a slice whose address is known. -/
theorem t_idxx {t e : TypeId} {size bytes : Nat} (et : ElemT P t e size bytes) {g k nn c a : Nat} {i : Int} {xo io : Operand} (hx : ev L xo = some (.slice (some ⟨g, 0, none⟩) nn c)) (hi : ev L io = some (I i)) (hik : i = ((k : Nat) : Int)) (hlt : k < nn) (ha : k * size = a)
    (kk : WT P n ops Q r ((d, .pointer (some ⟨g, a, none⟩)) :: L) w) (hn : Nat.blt d n = true) : WT P n ops Q (.st m ⟨some d, .indexAddr t xo io, ty, pos, af, none⟩ r) L w := by
  obtain ⟨inf, z, hinf, _, hsz, _, _⟩ := et.info
  subst ha
  refine t_read (fun a ha _ _ _ w' _ => ?_) kk hn
  subst hik
  have hc : (0 : Int) ≤ (k : Int) ∧ (k : Int) < (nn : Int) := by omega
  simp [execOp, ha.ev hx, ha.ev hi, Instr.indexAt, asIntOf, run_underlying et.und, hc, sizeOf, typeInfo, hinf, hsz, Addr.add_lit, hlt]
/-- A store into a cell of an element. -/
theorem t_stS {α : Type} {T : Ty α} {t e : TypeId} {g nn c i j ad : Nat} {l : List α} {x x' : α} {u : Value} {po xo : Operand} (S : Sep b w (slO T e (.slice (some ⟨g, 0, none⟩) nn c) l :: os)) (hnn : nn = l.length) (hs : sizeB P t = some 1) (hp : ev L po = some (.pointer (some ⟨g, ad, none⟩))) (hxo : ev L xo = some u) (hx : l[i]? = some x) (had : i * T.size + j = ad) (hj : j < T.size) (hu : u.oneCell' = true) (huc : u.cells = #[u])
    (hT : ∀ w cs f, T.O b w cs x f → T.O b w (cs.set j u) x' f)
    (k : ∀ w', Below b w w' → Sep b w' (slO T e (.slice (some ⟨g, 0, none⟩) nn c) (l.set i x') :: os) → WT P n ops Q r L w') : WT P n ops Q (.st .fin ⟨none, .store t po xo, ty, pos, af, none⟩ r) L w := by
  subst had
  obtain ⟨fp, hO⟩ := S.head
  have hO' : SlO T e b w (.slice (some ⟨g, 0, none⟩) nn c) l fp := hO
  have hil : i < l.length := (List.getElem?_eq_some_iff.1 hx).1
  obtain ⟨g', c', hv, hgf, hbg, hgw, _, hfr⟩ := SlO.addr hO' (by omega)
  cases hv
  obtain ⟨cs, f, hc1, hc2, hc3, hc4⟩ := SlO.focus hO' hx
  have hcell : ∃ c0, w.cell? ⟨g, i * T.size + j, none⟩ = some c0 := by
    have hlen := T.len _ _ _ (T.read _ _ _ _ _ hc1)
    exact ⟨_, hc3 j _ (List.getElem?_eq_getElem (by omega))⟩
  obtain ⟨c0, hcell⟩ := hcell
  have hrun : (store ⟨g, i * T.size + j, none⟩ u).run P w = .ok () (w.setCell ⟨g, i * T.size + j, none⟩ u) := by
    have h2 := hfr (i * T.size + j)
    cases u <;> simp [Value.oneCell'] at hu <;> simp [store, Sem.run, hcell, h2]
  refine t_store (w' := w.setCell ⟨g, i * T.size + j, none⟩ u) (fun a ha _ _ _ => ?_) (k _ ((Below.refl _ _).setCell hbg u) (S.turn (fp' := fun _ _ => True) fun f' hf' => ?_))
  · simp [execOp, ha.ev hp, ha.ev hxo, Instr.storeAt, Instr.sureAddr, storeVar, huc, run_sizeOf hs, storeCells, Addr.add, hrun]
  · have hf'' : SlO T e b w (.slice (some ⟨g, 0, none⟩) l.length c) l f' := hf'
    obtain ⟨_, _, hv2, hgf2, _⟩ := SlO.addr hf'' (by omega)
    cases hv2
    exact ⟨f', SlO.put2 hf'' rfl hx hj hT, fun y hy => .inl hy, (Kept.refl _ _).setCell hgf2 u⟩
/-- A load of a cell of an element. -/
theorem t_ldS {α : Type} {T : Ty α} {t e : TypeId} {g nn c i j ad : Nat} {l : List α} {x : α} {u : Value} {po : Operand} (S : Sep b w (slO T e (.slice (some ⟨g, 0, none⟩) nn c) l :: os)) (ha : aggB P t = some false) (hp : ev L po = some (.pointer (some ⟨g, ad, none⟩))) (hx : l[i]? = some x) (had : i * T.size + j = ad)
    (hT : ∀ w cs, T.R w cs x → cs[j]? = some u) (k : WT P n ops Q r ((d, u) :: L) w) (hn : Nat.blt d n = true) : WT P n ops Q (.st m ⟨some d, .load t po, ty, pos, af, none⟩ r) L w := by
  subst had
  obtain ⟨fp, hO⟩ := S.head
  obtain ⟨cs, f, hc1, hc2, hc3, hc4⟩ := SlO.focus (T := T) hO hx
  exact t_ld1 ha (w0 := w) (hc3 j u (hT _ _ (T.read _ _ _ _ _ hc1))) (Below.refl _ _) hp k hn
end
theorem set_at {α : Type} {l : List α} {i : Nat} {x y : α} (h : l[i]? = some x) : (l.set i y)[i]? = some y := by
  rw [List.getElem?_set_self (List.getElem?_eq_some_iff.1 h).1]
theorem t_lenx {P : Program} {n : Nat} {ops : Array Oper} {Q : Exit → Act → World → Prop} {L : Frm} {w : World} {m : Md} {r : IT} {d : Nat} {ty : TypeId} {pos : String} {af : Array Edge} {x : Operand} {t e : TypeId} {ar : Array TypeId} {size bytes nn c : Nat} {A : Option Addr} (et : ElemT P t e size bytes) (hx : ev L x = some (.slice A nn c)) (har : ar = #[t]) (k : WT P n ops Q r ((d, I (nn : Int)) :: L) w) (hn : Nat.blt d n = true) :
    WT P n ops Q (.st m ⟨some d, .call ⟨.builtin .len, #[x], ar⟩, ty, pos, af, none⟩ r) L w := by
  subst har
  exact t_read (fun a ha _ _ _ w' _ => by simp [execOp, resolve, invoke, builtin, ha.ev hx, Builtin.len_, run_underlying et.und, goInt]) k hn
/-- A number's last byte. -/
def bt (k : Int) : UInt8 := UInt8.ofNat (IntKind.u8.wrap k).toNat
theorem wrap_u8 (k : Int) : IntKind.u8.wrap k = k % 256 := by
  simp [IntKind.wrap, IntKind.signed, IntKind.bits]
theorem bt_toNat (k : Int) : ((bt k).toNat : Int) = IntKind.u8.wrap k := by
  have h := wrap_u8 k
  have h1 : 0 ≤ k % 256 := Int.emod_nonneg _ (by omega)
  have h2 : k % 256 < 256 := Int.emod_lt_of_pos _ (by omega)
  unfold bt
  rw [h, UInt8.toNat_ofNat']
  omega
theorem so_byte {b : Nat} {x : UInt8} {k : Int} : ∀ (w : World) cs f, byteT.O b w cs x f → byteT.O b w (cs.set 0 (.int .u8 (IntKind.u8.wrap k))) (bt k) f := fun w cs f h => ⟨by rw [show cs = [.int .u8 (x.toNat : Int)] from h.1, ← bt_toNat]; rfl, h.2⟩
theorem so_hop_4 {b : Nat} {x : Hop} {k : Int} : ∀ (w : World) cs f, hopT.O b w cs x f → hopT.O b w (cs.set 4 (I k)) { x with mac := k } f := fun w cs f h => ⟨by rw [hop_form (w := w) h.1]; rfl, h.2⟩
theorem part_set {b : Nat} {x y : Part} {w : World} {cs : List Value} {f : List Nat} {j : Nat} {u : Value} (hj : j < 3) (h : partT.O b w cs x f) (hy : [I x.kind, I x.ts, I x.beta].set j u = [I y.kind, I y.ts, I y.beta]) (hh : y.hops = x.hops) : partT.O b w (cs.set j u) y f := by
  obtain ⟨xs, ys, p, q, e, g0, r0, t0, nd⟩ := h
  have hx : xs = [I x.kind, I x.ts, I x.beta] := g0.1
  refine ⟨xs.set j u, ys, p, q, ?_, ⟨by rw [hx, hy]; rfl, g0.2⟩, by rw [hh]; exact r0, t0, nd⟩
  rw [e, List.set_append_left _ _ (by rw [hx]; simpa using hj)]
theorem so_part_0 {b : Nat} {x : Part} {k : Int} : ∀ (w : World) cs f, partT.O b w cs x f → partT.O b w (cs.set 0 (I k)) { x with kind := k } f := fun w cs f h => part_set (by omega) h rfl rfl
theorem so_part_2 {b : Nat} {x : Part} {k : Int} : ∀ (w : World) cs f, partT.O b w cs x f → partT.O b w (cs.set 2 (I k)) { x with beta := k } f := fun w cs f h => part_set (by omega) h rfl rfl
end Go.Proofs.YtdaecknfahgddaaGreat
namespace Go.Proofs.YtdaecknfahgddaaGreat
open Go.RowKit
set_option linter.unusedVariables false
theorem Sep.conv {b : Nat} {w : World} {o1 o2 : Ow} {os : List Ow} (h : Sep b w (o1 :: os)) (hk : ∀ f, o1.P b w f → o2.P b w f) : Sep b w (o2 :: os) := by
  obtain ⟨h1, fp, f, g, rfl, h2, h3, h6⟩ := h
  exact ⟨h1, f ++ g, f, g, rfl, hk f h2, h3, h6⟩
theorem Sep.rm1 {b : Nat} {w : World} {o1 o2 : Ow} {os : List Ow} (h : Sep b w (o1 :: o2 :: os)) : Sep b w (o1 :: os) := h.f1.tail
/-- The slice v reads as_ l, but for what element i leads to: its cells are cs. -/
def HoleP {α : Type} (T : Ty α) (e : TypeId) (v : Value) (l : List α) (i : Nat) (cs : List Value) (base : Nat) (w : World) (fp : List Nat) : Prop :=
  ∃ (css : List (List Value)) (fps : List (List Nat)), css.length = l.length ∧ fps.length = l.length ∧ css[i]? = some cs ∧ fps[i]? = some [] ∧ cs.length = T.size ∧ w.ownsRow base e T.size v l.length css.flatten ∧
    (∀ (k : Nat) cs' a f, k ≠ i → css[k]? = some cs' → l[k]? = some a → fps[k]? = some f → T.O base w cs' a f) ∧ fp = v.ownBlock.toList ++ fps.flatten ∧ fp.Nodup
theorem own_keep {w w' : World} {base : Nat} {e : TypeId} {size : Nat} {v : Value} {n : Nat} {xs : List Value} (h : w.ownsRow base e size v n xs) (hk : ∀ x ∈ v.ownBlock.toList, w'.heap[x]? = w.heap[x]?) : w'.ownsRow base e size v n xs := by
  refine ⟨h.1, ?_⟩
  rcases h.2 with hn | ⟨g, cap, cur, rfl, hb, hgg, rest⟩
  · exact .inl hn
  · exact .inr ⟨g, cap, cur, rfl, hb, by rw [hk g (by simp [Value.ownBlock])]; exact hgg, rest⟩
theorem own_mono {w : World} {base base' : Nat} {e : TypeId} {size : Nat} {v : Value} {n : Nat} {xs : List Value} (hb : base' ≤ base) (h : w.ownsRow base e size v n xs) : w.ownsRow base' e size v n xs := by
  refine ⟨h.1, ?_⟩
  rcases h.2 with hn | ⟨g, cap, cur, rfl, hg, hgg, rest⟩
  · exact .inl hn
  · exact .inr ⟨g, cap, cur, rfl, by omega, hgg, rest⟩
def holeO {α : Type} (T : Ty α) (e : TypeId) (v : Value) (l : List α) (i : Nat) (cs : List Value) : Ow where
  P := HoleP T e v l i cs
  lt := by
    rintro b w fp ⟨css, fps, h1, h2, h3, h4, h5, h6, h7, rfl, h9⟩ x hx
    rcases List.mem_append.1 hx with hx | hx
    · exact h6.lt x (by simpa using hx)
    · obtain ⟨f, hf, hxf⟩ := List.mem_flatten.1 hx
      obtain ⟨k, hk, rfl⟩ := List.getElem_of_mem hf
      by_cases hki : k = i
      · subst hki
        rw [List.getElem?_eq_getElem hk] at h4
        rw [Option.some.inj h4] at hxf
        cases hxf
      · exact T.lt _ _ _ _ _ (h7 k _ _ _ hki (List.getElem?_eq_getElem (by omega)) (List.getElem?_eq_getElem (by omega)) (List.getElem?_eq_getElem hk)) x hxf
  keep := by
    rintro b w w' fp ⟨css, fps, h1, h2, h3, h4, h5, h6, h7, rfl, h9⟩ hk
    exact ⟨css, fps, h1, h2, h3, h4, h5, own_keep h6 fun x hx => hk x (List.mem_append.2 (.inl hx)), fun k cs' a f hki hc ha hf => T.okeep _ _ _ _ _ _ (h7 k cs' a f hki hc ha hf) fun x hx => hk x (List.mem_append.2 (.inr (List.mem_flatten.2 ⟨f, List.mem_of_getElem? hf, hx⟩))), rfl, h9⟩
  mono := by
    rintro b b' w fp hb ⟨css, fps, h1, h2, h3, h4, h5, h6, h7, h8, h9⟩
    exact ⟨css, fps, h1, h2, h3, h4, h5, own_mono hb h6, fun k cs' a f hki hc ha hf => T.mono _ _ _ _ _ _ hb (h7 k cs' a f hki hc ha hf), h8, h9⟩
theorem nodup_cut {fps : List (List Nat)} (h : fps.flatten.Nodup) (i : Nat) : (fps.set i []).flatten.Nodup := by
  induction fps generalizing i with
  | nil => simp
  | cons a t ih =>
    rw [List.flatten_cons, List.nodup_append] at h
    cases i with
    | zero => simpa using h.2.1
    | succ i =>
      rw [List.set_cons_succ, List.flatten_cons, List.nodup_append]
      refine ⟨h.1, ih h.2.1 i, fun x hx y hy => h.2.2 x hx y ?_⟩
      obtain ⟨f, hf, hyf⟩ := List.mem_flatten.1 hy
      rcases List.mem_or_eq_of_mem_set hf with hf | hf
      · exact List.mem_flatten.2 ⟨f, hf, hyf⟩
      · rw [hf] at hyf; cases hyf
theorem cut_sub {fps : List (List Nat)} {i : Nat} {x : Nat} (hx : x ∈ (fps.set i []).flatten) : x ∈ fps.flatten := by
  obtain ⟨f, hf, hxf⟩ := List.mem_flatten.1 hx
  rcases List.mem_or_eq_of_mem_set hf with hf | hf
  · exact List.mem_flatten.2 ⟨f, hf, hxf⟩
  · rw [hf] at hxf; cases hxf
theorem cut_apart {fps : List (List Nat)} (h : fps.flatten.Nodup) {i : Nat} {f : List Nat} (hf : fps[i]? = some f) : ∀ x ∈ f, x ∉ (fps.set i []).flatten := by
  intro x hx hm
  obtain ⟨g, hg, hxg⟩ := List.mem_flatten.1 hm
  obtain ⟨k, hk, rfl⟩ := List.getElem_of_mem hg
  have hk' : k < fps.length := by simpa using hk
  by_cases hki : k = i
  · subst hki
    simp at hxg
  · rw [List.getElem_set_ne (Ne.symm hki)] at hxg
    rcases Nat.lt_or_ge k i with hlt | hge
    · exact flat_apart h k i _ _ hlt (List.getElem?_eq_getElem hk') hf x hxg hx
    · exact flat_apart h i k _ _ (by omega) hf (List.getElem?_eq_getElem hk') x hx hxg
theorem flatten_put {fps : List (List Nat)} {i : Nat} (hi : fps[i]? = some []) (f : List Nat) (hn : fps.flatten.Nodup) (hf : f.Nodup) (hd : ∀ x ∈ f, x ∉ fps.flatten) : (fps.set i f).flatten.Nodup ∧ ∀ x, x ∈ (fps.set i f).flatten ↔ x ∈ f ∨ x ∈ fps.flatten := by
  induction fps generalizing i with
  | nil => simp at hi
  | cons a t ih =>
    rw [List.flatten_cons, List.nodup_append] at hn
    cases i with
    | zero =>
      simp at hi
      subst hi
      refine ⟨?_, fun x => by simp⟩
      rw [List.set_cons_zero, List.flatten_cons, List.nodup_append]
      refine ⟨hf, hn.2.1, fun x hx y hy hxy => hd x hx ?_⟩
      subst hxy
      simpa using List.mem_flatten.1 hy
    | succ i =>
      simp at hi
      have hd' : ∀ x ∈ f, x ∉ t.flatten := fun x hx hm => hd x hx (by rw [List.flatten_cons]; exact List.mem_append.2 (.inr hm))
      obtain ⟨h1, h2⟩ := ih hi hn.2.1 hd'
      rw [List.set_cons_succ, List.flatten_cons]
      refine ⟨?_, fun x => ?_⟩
      · rw [List.nodup_append]
        refine ⟨hn.1, h1, fun x hx y hy hxy => ?_⟩
        subst hxy
        rcases (h2 x).1 hy with h | h
        · exact hd x h (by rw [List.flatten_cons]; exact List.mem_append.2 (.inl hx))
        · exact hn.2.2 x hx x h rfl
      · rw [List.mem_append, h2, List.flatten_cons, List.mem_append]
        constructor
        · rintro (h | h | h)
          · exact .inr (.inl h)
          · exact .inl h
          · exact .inr (.inr h)
        · rintro (h | h | h)
          · exact .inr (.inl h)
          · exact .inl h
          · exact .inr (.inr h)
/-- An element taken out. -/
theorem Sep.split {α : Type} {T : Ty α} {e b : Nat} {w : World} {v : Value} {l : List α} {os : List Ow} (S : Sep b w (slO T e v l :: os)) {i : Nat} {a : α} (hi : l[i]? = some a) :
    ∃ cs, Sep b w (tyO T cs a :: holeO T e v l i cs :: os) ∧ ∀ g n c, v = .slice (some ⟨g, 0, none⟩) n c → ∀ j u, cs[j]? = some u → w.cell? ⟨g, i * T.size + j, none⟩ = some u := by
  obtain ⟨hb, fp, f, g, rfl, ⟨css, fps, h1, h2, h3, h4, h5, h6⟩, hg, hfg⟩ := S
  have hlt : i < l.length := (List.getElem?_eq_some_iff.1 hi).1
  have hk : css[i]? = some (css[i]'(by omega)) := List.getElem?_eq_getElem (by omega)
  have hf : fps[i]? = some (fps[i]'(by omega)) := List.getElem?_eq_getElem (by omega)
  have hO := h4 i _ _ _ hk hi hf
  have hall : ∀ (i : Nat) cs, css[i]? = some cs → cs.length = T.size := fun i cs hi => by
    have hl : i < css.length := (List.getElem?_eq_some_iff.1 hi).1
    exact T.len _ _ _ (T.read _ _ _ _ _ (h4 i cs _ _ hi (List.getElem?_eq_getElem (by omega)) (List.getElem?_eq_getElem (by omega))))
  subst h5
  rw [List.nodup_append] at h6
  refine ⟨css[i]'(by omega), ⟨hb, (fps[i]'(by omega)) ++ ((v.ownBlock.toList ++ (fps.set i []).flatten) ++ g), _, _, rfl, hO, ⟨_, g, rfl, ⟨css, fps.set i [], h1, by simp [h2], hk, by rw [List.getElem?_set_self (by omega)], hall i _ hk, h3, ?_, rfl, ?_⟩, hg, ?_⟩, ?_⟩, ?_⟩
  · intro k cs' a' f' hki hc ha hf'
    rw [List.getElem?_set_ne (Ne.symm hki)] at hf'
    exact h4 k cs' a' f' hc ha hf'
  · rw [List.nodup_append]
    exact ⟨h6.1, nodup_cut h6.2.1 i, fun x hx y hy => h6.2.2 x hx y (cut_sub hy)⟩
  · intro x hx hy
    refine hfg x ?_ hy
    rcases List.mem_append.1 hx with hx | hx
    · exact List.mem_append.2 (.inl hx)
    · exact List.mem_append.2 (.inr (cut_sub hx))
  · intro x hx hm
    have hxf : x ∈ fps.flatten := List.mem_flatten.2 ⟨_, List.mem_of_getElem? hf, hx⟩
    rcases List.mem_append.1 hm with hm | hm
    · rcases List.mem_append.1 hm with hm | hm
      · exact h6.2.2 x hm x hxf rfl
      · exact cut_apart h6.2.1 hf x hx hm
    · exact hfg x (List.mem_append.2 (.inr hxf)) hm
  · intro g' n c hv j u hu
    subst hv
    have hj : j < T.size := by rw [← hall i _ hk]; exact (List.getElem?_eq_some_iff.1 hu).1
    have hfl := flatten_at hall i _ hk j hj
    have hc := h3.cells (g := g') rfl (i * T.size + j) u (by rw [hfl]; exact hu)
    simpa [Addr.add_lit] using hc
/-- The element put back, with whatever it leads to now. -/
theorem Sep.join {α : Type} {T : Ty α} {e b : Nat} {w : World} {v : Value} {l : List α} {os : List Ow} {i : Nat} {cs : List Value} {a : α} (S : Sep b w (tyO T cs a :: holeO T e v l i cs :: os)) : Sep b w (slO T e v (l.set i a) :: os) := by
  obtain ⟨hb, fp, f, _, rfl, hO, ⟨f', g, rfl, ⟨css, fps, h1, h2, h3, h4, h5, h6, h7, rfl, h9⟩, hg, hd2⟩, hd1⟩ := S
  have hO' : T.O b w cs a f := hO
  have hil : i < l.length := by rw [← h1]; exact (List.getElem?_eq_some_iff.1 h3).1
  rw [List.nodup_append] at h9
  obtain ⟨hp1, hp2⟩ := flatten_put h4 f h9.2.1 (T.nodup _ _ _ _ _ hO') (fun x hx hm => hd1 x hx (List.mem_append.2 (.inl (List.mem_append.2 (.inr hm)))))
  refine ⟨hb, (v.ownBlock.toList ++ (fps.set i f).flatten) ++ g, _, g, rfl, ⟨css, fps.set i f, by simp [h1], by simp [h2], by rw [List.length_set]; exact h6, ?_, rfl, ?_⟩, hg, ?_⟩
  · intro k cs' a' f' hc ha hf'
    by_cases hki : k = i
    · subst hki
      rw [List.getElem?_set_self (by omega)] at ha hf'
      rw [h3] at hc
      cases hc
      cases ha
      cases hf'
      exact hO'
    · rw [List.getElem?_set_ne (Ne.symm hki)] at ha hf'
      exact h7 k cs' a' f' hki hc ha hf'
  · rw [List.nodup_append]
    refine ⟨h9.1, hp1, fun x hx y hy hxy => ?_⟩
    subst hxy
    rcases (hp2 x).1 hy with h | h
    · exact hd1 x h (List.mem_append.2 (.inl (List.mem_append.2 (.inl hx))))
    · exact h9.2.2 x hx x h rfl
  · intro x hx hy
    rcases List.mem_append.1 hx with hx | hx
    · exact hd2 x (List.mem_append.2 (.inl hx)) hy
    · rcases (hp2 x).1 hx with h | h
      · exact hd1 x h (List.mem_append.2 (.inr hy))
      · exact hd2 x (List.mem_append.2 (.inr h)) hy
theorem Sep.two {b : Nat} {w : World} {o o1 o2 : Ow} {os : List Ow} (S : Sep b w (o :: os)) (h : ∀ f, o.P b w f → ∃ f1 f2, f = f1 ++ f2 ∧ f.Nodup ∧ o1.P b w f1 ∧ o2.P b w f2) : Sep b w (o1 :: o2 :: os) := by
  obtain ⟨hb, fp, f, g, rfl, hO, hg, hd⟩ := S
  obtain ⟨f1, f2, rfl, hn, h1, h2⟩ := h f hO
  rw [List.nodup_append] at hn
  refine ⟨hb, f1 ++ (f2 ++ g), f1, _, rfl, h1, ⟨f2, g, rfl, h2, hg, fun x hx => hd x (List.mem_append.2 (.inr hx))⟩, fun x hx hm => ?_⟩
  rcases List.mem_append.1 hm with hm | hm
  · exact hn.2.2 x hx x hm rfl
  · exact hd x (List.mem_append.2 (.inl hx)) hm
section
variable {b : Nat} {w : World} {os : List Ow}
theorem Sep.pktOpen {cs : List Value} {x : Pkt} (S : Sep b w (tyO pktT cs x :: os)) : ∃ u3 u9, cs = [I x.kind, I x.src, I x.dst, u3, I x.pidx, I x.hidx, I x.beta, I x.rid, I x.seq, u9] ∧ Sep b w (slO partT 82 u3 x.path :: slO byteT 5 u9 x.pay :: os) := by
  obtain ⟨fp, h⟩ := S.head
  obtain ⟨A0, c0, A1, c1, f0, f1, rfl, _⟩ := pkt_oform h
  refine ⟨_, _, rfl, S.two fun f hf => ?_⟩
  obtain ⟨A0', c0', A1', c1', f0', f1', e, h0, h1, hfp, hn⟩ := pkt_oform hf
  simp only [List.cons.injEq, and_true, true_and] at e
  exact ⟨f0', f1', hfp, hn, by rw [e.1]; exact h0, by rw [e.2]; exact h1⟩
theorem Sep.partOpen {cs : List Value} {x : Part} (S : Sep b w (tyO partT cs x :: os)) : ∃ u, cs = [I x.kind, I x.ts, I x.beta, u] ∧ Sep b w (slO hopT 86 u x.hops :: os) := by
  obtain ⟨fp, h⟩ := S.head
  obtain ⟨A, c, f, rfl, h3, _⟩ := part_oform h
  refine ⟨_, rfl, S.conv fun f hf => ?_⟩
  obtain ⟨A', c', f', e, h3', rfl, _⟩ := part_oform hf
  injection e with _ e; injection e with _ e; injection e with _ e; injection e with e _
  rw [e]; exact h3'
theorem Sep.partShut {u : Value} {x : Part} (S : Sep b w (slO hopT 86 u x.hops :: os)) : Sep b w (tyO partT [I x.kind, I x.ts, I x.beta, u] x :: os) :=
  S.conv fun f hf => ⟨[_, _, _], _, [], f, rfl, ⟨rfl, rfl⟩, ⟨_, rfl, hf⟩, rfl, SlO.nodup hf⟩
theorem Sep.pathOpen {cs : List Value} {x : Path} (S : Sep b w (tyO pathT cs x :: os)) : ∃ u, cs = [u] ∧ Sep b w (slO partT 82 u x :: os) := by
  obtain ⟨fp, v, rfl, h⟩ := S.head
  refine ⟨v, rfl, S.conv fun f hf => ?_⟩
  obtain ⟨v', e, h'⟩ := hf
  cases e
  exact h'
theorem Sep.pathShut {u : Value} {x : Path} (S : Sep b w (slO partT 82 u x :: os)) : Sep b w (tyO pathT [u] x :: os) :=
  S.conv fun f hf => ⟨u, rfl, hf⟩
end
end Go.Proofs.YtdaecknfahgddaaGreat
namespace Go.Proofs.YtdaecknfahgddaaGreat
open Go.RowKit
set_option linter.unusedVariables false
theorem ret_int {k : IntKind} {a b : Int} (h : a = b) : Ending.returned (.int k a) = .returned (.int k b) := by rw [h]
/-- An int's range. -/
def In64 (n : Int) : Prop := -9223372036854775808 ≤ n ∧ n ≤ 9223372036854775807
def rng_hop (d : Hop) : Prop := In64 d.ia ∧ In64 d.ing ∧ In64 d.eg ∧ In64 d.exp ∧ In64 d.mac
def rng_asn (d : ASd) : Prop := In64 d.isd ∧ In64 d.key
def rng_link (d : Lnk) : Prop := In64 d.a ∧ In64 d.ai ∧ In64 d.b ∧ In64 d.bi ∧ In64 d.kind
def rng_step (d : Stp) : Prop := In64 d.ia ∧ In64 d.ing ∧ In64 d.eg
def rng_part (d : Part) : Prop := In64 d.kind ∧ In64 d.ts ∧ In64 d.beta ∧ (∀ x ∈ d.hops, rng_hop x)
def sz_part (d : Part) : Nat := d.hops.length
def sz_parts (l : List Part) : Nat := l.length + (l.map sz_part).sum
def lenOk_part (d : Part) : Prop := d.hops.length ≤ 9223372036854775807
def rng_path (d : Path) : Prop := ∀ x ∈ d, rng_part x
def sz_path (d : Path) : Nat := sz_parts d
def lenOk_path (d : Path) : Prop := d.length ≤ 9223372036854775807 ∧ ∀ x ∈ d, lenOk_part x
def rng_topo (d : Topo) : Prop := (∀ x ∈ d.ases, rng_asn x) ∧ (∀ x ∈ d.links, rng_link x)
def sz_topo (d : Topo) : Nat := d.ases.length + d.links.length
def rng_pkt (d : Pkt) : Prop := In64 d.kind ∧ In64 d.src ∧ In64 d.dst ∧ rng_path d.path ∧ In64 d.pidx ∧ In64 d.hidx ∧ In64 d.beta ∧ In64 d.rid ∧ In64 d.seq
def sz_pkt (d : Pkt) : Nat := sz_path d.path + d.pay.length
def lenOk_pkt (d : Pkt) : Prop := lenOk_path d.path ∧ d.pay.length ≤ 9223372036854775807
end Go.Proofs.YtdaecknfahgddaaGreat
namespace Go.Proofs.YtdaecknfahgddaaGreat
open Go.RowKit
set_option linter.unusedVariables false
/-- n lies between a and b. -/
def inR (n a b : Int) : Bool := decide (a ≤ n) && decide (n ≤ b)
theorem inR_yes {n a b : Int} (h1 : a ≤ n) (h2 : n ≤ b) : inR n a b = true := by simp [inR, h1, h2]
theorem inR_lo {n a b : Int} (h : n < a) : inR n a b = false := by unfold inR; simp; omega
theorem inR_hi {n a b : Int} (h : b < n) : inR n a b = false := by unfold inR; simp; omega
theorem inR_iff {n a b : Int} : inR n a b = true ↔ a ≤ n ∧ n ≤ b := by simp [inR]
theorem impl_InRange (n a b : Int) (w : World) : Calls Tryz.prog 61 #[I n, I a, I b] w fun e w' => e = .returned (.bool (inR n a b)) ∧ w = w' := by
  by_cases h1 : a ≤ n
  · by_cases h2 : n ≤ b
    · rw [inR_yes h1 h2]
      go_enter Tryz.func61, Tryz.ntmps61
      go_wp2
      go_ret
      exact ⟨rfl, rfl⟩
    · rw [inR_hi (by omega)]
      have h3 : b < n := by omega
      go_enter Tryz.func61, Tryz.ntmps61
      go_wp2
      go_ret
      exact ⟨rfl, rfl⟩
  · rw [inR_lo (by omega)]
    have h3 : n < a := by omega
    go_enter Tryz.func61, Tryz.ntmps61
    go_wp2
    go_ret
    exact ⟨rfl, rfl⟩
theorem spec_l1In (n a b : Int) (w : World) : Calls Tryz.prog 64 #[I n, I a, I b] w fun e w' => e = .returned (.bool (inR n a b)) ∧ w = w' := by
  by_cases h1 : a ≤ n
  · by_cases h2 : n ≤ b
    · rw [inR_yes h1 h2]
      go_enter Tryz.func64, Tryz.ntmps64
      go_wp2
      go_ret
      exact ⟨rfl, rfl⟩
    · rw [inR_hi (by omega)]
      have h3 : b < n := by omega
      go_enter Tryz.func64, Tryz.ntmps64
      go_wp2
      go_ret
      exact ⟨rfl, rfl⟩
  · rw [inR_lo (by omega)]
    have h3 : n < a := by omega
    go_enter Tryz.func64, Tryz.ntmps64
    go_wp2
    go_ret
    exact ⟨rfl, rfl⟩
theorem impl_isResidue (n : Int) (w : World) : Calls Tryz.prog 106 #[I n] w fun e w' => e = .returned (.bool (inR n 0 2147483646)) ∧ w = w' := by
  go_enter Tryz.func106, Tryz.ntmps106
  go_wp2_with (fail)
  refine (impl_InRange _ _ _ _).mono ?_
  rintro e w1 ⟨rfl, rfl⟩
  go_wp2_with (fail)
  go_ret
  exact ⟨rfl, rfl⟩
theorem spec_l3Ok (n : Int) (w : World) : Calls Tryz.prog 108 #[I n] w fun e w' => e = .returned (.bool (inR n 0 2147483646)) ∧ w = w' := by
  go_enter Tryz.func108, Tryz.ntmps108
  go_wp2_with (fail)
  refine (spec_l1In _ _ _ _).mono ?_
  rintro e w1 ⟨rfl, rfl⟩
  go_wp2_with (fail)
  go_ret
  exact ⟨rfl, rfl⟩
/-- The remainder of the digest's prime. -/
def modP (x : Int) : Int := x.tmod 2147483647 % 2147483647
theorem modP_bd (x : Int) : 0 ≤ modP x ∧ modP x < 2147483647 := by unfold modP; omega
def digStep (d x : Int) : Int := (d * 1000003 + modP x + 11) % 2147483647
def digest (l : List Int) : Int := l.foldl digStep 7
theorem digest_bd (l : List Int) : 0 ≤ digest l ∧ digest l < 2147483647 := by
  unfold digest
  generalize hq : (7 : Int) = q
  have h7 : 0 ≤ q ∧ q < 2147483647 := by omega
  clear hq
  induction l generalizing q with
  | nil => exact h7
  | cons a t ih => exact ih _ (by unfold digStep; omega)
theorem digest_snoc (l : List Int) (x : Int) : digest (l ++ [x]) = digStep (digest l) x := by unfold digest; rw [List.foldl_append]; rfl
theorem impl_ModP (x : Int) (w : World) : Calls Tryz.prog 180 #[I x, I 2147483647] w fun e w' => e = .returned (I (modP x)) ∧ w = w' := by
  have h1 : -2147483647 < x.tmod 2147483647 := Int.lt_tmod_of_pos x (by omega)
  have h2 : x.tmod 2147483647 < 2147483647 := Int.tmod_lt_of_pos x (by omega)
  have h3 := hid (inR_yes (n := 2147483647) (a := 1) (b := 1000000000000) (by omega) (by omega))
  obtain ⟨y, Hy⟩ : ∃ y, Hid (y = modP x) := ⟨_, rfl⟩
  rw [← Hy.out]
  go_enter Tryz.func180, Tryz.ntmps180
  go_wp2_with (fail)
  refine (impl_InRange _ _ _ _).mono ?_
  rintro e w1 ⟨rfl, rfl⟩
  rw [h3.out]
  go_wp2_with (fail)
  go_ret
  rw [Hy.out]
  exact ⟨ret_int (by unfold modP; omega), rfl⟩
theorem spec_ModP (x : Int) (w : World) : Calls Tryz.prog 181 #[I x, I 2147483647] w fun e w' => e = .returned (I (modP x)) ∧ w = w' := by
  have h1 : -2147483647 < x.tmod 2147483647 := Int.lt_tmod_of_pos x (by omega)
  have h2 : x.tmod 2147483647 < 2147483647 := Int.tmod_lt_of_pos x (by omega)
  have h3 := hid (inR_yes (n := 2147483647) (a := 1) (b := 1000000000000) (by omega) (by omega))
  obtain ⟨y, Hy⟩ : ∃ y, Hid (y = modP x) := ⟨_, rfl⟩
  rw [← Hy.out]
  go_enter Tryz.func181, Tryz.ntmps181
  go_wp2_with (fail)
  refine (spec_l1In _ _ _ _).mono ?_
  rintro e w1 ⟨rfl, rfl⟩
  rw [h3.out]
  go_wp2_with (fail)
  go_ret
  rw [Hy.out]
  exact ⟨ret_int (by unfold modP; omega), rfl⟩
theorem impl_Digest (l : List Int) (v : Value) (w : World) (h : SlR intT w v l) (hn : l.length ≤ 16777216) : Calls Tryz.prog 178 #[v] w fun e w' => e = .returned (I (digest l)) ∧ w = w' := by
  obtain ⟨A, c, rfl, _⟩ := h.form
  obtain ⟨n, H⟩ : ∃ n, Hid (n = l.length) := ⟨_, rfl⟩
  rw [← H.out] at h hn ⊢
  go_enter Tryz.func178, Tryz.ntmps178
  go_wp2
  go_loop [3, 8] (fun t i => ∃ k : Nat, k ≤ n ∧ i = I k ∧ t = I (digest (l.take k))) (fun _ i => n - (intOf i).toNat)
  case atStart => exact ⟨0, by omega, rfl, rfl⟩
  case round =>
    obtain ⟨k, hk, rfl, rfl⟩ := hrel
    by_cases hlt : k < n
    · obtain ⟨g, o, q, x, e, hg, hxk, c0⟩ := int_at h (by rw [← H.out]; exact hlt)
      rw [← H.out] at e
      cases e
      have hd := digest_bd (l.take k)
      have hm := modP_bd x
      have HS : Hid (digest (l.take (k + 1)) = digStep (digest (l.take k)) x) := by rw [take_succ hxk.out, digest_snoc]; exact rfl
      obtain ⟨d, Hd⟩ : ∃ d, Hid (d = digest (l.take k)) := ⟨_, rfl⟩
      rw [← Hd.out] at hd ⊢
      obtain ⟨y, Hy⟩ : ∃ y, Hid (y = modP x) := ⟨_, rfl⟩
      rw [← Hy.out] at hm
      go_wp2_with (fail)
      refine (impl_ModP _ _).mono ?_
      rintro e w1 ⟨rfl, rfl⟩
      rw [← Hy.out]
      go_wp2_with (fail)
      go_round
      case rel => exact ⟨k + 1, by omega, by go_num, by rw [HS.out]; unfold digStep; rw [← Hd.out, ← Hy.out]⟩
      case measure => simp [intOf]; omega
    · go_wp2
      go_ret
      have : k = n := by omega
      subst this
      rw [H.out, List.take_length]
      exact ⟨rfl, rfl⟩
theorem spec_Digest (l : List Int) (v : Value) (w : World) (h : SlR intT w v l) (hn : l.length ≤ 16777216) : Calls Tryz.prog 179 #[v] w fun e w' => e = .returned (I (digest l)) ∧ w = w' := by
  obtain ⟨A, c, rfl, _⟩ := h.form
  obtain ⟨n, H⟩ : ∃ n, Hid (n = l.length) := ⟨_, rfl⟩
  rw [← H.out] at h hn ⊢
  go_enter Tryz.func179, Tryz.ntmps179
  go_wp2
  go_loop [3, 4] (fun t i => ∃ k : Nat, k ≤ n ∧ i = I k ∧ t = I (digest (l.take k))) (fun _ i => n - (intOf i).toNat)
  case atStart => exact ⟨0, by omega, rfl, rfl⟩
  case round =>
    obtain ⟨k, hk, rfl, rfl⟩ := hrel
    by_cases hlt : k < n
    · obtain ⟨g, o, q, x, e, hg, hxk, c0⟩ := int_at h (by rw [← H.out]; exact hlt)
      rw [← H.out] at e
      cases e
      have hd := digest_bd (l.take k)
      have hm := modP_bd x
      have HS : Hid (digest (l.take (k + 1)) = digStep (digest (l.take k)) x) := by rw [take_succ hxk.out, digest_snoc]; exact rfl
      obtain ⟨d, Hd⟩ : ∃ d, Hid (d = digest (l.take k)) := ⟨_, rfl⟩
      rw [← Hd.out] at hd ⊢
      obtain ⟨y, Hy⟩ : ∃ y, Hid (y = modP x) := ⟨_, rfl⟩
      rw [← Hy.out] at hm
      go_wp2_with (fail)
      refine (spec_ModP _ _).mono ?_
      rintro e w1 ⟨rfl, rfl⟩
      rw [← Hy.out]
      go_wp2_with (fail)
      go_round
      case rel => exact ⟨k + 1, by omega, by go_num, by rw [HS.out]; unfold digStep; rw [← Hd.out, ← Hy.out]⟩
      case measure => simp [intOf]; omega
    · go_wp2
      go_ret
      have : k = n := by omega
      subst this
      rw [H.out, List.take_length]
      exact ⟨rfl, rfl⟩
end Go.Proofs.YtdaecknfahgddaaGreat
namespace Go.Proofs.YtdaecknfahgddaaGreat
open Go.RowKit
set_option linter.unusedVariables false
theorem et_int : ElemT Tryz.prog 44 3 1 8 := ElemT.mk' Tryz.underlying44 (z := I 0) (by kernel_rfl) rfl (by omega)
end Go.Proofs.YtdaecknfahgddaaGreat
namespace Go.Proofs.YtdaecknfahgddaaGreat
open Go.RowKit
set_option linter.unusedVariables false
/-- The numbers of the parts and of their hops, one behind the other. -/
def intsOf (f : Part → List Int) (g : Hop → List Int) (p : Path) : List Int := p.flatMap fun x => f x ++ x.hops.flatMap g
theorem intsOf_snoc (f : Part → List Int) (g : Hop → List Int) (p : Path) (x : Part) : intsOf f g (p ++ [x]) = intsOf f g p ++ (f x ++ x.hops.flatMap g) := by simp [intsOf]
theorem flat_snoc {α β : Type} {g : α → List β} {l : List α} {k : Nat} {x : α} (h : l[k]? = some x) : (l.take (k + 1)).flatMap g = (l.take k).flatMap g ++ g x := by rw [take_succ h]; simp
theorem len_flat_le {α β : Type} (g : α → List β) (m : Nat) (l : List α) (hm : ∀ x ∈ l, (g x).length ≤ m) : (l.flatMap g).length ≤ m * l.length := by
  induction l with
  | nil => simp
  | cons a t ih =>
    have h1 := hm a (by simp)
    have h2 := ih fun x hx => hm x (by simp [hx])
    rw [List.flatMap_cons, List.length_append, List.length_cons, Nat.mul_add, Nat.mul_one]
    omega
theorem intsOf_len (f : Part → List Int) (g : Hop → List Int) (hf : ∀ x, (f x).length ≤ 5) (hg : ∀ x, (g x).length ≤ 5) (p : Path) : (intsOf f g p).length ≤ 5 * sz_path p := by
  show _ ≤ 5 * (List.length p + (p.map sz_part).sum)
  unfold intsOf
  induction p with
  | nil => simp
  | cons a t ih =>
    have h1 := hf a
    have h2 := len_flat_le g 5 a.hops fun x _ => hg x
    have h3 : sz_part a = a.hops.length := rfl
    rw [List.flatMap_cons, List.length_append, List.length_append, List.length_cons, List.map_cons, List.sum_cons]
    omega
theorem take_len_le {f : Part → List Int} {g : Hop → List Int} {p : Path} {k : Nat} {x : Part} (h : p[k]? = some x) (j : Nat) : (intsOf f g (p.take k)).length + (f x).length + ((x.hops.take j).flatMap g).length ≤ (intsOf f g p).length := by
  have e : p = p.take k ++ x :: p.drop (k + 1) := by
    have h2 := List.getElem?_eq_some_iff.1 h
    rw [← h2.2, ← List.drop_eq_getElem_cons h2.1, List.take_append_drop]
  have e2 : (x.hops.flatMap g).length = ((x.hops.take j).flatMap g).length + ((x.hops.drop j).flatMap g).length := by
    rw [← List.length_append, ← List.flatMap_append, List.take_append_drop]
  have e3 : (intsOf f g p).length = (intsOf f g (p.take k)).length + ((f x).length + (x.hops.flatMap g).length) + (intsOf f g (p.drop (k + 1))).length := by
    conv => lhs; rw [e]
    unfold intsOf
    simp
    omega
  omega
theorem mem_len_path {p : Path} {x : Part} (h : x ∈ p) : x.hops.length ≤ sz_path p := by
  have := le_sum_of_mem (List.mem_map.2 ⟨x, h, rfl⟩ : sz_part x ∈ p.map sz_part)
  show _ ≤ List.length p + _
  have e : sz_part x = x.hops.length := rfl
  omega
theorem int_one (w : World) (a : Int) : intT.R w [I a] a := rfl
def piP (x : Part) : List Int := [x.kind, x.ts, x.beta, (x.hops.length : Int)]
def piH (h : Hop) : List Int := [h.ia, h.ing, h.eg, h.exp, h.mac]
def pathInts (p : Path) : List Int := intsOf piP piH p
set_option maxRecDepth 100000 in
set_option maxHeartbeats 2000000 in
theorem spec_PathInts (p : Path) (cs : List Value) (w : World) (h : pathT.R w cs p) (hz : sz_path p ≤ 1048576) (hl : lenOk_path p) (hg : rng_path p) :
  Calls Tryz.prog 146 #[.agg cs.toArray] w fun r w' => ∃ v fp, r = .returned v ∧ SlO intT 3 w.heap.size w' v (pathInts p) fp ∧ Below w.heap.size w w' := by
 obtain ⟨A, c, rfl, ⟨h, _⟩⟩ := path_form h
 obtain ⟨n, H⟩ : ∃ n, Hid (n = p.length) := ⟨_, rfl⟩
 have hn : n ≤ 1048576 := by rw [H.out]; have : sz_path p = List.length p + (p.map sz_part).sum := rfl; omega
 have hL : (intsOf piP piH p).length ≤ 5242880 := by have := intsOf_len piP piH (fun _ => by simp [piP]) (fun _ => by simp [piH]) p; omega
 have Hz := hid hz
 clear hz hl hg
 rw [← H.out] at h ⊢
 have hb0 : Below w.heap.size w ((w.alloc (.cells #[.slice A n c] 30)).alloc (.cells #[] 3)) := ext_alloc (ext_alloc1 _ _) _
 have P0 : Hid (((w.alloc (.cells #[.slice A n c] 30)).alloc (.cells #[] 3)).cell? ⟨w.heap.size, 0, none⟩ = some (.slice A n c)) := by show _ = _; simp
 have hE : SlO intT 3 (w.heap.size + 1) ((w.alloc (.cells #[.slice A n c] 30)).alloc (.cells #[] 3)) (.slice (some ⟨w.heap.size + 1, 0, none⟩) 0 0) [] [w.heap.size + 1] := by
  have := SlO.empty intT 3 (w.alloc (.cells #[.slice A n c] 30))
  simpa using this
 have HE := hid hE
 clear hE
 go_enter Tryz.func146, Tryz.ntmps146
 go_wp2
 go_loopw [3, 4] (fun v i wr => ∃ k : Nat, k ≤ n ∧ i = I k ∧ Below w.heap.size w wr ∧ w.heap.size + 1 ≤ wr.heap.size ∧ wr.cell? ⟨w.heap.size, 0, none⟩ = some (.slice A n c) ∧ ∃ fp, SlO intT 3 (w.heap.size + 1) wr v (intsOf piP piH (p.take k)) fp) (fun _ i _ => n - (intOf i).toNat)
 case atStart => exact ⟨0, by omega, rfl, hb0, by simp, P0.out, _, HE.out⟩
 case round =>
  obtain ⟨k, hk, rfl, hb, hs1, p0, fp, hO⟩ := hrel
  clear hb0 P0 HE
  obtain ⟨wo, rfl⟩ : ∃ wo : World, wo = wr := ⟨_, rfl⟩
  by_cases hlt : k < n
  ·obtain ⟨g, o, q, x, B, d, e, hg, hxk, hin, hd, c0, c1, c2, c3⟩ := part_at h (by rw [← H.out]; exact hlt)
   rw [← H.out] at e
   cases e
   have d0 := ck hb c0
   have d1 := ck hb c1
   have d2 := ck hb c2
   have d3 := ck hb c3
   have C0 := hid c0
   have C1 := hid c1
   have C2 := hid c2
   have C3 := hid c3
   clear c0 c1 c2 c3
   have hT := fun j => take_len_le (f := piP) (g := piH) hxk.out j
   have h0 := hT 0
   have HT := hid hT
   clear hT
   have hsn : Hid (intsOf piP piH (p.take (k + 1)) = intsOf piP piH (p.take k) ++ (piP x ++ x.hops.flatMap piH)) := by show _ = _; rw [take_succ hxk.out, intsOf_snoc]
   have hm2 : x.hops.length ≤ 1048576 := Nat.le_trans (mem_len_path (List.mem_of_getElem? hxk.out)) Hz.out
   obtain ⟨l0, Hl0⟩ : ∃ l0, Hid (l0 = intsOf piP piH (p.take k)) := ⟨_, rfl⟩
   rw [← Hl0.out] at hO hsn HT h0
   have h0' : l0.length + 4 ≤ 5242880 := by have e : (piP x).length = 4 := rfl; omega
   clear h0
   have hlo := fun b hb => (hO.size_ok b hb).1
   have Hlo := hid hlo
   clear hlo
   go_wp2
   go_region_held3 (fun w' => w'.cell? ⟨w.heap.size, 0, none⟩ = some (.slice (some ⟨g, o, none⟩) n c) ∧ w'.cell? ⟨g, o + k * 4, none⟩ = some (I x.kind) ∧ w'.cell? ⟨g, o + k * 4 + 1, none⟩ = some (I x.ts) ∧ w'.cell? ⟨g, o + k * 4 + 2, none⟩ = some (I x.beta) ∧ w'.cell? ⟨g, o + k * 4 + 3, none⟩ = some (.slice B x.hops.length d))
    (first | exact ⟨p0, d0, d1, d2, d3⟩ | exact ⟨pb, a0, a1, a2, a3⟩ | exact ⟨ck (ext_alloc1 _ _) p0, ck (ext_alloc1 _ _) d0, ck (ext_alloc1 _ _) d1, ck (ext_alloc1 _ _) d2, ck (ext_alloc1 _ _) d3⟩ | go_keep)
    ((refine step_cat int_flat (.tmp 15) (.tmp 41) et_int (SlO.drew (SlO.alloc hO _)) ((lit_read _ 3 I int_one [x.kind, x.ts, x.beta, (x.hops.length : Int)] 4 (Nat.le_refl _) wo.heap.size 4 rfl rfl _ rfl).below (below_drew _)) (by simp; omega) (by simp [maxLen]; omega) (by simp; omega) (by rfl) (by rfl) (by rfl) (by rfl) ?_; intro v1 w1 fp1 hO1 hfp1 hkp1; have x1 : Below w.heap.size w w1 := ((ext_alloc hb _).drew).trans (hkp1.below (fun b hb => Nat.le_trans (Nat.le_succ _) (Hlo.out b hb)) (by simp; omega)); have a0 := ck x1 C0.out; have a1 := ck x1 C1.out; have a2 := ck x1 C2.out; have a3 := ck x1 C3.out; have pb := hkp1.ck (show (World.drew (World.alloc wo _)).cell? ⟨w.heap.size, 0, none⟩ = some (.slice (some ⟨g, o, none⟩) n c) from ck (ext_alloc1 _ _) p0) (fun hm => by have := Hlo.out _ hm; omega)))
   have z1 : w.heap.size + 1 ≤ w1.heap.size := by have := hkp1.size; simp at this; omega
   clear hkp1 hfp1 hO d0 d1 d2 d3 a0 a1 a2 a3
   obtain ⟨m, Hm⟩ : ∃ m, Hid (m = x.hops.length) := ⟨_, rfl⟩
   rw [← Hm.out] at hin hd hm2
   have C3' : Hid (w.cell? ⟨g, o + k * 4 + 3, none⟩ = some (.slice B m d)) := by show _ = _; rw [Hm.out]; exact C3.out
   go_wp2
   go_loopw [3, 5] (fun v i wr => ∃ j : Nat, j ≤ m ∧ i = I j ∧ Below w.heap.size w wr ∧ w.heap.size + 1 ≤ wr.heap.size ∧ wr.cell? ⟨w.heap.size, 0, none⟩ = some (.slice (some ⟨g, o, none⟩) n c) ∧ ∃ fp, SlO intT 3 (w.heap.size + 1) wr v (l0 ++ piP x ++ (x.hops.take j).flatMap piH) fp) (fun _ i _ => m - (intOf i).toNat)
   case atStart => exact ⟨0, by omega, rfl, x1, z1, pb, fp1, by simpa [piP] using hO1⟩
   case round =>
    obtain ⟨j, hj, rfl, hbi, hs2, pi, fpi, hOi⟩ := hrel
    obtain ⟨wi, rfl⟩ : ∃ wi : World, wi = wr := ⟨_, rfl⟩
    clear x1 z1 pb hO1 p0
    have e3 := ck hbi C3'.out
    by_cases hjl : j < m
    ·obtain ⟨g', o', q', y, e', hg', hyj, b0, b1, b2, b3, b4⟩ := hop_at hin (by rw [← Hm.out]; exact hjl)
     rw [← Hm.out] at e'
     cases e'
     replace b0 := ck hbi b0
     replace b1 := ck hbi b1
     replace b2 := ck hbi b2
     replace b3 := ck hbi b3
     replace b4 := ck hbi b4
     have HQ : Hid (l0 ++ piP x ++ (x.hops.take (j + 1)).flatMap piH = (l0 ++ piP x ++ (x.hops.take j).flatMap piH) ++ [y.ia, y.ing, y.eg, y.exp, y.mac]) := by show _ = _; rw [flat_snoc hyj.out, ← List.append_assoc]; rfl
     have hlen : (l0 ++ piP x ++ (x.hops.take j).flatMap piH).length + 5 ≤ 5242880 := by
      have h1 := HT.out (j + 1)
      have h2 := congrArg List.length HQ.out
      simp only [List.length_append, List.length_cons, List.length_nil] at h2 ⊢
      omega
     obtain ⟨li, Hli⟩ : ∃ li, Hid (li = l0 ++ piP x ++ (x.hops.take j).flatMap piH) := ⟨_, rfl⟩
     rw [← Hli.out] at hOi HQ hlen
     go_wp2_with ((at_builtin; refine wpList_cat int_flat (.tmp 63) (.tmp 74) et_int (SlO.alloc (SlO.alloc hOi _) _) (lit_read _ 3 I int_one [y.ia, y.ing, y.eg, y.exp, y.mac] 5 (Nat.le_refl _) (wi.heap.size + 1) 5 (by simp) rfl _ rfl) ?_ ?_ ?_ rfl rfl rfl rfl ?_))
     ·simp; omega
     ·simp [maxLen]; omega
     ·simp; omega
     ·intro v2 w2 fp2 hO2 hfp2 hkp2
      have x2 : Below w.heap.size w w2 := (ext_alloc (ext_alloc hbi _) _).trans (hkp2.below (fun b hb => by have := (hOi.size_ok b hb).1; omega) (by simp; omega))
      have pc := hkp2.ck (ck (ext_alloc1 _ _) (ck (ext_alloc1 _ _) pi)) (fun hm => by have := (hOi.size_ok _ hm).1; omega)
      have z2 : w.heap.size + 1 ≤ w2.heap.size := by have := hkp2.size; simp at this; omega
      go_wp2
      go_roundw
      case rel => exact ⟨j + 1, by omega, by go_num, x2, z2, pc, fp2, by rw [HQ.out]; exact hO2⟩
      case measure => simp [intOf]; omega
    ·have hjm : j = m := by omega
     subst hjm
     have hfin : Hid (intsOf piP piH (p.take (k + 1)) = l0 ++ piP x ++ (x.hops.take j).flatMap piH) := by
      show _ = _
      rw [hsn.out, Hm.out, List.take_length, List.append_assoc]
     go_wp2
     go_roundw
     case rel => exact ⟨k + 1, by omega, by go_num, hbi, hs2, pi, fpi, by rw [hfin.out]; exact hOi⟩
     case measure => simp [intOf]; omega
  ·have hkn : k = n := by omega
   subst hkn
   rw [H.out, List.take_length] at hO
   go_wp2
   go_ret
   exact ⟨_, fp, rfl, hO.mono (by omega), hb⟩
end Go.Proofs.YtdaecknfahgddaaGreat
namespace Go.Proofs.YtdaecknfahgddaaGreat
open Go.RowKit
set_option linter.unusedVariables false
set_option maxRecDepth 20000
theorem impl_hopInts (x : Hop) (w : World) : Calls Tryz.prog 165 #[.agg #[I x.ia, I x.ing, I x.eg, I x.exp, I x.mac]] w fun e w' => ∃ v fp, e = .returned v ∧ SlO intT 3 w.heap.size w' v (piH x) fp ∧ Below w.heap.size w w' := by
 have hx := hop_mkv w x
 have X0 := Below.refl w.heap.size w
 refine enter Tryz.func165 rfl Tryz.ntmps165 rfl ?_
 refine w_s ?_
 refine w_g ?_
 refine t_boxr ‹_› rfl ?_ rfl rfl
 intro p1 w1 x2 hp1
 replace hx := hx.below x2
 have X0 := ext_trans X0 x2
 have S := Sep.nil w1
 have B := Below.refl w1.heap.size w1
 have Hb := Nat.le_refl w1.heap.size
 refine t_a rfl ?_ rfl
 refine t_d ?_
 refine x_s ?_
 refine w_s ?_
 refine w_g ?_
 refine t_fld ln_hop_0 ‹_› fb_hop_0 rfl ?_ rfl
 intro p3 hp3
 refine t_ldi ‹_› ab_int B rfl ?_ rfl
 refine t_fld ln_hop_1 ‹_› fb_hop_1 rfl ?_ rfl
 intro p5 hp5
 refine t_ldi ‹_› ab_int B rfl ?_ rfl
 refine t_fld ln_hop_2 ‹_› fb_hop_2 rfl ?_ rfl
 intro p7 hp7
 refine t_ldi ‹_› ab_int B rfl ?_ rfl
 refine t_fld ln_hop_3 ‹_› fb_hop_3 rfl ?_ rfl
 intro p9 hp9
 refine t_ldi ‹_› ab_int B rfl ?_ rfl
 refine t_fld ln_hop_4 ‹_› fb_hop_4 rfl ?_ rfl
 intro p11 hp11
 refine t_ldi ‹_› ab_int B rfl ?_ rfl
 refine t_lit (T := intT) (l := [x.ia, x.ing, x.eg, x.exp, x.mac]) (css := ([x.ia, x.ing, x.eg, x.exp, x.mac]).map fun a => [I a]) int_flat S (fun w => bs_int5 _ _ _ _ _ w) rfl rfl rfl rfl (by simp [maxLen]) (litR_int _) ?_ rfl rfl
 intro u13 w3 x4 S
 have B := bx Hb B x4
 refine t_a rfl ?_ rfl
 refine t_d ?_
 refine x_s ?_
 refine w_r ?_
 refine x_ret1 rfl rfl ?_
 obtain ⟨fp, hO⟩ := (S.mono X0.size).head
 exact ⟨_, fp, rfl, hO, ext_trans X0 B⟩
theorem pathInts_len (p : Path) : (pathInts p).length ≤ 5 * sz_path p := intsOf_len piP piH (fun _ => by simp [piP]) (fun _ => by simp [piH]) p
end Go.Proofs.YtdaecknfahgddaaGreat
namespace Go.Proofs.YtdaecknfahgddaaGreat
open Go.RowKit
set_option linter.unusedVariables false
def validHop (h : Hop) : Bool := inR h.ia 0 7 && inR h.ing 0 6 && inR h.eg 0 6 && (h.ing != h.eg) && inR h.exp 0 1000000 && inR h.mac 0 2147483646
theorem and3 (b1 b2 b3 : Bool) : b1 = false ∨ (b1 = true ∧ b2 = false) ∨ (b1 = true ∧ b2 = true ∧ b3 = false) ∨ (b1 = true ∧ b2 = true ∧ b3 = true) := by cases b1 <;> cases b2 <;> cases b3 <;> simp
theorem and4 (b1 b2 b3 b4 : Bool) : b1 = false ∨ (b1 = true ∧ b2 = false) ∨ (b1 = true ∧ b2 = true ∧ b3 = false) ∨ (b1 = true ∧ b2 = true ∧ b3 = true ∧ b4 = false) ∨ (b1 = true ∧ b2 = true ∧ b3 = true ∧ b4 = true) := by cases b1 <;> cases b2 <;> cases b3 <;> cases b4 <;> simp
theorem and6 (b1 b2 b3 b4 b5 b6 : Bool) : b1 = false ∨ (b1 = true ∧ b2 = false) ∨ (b1 = true ∧ b2 = true ∧ b3 = false) ∨ (b1 = true ∧ b2 = true ∧ b3 = true ∧ b4 = false) ∨ (b1 = true ∧ b2 = true ∧ b3 = true ∧ b4 = true ∧ b5 = false) ∨ (b1 = true ∧ b2 = true ∧ b3 = true ∧ b4 = true ∧ b5 = true ∧ b6 = false) ∨ (b1 = true ∧ b2 = true ∧ b3 = true ∧ b4 = true ∧ b5 = true ∧ b6 = true) := by
  cases b1 <;> cases b2 <;> cases b3 <;> cases b4 <;> cases b5 <;> cases b6 <;> simp
theorem impl_ValidHop (h : Hop) (w : World) : Calls Tryz.prog 156 #[.agg #[I h.ia, I h.ing, I h.eg, I h.exp, I h.mac]] w fun e w' => e = .returned (.bool (validHop h)) ∧ Below w.heap.size w w' := by
  rcases and6 (inR h.ia 0 7) (inR h.ing 0 6) (inR h.eg 0 6) (h.ing != h.eg) (inR h.exp 0 1000000) (inR h.mac 0 2147483646) with h1 | ⟨h1, h2⟩ | ⟨h1, h2, h3⟩ | ⟨h1, h2, h3, h4⟩ | ⟨h1, h2, h3, h4, h5⟩ | ⟨h1, h2, h3, h4, h5, h6⟩ | ⟨h1, h2, h3, h4, h5, h6⟩
  all_goals
    go_enter Tryz.func156, Tryz.ntmps156
    go_wp2_with (first | (go_at_call 61; refine (impl_InRange _ _ _ _).mono ?_; rintro e w1 ⟨rfl, rfl⟩) | (go_at_call 106; refine (impl_isResidue _ _).mono ?_; rintro e w1 ⟨rfl, rfl⟩))
    go_ret
    exact ⟨by simp [validHop, *], ext_alloc1 _ _⟩
theorem spec_ValidHop (h : Hop) (w : World) : Calls Tryz.prog 124 #[.agg #[I h.ia, I h.ing, I h.eg, I h.exp, I h.mac]] w fun e w' => e = .returned (.bool (validHop h)) ∧ Below w.heap.size w w' := by
  rcases and6 (inR h.ia 0 7) (inR h.ing 0 6) (inR h.eg 0 6) (h.ing != h.eg) (inR h.exp 0 1000000) (inR h.mac 0 2147483646) with h1 | ⟨h1, h2⟩ | ⟨h1, h2, h3⟩ | ⟨h1, h2, h3, h4⟩ | ⟨h1, h2, h3, h4, h5⟩ | ⟨h1, h2, h3, h4, h5, h6⟩ | ⟨h1, h2, h3, h4, h5, h6⟩
  all_goals
    go_enter Tryz.func124, Tryz.ntmps124
    go_wp2_with (first | (go_at_call 64; refine (spec_l1In _ _ _ _).mono ?_; rintro e w1 ⟨rfl, rfl⟩) | (go_at_call 108; refine (spec_l3Ok _ _).mono ?_; rintro e w1 ⟨rfl, rfl⟩))
    go_ret
    exact ⟨by simp [validHop, *], ext_alloc1 _ _⟩
theorem all_succ {α : Type} {l : List α} {f : α → Bool} {k : Nat} {x : α} (h : (l.take k).all f = true) (hx : l[k]? = some x) (hf : f x = true) : (l.take (k + 1)).all f = true := by
  rw [take_succ hx, List.all_append, h]; simp [hf]
theorem all_bad {α : Type} {l : List α} {f : α → Bool} {k : Nat} {x : α} (hx : l[k]? = some x) (hf : f x = false) : l.all f = false := by
  rw [List.all_eq_false]
  exact ⟨x, List.mem_of_getElem? hx, by simp [hf]⟩
def encHops (hs : List Hop) : Bool := decide (hs.length ≤ 8) && hs.all validHop
theorem impl_hopsEncodable (hs : List Hop) (v : Value) (w : World) (h : SlR hopT w v hs) (hn : hs.length ≤ 1048576) : Calls Tryz.prog 148 #[v] w fun e w' => e = .returned (.bool (encHops hs)) ∧ Below w.heap.size w w' := by
 obtain ⟨A, c, rfl, _⟩ := h.form
 obtain ⟨n, H⟩ : ∃ n, Hid (n = hs.length) := ⟨_, rfl⟩
 obtain ⟨r, Hr⟩ : ∃ r, Hid (r = encHops hs) := ⟨_, rfl⟩
 rw [← Hr.out]
 rw [← H.out] at h hn ⊢
 by_cases h8 : 8 < n
 ·have HR : Hid (r = false) := by show r = _; rw [Hr.out]; unfold encHops; rw [← H.out]; simp; omega
  go_enter Tryz.func148, Tryz.ntmps148
  go_wp2
  go_ret
  exact ⟨by rw [HR.out]; rfl, Below.refl _ _⟩
 ·have HR : Hid (r = hs.all validHop) := by show r = _; rw [Hr.out]; unfold encHops; rw [← H.out]; simp; omega
  clear Hr
  go_enter Tryz.func148, Tryz.ntmps148
  go_wp2
  go_loopw [10] (fun i wr => ∃ k : Nat, k ≤ n ∧ i = I k ∧ (hs.take k).all validHop = true ∧ Below w.heap.size w wr) (fun i _ => n - (intOf i).toNat)
  case atStart => exact ⟨0, by omega, rfl, rfl, Below.refl _ _⟩
  case round =>
   rename_i wr
   obtain ⟨k, hk, rfl, hall, hb⟩ := hrel
   have Ha := hid hall
   clear hall
   by_cases hlt : k < n
   ·obtain ⟨g, o, q, x, e, hg, hxk, c0, c1, c2, c3, c4⟩ := hop_at (h.below hb) (by rw [← H.out]; exact hlt)
    rw [← H.out] at e
    cases e
    go_wp2_with (fail)
    refine (impl_ValidHop x _).mono ?_
    rintro e w1 ⟨rfl, hb1⟩
    cases hv : validHop x
    ·go_wp2_with (fail)
     go_ret
     exact ⟨by rw [HR.out, all_bad hxk.out hv]; rfl, ext_trans (ext_alloc hb _) hb1⟩
    ·go_wp2_with (fail)
     go_roundw
     case rel => exact ⟨k + 1, by omega, by go_num, all_succ Ha.out hxk.out hv, ext_trans (ext_alloc hb _) hb1⟩
     case measure => simp [intOf]; omega
   ·go_wp2
    go_ret
    have hkn : k = n := by omega
    have h1 := Ha.out
    rw [List.take_of_length_le (by rw [← H.out]; omega)] at h1
    exact ⟨by rw [HR.out, h1]; rfl, hb⟩
theorem spec_Encodable (ts beta : Int) (hs : List Hop) (v : Value) (w : World) (h : SlR hopT w v hs) (hn : hs.length ≤ 1048576) :
    Calls Tryz.prog 149 #[.agg #[I ts, I beta, v]] w fun e w' => e = .returned (.bool (inR ts 0 1000000 && inR beta 0 2147483646 && encHops hs)) ∧ Below w.heap.size w w' := by
  obtain ⟨A, c, rfl, _⟩ := h.form
  obtain ⟨n, H⟩ : ∃ n, Hid (n = hs.length) := ⟨_, rfl⟩
  obtain ⟨r, Hr⟩ : ∃ r, Hid (r = (inR ts 0 1000000 && inR beta 0 2147483646 && encHops hs)) := ⟨_, rfl⟩
  rw [← Hr.out]
  rw [← H.out] at h hn ⊢
  have hb0 : Below w.heap.size w (w.alloc (.cells #[I ts, I beta, .slice A n c] 118)) := ext_alloc1 _ _
  rcases and3 (inR ts 0 1000000) (inR beta 0 2147483646) (decide (n ≤ 8)) with h1 | ⟨h1, h2⟩ | ⟨h1, h2, h3⟩ | ⟨h1, h2, h3⟩
  · have HR : Hid (r = false) := by show r = _; rw [Hr.out]; simp [h1]
    go_enter Tryz.func149, Tryz.ntmps149
    go_wp2_with (first | (go_at_call 64; refine (spec_l1In _ _ _ _).mono ?_; rintro e w1 ⟨rfl, rfl⟩) | (go_at_call 108; refine (spec_l3Ok _ _).mono ?_; rintro e w1 ⟨rfl, rfl⟩))
    go_ret
    exact ⟨by rw [HR.out]; rfl, hb0⟩
  · have HR : Hid (r = false) := by show r = _; rw [Hr.out]; simp [h2]
    go_enter Tryz.func149, Tryz.ntmps149
    go_wp2_with (first | (go_at_call 64; refine (spec_l1In _ _ _ _).mono ?_; rintro e w1 ⟨rfl, rfl⟩) | (go_at_call 108; refine (spec_l3Ok _ _).mono ?_; rintro e w1 ⟨rfl, rfl⟩))
    go_ret
    exact ⟨by rw [HR.out]; rfl, hb0⟩
  · have HR : Hid (r = false) := by show r = _; rw [Hr.out]; unfold encHops; rw [← H.out, h3]; simp
    have h8 : 8 < n := by simpa using h3
    clear h3
    go_enter Tryz.func149, Tryz.ntmps149
    go_wp2_with (first | (go_at_call 64; refine (spec_l1In _ _ _ _).mono ?_; rintro e w1 ⟨rfl, rfl⟩) | (go_at_call 108; refine (spec_l3Ok _ _).mono ?_; rintro e w1 ⟨rfl, rfl⟩))
    go_ret
    exact ⟨by rw [HR.out]; rfl, hb0⟩
  · have HR : Hid (r = hs.all validHop) := by show r = _; rw [Hr.out]; unfold encHops; rw [← H.out, h3]; simp [h1, h2]
    have h8 : ¬ 8 < n := by have : n ≤ 8 := by simpa using h3
                            omega
    clear h3 Hr
    have P0 : Hid ((w.alloc (.cells #[I ts, I beta, .slice A n c] 118)).cell? ⟨w.heap.size, 2, none⟩ = some (.slice A n c)) := by show _ = _; simp
    go_enter Tryz.func149, Tryz.ntmps149
    go_wp2_with (first | (go_at_call 64; refine (spec_l1In _ _ _ _).mono ?_; rintro e w1 ⟨rfl, rfl⟩) | (go_at_call 108; refine (spec_l3Ok _ _).mono ?_; rintro e w1 ⟨rfl, rfl⟩))
    go_loopw [3] (fun i wr => ∃ k : Nat, k ≤ n ∧ i = I k ∧ (hs.take k).all validHop = true ∧ Below w.heap.size w wr ∧ wr.cell? ⟨w.heap.size, 2, none⟩ = some (.slice A n c)) (fun i _ => n - (intOf i).toNat)
    case atStart => exact ⟨0, by omega, rfl, rfl, hb0, P0.out⟩
    case round =>
      rename_i wr
      obtain ⟨k, hk, rfl, hall, hb, p0⟩ := hrel
      have Ha := hid hall
      clear hall P0 hb0
      by_cases hlt : k < n
      · obtain ⟨g, o, q, x, e, hg, hxk, c0, c1, c2, c3, c4⟩ := hop_at (h.below hb) (by rw [← H.out]; exact hlt)
        rw [← H.out] at e
        cases e
        go_wp2_with (fail)
        refine (spec_ValidHop x _).mono ?_
        rintro e w1 ⟨rfl, hb1⟩
        cases hv : validHop x
        · go_wp2_with (fail)
          go_ret
          exact ⟨by rw [HR.out, all_bad hxk.out hv]; rfl, ext_trans hb hb1⟩
        · have p1 := ck hb1 p0
          go_wp2_with (fail)
          go_roundw
          case rel => exact ⟨k + 1, by omega, by go_num, all_succ Ha.out hxk.out hv, ext_trans hb hb1, p1⟩
          case measure => simp [intOf]; omega
      · go_wp2
        go_ret
        have hkn : k = n := by omega
        have h1 := Ha.out
        rw [List.take_of_length_le (by rw [← H.out]; omega)] at h1
        exact ⟨by rw [HR.out, h1]; rfl, hb⟩
def encPart (p : Part) : Bool := inR p.kind 1 4 && (inR p.ts 0 1000000 && inR p.beta 0 2147483646 && encHops p.hops)
def encPath (p : Path) : Bool := decide (p.length ≤ 3) && p.all encPart
theorem mem_sz_part {p : Path} {x : Part} (h : x ∈ p) : x.hops.length ≤ sz_path p := by
  have := le_sum_of_mem (List.mem_map.2 ⟨x, h, rfl⟩ : sz_part x ∈ p.map sz_part)
  show _ ≤ List.length p + _
  have e : sz_part x = x.hops.length := rfl
  omega
theorem impl_EncodablePath (p : Path) (cs : List Value) (w : World) (h : pathT.R w cs p) (hz : sz_path p ≤ 1048576) (hl : lenOk_path p) (hg : rng_path p) :
  Calls Tryz.prog 105 #[.agg cs.toArray] w fun e w' => e = .returned (.bool (encPath p)) ∧ Below w.heap.size w w' := by
 obtain ⟨A, c, rfl, ⟨h, _⟩⟩ := path_form h
 obtain ⟨n, H⟩ : ∃ n, Hid (n = p.length) := ⟨_, rfl⟩
 obtain ⟨r, Hr⟩ : ∃ r, Hid (r = encPath p) := ⟨_, rfl⟩
 have hn : n ≤ 1048576 := by rw [H.out]; have : sz_path p = List.length p + (p.map sz_part).sum := rfl; omega
 have Hz := hid hz
 clear hz hl hg
 rw [← Hr.out]
 rw [← H.out] at h ⊢
 have hb0 : Below w.heap.size w (w.alloc (.cells #[.slice A n c] 30)) := ext_alloc1 _ _
 by_cases h3 : 3 < n
 ·have HR : Hid (r = false) := by show r = _; rw [Hr.out]; unfold encPath; rw [← H.out]; simp; omega
  go_enter Tryz.func105, Tryz.ntmps105
  go_wp2
  go_ret
  exact ⟨by rw [HR.out]; rfl, hb0⟩
 ·have HR : Hid (r = p.all encPart) := by show r = _; rw [Hr.out]; unfold encPath; rw [← H.out]; simp; omega
  clear Hr
  go_enter Tryz.func105, Tryz.ntmps105
  go_wp2
  go_loopw [12] (fun i wr => ∃ k : Nat, k ≤ n ∧ i = I k ∧ (p.take k).all encPart = true ∧ Below w.heap.size w wr) (fun i _ => n - (intOf i).toNat)
  case atStart => exact ⟨0, by omega, rfl, rfl, hb0⟩
  case round =>
   rename_i wr
   obtain ⟨k, hk, rfl, hall, hb⟩ := hrel
   have Ha := hid hall
   clear hall hb0
   by_cases hlt : k < n
   ·obtain ⟨g, o, q, x, B, d, e, hg, hxk, hin, hd, c0, c1, c2, c3⟩ := part_at (h.below hb) (by rw [← H.out]; exact hlt)
    rw [← H.out] at e
    cases e
    have hx1 : x.hops.length ≤ 1048576 := Nat.le_trans (mem_sz_part (List.mem_of_getElem? hxk.out)) Hz.out
    rcases and4 (inR x.kind 1 4) (inR x.ts 0 1000000) (inR x.beta 0 2147483646) (encHops x.hops) with h1 | ⟨h1, h2⟩ | ⟨h1, h2, h3⟩ | ⟨h1, h2, h3, h4⟩ | ⟨h1, h2, h3, h4⟩
    ·have Hv : Hid (encPart x = false) := by show _ = _; simp [encPart, h1]
     go_wp2_with (first | (go_at_call 61; refine (impl_InRange _ _ _ _).mono ?_; rintro e w1 ⟨rfl, rfl⟩))
     go_ret
     exact ⟨by rw [HR.out, all_bad hxk.out Hv.out]; rfl, ext_alloc hb _⟩
    ·have Hv : Hid (encPart x = false) := by show _ = _; simp [encPart, h2]
     go_wp2_with (first | (go_at_call 61; refine (impl_InRange _ _ _ _).mono ?_; rintro e w1 ⟨rfl, rfl⟩))
     go_ret
     exact ⟨by rw [HR.out, all_bad hxk.out Hv.out]; rfl, ext_alloc hb _⟩
    ·have Hv : Hid (encPart x = false) := by show _ = _; simp [encPart, h3]
     go_wp2_with (first | (go_at_call 61; refine (impl_InRange _ _ _ _).mono ?_; rintro e w1 ⟨rfl, rfl⟩) | (go_at_call 106; refine (impl_isResidue _ _).mono ?_; rintro e w1 ⟨rfl, rfl⟩))
     go_ret
     exact ⟨by rw [HR.out, all_bad hxk.out Hv.out]; rfl, ext_alloc hb _⟩
    ·have Hv : Hid (encPart x = false) := by show _ = _; simp [encPart, h4]
     go_wp2_with (first | (go_at_call 61; refine (impl_InRange _ _ _ _).mono ?_; rintro e w1 ⟨rfl, rfl⟩) | (go_at_call 106; refine (impl_isResidue _ _).mono ?_; rintro e w1 ⟨rfl, rfl⟩) | (go_at_call 148; refine (impl_hopsEncodable _ _ _ (hin.below (ext_alloc1 _ _)) hx1).mono ?_; rintro e w2 ⟨rfl, hb2⟩))
     go_ret
     exact ⟨by rw [HR.out, all_bad hxk.out Hv.out]; rfl, ext_trans (ext_alloc hb _) hb2⟩
    ·have Hv : Hid (encPart x = true) := by show _ = _; simp [encPart, h1, h2, h3, h4]
     go_wp2_with (first | (go_at_call 61; refine (impl_InRange _ _ _ _).mono ?_; rintro e w1 ⟨rfl, rfl⟩) | (go_at_call 106; refine (impl_isResidue _ _).mono ?_; rintro e w1 ⟨rfl, rfl⟩) | (go_at_call 148; refine (impl_hopsEncodable _ _ _ (hin.below (ext_alloc1 _ _)) hx1).mono ?_; rintro e w2 ⟨rfl, hb2⟩))
     go_roundw
     case rel => exact ⟨k + 1, by omega, by go_num, all_succ Ha.out hxk.out Hv.out, ext_trans (ext_alloc hb _) hb2⟩
     case measure => simp [intOf]; omega
   ·go_wp2
    go_ret
    have hkn : k = n := by omega
    have h1 := Ha.out
    rw [List.take_of_length_le (by rw [← H.out]; omega)] at h1
    exact ⟨by rw [HR.out, h1]; rfl, hb⟩
theorem spec_EncodablePath (p : Path) (cs : List Value) (w : World) (h : pathT.R w cs p) (hz : sz_path p ≤ 1048576) (hl : lenOk_path p) (hg : rng_path p) :
  Calls Tryz.prog 107 #[.agg cs.toArray] w fun e w' => e = .returned (.bool (encPath p)) ∧ Below w.heap.size w w' := by
 obtain ⟨A, c, rfl, ⟨h, _⟩⟩ := path_form h
 obtain ⟨n, H⟩ : ∃ n, Hid (n = p.length) := ⟨_, rfl⟩
 obtain ⟨r, Hr⟩ : ∃ r, Hid (r = encPath p) := ⟨_, rfl⟩
 have hn : n ≤ 1048576 := by rw [H.out]; have : sz_path p = List.length p + (p.map sz_part).sum := rfl; omega
 have Hz := hid hz
 clear hz hl hg
 rw [← Hr.out]
 rw [← H.out] at h ⊢
 have hb0 : Below w.heap.size w (w.alloc (.cells #[.slice A n c] 30)) := ext_alloc1 _ _
 by_cases h3 : 3 < n
 ·have HR : Hid (r = false) := by show r = _; rw [Hr.out]; unfold encPath; rw [← H.out]; simp; omega
  go_enter Tryz.func107, Tryz.ntmps107
  go_wp2
  go_ret
  exact ⟨by rw [HR.out]; rfl, hb0⟩
 ·have HR : Hid (r = p.all encPart) := by show r = _; rw [Hr.out]; unfold encPath; rw [← H.out]; simp; omega
  clear Hr
  have P0 : Hid ((w.alloc (.cells #[.slice A n c] 30)).cell? ⟨w.heap.size, 0, none⟩ = some (.slice A n c)) := by show _ = _; simp
  go_enter Tryz.func107, Tryz.ntmps107
  go_wp2
  go_loopw [3] (fun i wr => ∃ k : Nat, k ≤ n ∧ i = I k ∧ (p.take k).all encPart = true ∧ Below w.heap.size w wr ∧ wr.cell? ⟨w.heap.size, 0, none⟩ = some (.slice A n c)) (fun i _ => n - (intOf i).toNat)
  case atStart => exact ⟨0, by omega, rfl, rfl, hb0, P0.out⟩
  case round =>
   rename_i wr
   obtain ⟨k, hk, rfl, hall, hb, p0⟩ := hrel
   have Ha := hid hall
   clear hall hb0 P0
   by_cases hlt : k < n
   ·obtain ⟨g, o, q, x, B, d, e, hg, hxk, hin, hd, c0, c1, c2, c3⟩ := part_at (h.below hb) (by rw [← H.out]; exact hlt)
    rw [← H.out] at e
    cases e
    have hx1 : x.hops.length ≤ 1048576 := Nat.le_trans (mem_sz_part (List.mem_of_getElem? hxk.out)) Hz.out
    obtain ⟨bb, Hb⟩ : ∃ bb, Hid (bb = (inR x.ts 0 1000000 && inR x.beta 0 2147483646 && encHops x.hops)) := ⟨_, rfl⟩
    cases h1 : inR x.kind 1 4
    ·have Hv : Hid (encPart x = false) := by show _ = _; simp [encPart, h1]
     go_wp2_with (first | (go_at_call 64; refine (spec_l1In _ _ _ _).mono ?_; rintro e w1 ⟨rfl, rfl⟩))
     go_ret
     exact ⟨by rw [HR.out, all_bad hxk.out Hv.out]; rfl, ext_alloc hb _⟩
    ·have Hv : Hid (encPart x = bb) := by show _ = _; unfold encPart; rw [h1, Hb.out]; rfl
     cases bb
     ·go_wp2_with (first | (go_at_call 64; refine (spec_l1In _ _ _ _).mono ?_; rintro e w1 ⟨rfl, rfl⟩) | (go_at_call 149; refine (spec_Encodable _ _ _ _ _ (hin.below (ext_alloc1 _ _)) hx1).mono ?_; rintro e w2 ⟨rfl, hb2⟩; rw [← Hb.out]; have p2 := ck hb2 (ck (ext_alloc1 _ _) p0)))
      go_ret
      exact ⟨by rw [HR.out, all_bad hxk.out Hv.out]; rfl, ext_trans (ext_alloc hb _) hb2⟩
     ·go_wp2_with (first | (go_at_call 64; refine (spec_l1In _ _ _ _).mono ?_; rintro e w1 ⟨rfl, rfl⟩) | (go_at_call 149; refine (spec_Encodable _ _ _ _ _ (hin.below (ext_alloc1 _ _)) hx1).mono ?_; rintro e w2 ⟨rfl, hb2⟩; rw [← Hb.out]; have p2 := ck hb2 (ck (ext_alloc1 _ _) p0)))
      go_roundw
      case rel => exact ⟨k + 1, by omega, by go_num, all_succ Ha.out hxk.out Hv.out, ext_trans (ext_alloc hb _) hb2, p2⟩
      case measure => simp [intOf]; omega
   ·go_wp2
    go_ret
    have hkn : k = n := by omega
    have h1 := Ha.out
    rw [List.take_of_length_le (by rw [← H.out]; omega)] at h1
    exact ⟨by rw [HR.out, h1]; rfl, hb⟩
end Go.Proofs.YtdaecknfahgddaaGreat
namespace Go.Proofs.YtdaecknfahgddaaGreat
open Go.RowKit
set_option linter.unusedVariables false
set_option maxRecDepth 20000
section
variable {P : Program} {n : Nat} {ops : Array Oper} {Q : Exit → Act → World → Prop} {L : Frm} {w : World} {m : Md} {r : IT} {d : Nat} {ty : TypeId} {pos : String} {af : Array Edge}
theorem i64_or128 (y : Int) (h₀ : 0 ≤ y) (h₁ : y < 128) : bits .or .i64 y 128 = y + 128 := by
  have hc : bits .or .i64 y 128 = bits .or .i64 128 y := by simp only [bits, BitVec.or_comm]
  rw [hc, bits_join .i64 8 (by decide) (fun n h0 h1 => by rw [IntKind.wrap_i64]; omega) 7 128 y (by decide) (by decide) (by decide) h₀ h₁ (by omega)]
  omega
theorem t_and127 {x y : Operand} {t t' : TypeId} {a : Int} (hx : ev L x = some (I a)) (hy : ev L y = some (I 127)) (k : WT P n ops Q r ((d, I (a % 128)) :: L) w) (hn : Nat.blt d n = true) : WT P n ops Q (.st m ⟨some d, .binOp .and t x y t', ty, pos, af, none⟩ r) L w :=
  t_read (fun e ha _ _ _ w' _ => by simp [execOp, ha.ev hx, ha.ev hy, eqGuard, binOp, intBits_and, i64_and127]) k hn
theorem t_or128 {x y : Operand} {t t' : TypeId} {a : Int} (hx : ev L x = some (I a)) (hy : ev L y = some (I 128)) (hr : 0 ≤ a ∧ a < 128) (k : WT P n ops Q r ((d, I (a + 128)) :: L) w) (hn : Nat.blt d n = true) : WT P n ops Q (.st m ⟨some d, .binOp .or t x y t', ty, pos, af, none⟩ r) L w :=
  t_read (fun e ha _ _ _ w' _ => by simp [execOp, ha.ev hx, ha.ev hy, eqGuard, binOp, intBits_or, i64_or128 a hr.1 hr.2]) k hn
theorem t_shr7 {x y : Operand} {t t' : TypeId} {a : Int} (hx : ev L x = some (I a)) (hy : ev L y = some (.int .u64 7)) (k : WT P n ops Q r ((d, I (a / 128)) :: L) w) (hn : Nat.blt d n = true) : WT P n ops Q (.st m ⟨some d, .binOp .shr t x y t', ty, pos, af, none⟩ r) L w :=
  t_read (fun e ha _ _ _ w' _ => by simp [execOp, ha.ev hx, ha.ev hy, eqGuard, binOp, shift_shr_any, IntKind.bits]) k hn
end
theorem nilR {α : Type} {T : Ty α} {w : World} : SlR T w (.slice none 0 0) [] := (SlO.nil (e := 0) (base := 0)).read
theorem byte_lit (k : Int) {w : World} : byteT.R w [.int .u8 (IntKind.u8.wrap k)] (bt k) := by
  show _ = _; rw [← bt_toNat]
/-- A number as_ bytes. -/
def venc (n : Nat) : List UInt8 := if h : n < 128 then [bt n] else bt ((n : Int) % 128 + 128) :: venc (n / 128)
termination_by n
decreasing_by omega
theorem venc_small {n : Nat} (h : n < 128) : venc n = [bt n] := by rw [venc, dif_pos h]
theorem venc_big {n : Nat} (h : ¬ n < 128) : venc n = bt ((n : Int) % 128 + 128) :: venc (n / 128) := by rw [venc, dif_neg h]
theorem venc_len : ∀ (k n : Nat), n < 128 ^ (k + 1) → (venc n).length ≤ k + 1
  | 0, n, h => by rw [venc_small (by omega)]; simp
  | k + 1, n, h => by
    by_cases hs : n < 128
    · rw [venc_small hs]; simp
    · rw [venc_big hs, List.length_cons]
      have := venc_len k (n / 128) (by rw [Nat.div_lt_iff_lt_mul (by omega)]; rw [Nat.pow_succ] at h; exact h)
      omega
def vint (n : Int) : List UInt8 := if inR n 0 1000000000000 then venc n.toNat else []
theorem vint_len (n : Int) : (vint n).length ≤ 6 := by
  unfold vint
  split
  · rename_i h
    have := inR_iff.1 h
    exact venc_len 5 _ (by omega)
  · simp
theorem impl_copyBytes (b : List UInt8) (v : Value) (w : World) (h : SlR byteT w v b) (hz : b.length ≤ 1000000000) : Calls Tryz.prog 102 #[v] w fun e w' => ∃ v fp, e = .returned v ∧ SlO byteT 5 w.heap.size w' v b fp ∧ Below w.heap.size w w' := by
  have X0 := Below.refl w.heap.size w
  refine enter Tryz.func102 rfl Tryz.ntmps102 rfl ?_
  refine w_s ?_
  refine w_g ?_
  have S := Sep.nil w
  have B := Below.refl w.heap.size w
  have Hb := Nat.le_refl w.heap.size
  refine t_a rfl ?_ rfl
  refine t_d ?_
  refine x_s ?_
  refine w_s ?_
  refine w_g ?_
  refine t_lit (T := byteT) (css := []) (l := []) byte_flat S bs_byte0 rfl rfl rfl rfl (Nat.zero_le _) litR_nil ?_ rfl rfl
  intro u3 w1 x2 S
  have B := bx Hb B x2
  refine t_m rfl ?_ rfl
  refine t_cat byte_flat e_byte S (by first | assumption | exact SlR.below ‹_› B) rfl rfl rfl (by first | omega | (simp [-List.length_flatMap]; omega)) (by (simp [maxLen, -List.length_flatMap]; try omega)) ?_ rfl
  intro v5 w3 x4 S
  have B := B.trans x4
  refine t_a rfl ?_ rfl
  refine t_d ?_
  refine x_s ?_
  refine w_r ?_
  refine x_ret1 rfl rfl ?_
  obtain ⟨fp, hO⟩ := (S.mono X0.size).head
  exact ⟨_, fp, rfl, hO, ext_trans X0 B⟩
theorem impl_AppendVarint (b : List UInt8) (v : Value) (i : Int) (w : World) (h : SlR byteT w v b) (hz : b.length ≤ 900000000) : Calls Tryz.prog 138 #[v, I i] w fun e w' => ∃ v fp, e = .returned v ∧ SlO byteT 5 w.heap.size w' v (b ++ vint i) fp ∧ Below w.heap.size w w' := by
 have X0 := Below.refl w.heap.size w
 refine enter Tryz.func138 rfl Tryz.ntmps138 rfl ?_
 refine w_s ?_
 refine w_g ?_
 have S := Sep.nil w
 have B := Below.refl w.heap.size w
 have Hb := Nat.le_refl w.heap.size
 refine t_a rfl ?_ rfl
 refine t_d ?_
 refine x_s ?_
 refine w_s ?_
 refine w_g ?_
 refine t_m rfl ?_ rfl
 refine t_c Tryz.call102 rfl (impl_copyBytes _ _ _ (by first | assumption | exact SlR.below ‹_› B) (by omega)) ?_ rfl rfl
 rintro e w5 ⟨v7, fpv7, rfl, hOv7, x6⟩
 refine ⟨_, rfl, x6, ?_⟩
 have S := S.add (o := slO _ _ _ _) x6 hOv7
 have B := bx Hb B x6
 refine t_a rfl ?_ rfl
 refine t_d ?_
 refine x_s ?_
 iterate 2 refine w_s ?_
 refine w_g ?_
 refine t_m rfl ?_ rfl
 refine t_calls Tryz.call61 rfl (impl_InRange _ _ _ _) ?_ rfl rfl
 refine t_notb rfl ?_ rfl
 refine t_d ?_
 refine x_s ?_
 refine w_ifb rfl ?_ ?_
 ·intro h1
  refine w_s ?_
  refine w_g ?_
  refine t_m rfl ?_ rfl
  refine t_a rfl ?_ rfl
  refine t_d ?_
  refine x_s ?_
  refine w_r ?_
  refine x_t ?_
  refine x_ret1 rfl rfl ?_
  have h1' : inR i 0 1000000000000 = false := by simpa using h1
  obtain ⟨fp, hO⟩ := (S.mono X0.size).head
  have hv : vint i = [] := by rw [vint, h1']; rfl
  exact ⟨_, fp, rfl, by rw [hv, List.append_nil]; exact hO, ext_trans X0 B⟩
 ·intro h1
  have h1' : inR i 0 1000000000000 = true := by simpa using h1
  have r1 := inR_iff.1 h1'
  have hlen := vint_len i
  obtain ⟨n, rfl⟩ : ∃ n : Nat, i = n := ⟨i.toNat, by omega⟩
  have hv : vint n = venc n := by rw [vint, if_pos h1']; rfl
  refine w_k ?_
  refine x_s ?_
  refine w_s ?_
  refine w_block ?_
  refine w_loop (X := Nat × List UInt8 × Value) (fun x wq => (fun m acc v => m ≤ 1000000000000 ∧ acc ++ venc m = vint n ∧ Below w.heap.size w wq ∧ Sep w.heap.size wq [slO byteT 5 v (b ++ acc)]) x.1 x.2.1 x.2.2) (fun x => (fun m acc v => [(1, I ((m : Int))), (5, v), (4, .slice none 0 0)]) x.1 x.2.1 x.2.2) (fun x => (fun m acc v => m) x.1 x.2.1 x.2.2) (n, [], v7) ?_ ⟨rfl, rfl, rfl, trivial⟩ ?_
  ·exact ⟨by omega, by rw [hv]; rfl, B, by simpa using S⟩
  ·rintro ⟨m, acc, v⟩ w7 hI
   try dsimp only at hI ⊢
   obtain ⟨hk, ha, B, S⟩ := hI
   have hal : acc.length ≤ 6 := by have := congrArg List.length ha; rw [List.length_append] at this; omega
   have hbl : (b ++ acc).length ≤ 950000000 := by rw [List.length_append]; omega
   iterate 2 refine w_s ?_
   refine w_g ?_
   refine t_m rfl ?_ rfl
   refine t_geq rfl rfl ?_ rfl
   refine t_d ?_
   refine x_s ?_
   refine w_if rfl ?_ ?_
   ·intro hlt
    refine w_k ?_
    refine x_s ?_
    refine w_block ?_
    refine w_s ?_
    refine w_g ?_
    iterate 2 refine t_m rfl ?_ rfl
    refine t_rem rfl rfl (by omega) ?_ rfl
    refine t_add rfl rfl (by omega) ?_ rfl
    refine t_conv Tryz.underlying3 Tryz.underlying5 rfl ?_ rfl
    refine t_lit (T := byteT) (l := [bt (((m : Int) % 128) + 128)]) (css := [[.int .u8 (IntKind.u8.wrap (((m : Int) % 128) + 128))]]) byte_flat S (fun w => bs_byte1 _ w) rfl rfl rfl rfl (by simp [maxLen]) (litR_one fun _ => byte_lit _) ?_ rfl rfl
    intro u19 w8 x9 S
    have B := bx Hb B x9
    have hR := S.sl
    have S := S.f1
    refine t_cat byte_flat e_byte S hR rfl rfl rfl (by first | omega | (simp [-List.length_flatMap]; omega)) (by (simp [maxLen, -List.length_flatMap]; try omega)) ?_ rfl
    intro v20 w10 x11 S
    have B := B.trans x11
    clear hR
    have S := S.f1.tail
    refine t_a rfl ?_ rfl
    refine t_d ?_
    refine x_s ?_
    refine w_g ?_
    refine t_m rfl ?_ rfl
    refine t_quo rfl rfl (by omega) ?_ rfl
    refine t_a rfl ?_ rfl
    refine t_d ?_
    refine x_b ?_
    refine x_r (X := Nat × List UInt8 × Value) (m / 128, acc ++ [bt ((m : Int) % 128 + 128)], v20) ?_ (by exact ⟨rfl, rfl, rfl, trivial⟩) (by (try dsimp only); omega)
    try dsimp only
    refine ⟨by omega, ?_, B, by simpa using S⟩
    rw [List.append_assoc, ← ha, venc_big (n := m) (by omega)]
    rfl
   ·intro hge
    refine w_exit ?_
    iterate 2 refine x_then_exit ?_
    refine x_block_exit ?_
    refine x_s ?_
    refine w_s ?_
    refine w_g ?_
    iterate 2 refine t_m rfl ?_ rfl
    refine t_conv Tryz.underlying3 Tryz.underlying5 rfl ?_ rfl
    refine t_lit (T := byteT) (l := [bt (m : Int)]) (css := [[.int .u8 (IntKind.u8.wrap (m : Int))]]) byte_flat S (fun w => bs_byte1 _ w) rfl rfl rfl rfl (by simp [maxLen]) (litR_one fun _ => byte_lit _) ?_ rfl rfl
    intro u26 w12 x13 S
    have B := bx Hb B x13
    have hR := S.sl
    have S := S.f1
    refine t_cat byte_flat e_byte S hR rfl rfl rfl (by first | omega | (simp [-List.length_flatMap]; omega)) (by (simp [maxLen, -List.length_flatMap]; try omega)) ?_ rfl
    intro v27 w14 x15 S
    have B := B.trans x15
    clear hR
    have S := S.f1.tail
    refine t_a rfl ?_ rfl
    refine t_d ?_
    refine x_s ?_
    refine w_r ?_
    refine x_ret1 rfl rfl ?_
    obtain ⟨fp, hO⟩ := (S.mono X0.size).head
    refine ⟨_, fp, rfl, ?_, ext_trans X0 B⟩
    rw [← ha, venc_small (by omega), ← List.append_assoc]
    exact hO
theorem spec_AppendVarint (b : List UInt8) (v : Value) (i : Int) (w : World) (h : SlR byteT w v b) (hz : b.length ≤ 900000000) : Calls Tryz.prog 145 #[v, I i] w fun e w' => ∃ v fp, e = .returned v ∧ SlO byteT 5 w.heap.size w' v (b ++ vint i) fp ∧ Below w.heap.size w w' := by
 have X0 := Below.refl w.heap.size w
 refine enter Tryz.func145 rfl Tryz.ntmps145 rfl ?_
 refine w_s ?_
 refine w_g ?_
 have S := Sep.nil w
 have B := Below.refl w.heap.size w
 have Hb := Nat.le_refl w.heap.size
 refine t_a rfl ?_ rfl
 refine t_d ?_
 refine x_s ?_
 refine w_s ?_
 refine w_g ?_
 refine t_lit (T := byteT) (css := []) (l := []) byte_flat S bs_byte0 rfl rfl rfl rfl (Nat.zero_le _) litR_nil ?_ rfl rfl
 intro u6 w16 x17 S
 have B := bx Hb B x17
 refine t_m rfl ?_ rfl
 refine t_cat byte_flat e_byte S (by first | assumption | exact SlR.below ‹_› B) rfl rfl rfl (by first | omega | (simp [-List.length_flatMap]; omega)) (by (simp [maxLen, -List.length_flatMap]; try omega)) ?_ rfl
 intro v8 w18 x19 S
 have B := B.trans x19
 refine t_a rfl ?_ rfl
 refine t_d ?_
 refine x_s ?_
 iterate 2 refine w_s ?_
 refine w_g ?_
 refine t_m rfl ?_ rfl
 refine t_calls Tryz.call64 rfl (spec_l1In _ _ _ _) ?_ rfl rfl
 refine t_notb rfl ?_ rfl
 refine t_d ?_
 refine x_s ?_
 refine w_ifb rfl ?_ ?_
 ·intro h1
  refine w_s ?_
  refine w_g ?_
  refine t_m rfl ?_ rfl
  refine t_a rfl ?_ rfl
  refine t_d ?_
  refine x_s ?_
  refine w_r ?_
  refine x_t ?_
  refine x_ret1 rfl rfl ?_
  have h1' : inR i 0 1000000000000 = false := by simpa using h1
  obtain ⟨fp, hO⟩ := (S.mono X0.size).head
  have hv : vint i = [] := by rw [vint, h1']; rfl
  exact ⟨_, fp, rfl, by rw [hv, List.append_nil]; exact hO, ext_trans X0 B⟩
 ·intro h1
  have h1' : inR i 0 1000000000000 = true := by simpa using h1
  have r1 := inR_iff.1 h1'
  have hlen := vint_len i
  obtain ⟨n, rfl⟩ : ∃ n : Nat, i = n := ⟨i.toNat, by omega⟩
  have hv : vint n = venc n := by rw [vint, if_pos h1']; rfl
  refine w_k ?_
  refine x_s ?_
  refine w_s ?_
  refine w_block ?_
  refine w_loop (X := Nat × List UInt8 × Value) (fun x wq => (fun m acc v => m ≤ 1000000000000 ∧ acc ++ venc m = vint n ∧ Below w.heap.size w wq ∧ Sep w.heap.size wq [slO byteT 5 v (b ++ acc)]) x.1 x.2.1 x.2.2) (fun x => (fun m acc v => [(1, I ((m : Int))), (5, v), (4, .slice none 0 0)]) x.1 x.2.1 x.2.2) (fun x => (fun m acc v => m) x.1 x.2.1 x.2.2) (n, [], v8) ?_ ⟨rfl, rfl, rfl, trivial⟩ ?_
  ·exact ⟨by omega, by rw [hv]; rfl, B, by simpa using S⟩
  ·rintro ⟨m, acc, v⟩ w20 hI
   try dsimp only at hI ⊢
   obtain ⟨hk, ha, B, S⟩ := hI
   have hal : acc.length ≤ 6 := by have := congrArg List.length ha; rw [List.length_append] at this; omega
   have hbl : (b ++ acc).length ≤ 950000000 := by rw [List.length_append]; omega
   iterate 2 refine w_s ?_
   refine w_g ?_
   refine t_m rfl ?_ rfl
   refine t_gtr rfl rfl ?_ rfl
   refine t_d ?_
   refine x_s ?_
   refine w_if rfl ?_ ?_
   ·intro hlt
    refine w_k ?_
    refine x_s ?_
    refine w_block ?_
    refine w_s ?_
    refine w_g ?_
    iterate 2 refine t_m rfl ?_ rfl
    refine t_and127 rfl rfl ?_ rfl
    refine t_or128 rfl rfl (by omega) ?_ rfl
    refine t_conv Tryz.underlying3 Tryz.underlying5 rfl ?_ rfl
    refine t_lit (T := byteT) (l := [bt (((m : Int) % 128) + 128)]) (css := [[.int .u8 (IntKind.u8.wrap (((m : Int) % 128) + 128))]]) byte_flat S (fun w => bs_byte1 _ w) rfl rfl rfl rfl (by simp [maxLen]) (litR_one fun _ => byte_lit _) ?_ rfl rfl
    intro u20 w21 x22 S
    have B := bx Hb B x22
    have hR := S.sl
    have S := S.f1
    refine t_cat byte_flat e_byte S hR rfl rfl rfl (by first | omega | (simp [-List.length_flatMap]; omega)) (by (simp [maxLen, -List.length_flatMap]; try omega)) ?_ rfl
    intro v21 w23 x24 S
    have B := B.trans x24
    clear hR
    have S := S.f1.tail
    refine t_a rfl ?_ rfl
    refine t_d ?_
    refine x_s ?_
    refine w_g ?_
    refine t_m rfl ?_ rfl
    refine t_shr7 rfl rfl ?_ rfl
    refine t_a rfl ?_ rfl
    refine t_d ?_
    refine x_b ?_
    refine x_r (X := Nat × List UInt8 × Value) (m / 128, acc ++ [bt ((m : Int) % 128 + 128)], v21) ?_ (by exact ⟨rfl, rfl, rfl, trivial⟩) (by (try dsimp only); omega)
    try dsimp only
    refine ⟨by omega, ?_, B, by simpa using S⟩
    rw [List.append_assoc, ← ha, venc_big (n := m) (by omega)]
    rfl
   ·intro hge
    refine w_exit ?_
    iterate 2 refine x_then_exit ?_
    refine x_block_exit ?_
    refine x_s ?_
    refine w_s ?_
    refine w_g ?_
    iterate 2 refine t_m rfl ?_ rfl
    refine t_conv Tryz.underlying3 Tryz.underlying5 rfl ?_ rfl
    refine t_lit (T := byteT) (l := [bt (m : Int)]) (css := [[.int .u8 (IntKind.u8.wrap (m : Int))]]) byte_flat S (fun w => bs_byte1 _ w) rfl rfl rfl rfl (by simp [maxLen]) (litR_one fun _ => byte_lit _) ?_ rfl rfl
    intro u27 w25 x26 S
    have B := bx Hb B x26
    have hR := S.sl
    have S := S.f1
    refine t_cat byte_flat e_byte S hR rfl rfl rfl (by first | omega | (simp [-List.length_flatMap]; omega)) (by (simp [maxLen, -List.length_flatMap]; try omega)) ?_ rfl
    intro v28 w27 x28 S
    have B := B.trans x28
    clear hR
    have S := S.f1.tail
    refine t_a rfl ?_ rfl
    refine t_d ?_
    refine x_s ?_
    refine w_r ?_
    refine x_ret1 rfl rfl ?_
    obtain ⟨fp, hO⟩ := (S.mono X0.size).head
    refine ⟨_, fp, rfl, ?_, ext_trans X0 B⟩
    rw [← ha, venc_small (by omega), ← List.append_assoc]
    exact hO
theorem flat_vint (l : List Int) : (l.flatMap vint).length ≤ 6 * l.length := len_flat_le _ 6 l fun x _ => vint_len x
theorem flat_take {α β : Type} (g : α → List β) (l : List α) (k : Nat) : ((l.take k).flatMap g).length ≤ (l.flatMap g).length := by
  conv => rhs; rw [← List.take_append_drop k l]
  rw [List.flatMap_append, List.length_append]; omega
theorem impl_appendInts (b : List UInt8) (v : Value) (l : List Int) (u : Value) (w : World) (h : SlR byteT w v b) (h' : SlR intT w u l) (hz : b.length ≤ 500000000) (hz' : l.length ≤ 16777216) (hne : l ≠ []) : Calls Tryz.prog 137 #[v, u] w fun e w' => ∃ v fp, e = .returned v ∧ SlO byteT 5 w.heap.size w' v (b ++ l.flatMap vint) fp ∧ Below w.heap.size w w' := by
 have hfl := flat_vint l
 have hpos : 0 < l.length := List.length_pos_iff.2 hne
 have X0 := Below.refl w.heap.size w
 refine enter Tryz.func137 rfl Tryz.ntmps137 rfl ?_
 refine w_s ?_
 refine w_g ?_
 have S := Sep.nil w
 have B := Below.refl w.heap.size w
 have Hb := Nat.le_refl w.heap.size
 refine t_a rfl ?_ rfl
 refine t_d ?_
 refine x_s ?_
 iterate 2 refine w_s ?_
 refine w_g ?_
 refine t_m rfl ?_ rfl
 refine t_len e_int ‹_› rfl rfl ?_ rfl
 refine t_m rfl ?_ rfl
 refine t_d ?_
 refine x_s ?_
 refine w_block ?_
 refine w_loop (X := Nat × Value) (fun x wq => (fun k q => k ≤ l.length ∧ SlR byteT wq q (b ++ (l.take k).flatMap vint) ∧ (k ≠ 0 → ∃ fp, SlO byteT 5 w.heap.size wq q (b ++ (l.take k).flatMap vint) fp) ∧ Below w.heap.size w wq ∧ Sep w.heap.size wq []) x.1 x.2) (fun x => (fun k q => [(9, I ((k : Int))), (0, q), (4, .slice none 0 0), (7, u), (8, I ((l.length : Int)))]) x.1 x.2) (fun x => (fun k q => l.length - k) x.1 x.2) (0, v) ?_ ⟨rfl, rfl, rfl, rfl, rfl, trivial⟩ ?_
 ·exact ⟨by omega, by simpa using h, fun q => absurd rfl q, B, S⟩
 ·rintro ⟨k, q⟩ w29 hI
  try dsimp only at hI ⊢
  obtain ⟨hk, hq, hO, B, S⟩ := hI
  have hft := flat_take vint l k
  have hbl : (b ++ (l.take k).flatMap vint).length ≤ 800000000 := by rw [List.length_append]; omega
  refine w_s ?_
  refine w_g ?_
  refine t_lss rfl rfl ?_ rfl
  refine t_d ?_
  refine x_s ?_
  refine w_s ?_
  refine w_if rfl ?_ ?_
  ·intro hlt
   refine w_k ?_
   refine x_s ?_
   refine w_s ?_
   refine w_block ?_
   refine w_s ?_
   refine w_g ?_
   obtain ⟨e11, he11⟩ : ∃ e, (l)[k]? = some e := getx (by omega)
   refine t_idx e_int (k := k) ‹_› he11 B rfl rfl (by first | rfl | omega) ?_ rfl
   intro p11 hp11
   refine t_ldi ‹_› ab_int B rfl ?_ rfl
   refine t_a rfl ?_ rfl
   refine t_d ?_
   refine x_s ?_
   refine w_g ?_
   iterate 2 refine t_m rfl ?_ rfl
   refine t_c Tryz.call138 rfl (impl_AppendVarint _ _ _ _ (by first | assumption | exact SlR.below ‹_› B) (by first | omega | (simp only [List.nil_append]; omega))) ?_ rfl rfl
   rintro e w30 ⟨v15, fpv15, rfl, hOv15, x31⟩
   refine ⟨_, rfl, x31, ?_⟩
   have S := S.add (o := slO _ _ _ _) x31 hOv15
   have B := bx Hb B x31
   refine t_a rfl ?_ rfl
   refine t_d ?_
   refine x_b ?_
   refine x_s ?_
   refine w_g ?_
   refine t_add rfl rfl (by omega) ?_ rfl
   refine t_m rfl ?_ rfl
   refine t_d ?_
   have hR := S.sl
   have hO2 := S.head
   have S := S.tail
   refine x_r (X := Nat × Value) (k + 1, v15) ?_ (by exact ⟨rfl, rfl, rfl, rfl, rfl, trivial⟩) (by (try dsimp only); omega)
   try dsimp only
   rw [flat_snoc he11, ← List.append_assoc]
   exact ⟨by omega, hR, fun _ => hO2, B, S⟩
  ·intro hge
   refine w_exit ?_
   iterate 2 refine x_then_exit ?_
   refine x_block_exit ?_
   refine x_s ?_
   refine w_s ?_
   refine w_g ?_
   refine t_m rfl ?_ rfl
   refine t_a rfl ?_ rfl
   refine t_d ?_
   refine x_s ?_
   refine w_r ?_
   refine x_ret1 rfl rfl ?_
   have : k = l.length := by omega
   subst this
   rw [List.take_length] at hO
   obtain ⟨fp, hO⟩ := hO (by omega)
   exact ⟨_, fp, rfl, hO.mono X0.size, ext_trans X0 B⟩
theorem spec_EncodeInts (l : List Int) (u : Value) (w : World) (h' : SlR intT w u l) (hz' : l.length ≤ 16777216) : Calls Tryz.prog 98 #[u] w fun e w' => ∃ v fp, e = .returned v ∧ SlO byteT 5 w.heap.size w' v (l.flatMap vint) fp ∧ Below w.heap.size w w' := by
 have hfl := flat_vint l
 have X0 := Below.refl w.heap.size w
 refine enter Tryz.func98 rfl Tryz.ntmps98 rfl ?_
 refine w_s ?_
 refine w_g ?_
 have S := Sep.nil w
 have B := Below.refl w.heap.size w
 have Hb := Nat.le_refl w.heap.size
 refine t_a rfl ?_ rfl
 refine t_d ?_
 refine x_s ?_
 refine w_s ?_
 refine w_g ?_
 refine t_lit (T := byteT) (css := []) (l := []) byte_flat S bs_byte0 rfl rfl rfl rfl (Nat.zero_le _) litR_nil ?_ rfl rfl
 intro u5 w32 x33 S
 have B := bx Hb B x33
 refine t_a rfl ?_ rfl
 refine t_d ?_
 refine x_s ?_
 iterate 2 refine w_s ?_
 refine w_g ?_
 refine t_a rfl ?_ rfl
 refine t_d ?_
 refine x_s ?_
 refine w_block ?_
 refine w_loop (X := Nat × Value) (fun x wq => (fun k v => k ≤ l.length ∧ Below w.heap.size w wq ∧ Sep w.heap.size wq [slO byteT 5 v ((l.take k).flatMap vint)]) x.1 x.2) (fun x => (fun k v => [(4, I ((k : Int))), (3, v), (0, u), (2, .slice none 0 0)]) x.1 x.2) (fun x => (fun k v => l.length - k) x.1 x.2) (0, u5) ?_ ⟨rfl, rfl, rfl, rfl, trivial⟩ ?_
 ·exact ⟨by omega, B, S⟩
 ·rintro ⟨k, v⟩ w34 hI
  try dsimp only at hI ⊢
  obtain ⟨hk, B, S⟩ := hI
  have hft := flat_take vint l k
  iterate 2 refine w_s ?_
  refine w_g ?_
  iterate 2 refine t_m rfl ?_ rfl
  refine t_len e_int ‹_› rfl rfl ?_ rfl
  refine t_lss rfl rfl ?_ rfl
  refine t_d ?_
  refine x_s ?_
  refine w_if rfl ?_ ?_
  ·intro hlt
   refine w_k ?_
   refine x_s ?_
   refine w_s ?_
   refine w_block ?_
   refine w_g ?_
   iterate 3 refine t_m rfl ?_ rfl
   obtain ⟨e15, he15⟩ : ∃ e, (l)[k]? = some e := getx (by omega)
   refine t_idx e_int (k := k) ‹_› he15 B rfl rfl (by first | rfl | omega) ?_ rfl
   intro p15 hp15
   refine t_ldi ‹_› ab_int B rfl ?_ rfl
   refine t_c Tryz.call145 rfl (spec_AppendVarint _ _ _ _ (S.sl) (by first | omega | (simp only [List.nil_append]; omega))) ?_ rfl rfl
   rintro e w35 ⟨v17, fpv17, rfl, hOv17, x36⟩
   refine ⟨_, rfl, x36, ?_⟩
   have S := S.add (o := slO _ _ _ _) x36 hOv17
   have B := bx Hb B x36
   refine t_a rfl ?_ rfl
   refine t_d ?_
   refine x_b ?_
   refine x_s ?_
   refine w_g ?_
   refine t_m rfl ?_ rfl
   refine t_add rfl rfl (by omega) ?_ rfl
   refine t_a rfl ?_ rfl
   refine t_d ?_
   have S := S.f1.tail
   refine x_r (X := Nat × Value) (k + 1, v17) ?_ (by exact ⟨rfl, rfl, rfl, rfl, trivial⟩) (by (try dsimp only); omega)
   try dsimp only
   rw [flat_snoc he15]
   exact ⟨by omega, B, S⟩
  ·intro hge
   refine w_exit ?_
   iterate 2 refine x_then_exit ?_
   refine x_block_exit ?_
   refine x_s ?_
   refine w_s ?_
   refine w_g ?_
   refine t_m rfl ?_ rfl
   refine t_a rfl ?_ rfl
   refine t_d ?_
   refine x_s ?_
   refine w_r ?_
   refine x_ret1 rfl rfl ?_
   have : k = l.length := by omega
   subst this
   rw [List.take_length] at S
   obtain ⟨fp, hO⟩ := (S.mono X0.size).head
   exact ⟨_, fp, rfl, hO, ext_trans X0 B⟩
def hopEnc (x : Hop) : List UInt8 := if validHop x then (piH x).flatMap vint else []
theorem impl_AppendHop (b : List UInt8) (v : Value) (x : Hop) (w : World) (h : SlR byteT w v b) (hz : b.length ≤ 400000000) : Calls Tryz.prog 139 #[v, .agg #[I x.ia, I x.ing, I x.eg, I x.exp, I x.mac]] w fun e w' => ∃ v fp, e = .returned v ∧ SlO byteT 5 w.heap.size w' v (b ++ hopEnc x) fp ∧ Below w.heap.size w w' := by
 have hx := hop_mkv w x
 have hpl : (piH x).length = 5 := rfl
 have X0 := Below.refl w.heap.size w
 refine enter Tryz.func139 rfl Tryz.ntmps139 rfl ?_
 refine w_s ?_
 refine w_g ?_
 refine t_boxr ‹_› rfl ?_ rfl rfl
 intro p3 w37 x38 hp3
 replace h := h.below x38
 replace hx := hx.below x38
 have X0 := ext_trans X0 x38
 have S := Sep.nil w37
 have B := Below.refl w37.heap.size w37
 have Hb := Nat.le_refl w37.heap.size
 refine t_a rfl ?_ rfl
 refine t_d ?_
 refine x_s ?_
 iterate 2 refine w_s ?_
 refine w_g ?_
 refine t_lda ‹_› ab_hop sb_hop B rfl ?_ rfl
 intro v5 hv5
 obtain rfl := hop_va hv5
 refine t_x Tryz.call156 rfl (impl_ValidHop x _) ?_ rfl rfl
 intro w39 x40
 have B := bx Hb B x40
 have S := S.below x40
 refine t_notb rfl ?_ rfl
 refine t_d ?_
 refine x_s ?_
 refine w_ifb rfl ?_ ?_
 ·intro h1
  have h1' : validHop x = false := by simpa using h1
  refine w_s ?_
  refine w_g ?_
  refine t_m rfl ?_ rfl
  refine t_c Tryz.call102 rfl (impl_copyBytes _ _ _ (by first | assumption | exact SlR.below ‹_› B) (by omega)) ?_ rfl rfl
  rintro e w41 ⟨v9, fpv9, rfl, hOv9, x42⟩
  refine ⟨_, rfl, x42, ?_⟩
  have S := S.add (o := slO _ _ _ _) x42 hOv9
  have B := bx Hb B x42
  refine t_a rfl ?_ rfl
  refine t_d ?_
  refine x_s ?_
  refine w_r ?_
  refine x_t ?_
  refine x_ret1 rfl rfl ?_
  obtain ⟨fp, hO⟩ := (S.mono X0.size).head
  exact ⟨_, fp, rfl, by rw [hopEnc, h1', if_neg (by simp), List.append_nil]; exact hO, ext_trans X0 B⟩
 ·intro h1
  have h1' : validHop x = true := by simpa using h1
  refine w_k ?_
  refine x_s ?_
  refine w_s ?_
  refine w_draw (.st .take 0 (.st .take 2 (.st .run 1 (.st .run 3 (.st .run 4 (.st .take 5 .done)))))) mixed (by kernel_rfl) ?_
  intro w43 x44
  have B := bx Hb B x44
  have S := S.below x44
  refine t_m rfl ?_ rfl
  refine t_lda ‹_› ab_hop sb_hop B rfl ?_ rfl
  intro v12 hv12
  obtain rfl := hop_va hv12
  refine t_c Tryz.call102 rfl (impl_copyBytes _ _ _ (by first | assumption | exact SlR.below ‹_› B) (by omega)) ?_ rfl rfl
  rintro e w45 ⟨v11, fpv11, rfl, hOv11, x46⟩
  refine ⟨_, rfl, x46, ?_⟩
  have S := S.add (o := slO _ _ _ _) x46 hOv11
  have B := bx Hb B x46
  refine t_c Tryz.call165 rfl (impl_hopInts _ _) ?_ rfl rfl
  rintro e w47 ⟨v13, fpv13, rfl, hOv13, x48⟩
  refine ⟨_, rfl, x48, ?_⟩
  have S := S.add (o := slO _ _ _ _) x48 hOv13
  have B := bx Hb B x48
  refine t_c Tryz.call137 rfl (impl_appendInts _ _ _ _ _ (S.tail.sl) (S.sl) (by omega) (by first | omega | (simp; done) | (simp; omega)) (by first | (simp; done) | (simp [piH]; done))) ?_ rfl rfl
  rintro e w49 ⟨v14, fpv14, rfl, hOv14, x50⟩
  refine ⟨_, rfl, x50, ?_⟩
  have S := S.add (o := slO _ _ _ _) x50 hOv14
  have B := bx Hb B x50
  refine t_a rfl ?_ rfl
  refine t_d' ?_
  refine x_s ?_
  refine w_r ?_
  refine x_ret1 rfl rfl ?_
  obtain ⟨fp, hO⟩ := (S.mono X0.size).head
  exact ⟨_, fp, rfl, by rw [hopEnc, h1', if_pos rfl]; exact hO, ext_trans X0 B⟩
def pathEnc (p : Path) : List UInt8 := if encPath p then vint (p.length : Int) ++ (pathInts p).flatMap vint else []
theorem enc_valid {p : Path} {k j : Nat} {x : Part} {y : Hop} (h : encPath p = true) (hx : p[k]? = some x) (hy : x.hops[j]? = some y) : validHop y = true := by
  unfold encPath at h
  rw [Bool.and_eq_true, List.all_eq_true] at h
  have h2 := h.2 x (List.mem_of_getElem? hx)
  unfold encPart encHops at h2
  simp only [Bool.and_eq_true, List.all_eq_true] at h2
  exact h2.2.2.2 y (List.mem_of_getElem? hy)
theorem impl_AppendPath (b : List UInt8) (v : Value) (p : Path) (u : Value) (w : World) (h : SlR byteT w v b) (h' : VA pathT w u p) (hz : b.length ≤ 100000000) (hz' : sz_path p ≤ 1048576) (hl : lenOk_path p) (hg : rng_path p) : Calls Tryz.prog 86 #[v, u] w fun e w' => ∃ v fp, e = .returned v ∧ SlO byteT 5 w.heap.size w' v (b ++ pathEnc p) fp ∧ Below w.heap.size w w' := by
 have hT : (intsOf piP piH p).length ≤ 5 * sz_path p := pathInts_len p
 have hpl : List.length p ≤ sz_path p := by show List.length p ≤ List.length p + _; omega
 have hv0 := vint_len (List.length p : Int)
 have X0 := Below.refl w.heap.size w
 refine enter Tryz.func86 rfl Tryz.ntmps86 rfl ?_
 refine w_s ?_
 refine w_g ?_
 refine t_boxr ‹_› rfl ?_ rfl rfl
 intro p3 w51 x52 hp3
 replace h := h.below x52
 replace h' := h'.below x52
 have X0 := ext_trans X0 x52
 have S := Sep.nil w51
 have B := Below.refl w51.heap.size w51
 have Hb := Nat.le_refl w51.heap.size
 refine t_a rfl ?_ rfl
 refine t_d ?_
 refine x_s ?_
 refine w_s ?_
 refine w_g ?_
 refine t_m rfl ?_ rfl
 refine t_c Tryz.call102 rfl (impl_copyBytes _ _ _ (by first | assumption | exact SlR.below ‹_› B) (by omega)) ?_ rfl rfl
 rintro e w53 ⟨v11, fpv11, rfl, hOv11, x54⟩
 refine ⟨_, rfl, x54, ?_⟩
 have S := S.add (o := slO _ _ _ _) x54 hOv11
 have B := bx Hb B x54
 refine t_a rfl ?_ rfl
 refine t_d ?_
 refine x_s ?_
 iterate 2 refine w_s ?_
 refine w_g ?_
 refine t_lda ‹_› ab_path sb_path B rfl ?_ rfl
 intro v12 hv12
 obtain ⟨v12_0, rfl, hv12_0⟩ := path_va hv12
 refine t_x Tryz.call105 rfl (va1 (by first | assumption | exact VA.below ‹_› B | exact path_mkv (by first | assumption | exact SlR.below ‹_› B)) fun cs h => impl_EncodablePath _ cs _ h (by omega) ‹_› ‹_›) ?_ rfl rfl
 intro w55 x56
 have B := bx Hb B x56
 have S := S.below x56
 refine t_notb rfl ?_ rfl
 refine t_d ?_
 refine x_s ?_
 refine w_ifb rfl ?_ ?_
 ·intro h1
  have h1' : encPath p = false := by simpa using h1
  refine w_s ?_
  refine w_g ?_
  refine t_m rfl ?_ rfl
  refine t_a rfl ?_ rfl
  refine t_d ?_
  refine x_s ?_
  refine w_r ?_
  refine x_t ?_
  refine x_ret1 rfl rfl ?_
  obtain ⟨fp, hO⟩ := (S.mono X0.size).head
  exact ⟨_, fp, rfl, by rw [pathEnc, h1', if_neg (by simp), List.append_nil]; exact hO, ext_trans X0 B⟩
 ·intro h1
  have h1' : encPath p = true := by simpa using h1
  refine w_k ?_
  refine x_s ?_
  refine w_s ?_
  refine w_g ?_
  refine t_m rfl ?_ rfl
  refine t_fld ln_path_0 ‹_› fb_path_0 rfl ?_ rfl
  intro p17 hp17
  refine t_lds ‹_› ab_s_part B rfl ?_ rfl
  intro v18 hv18
  refine t_len e_part ‹_› rfl rfl ?_ rfl
  refine t_c Tryz.call138 rfl (impl_AppendVarint _ _ _ _ (S.sl) (by first | omega | (simp only [List.nil_append]; omega))) ?_ rfl rfl
  rintro e w57 ⟨v20, fpv20, rfl, hOv20, x58⟩
  refine ⟨_, rfl, x58, ?_⟩
  have S := S.add (o := slO _ _ _ _) x58 hOv20
  have B := bx Hb B x58
  refine t_a rfl ?_ rfl
  refine t_d ?_
  refine x_s ?_
  iterate 2 refine w_s ?_
  refine w_g ?_
  refine t_fld ln_path_0 ‹_› fb_path_0 rfl ?_ rfl
  intro p21 hp21
  refine t_lds ‹_› ab_s_part B rfl ?_ rfl
  intro v22 hv22
  refine t_len e_part ‹_› rfl rfl ?_ rfl
  refine t_m rfl ?_ rfl
  refine t_d ?_
  refine x_s ?_
  refine w_block ?_
  refine w_loop (X := Nat × Value) (fun x wq => (fun k v => k ≤ List.length p ∧ Below w51.heap.size w51 wq ∧ Sep w51.heap.size wq [slO byteT 5 v (b ++ vint (List.length p : Int) ++ (intsOf piP piH (p.take k)).flatMap vint)]) x.1 x.2) (fun x => (fun k v => [(24, I ((k : Int))), (5, v), (4, .slice none 0 0), (22, v22), (23, I ((p.length : Int)))]) x.1 x.2) (fun x => (fun k v => List.length p - k) x.1 x.2) (0, v20) ?_ ⟨rfl, rfl, rfl, rfl, rfl, trivial⟩ ?_
  ·exact ⟨by omega, B, by simpa [intsOf] using S.f1.tail⟩
  ·rintro ⟨k, v⟩ w59 hI
   try dsimp only at hI ⊢
   obtain ⟨hk, B, S⟩ := hI
   refine w_s ?_
   refine w_g ?_
   refine t_lss rfl rfl ?_ rfl
   refine t_d ?_
   refine x_s ?_
   refine w_s ?_
   refine w_if rfl ?_ ?_
   ·intro hlt
    obtain ⟨e26, he26⟩ : ∃ e, p[k]? = some e := getx (by omega)
    have hml := mem_len_path (List.mem_of_getElem? he26)
    have hle := take_len_le (f := piP) (g := piH) he26 e26.hops.length
    have hp4 : (piP e26).length = 4 := rfl
    have hf1 := flat_vint (intsOf piP piH (p.take k))
    have hbl : (b ++ vint (List.length p : Int) ++ (intsOf piP piH (p.take k)).flatMap vint).length ≤ 200000000 := by rw [List.length_append, List.length_append]; omega
    refine w_k ?_
    refine x_s ?_
    refine w_s ?_
    refine w_block ?_
    refine w_s ?_
    refine w_g ?_
    refine t_idx e_part (k := k) ‹_› he26 B rfl rfl (by first | rfl | omega) ?_ rfl
    intro p26 hp26
    refine t_lda ‹_› ab_part sb_part B rfl ?_ rfl
    intro v27 hv27
    obtain ⟨v27_3, rfl, hv27_3⟩ := part_va hv27
    refine t_w S z_part rfl ?_ rfl rfl
    intro g7 w60 x61 S
    have B := bx Hb B x61
    refine t_stn S sb_part rfl rfl rfl rfl (by repeat first | exact oc0 | refine oc rfl ?_ | refine oc (SlR.cells (by have z := S; repeat first | assumption | exact z.sl | replace z := z.tail)).2 ?_) ?_
    intro w62 b63 S
    have B := B.trans b63
    refine t_d ?_
    refine x_s ?_
    refine w_s ?_
    refine w_g ?_
    refine t_m rfl ?_ rfl
    refine t_y fb_part_0 rfl rfl ?_ rfl
    refine t_bx1 S.box ab_int rfl rfl ?_ rfl
    refine t_y fb_part_1 rfl rfl ?_ rfl
    refine t_bx1 S.box ab_int rfl rfl ?_ rfl
    refine t_y fb_part_2 rfl rfl ?_ rfl
    refine t_bx1 S.box ab_int rfl rfl ?_ rfl
    refine t_y fb_part_3 rfl rfl ?_ rfl
    refine t_bx1 S.box ab_s_hop rfl rfl ?_ rfl
    refine t_len e_hop ‹_› rfl rfl ?_ rfl
    refine t_lit (T := intT) (l := [e26.kind, e26.ts, e26.beta, (e26.hops.length : Int)]) (css := ([e26.kind, e26.ts, e26.beta, (e26.hops.length : Int)]).map fun a => [I a]) int_flat S (fun w => bs_int4 _ _ _ _ w) rfl rfl rfl rfl (by simp [maxLen]) (litR_int _) ?_ rfl rfl
    intro u38 w64 x65 S
    have B := bx Hb B x65
    refine t_c Tryz.call137 rfl (impl_appendInts _ _ _ _ _ (S.tail.tail.sl) (S.sl) (by omega) (by first | omega | (simp; done) | (simp; omega)) (by first | (simp; done) | (simp [piH]; done))) ?_ rfl rfl
    rintro e w66 ⟨v39, fpv39, rfl, hOv39, x67⟩
    refine ⟨_, rfl, x67, ?_⟩
    have S := S.add (o := slO _ _ _ _) x67 hOv39
    have B := bx Hb B x67
    refine t_a rfl ?_ rfl
    refine t_d ?_
    refine x_s ?_
    refine w_s ?_
    refine w_g ?_
    refine t_y fb_part_3 rfl rfl ?_ rfl
    refine t_bx1 S.tail.tail.box ab_s_hop rfl rfl ?_ rfl
    refine t_len e_hop ‹_› rfl rfl ?_ rfl
    refine t_m rfl ?_ rfl
    refine t_d ?_
    refine x_s ?_
    refine w_block ?_
    refine w_loop (X := Nat × Value) (fun x wq => (fun j u => j ≤ e26.hops.length ∧ Below w51.heap.size w51 wq ∧ Sep w51.heap.size wq [slO byteT 5 u (b ++ vint (List.length p : Int) ++ (intsOf piP piH (p.take k)).flatMap vint ++ (piP e26).flatMap vint ++ ((e26.hops.take j).flatMap piH).flatMap vint)]) x.1 x.2) (fun x => (fun j u => [(43, I ((j : Int))), (5, u), (24, I ((k : Int))), (4, .slice none 0 0), (22, v22), (23, I ((p.length : Int))), (41, v27_3), (42, I ((e26.hops.length : Int)))]) x.1 x.2) (fun x => (fun j u => e26.hops.length - j) x.1 x.2) (0, v39) ?_ ⟨rfl, rfl, rfl, rfl, rfl, rfl, rfl, rfl, trivial⟩ ?_
    ·refine ⟨by omega, B, ?_⟩
     rw [List.take_zero, List.flatMap_nil, List.flatMap_nil, List.append_nil]
     exact S.rm1.rm1.rm1
    ·rintro ⟨j, u⟩ w68 hI
     try dsimp only at hI ⊢
     obtain ⟨hj, B, S⟩ := hI
     refine w_s ?_
     refine w_g ?_
     refine t_lss rfl rfl ?_ rfl
     refine t_d ?_
     refine x_s ?_
     refine w_s ?_
     refine w_if rfl ?_ ?_
     ·intro hlt2
      have hle2 := take_len_le (f := piP) (g := piH) he26 j
      have hf2 := flat_vint (piP e26)
      have hf3 := flat_vint ((e26.hops.take j).flatMap piH)
      have hbl2 : (b ++ vint (List.length p : Int) ++ (intsOf piP piH (p.take k)).flatMap vint ++ (piP e26).flatMap vint ++ ((e26.hops.take j).flatMap piH).flatMap vint).length ≤ 400000000 := by rw [List.length_append, List.length_append, List.length_append, List.length_append]; omega
      obtain ⟨e45, he45⟩ : ∃ e, e26.hops[j]? = some e := getx (by omega)
      have hvv := enc_valid h1' he26 he45
      refine w_k ?_
      refine x_s ?_
      refine w_s ?_
      refine w_block ?_
      refine w_s ?_
      refine w_g ?_
      refine t_idx e_hop (k := j) ‹_› he45 B rfl rfl (by first | rfl | omega) ?_ rfl
      intro p45 hp45
      refine t_lda ‹_› ab_hop sb_hop B rfl ?_ rfl
      intro v46 hv46
      obtain rfl := hop_va hv46
      refine t_w S z_hop rfl ?_ rfl rfl
      intro g9 w69 x70 S
      have B := bx Hb B x70
      refine t_stn S sb_hop rfl rfl rfl rfl (by repeat first | exact oc0 | refine oc rfl ?_) ?_
      intro w71 b72 S
      have B := B.trans b72
      refine t_d ?_
      refine x_s ?_
      refine w_g ?_
      refine t_m rfl ?_ rfl
      refine t_b S.box ab_hop sb_hop rfl rfl ?_ rfl
      refine t_c Tryz.call139 rfl (impl_AppendHop _ _ _ _ (S.tail.sl) (by omega)) ?_ rfl rfl
      rintro e w73 ⟨v49, fpv49, rfl, hOv49, x74⟩
      refine ⟨_, rfl, x74, ?_⟩
      have S := S.add (o := slO _ _ _ _) x74 hOv49
      have B := bx Hb B x74
      refine t_a rfl ?_ rfl
      refine t_d ?_
      refine x_b ?_
      refine x_s ?_
      refine w_g ?_
      refine t_add rfl rfl (by omega) ?_ rfl
      refine t_m rfl ?_ rfl
      refine t_d ?_
      have S := S.f1.tail.f1.tail
      refine x_r (X := Nat × Value) (j + 1, v49) ?_ (by exact ⟨rfl, rfl, rfl, rfl, rfl, rfl, rfl, rfl, trivial⟩) (by (try dsimp only); omega)
      try dsimp only
      refine ⟨by omega, B, ?_⟩
      rw [flat_snoc he45, List.flatMap_append, ← List.append_assoc]
      rw [hopEnc, if_pos hvv] at S
      exact S
     ·intro hge2
      have : j = e26.hops.length := by omega
      subst this
      rw [List.take_length] at S
      refine w_exit ?_
      iterate 2 refine x_then_exit ?_
      refine x_block_exit ?_
      refine x_b ?_
      refine x_s ?_
      refine w_g ?_
      refine t_add rfl rfl (by omega) ?_ rfl
      refine t_m rfl ?_ rfl
      refine t_d ?_
      refine x_r (X := Nat × Value) (k + 1, u) ?_ (by exact ⟨rfl, rfl, rfl, rfl, rfl, trivial⟩) (by (try dsimp only); omega)
      try dsimp only
      refine ⟨by omega, B, ?_⟩
      rw [take_succ he26, intsOf_snoc, List.flatMap_append, List.flatMap_append, ← List.append_assoc, ← List.append_assoc]
      exact S
   ·intro hge
    refine w_exit ?_
    iterate 2 refine x_then_exit ?_
    refine x_block_exit ?_
    refine x_s ?_
    refine w_s ?_
    refine w_g ?_
    refine t_m rfl ?_ rfl
    refine t_a rfl ?_ rfl
    refine t_d ?_
    refine x_s ?_
    refine w_r ?_
    refine x_ret1 rfl rfl ?_
    have : k = List.length p := by omega
    subst this
    rw [List.take_length] at S
    obtain ⟨fp, hO⟩ := (S.mono X0.size).head
    exact ⟨_, fp, rfl, by rw [pathEnc, h1', if_pos rfl, ← List.append_assoc]; exact hO, ext_trans X0 B⟩
theorem spec_AppendPath (b : List UInt8) (v : Value) (p : Path) (u : Value) (w : World) (h : SlR byteT w v b) (h' : VA pathT w u p) (hz : b.length ≤ 100000000) (hz' : sz_path p ≤ 1048576) (hl : lenOk_path p) (hg : rng_path p) : Calls Tryz.prog 99 #[v, u] w fun e w' => ∃ v fp, e = .returned v ∧ SlO byteT 5 w.heap.size w' v (b ++ pathEnc p) fp ∧ Below w.heap.size w w' := by
 have hT : (pathInts p).length ≤ 5 * sz_path p := pathInts_len p
 have hpl : List.length p ≤ sz_path p := by show List.length p ≤ List.length p + _; omega
 have hv0 := vint_len (List.length p : Int)
 have hf1 := flat_vint (pathInts p)
 have hbl : (b ++ vint (List.length p : Int)).length ≤ 200000000 := by rw [List.length_append]; omega
 have X0 := Below.refl w.heap.size w
 refine enter Tryz.func99 rfl Tryz.ntmps99 rfl ?_
 refine w_s ?_
 refine w_g ?_
 refine t_boxr ‹_› rfl ?_ rfl rfl
 intro p3 w75 x76 hp3
 replace h := h.below x76
 replace h' := h'.below x76
 have X0 := ext_trans X0 x76
 have S := Sep.nil w75
 have B := Below.refl w75.heap.size w75
 have Hb := Nat.le_refl w75.heap.size
 refine t_a rfl ?_ rfl
 refine t_d ?_
 refine x_s ?_
 refine w_s ?_
 refine w_g ?_
 refine t_lit (T := byteT) (css := []) (l := []) byte_flat S bs_byte0 rfl rfl rfl rfl (Nat.zero_le _) litR_nil ?_ rfl rfl
 intro u6 w77 x78 S
 have B := bx Hb B x78
 refine t_m rfl ?_ rfl
 refine t_cat byte_flat e_byte S (by first | assumption | exact SlR.below ‹_› B) rfl rfl rfl (by first | omega | (simp [-List.length_flatMap]; omega)) (by (simp [maxLen, -List.length_flatMap]; try omega)) ?_ rfl
 intro v8 w79 x80 S
 have B := B.trans x80
 refine t_a rfl ?_ rfl
 refine t_d ?_
 refine x_s ?_
 iterate 2 refine w_s ?_
 refine w_g ?_
 refine t_lda ‹_› ab_path sb_path B rfl ?_ rfl
 intro v9 hv9
 obtain ⟨v9_0, rfl, hv9_0⟩ := path_va hv9
 refine t_x Tryz.call107 rfl (va1 (by first | assumption | exact VA.below ‹_› B | exact path_mkv (by first | assumption | exact SlR.below ‹_› B)) fun cs h => spec_EncodablePath _ cs _ h (by omega) ‹_› ‹_›) ?_ rfl rfl
 intro w81 x82
 have B := bx Hb B x82
 have S := S.below x82
 refine t_notb rfl ?_ rfl
 refine t_d ?_
 refine x_s ?_
 refine w_ifb rfl ?_ ?_
 ·intro h1
  have h1' : encPath p = false := by simpa using h1
  refine w_s ?_
  refine w_g ?_
  refine t_m rfl ?_ rfl
  refine t_a rfl ?_ rfl
  refine t_d ?_
  refine x_s ?_
  refine w_r ?_
  refine x_t ?_
  refine x_ret1 rfl rfl ?_
  obtain ⟨fp, hO⟩ := (S.mono X0.size).head
  exact ⟨_, fp, rfl, by rw [pathEnc, h1', if_neg (by simp), List.append_nil]; exact hO, ext_trans X0 B⟩
 ·intro h1
  have h1' : encPath p = true := by simpa using h1
  refine w_k ?_
  refine x_s ?_
  refine w_s ?_
  refine w_draw (.st .take 0 (.st .take 1 (.st .take 2 (.st .take 3 (.st .take 5 (.st .run 4 (.st .run 6 (.st .run 7 (.st .fin 8 (.st .fin 9 .done)))))))))) mixed (by kernel_rfl) ?_
  intro w83 x84
  have B := bx Hb B x84
  have S := S.below x84
  refine t_m rfl ?_ rfl
  refine t_fld ln_path_0 ‹_› fb_path_0 rfl ?_ rfl
  intro p14 hp14
  refine t_lds ‹_› ab_s_part B rfl ?_ rfl
  intro v15 hv15
  refine t_len e_part ‹_› rfl rfl ?_ rfl
  refine t_lda ‹_› ab_path sb_path B rfl ?_ rfl
  intro v18 hv18
  obtain ⟨v18_0, rfl, hv18_0⟩ := path_va hv18
  refine t_c Tryz.call145 rfl (spec_AppendVarint _ _ _ _ (S.sl) (by first | omega | (simp only [List.nil_append]; omega))) ?_ rfl rfl
  rintro e w85 ⟨v17, fpv17, rfl, hOv17, x86⟩
  refine ⟨_, rfl, x86, ?_⟩
  have S := S.add (o := slO _ _ _ _) x86 hOv17
  have B := bx Hb B x86
  refine t_c Tryz.call146 rfl (va1 (by first | assumption | exact VA.below ‹_› B | exact path_mkv (by first | assumption | exact SlR.below ‹_› B)) fun cs h => spec_PathInts _ cs _ h (by omega) ‹_› ‹_›) ?_ rfl rfl
  rintro e w87 ⟨v19, fpv19, rfl, hOv19, x88⟩
  refine ⟨_, rfl, x88, ?_⟩
  have S := S.add (o := slO _ _ _ _) x88 hOv19
  have B := bx Hb B x88
  refine t_c Tryz.call98 rfl (spec_EncodeInts _ _ _ (S.sl) (by first | omega | (simp; done) | (simp; omega))) ?_ rfl rfl
  rintro e w89 ⟨v20, fpv20, rfl, hOv20, x90⟩
  refine ⟨_, rfl, x90, ?_⟩
  have S := S.add (o := slO _ _ _ _) x90 hOv20
  have B := bx Hb B x90
  have hR := S.sl
  have S := S.f2
  refine t_cat byte_flat e_byte S hR rfl rfl rfl (by first | omega | (simp [-List.length_flatMap]; omega)) (by (simp [maxLen, -List.length_flatMap]; try omega)) ?_ rfl
  intro v21 w91 x92 S
  have B := B.trans x92
  clear hR
  refine t_a rfl ?_ rfl
  refine t_d' ?_
  refine x_s ?_
  refine w_r ?_
  refine x_ret1 rfl rfl ?_
  obtain ⟨fp, hO⟩ := (S.mono X0.size).head
  exact ⟨_, fp, rfl, by rw [pathEnc, h1', if_pos rfl, ← List.append_assoc]; exact hO, ext_trans X0 B⟩
theorem pathEnc_len (p : Path) (hz : sz_path p ≤ 1048576) : (pathEnc p).length ≤ 100000000 := by
  have hT : (pathInts p).length ≤ 5 * sz_path p := pathInts_len p
  have hv0 := vint_len (List.length p : Int)
  have hf1 := flat_vint (pathInts p)
  unfold pathEnc
  split
  · rw [List.length_append]; omega
  · simp
end Go.Proofs.YtdaecknfahgddaaGreat
