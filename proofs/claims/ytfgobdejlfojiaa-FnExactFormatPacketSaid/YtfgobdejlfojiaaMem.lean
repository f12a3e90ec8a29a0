/- Words for memory: what a slice of structs reads as, who owns it, and what a call leaves alone. No program is named here. -/
import Derived.Below
import Derived.Carry
import Derived.Laws.OwnMore
import Derived.Deep.AppendLies
import Derived.Deep.Draws
import Derived.Maps.AppendAt
import Derived.OwnWalk
import Derived.RegionTactic
namespace Go.Proofs.Ytfgobdejlfojiaa
open Go.RowKit
set_option linter.unusedVariables false

theorem hid {p : Prop} (h : p) : Hid p := h

abbrev I (n : Int) : Value := .int .i64 n

/-- The cells xs lie behind the address A. -/
def Rd (w : World) (A : Option Addr) (xs : List Value) : Prop :=
  0 < xs.length → ∃ g o, A = some ⟨g, o, none⟩ ∧ ∀ j u, xs[j]? = some u → w.cell? ⟨g, o + j, none⟩ = some u

theorem Rd.below {w w' : World} {A : Option Addr} {xs : List Value} (h : Rd w A xs) (hb : Below w.heap.size w w') : Rd w' A xs := by
  intro hx
  obtain ⟨g, o, rfl, h3⟩ := h hx
  exact ⟨g, o, rfl, fun j u hu => by rw [hb.cell (World.block_lt_of_cell? w _ (h3 j u hu))]; exact h3 j u hu⟩

theorem Rd.nil {w : World} {A : Option Addr} : Rd w A [] := fun h => absurd h (by simp)

theorem flatten_at {css : List (List Value)} {size : Nat} (h : ∀ (i : Nat) cs, css[i]? = some cs → cs.length = size) (k : Nat) (cs : List Value) (hk : css[k]? = some cs) (j : Nat) (hj : j < size) :
    css.flatten[k * size + j]? = cs[j]? := by
  induction css generalizing k with
  | nil => simp at hk
  | cons c t ih =>
    have hc : c.length = size := h 0 c rfl
    cases k with
    | zero =>
      simp at hk
      subst hk
      simp only [List.flatten_cons, Nat.zero_mul, Nat.zero_add]
      rw [List.getElem?_append_left (by omega)]
    | succ k =>
      simp at hk
      simp only [List.flatten_cons]
      rw [List.getElem?_append_right (by rw [hc, Nat.add_mul, Nat.one_mul]; omega), hc, show (k + 1) * size + j - size = k * size + j by rw [Nat.add_mul, Nat.one_mul]; omega]
      exact ih (fun i cs hi => h (i + 1) cs hi) k hk

theorem flatten_len {css : List (List Value)} {size : Nat} (h : ∀ (i : Nat) cs, css[i]? = some cs → cs.length = size) : css.flatten.length = css.length * size := by
  induction css with
  | nil => simp
  | cons c t ih =>
    rw [List.flatten_cons, List.length_append, ih (fun i cs hi => h (i + 1) cs hi), h 0 c rfl, List.length_cons, Nat.add_mul, Nat.one_mul, Nat.add_comm]

/-- Every block of w that is not in fp is as it was; the streams are as they were. -/
structure Kept (fp : List Nat) (w w' : World) : Prop where
  os : w'.os = w.os
  tape : w'.tape = w.tape
  output : w'.output = w.output
  size : w.heap.size ≤ w'.heap.size
  block : ∀ k, k < w.heap.size → k ∉ fp → w'.heap[k]? = w.heap[k]?

theorem Kept.below {fp : List Nat} {w w' : World} (h : Kept fp w w') {B : Nat} (hB : ∀ b ∈ fp, B ≤ b) (hw : B ≤ w.heap.size) : Below B w w' :=
  ⟨h.os, h.tape, h.output, h.size, fun k hk => h.block k (by omega) (fun hm => by have := hB k hm; omega)⟩

theorem Kept.of_below {w w' : World} (h : Below w.heap.size w w') (fp : List Nat) : Kept fp w w' :=
  ⟨h.os, h.tape, h.output, h.size, fun k hk _ => h.block k hk⟩

theorem Kept.refl (fp : List Nat) (w : World) : Kept fp w w := ⟨rfl, rfl, rfl, Nat.le_refl _, fun _ _ _ => rfl⟩

theorem Kept.trans {fp : List Nat} {a b c : World} (h : Kept fp a b) (k : Kept fp b c) : Kept fp a c :=
  ⟨k.os.trans h.os, k.tape.trans h.tape, k.output.trans h.output, Nat.le_trans h.size k.size, fun i hi' hx => (k.block i (Nat.lt_of_lt_of_le hi' h.size) hx).trans (h.block i hi' hx)⟩

theorem Kept.wide {fp fp' : List Nat} {w w' : World} (h : Kept fp w w') (hl : ∀ b ∈ fp, b ∈ fp') : Kept fp' w w' :=
  ⟨h.os, h.tape, h.output, h.size, fun k hk hx => h.block k hk (fun hm => hx (hl k hm))⟩

theorem Kept.setCell {fp : List Nat} {a w : World} (h : Kept fp a w) {p : Addr} (h1 : p.block ∈ fp) (u : Value) : Kept fp a (w.setCell p u) :=
  ⟨h.os, h.tape, h.output, by simpa [World.setCell] using h.size, fun k hk hx => (Below.heap_setCell w p u k (fun e => hx (e ▸ h1))).trans (h.block k hk hx)⟩

theorem Kept.alloc {fp : List Nat} {a w : World} (h : Kept fp a w) (o : Obj) : Kept fp a (w.alloc o) :=
  ⟨h.os, h.tape, h.output, Nat.le_trans h.size (by simp), fun k hk hx => (Below.heap_alloc w o k (Nat.lt_of_lt_of_le hk h.size)).trans (h.block k hk hx)⟩

theorem Kept.drewN {fp : List Nat} {a w : World} (h : Kept fp a w) (n : Nat) : Kept fp a (w.drewN n) := ⟨h.os, h.tape, h.output, h.size, h.block⟩
theorem Kept.drew {fp : List Nat} {a w : World} (h : Kept fp a w) : Kept fp a w.drew := ⟨h.os, h.tape, h.output, h.size, h.block⟩

theorem below_drew (w : World) : Below w.heap.size w w.drew := (Below.refl _ _).drew
theorem below_drewN {B : Nat} {a w : World} (h : Below B a w) (n : Nat) : Below B a (w.drewN n) := ⟨h.os, h.tape, h.output, h.size, h.block⟩

/-- All old cells and marks read as they did: two rules for the walk. -/
theorem bcell {W w1 : World} (hb : Below W.heap.size W w1) : (∀ b o, b < W.heap.size → w1.cell? ⟨b, o, none⟩ = W.cell? ⟨b, o, none⟩) ∧ (∀ b o, b < W.heap.size → w1.frozen? ⟨b, o, none⟩ = W.frozen? ⟨b, o, none⟩) :=
  ⟨fun b o h => hb.cell (p := ⟨b, o, none⟩) h, fun b o h => hb.frozen (p := ⟨b, o, none⟩) h⟩

/-- A cell that is there stays as it is. -/
theorem ck {w w' : World} (hb : Below w.heap.size w w') {a : Addr} {u : Value} (h : w.cell? a = some u) : w'.cell? a = some u := by
  rw [hb.cell (World.block_lt_of_cell? w a h)]; exact h

theorem ext_trans {a b c : World} (h : Below a.heap.size a b) (k : Below b.heap.size b c) : Below a.heap.size a c := h.trans (k.mono h.size)
theorem ext_alloc {a b : World} (h : Below a.heap.size a b) (o : Obj) : Below a.heap.size a (b.alloc o) := h.alloc h.size o
theorem ext_alloc1 (w : World) (o : Obj) : Below w.heap.size w (w.alloc o) := (Below.refl _ _).alloc (Nat.le_refl _) o

theorem ext_set {a b : World} {g j : Nat} (h : Below a.heap.size a b) (hg : a.heap.size ≤ g) (u : Value) : Below a.heap.size a (b.setCell ⟨g, j, none⟩ u) := h.setCell hg u

theorem nodup_app {f g : List Nat} {k : Nat} (hf : f.Nodup) (hg : g.Nodup) (h1 : ∀ b ∈ f, b < k) (h2 : ∀ b ∈ g, k ≤ b) : (f ++ g).Nodup := by
  rw [List.nodup_append]
  refine ⟨hf, hg, fun a ha b hb hab => ?_⟩
  have := h1 a ha
  have := h2 b hb
  omega

theorem le_sum_of_mem {l : List Nat} {x : Nat} (h : x ∈ l) : x ≤ l.sum := by
  induction l with
  | nil => cases h
  | cons a t ih =>
    rw [List.sum_cons]
    rcases List.mem_cons.1 h with rfl | h
    · omega
    · have := ih h; omega

/-- A slice type t over elements e. -/
structure ElemT (P : Program) (t e : TypeId) (size bytes : Nat) : Prop where
  und : P.underlying t = some (.slice e)
  info : ∃ i z, P.info? e = some i ∧ i.zero = some z ∧ i.size = size ∧ i.bytes = bytes ∧ z.cells.size = size
  pos : 0 < size

theorem ElemT.mk' {P : Program} {t e : TypeId} {size bytes : Nat} {z : Value} (h : P.underlying t = some (.slice e)) (hi : (P.info? e).map (fun i => (i.zero, i.size, i.bytes)) = some (some z, size, bytes)) (hz : z.cells.size = size) (hp : 0 < size) : ElemT P t e size bytes := by
  obtain ⟨i, h1, h2, h3, h4⟩ := info_parts hi
  exact ⟨h, ⟨i, z, h1, h2, h3, h4, hz⟩, hp⟩

/-- 'append(v, x...)' onto a row that the call owns, whatever x: nil, empty, cells behind an address. -/
theorem run_app {P : Program} (w : World) {t ty e : TypeId} {size bytes : Nat} (et : ElemT P t e size bytes) {base : Nat} {v : Value} {n : Nat} {xs : List Value} (hown : w.ownsRow base e size v n xs)
    {A : Option Addr} {m c : Nat} {news : List Value} (hr : Rd w A news) (hl : news.length = m * size) (h1 : ∀ u ∈ news, u.oneCell' = true) (hbytes : (n + m) * bytes ≤ 140737488355328) (h63 : n + m ≤ maxLen) (hbase : base ≤ w.heap.size) :
    ∃ v' w', (Builtin.append_ #[t, t] ty #[v, .slice A m c]).run P w = .ok v' w' ∧ w'.ownsRow base e size v' (n + m) (xs ++ news) ∧ w.grownBy w' v.ownBlock ∧ (v'.ownBlock = v.ownBlock ∨ v'.ownBlock = some w.heap.size) := by
  obtain ⟨ht, ⟨i, z, hi, hz, hsize, hby, hzs⟩, hsz⟩ := et
  cases A with
  | none =>
    have hn : news = [] := by
      cases hc : news with
      | nil => rfl
      | cons a b => obtain ⟨g, o, h, _⟩ := hr (by rw [hc]; simp); cases h
    subst hn
    have hm : m = 0 := by
      rcases Nat.eq_zero_or_pos m with h | h
      · exact h
      · have := Nat.mul_pos h hsz
        simp at hl
        omega
    subst hm
    refine ⟨v, w, ?_, by simpa using hown, ⟨rfl, rfl, rfl, Nat.le_refl _, fun _ _ _ => rfl⟩, .inl rfl⟩
    rcases hown.2 with ⟨rfl, rfl⟩ | ⟨g, cap, cur, rfl, _, _, hnc, _⟩
    · simp [Builtin.append_, run_underlying ht, sizeOf, typeInfo, hi, Builtin.lenOf, Builtin.firstCells]
    · simp [Builtin.append_, run_underlying ht, sizeOf, typeInfo, hi, Builtin.lenOf, Builtin.firstCells, hnc, storeCells]
  | some ad =>
    have hcells : ∀ j u, news[j]? = some u → w.cell? (ad.add j) = some u := by
      intro j u hu
      have hp : 0 < news.length := by have := (List.getElem?_eq_some_iff.1 hu).1; omega
      obtain ⟨g, o, h, hc⟩ := hr hp
      injection h with h
      subst h
      rw [Addr.add_lit]
      exact hc j u hu
    obtain ⟨v', w', hrun, h2, h3, _, h5⟩ := run_append_own_at (P := P) w base t ty e i z size bytes ht hi hz hsize hby hzs hsz v n xs hown ad m c news hl hcells h1 h63 hbytes hbase
    exact ⟨v', w', hrun, h2, h3, h5⟩

theorem wp_app {P : Program} {w : World} {o : Oper} {a : Act} {K : Act → World → Prop} {Q : Exit → Act → World → Prop} (s x : Operand) {t e : TypeId} {size bytes : Nat} (et : ElemT P t e size bytes) {base : Nat} {v : Value} {n : Nat} {xs : List Value} (hown : w.ownsRow base e size v n xs)
    {A : Option Addr} {m c : Nat} {news : List Value} (hr : Rd w A news) (hl : news.length = m * size) (h1 : ∀ u ∈ news, u.oneCell' = true) (hbytes : (n + m) * bytes ≤ 140737488355328) (h63 : n + m ≤ maxLen) (hbase : base ≤ w.heap.size)
    (ho : o.op = .call { callee := .builtin .append, args := #[s, x], argTypes := #[t, t] }) (hs : a.eval s = v) (hx : a.eval x = .slice A m c)
    (h : ∀ v' w', w'.ownsRow base e size v' (n + m) (xs ++ news) → w.grownBy w' v.ownBlock → (v'.ownBlock = v.ownBlock ∨ v'.ownBlock = some w.heap.size) → K (a.put o.dst v') w') : o.wp P a w K Q := by
  obtain ⟨v', w', hrun, h2, h3, h4⟩ := run_app (P := P) w (ty := o.type) (c := c) et hown hr hl h1 hbytes h63 hbase
  unfold Oper.wp execOp
  simp only [ho, resolve, invoke, builtin, Sem.run_bind, Sem.run_pure, Result.andThen_ok, List.map_toArray, List.map_cons, List.map_nil, hs, hx, hrun]
  exact h v' w' h2 h3 h4

/-- The same at the head of a list of operations: for the walk. -/
theorem wpList_app {P : Program} {w : World} {ops : Array Oper} {rest : List Oper} {o : Oper} {a : Act} {Q : Exit → Act → World → Prop} (s x : Operand) {t e : TypeId} {size bytes : Nat} (et : ElemT P t e size bytes) {base : Nat} {v : Value} {n : Nat} {xs : List Value} (hown : w.ownsRow base e size v n xs)
    {A : Option Addr} {m c : Nat} {news : List Value} (hr : Rd w A news) (hl : news.length = m * size) (h1 : ∀ u ∈ news, u.oneCell' = true) (hbytes : (n + m) * bytes ≤ 140737488355328) (h63 : n + m ≤ maxLen) (hbase : base ≤ w.heap.size)
    (hgd : o.guard = none) (ho : o.op = .call { callee := .builtin .append, args := #[s, x], argTypes := #[t, t] }) (hs : a.eval s = v) (hx : a.eval x = .slice A m c)
    (h : ∀ v' w', w'.ownsRow base e size v' (n + m) (xs ++ news) → w.grownBy w' v.ownBlock → (v'.ownBlock = v.ownBlock ∨ v'.ownBlock = some w.heap.size) → wpList P ops Q rest (a.put o.dst v') w') : wpList P ops Q (o :: rest) a w :=
  wpList_plain hgd fun _ hK => wp_app s x et hown hr hl h1 hbytes h63 hbase ho hs hx fun v' w' h2 h3 h4 => hK _ _ (h v' w' h2 h3 h4)

/-- The same in a region that draws its order. -/
theorem step_app {P : Program} {w : World} {ops : Array Oper} {o : Oper} {a : Act} {K : Act → World → Prop} {Q : Exit → Act → World → Prop} {F : Prop} (s x : Operand) {t e : TypeId} {size bytes : Nat} (et : ElemT P t e size bytes) {base : Nat} {v : Value} {n : Nat} {xs : List Value} (hown : w.ownsRow base e size v n xs)
    {A : Option Addr} {m c : Nat} {news : List Value} (hr : Rd w A news) (hl : news.length = m * size) (h1 : ∀ u ∈ news, u.oneCell' = true) (hbytes : (n + m) * bytes ≤ 140737488355328) (h63 : n + m ≤ maxLen) (hbase : base ≤ w.heap.size)
    (hgd : o.guard = none) (ho : o.op = .call { callee := .builtin .append, args := #[s, x], argTypes := #[t, t] }) (hs : a.eval s = v) (hx : a.eval x = .slice A m c)
    (h : ∀ v' w', w'.ownsRow base e size v' (n + m) (xs ++ news) → w.grownBy w' v.ownBlock → (v'.ownBlock = v.ownBlock ∨ v'.ownBlock = some w.heap.size) → K (a.put o.dst v') w') :
    if Region.wanted o (yielded ops a.tmps) = true then Oper.wp P o a w K Q else F := by
  have hw : Region.wanted o (yielded ops a.tmps) = true := by simp [Region.wanted, hgd]
  rw [if_pos hw]
  exact wp_app s x et hown hr hl h1 hbytes h63 hbase ho hs hx h

/-- 'make([]T, n)': a new block of n elements: an equation for the walk. -/
theorem make_rule {P : Program} {t e : TypeId} {size bytes : Nat} (et : ElemT P t e size bytes) (n : Nat) (hb : bytes * n ≤ 281474976710656) (h63 : n ≤ 9223372036854775807) :
    ∃ Z : Array Value, Z.size = n * size ∧ ∀ w : World, (Instr.makeSlice t (.int .i64 (n : Int)) (.int .i64 (n : Int))).run P w = .ok (.slice (some ⟨w.heap.size, 0, none⟩) n n) (w.alloc (.cells Z e)) := by
  obtain ⟨ht, ⟨i, z, hi, hz, hsize, hby, hzs⟩, hsz⟩ := et
  subst hsize
  subst hby
  have hb' : (i.bytes : Int) * (n : Int) ≤ 281474976710656 := by
    have h : ((i.bytes * n : Nat) : Int) ≤ 281474976710656 := by omega
    rwa [Int.natCast_mul] at h
  refine ⟨madeCells z.cells (n * i.size), size_madeCells _ _, fun w => ?_⟩
  have hr := run_make (P := P) w t e i z ht hi hz .i64 .i64 n n (by omega) (Int.le_refl _) hb' (by omega)
  simp only [Int.toNat_natCast] at hr
  exact hr

/-- A list of cells is the elements' cells one behind the other, if it is so place by place. -/
theorem eq_flatten {xs : List Value} {css : List (List Value)} {n size : Nat} (hx : xs.length = n * size) (hc : css.length = n) (hl : ∀ (i : Nat) cs, css[i]? = some cs → cs.length = size)
    (h : ∀ (i : Nat) cs, css[i]? = some cs → ∀ j, j < size → xs[i * size + j]? = cs[j]?) : xs = css.flatten := by
  apply List.ext_getElem?
  intro m
  by_cases hm : m < n * size
  · have hs : 0 < size := by
      rcases Nat.eq_zero_or_pos size with h0 | h0
      · subst h0; simp at hm
      · exact h0
    have hi : m / size < css.length := by rw [hc]; exact Nat.div_lt_of_lt_mul (by rw [Nat.mul_comm]; exact hm)
    have hg : css[m / size]? = some css[m / size] := List.getElem?_eq_getElem hi
    have e : m / size * size + m % size = m := by rw [Nat.mul_comm]; exact Nat.div_add_mod m size
    have h1 := h _ _ hg (m % size) (Nat.mod_lt _ hs)
    have h2 := flatten_at hl _ _ hg (m % size) (Nat.mod_lt _ hs)
    rw [e] at h1 h2
    rw [h1, h2]
  · rw [List.getElem?_eq_none (by omega), List.getElem?_eq_none (by rw [flatten_len hl, hc]; omega)]

theorem own_below {w w' : World} {base : Nat} {e : TypeId} {size : Nat} {v : Value} {n : Nat} {xs : List Value} (h : w.ownsRow base e size v n xs) (hb : Below w.heap.size w w') : w'.ownsRow base e size v n xs :=
  h.kept (row := none) ⟨hb.os, hb.tape, hb.output, hb.size, fun k hk _ => hb.block k hk⟩ (by cases hv : v.ownBlock <;> simp)

theorem own_set {w : World} {base g : Nat} {e : TypeId} {size n cap : Nat} {xs : List Value} (h : w.ownsRow base e size (.slice (some ⟨g, 0, none⟩) n cap) n xs) (j : Nat) (u : Value) : (w.setCell ⟨g, j, none⟩ u).ownsRow base e size (.slice (some ⟨g, 0, none⟩) n cap) n (xs.set j u) :=
  (h.stored j u).1

theorem own_cell {w : World} {base g : Nat} {e : TypeId} {size n cap : Nat} {xs : List Value} (h : w.ownsRow base e size (.slice (some ⟨g, 0, none⟩) n cap) n xs) (j : Nat) (hj : j < n * size) : ∃ u, w.cell? ⟨g, j, none⟩ = some u := by
  rw [h.cellAt j hj]
  exact ⟨_, List.getElem?_eq_getElem (by rw [h.1]; exact hj)⟩

/-- The first cells of xs are those of the elements css, one behind the other. -/
def Filled (size : Nat) (css : List (List Value)) (xs : List Value) : Prop := ∀ (i : Nat) cs, css[i]? = some cs → ∀ j, j < size → xs[i * size + j]? = cs[j]?

theorem Filled.nil {size : Nat} {xs : List Value} : Filled size [] xs := fun i cs h => by simp at h

theorem Filled.snoc {size k : Nat} {css : List (List Value)} {xs xs' cs : List Value} (h : Filled size css xs) (hk : css.length = k) (h1 : ∀ m, m < k * size → xs'[m]? = xs[m]?) (h2 : ∀ j, j < size → xs'[k * size + j]? = cs[j]?) : Filled size (css ++ [cs]) xs' := by
  intro i c hi j hj
  by_cases hik : i < k
  · rw [List.getElem?_append_left (by omega)] at hi
    rw [h1 _ ?_]
    · exact h i c hi j hj
    · calc i * size + j < i * size + size := by omega
        _ = (i + 1) * size := by rw [Nat.add_mul, Nat.one_mul]
        _ ≤ k * size := Nat.mul_le_mul_right _ hik
  · rw [List.getElem?_append_right (by omega)] at hi
    have : i = k := by
      have := (List.getElem?_eq_some_iff.1 hi).1
      simp at this
      omega
    subst this
    rw [hk] at hi
    simp at hi
    subst hi
    exact h2 j hj

theorem Filled.done {size n : Nat} {css : List (List Value)} {xs : List Value} (h : Filled size css xs) (hx : xs.length = n * size) (hc : css.length = n) (hl : ∀ (i : Nat) cs, css[i]? = some cs → cs.length = size) : xs = css.flatten :=
  eq_flatten hx hc hl h

theorem below_set {B g j : Nat} {a w : World} (h : Below B a w) (hp : B ≤ g) (u : Value) : Below B a (w.setCell ⟨g, j, none⟩ u) := h.setCell hp u

/-- What is owned is read. -/
theorem Rd.of_own {w : World} {base : Nat} {e : TypeId} {size n c : Nat} {A : Option Addr} {xs : List Value} (h : w.ownsRow base e size (.slice A n c) n xs) : Rd w A xs := by
  intro hx
  rcases h.2 with ⟨h1, h2⟩ | ⟨g, cap, cur, hv, hb, hg, r⟩
  · have := h.1
    subst h2
    simp at this
    subst this
    simp at hx
  · have hA : A = some ⟨g, 0, none⟩ := by injection hv
    subst hA
    refine ⟨g, 0, rfl, fun j u hu => ?_⟩
    have := h.cells (g := g) rfl j u hu
    rw [Addr.add_lit] at this
    exact this

/-- A kind of data: how many cells an element takes, when cells read as it, and when the cells and all that they lead to are owned, in the blocks fp, all from base on. -/
structure Ty (α : Type) where
  size : Nat
  R : World → List Value → α → Prop
  O : Nat → World → List Value → α → List Nat → Prop
  pos : 0 < size
  len : ∀ w cs a, R w cs a → cs.length = size
  one : ∀ w cs a, R w cs a → ∀ u ∈ cs, u.oneCell' = true
  keep : ∀ w w' cs a, R w cs a → Below w.heap.size w w' → R w' cs a
  okeep : ∀ base w w' cs a fp, O base w cs a fp → (∀ b ∈ fp, w'.heap[b]? = w.heap[b]?) → O base w' cs a fp
  read : ∀ base w cs a fp, O base w cs a fp → R w cs a
  lt : ∀ base w cs a fp, O base w cs a fp → ∀ b ∈ fp, base ≤ b ∧ b < w.heap.size
  nodup : ∀ base w cs a fp, O base w cs a fp → fp.Nodup
  mono : ∀ base base' w cs a fp, base' ≤ base → O base w cs a fp → O base' w cs a fp

/-- The slice value v reads as l. -/
def SlR {α : Type} (T : Ty α) (w : World) (v : Value) (l : List α) : Prop :=
  ∃ (A : Option Addr) (c : Nat) (css : List (List Value)), v = .slice A l.length c ∧ l.length ≤ c ∧ css.length = l.length ∧ Rd w A css.flatten ∧ ∀ (i : Nat) cs a, css[i]? = some cs → l[i]? = some a → T.R w cs a

/-- The slice value v reads as l, and all of it lies in the blocks fp, from base on, each met once. -/
def SlO {α : Type} (T : Ty α) (e : TypeId) (base : Nat) (w : World) (v : Value) (l : List α) (fp : List Nat) : Prop :=
  ∃ (css : List (List Value)) (fps : List (List Nat)), css.length = l.length ∧ fps.length = l.length ∧ w.ownsRow base e T.size v l.length css.flatten ∧
    (∀ (i : Nat) cs a f, css[i]? = some cs → l[i]? = some a → fps[i]? = some f → T.O base w cs a f) ∧ fp = v.ownBlock.toList ++ fps.flatten ∧ fp.Nodup

section
variable {α : Type} {T : Ty α} {w w' : World} {v : Value} {l : List α} {e base : Nat} {fp : List Nat}

theorem SlR.below (h : SlR T w v l) (hb : Below w.heap.size w w') : SlR T w' v l := by
  obtain ⟨A, c, css, h1, h2, h3, h4, h5⟩ := h
  exact ⟨A, c, css, h1, h2, h3, h4.below hb, fun i cs a hi ha => T.keep _ _ _ _ (h5 i cs a hi ha) hb⟩

theorem SlR.form (h : SlR T w v l) : ∃ A c, v = .slice A l.length c ∧ l.length ≤ c := by
  obtain ⟨A, c, css, e, h1, _⟩ := h
  exact ⟨A, c, e, h1⟩

/-- What stands at place k. -/
theorem SlR.at_ (h : SlR T w v l) {k : Nat} (hk : k < l.length) :
    ∃ g o c cs, v = .slice (some ⟨g, o, none⟩) l.length c ∧ g < w.heap.size ∧ cs.length = T.size ∧ T.R w cs (l[k]) ∧ ∀ j u, cs[j]? = some u → w.cell? ⟨g, o + k * T.size + j, none⟩ = some u := by
  obtain ⟨A, c, css, rfl, h1, h2, h3, h4⟩ := h
  have hall : ∀ (i : Nat) cs, css[i]? = some cs → cs.length = T.size := fun i cs hi => by
    have hlt : i < l.length := by rw [← h2]; exact (List.getElem?_eq_some_iff.1 hi).1
    exact T.len _ _ _ (h4 i cs _ hi (List.getElem?_eq_getElem hlt))
  have hkc : css[k]? = some (css[k]'(by omega)) := List.getElem?_eq_getElem (by omega)
  have h6 := h4 k _ _ hkc (List.getElem?_eq_getElem hk)
  have h5 := T.len _ _ _ h6
  have hpos : 0 < css.flatten.length := by
    rw [flatten_len hall, h2]
    exact Nat.mul_pos (by omega) T.pos
  obtain ⟨g, o, rfl, hg3⟩ := h3 hpos
  have hat : ∀ j u, (css[k]'(by omega))[j]? = some u → w.cell? ⟨g, o + k * T.size + j, none⟩ = some u := fun j u hu => by
    have hj : j < T.size := by rw [← h5]; exact (List.getElem?_eq_some_iff.1 hu).1
    rw [Nat.add_assoc]
    exact hg3 _ u (by rw [flatten_at hall k _ hkc j hj]; exact hu)
  have hp := T.pos
  exact ⟨g, o, c, _, rfl, World.block_lt_of_cell? w _ (hat 0 _ (List.getElem?_eq_getElem (by omega))), h5, h6, hat⟩

theorem SlO.size_ok (h : SlO T e base w v l fp) : ∀ b ∈ fp, base ≤ b ∧ b < w.heap.size := by
  obtain ⟨css, fps, h1, h2, h3, h4, rfl, h6⟩ := h
  intro b hb
  rw [List.mem_append] at hb
  rcases hb with hb | hb
  · exact h3.lt b (by simpa using hb)
  · obtain ⟨f, hf, hbf⟩ := List.mem_flatten.1 hb
    obtain ⟨i, hi, rfl⟩ := List.getElem_of_mem hf
    exact T.lt _ _ _ _ _ (h4 i _ _ _ (List.getElem?_eq_getElem (by omega)) (List.getElem?_eq_getElem (by omega)) (List.getElem?_eq_getElem hi)) b hbf

theorem SlO.keep (h : SlO T e base w v l fp) (hk : ∀ b ∈ fp, w'.heap[b]? = w.heap[b]?) : SlO T e base w' v l fp := by
  obtain ⟨css, fps, h1, h2, h3, h4, h5, h6⟩ := h
  refine ⟨css, fps, h1, h2, ?_, fun i cs a f hi ha hf => T.okeep _ _ _ _ _ _ (h4 i cs a f hi ha hf) fun b hb => hk b ?_, h5, h6⟩
  · refine ⟨h3.1, ?_⟩
    rcases h3.2 with hn | ⟨g, cap, cur, rfl, hb, hgg, rest⟩
    · exact .inl hn
    · exact .inr ⟨g, cap, cur, rfl, hb, by rw [hk g (by rw [h5]; simp [Value.ownBlock])]; exact hgg, rest⟩
  · rw [h5, List.mem_append]
    exact .inr (List.mem_flatten.2 ⟨f, List.mem_of_getElem? hf, hb⟩)

theorem SlO.kept {fp' : List Nat} (h : SlO T e base w v l fp) (hk : Kept fp' w w') (hd : ∀ b ∈ fp, b ∉ fp') : SlO T e base w' v l fp :=
  h.keep fun b hb => hk.block b (h.size_ok b hb).2 (hd b hb)

theorem SlO.below (h : SlO T e base w v l fp) (hb : Below w.heap.size w w') : SlO T e base w' v l fp :=
  h.keep fun b hb' => hb.block b (h.size_ok b hb').2

theorem SlO.read (h : SlO T e base w v l fp) : SlR T w v l := by
  obtain ⟨css, fps, h1, h2, h3, h4, h5, h6⟩ := h
  have hR : ∀ (i : Nat) cs a, css[i]? = some cs → l[i]? = some a → T.R w cs a := fun i cs a hi ha => by
    have hlt : i < fps.length := by rw [h2]; exact (List.getElem?_eq_some_iff.1 ha).1
    exact T.read _ _ _ _ _ (h4 i cs a _ hi ha (List.getElem?_eq_getElem hlt))
  rcases h3.2 with ⟨hv, hn⟩ | ⟨g, cap, cur, hv, hb, hg, hn, r⟩
  · refine ⟨none, 0, css, by rw [hv, hn], by omega, h1, ?_, hR⟩
    have : css = [] := List.eq_nil_of_length_eq_zero (by omega)
    subst this
    exact Rd.nil
  · subst hv
    exact ⟨_, cap, css, rfl, hn, h1, Rd.of_own h3, hR⟩

theorem SlO.mono {base' : Nat} (h : SlO T e base w v l fp) (hb : base' ≤ base) : SlO T e base' w v l fp := by
  obtain ⟨css, fps, h1, h2, h3, h4, h5, h6⟩ := h
  refine ⟨css, fps, h1, h2, ⟨h3.1, ?_⟩, fun i cs a f hi ha hf => T.mono _ _ _ _ _ _ hb (h4 i cs a f hi ha hf), h5, h6⟩
  rcases h3.2 with hn | ⟨g, cap, cur, rfl, hg, hgg, rest⟩
  · exact .inl hn
  · exact .inr ⟨g, cap, cur, rfl, by omega, hgg, rest⟩

theorem SlO.nil : SlO T e base w (.slice none 0 0) [] [] := ⟨[], [], rfl, rfl, World.ownsRow_nil _ _ _ _, fun i cs a f hi => by simp at hi, rfl, List.nodup_nil⟩
end

theorem SlO.nodup {α : Type} {T : Ty α} {e base : Nat} {w : World} {v : Value} {l : List α} {fp : List Nat} (h : SlO T e base w v l fp) : fp.Nodup := by
  obtain ⟨_, _, _, _, _, _, _, h6⟩ := h
  exact h6

/-- Elements of plain cells. -/
def flatT {α : Type} (size : Nat) (f : α → List Value) (hp : 0 < size) (hl : ∀ a, (f a).length = size) (h1 : ∀ a, ∀ u ∈ f a, u.oneCell' = true) : Ty α where
  size := size
  R := fun _ cs a => cs = f a
  O := fun _ _ cs a fp => cs = f a ∧ fp = []
  pos := hp
  len := fun _ _ a h => by rw [h]; exact hl a
  one := fun _ _ a h => by rw [h]; exact h1 a
  keep := fun _ _ _ _ h _ => h
  okeep := fun _ _ _ _ _ _ h _ => h
  read := fun _ _ _ _ _ h => h.1
  lt := fun _ _ _ _ _ h b hb => by rw [h.2] at hb; cases hb
  nodup := fun _ _ _ _ _ h => by rw [h.2]; exact List.nodup_nil
  mono := fun _ _ _ _ _ _ _ h => h

/-- Slices of elements. -/
def slT {α : Type} (T : Ty α) (e : TypeId) : Ty (List α) where
  size := 1
  R := fun w cs l => ∃ v, cs = [v] ∧ SlR T w v l
  O := fun base w cs l fp => ∃ v, cs = [v] ∧ SlO T e base w v l fp
  pos := by omega
  len := fun _ _ _ ⟨_, h, _⟩ => by rw [h]; rfl
  one := fun _ _ _ ⟨v, h, h2⟩ u hu => by
    obtain ⟨A, c, e, _⟩ := h2.form
    rw [h] at hu
    simp at hu
    subst hu
    rw [e]
    rfl
  keep := fun _ _ _ _ ⟨v, h, h2⟩ hb => ⟨v, h, h2.below hb⟩
  okeep := fun _ _ _ _ _ _ ⟨v, h, h2⟩ hk => ⟨v, h, h2.keep hk⟩
  read := fun _ _ _ _ _ ⟨v, h, h2⟩ => ⟨v, h, h2.read⟩
  lt := fun _ _ _ _ _ ⟨_, _, h2⟩ => h2.size_ok
  nodup := fun _ _ _ _ _ ⟨_, _, h2⟩ => h2.nodup
  mono := fun _ _ _ _ _ _ hb ⟨v, h, h2⟩ => ⟨v, h, h2.mono hb⟩

/-- Two kinds side by side. -/
def prodT {α β γ : Type} (T : Ty α) (U : Ty β) (p : γ → α) (q : γ → β) : Ty γ where
  size := T.size + U.size
  R := fun w cs c => ∃ xs ys, cs = xs ++ ys ∧ T.R w xs (p c) ∧ U.R w ys (q c)
  O := fun base w cs c fp => ∃ xs ys f g, cs = xs ++ ys ∧ T.O base w xs (p c) f ∧ U.O base w ys (q c) g ∧ fp = f ++ g ∧ fp.Nodup
  pos := by have := T.pos; omega
  len := fun w cs c ⟨xs, ys, h, h1, h2⟩ => by rw [h, List.length_append, T.len _ _ _ h1, U.len _ _ _ h2]
  one := fun w cs c ⟨xs, ys, h, h1, h2⟩ u hu => by
    rw [h, List.mem_append] at hu
    rcases hu with hu | hu
    · exact T.one _ _ _ h1 u hu
    · exact U.one _ _ _ h2 u hu
  keep := fun _ _ _ _ ⟨xs, ys, h, h1, h2⟩ hb => ⟨xs, ys, h, T.keep _ _ _ _ h1 hb, U.keep _ _ _ _ h2 hb⟩
  okeep := fun _ _ _ _ _ _ ⟨xs, ys, f, g, h, h1, h2, h3, h4⟩ hk => ⟨xs, ys, f, g, h, T.okeep _ _ _ _ _ _ h1 fun b hb => hk b (by rw [h3]; simp [hb]), U.okeep _ _ _ _ _ _ h2 fun b hb => hk b (by rw [h3]; simp [hb]), h3, h4⟩
  read := fun _ _ _ _ _ ⟨xs, ys, f, g, h, h1, h2, _, _⟩ => ⟨xs, ys, h, T.read _ _ _ _ _ h1, U.read _ _ _ _ _ h2⟩
  lt := fun _ _ _ _ _ ⟨xs, ys, f, g, h, h1, h2, h3, _⟩ b hb => by
    rw [h3, List.mem_append] at hb
    rcases hb with hb | hb
    · exact T.lt _ _ _ _ _ h1 b hb
    · exact U.lt _ _ _ _ _ h2 b hb
  nodup := fun _ _ _ _ _ ⟨xs, ys, f, g, h, h1, h2, h3, h4⟩ => h4
  mono := fun _ _ _ _ _ _ hb ⟨xs, ys, f, g, h, h1, h2, h3, h4⟩ => ⟨xs, ys, f, g, h, T.mono _ _ _ _ _ _ hb h1, U.mono _ _ _ _ _ _ hb h2, h3, h4⟩

/-- What an append does to an owned slice: from the law of the row to the law of the data. -/
theorem SlO.grow {α : Type} {T : Ty α} {e base : Nat} {w w' : World} {v v' : Value} {l l' : List α} {css css' : List (List Value)} {fps fps' : List (List Nat)} {fp : List Nat} {m : Nat}
    (h1 : css.length = l.length) (h2 : fps.length = l.length) (h3 : w.ownsRow base e T.size v l.length css.flatten) (h4 : ∀ (i : Nat) cs a f, css[i]? = some cs → l[i]? = some a → fps[i]? = some f → T.O base w cs a f) (h5 : fp = v.ownBlock.toList ++ fps.flatten) (h6 : fp.Nodup)
    (k1 : css'.length = l'.length) (k2 : fps'.length = l'.length) (k4 : ∀ (i : Nat) cs a f, css'[i]? = some cs → l'[i]? = some a → fps'[i]? = some f → T.O base w cs a f) (k6 : fps'.flatten.Nodup) (hd : ∀ b ∈ fps'.flatten, b ∉ fp) (hm : m = l'.length)
    (ho : w'.ownsRow base e T.size v' (l.length + m) (css.flatten ++ css'.flatten)) (hg : w.grownBy w' v.ownBlock) (hv : v'.ownBlock = v.ownBlock ∨ v'.ownBlock = some w.heap.size) :
    ∃ fp', SlO T e base w' v' (l ++ l') fp' ∧ (∀ b ∈ fp', b ∈ fp ∨ b ∈ fps'.flatten ∨ b = w.heap.size) ∧ Kept fp w w' := by
  have hlt : ∀ b ∈ fps.flatten, b < w.heap.size := fun b hb => by
    obtain ⟨f, hf, hbf⟩ := List.mem_flatten.1 hb
    obtain ⟨i, hi, rfl⟩ := List.getElem_of_mem hf
    exact (T.lt _ _ _ _ _ (h4 i _ _ _ (List.getElem?_eq_getElem (by omega)) (List.getElem?_eq_getElem (by omega)) (List.getElem?_eq_getElem hi)) b hbf).2
  have hlt' : ∀ b ∈ fps'.flatten, b < w.heap.size := fun b hb => by
    obtain ⟨f, hf, hbf⟩ := List.mem_flatten.1 hb
    obtain ⟨i, hi, rfl⟩ := List.getElem_of_mem hf
    exact (T.lt _ _ _ _ _ (k4 i _ _ _ (List.getElem?_eq_getElem (by omega)) (List.getElem?_eq_getElem (by omega)) (List.getElem?_eq_getElem hi)) b hbf).2
  have hnd : (v.ownBlock.toList ++ fps.flatten).Nodup := h5 ▸ h6
  have hnot : ∀ b ∈ fps.flatten, some b ≠ v.ownBlock := fun b hb hq => by
    rw [← hq] at hnd
    simp at hnd
    exact hnd.1 _ (List.mem_flatten.1 hb).choose_spec.1 (List.mem_flatten.1 hb).choose_spec.2
  have hnot' : ∀ b ∈ fps'.flatten, some b ≠ v.ownBlock := fun b hb hq => hd b hb (by rw [h5, ← hq]; simp)
  refine ⟨v'.ownBlock.toList ++ (fps ++ fps').flatten, ⟨css ++ css', fps ++ fps', by simp [h1, k1], by simp [h2, k2], ?_, ?_, rfl, ?_⟩, ?_, ?_⟩
  · rw [List.flatten_append, List.length_append, ← hm]
    exact ho
  · intro i cs a f hi ha hf
    by_cases hil : i < l.length
    · rw [List.getElem?_append_left (by omega)] at hi ha hf
      refine T.okeep _ _ _ _ _ _ (h4 i cs a f hi ha hf) fun b hb => ?_
      have hb' : b ∈ fps.flatten := List.mem_flatten.2 ⟨f, List.mem_of_getElem? hf, hb⟩
      exact hg.block b (hlt b hb') (hnot b hb')
    · rw [List.getElem?_append_right (by omega)] at hi ha hf
      rw [h1] at hi
      rw [h2] at hf
      refine T.okeep _ _ _ _ _ _ (k4 _ cs a f hi ha hf) fun b hb => ?_
      have hb' : b ∈ fps'.flatten := List.mem_flatten.2 ⟨f, List.mem_of_getElem? hf, hb⟩
      exact hg.block b (hlt' b hb') (hnot' b hb')
  · have hin : (fps ++ fps').flatten.Nodup := by
      rw [List.flatten_append, List.nodup_append]
      refine ⟨(List.nodup_append.1 hnd).2.1, k6, fun a ha b hb hab => hd b hb (by rw [h5, ← hab]; simp; right; exact List.mem_flatten.1 ha)⟩
    rcases hv with hv | hv
    · rw [hv]
      rw [List.nodup_append]
      refine ⟨(List.nodup_append.1 hnd).1, hin, fun a ha b hb hab => ?_⟩
      subst hab
      rw [List.flatten_append, List.mem_append] at hb
      simp at ha
      rcases hb with hb | hb
      · exact hnot _ hb ha.symm
      · exact hnot' _ hb ha.symm
    · rw [hv]
      simp only [Option.toList_some, List.singleton_append, List.nodup_cons]
      refine ⟨fun hb => ?_, hin⟩
      rw [List.flatten_append, List.mem_append] at hb
      rcases hb with hb | hb
      · have := hlt _ hb; omega
      · have := hlt' _ hb; omega
  · intro b hb
    rw [List.flatten_append, List.mem_append, List.mem_append] at hb
    rcases hb with hb | hb | hb
    · rcases hv with hv | hv
      · rw [hv] at hb
        exact .inl (by rw [h5]; simp at hb; simp [hb])
      · rw [hv] at hb
        simp at hb
        exact .inr (.inr hb)
    · exact .inl (by rw [h5, List.mem_append]; exact .inr hb)
    · exact .inr (.inl hb)
  · exact ⟨hg.os, hg.tape, hg.output, hg.size, fun k hk hn => hg.block k hk (fun hq => hn (by rw [h5, ← hq]; simp))⟩

/-- 'append(v, a)', a single element: for the walk. -/
theorem wpList_snoc {P : Program} {w : World} {ops : Array Oper} {rest : List Oper} {o : Oper} {act : Act} {Q : Exit → Act → World → Prop} {α : Type} {T : Ty α} (s x : Operand) {t e : TypeId} {bytes : Nat} (et : ElemT P t e T.size bytes) {base : Nat} {v : Value} {l : List α} {fp : List Nat} (hO : SlO T e base w v l fp)
    {A : Option Addr} {c : Nat} {cs : List Value} {a : α} {f : List Nat} (hr : Rd w A cs) (hel : T.O base w cs a f) (hd : ∀ b ∈ f, b ∉ fp) (hbytes : (l.length + 1) * bytes ≤ 140737488355328) (h63 : l.length + 1 ≤ maxLen) (hbase : base ≤ w.heap.size)
    (hgd : o.guard = none) (ho : o.op = .call { callee := .builtin .append, args := #[s, x], argTypes := #[t, t] }) (hs : act.eval s = v) (hx : act.eval x = .slice A 1 c)
    (h : ∀ v' w' fp', SlO T e base w' v' (l ++ [a]) fp' → (∀ b ∈ fp', b ∈ fp ∨ b ∈ f ∨ b = w.heap.size) → Kept fp w w' → wpList P ops Q rest (act.put o.dst v') w') : wpList P ops Q (o :: rest) act w := by
  obtain ⟨css, fps, h1, h2, h3, h4, h5, h6⟩ := hO
  have hlen : cs.length = 1 * T.size := by rw [T.len _ _ _ (T.read _ _ _ _ _ hel)]; omega
  refine wpList_app s x et h3 hr hlen (T.one _ _ _ (T.read _ _ _ _ _ hel)) hbytes h63 hbase hgd ho hs hx fun v' w' ho' hg' hv' => ?_
  obtain ⟨fp', g1, g2, g3⟩ := SlO.grow (css' := [cs]) (fps' := [f]) (l' := [a]) (m := 1) h1 h2 h3 h4 h5 h6 rfl rfl (fun i c' a' f' hi ha hf' => by
    rcases i with _ | i
    · simp at hi ha hf'
      subst hi ha hf'
      exact hel
    · simp at hi) (by simpa using T.nodup _ _ _ _ _ hel) (by simpa using hd) rfl (by simpa using ho') hg' hv'
  exact h v' w' fp' g1 (by simpa using g2) g3

theorem flat_nil {α : Type} (l : List α) : (l.map fun _ => ([] : List Nat)).flatten = [] := by
  induction l with
  | nil => rfl
  | cons a t ih => simp

/-- 'append(v, xs...)' of plain elements: for the walk. -/
theorem wpList_cat {P : Program} {w : World} {ops : Array Oper} {rest : List Oper} {o : Oper} {act : Act} {Q : Exit → Act → World → Prop} {α : Type} {T : Ty α} (hT : ∀ base w cs a, T.R w cs a → T.O base w cs a []) (s x : Operand) {t e : TypeId} {bytes : Nat} (et : ElemT P t e T.size bytes) {base : Nat} {v : Value} {l : List α} {fp : List Nat} (hO : SlO T e base w v l fp)
    {u : Value} {l' : List α} (hR : SlR T w u l') (hbytes : (l.length + l'.length) * bytes ≤ 140737488355328) (h63 : l.length + l'.length ≤ maxLen) (hbase : base ≤ w.heap.size)
    (hgd : o.guard = none) (ho : o.op = .call { callee := .builtin .append, args := #[s, x], argTypes := #[t, t] }) (hs : act.eval s = v) (hx : act.eval x = u)
    (h : ∀ v' w' fp', SlO T e base w' v' (l ++ l') fp' → (∀ b ∈ fp', b ∈ fp ∨ b = w.heap.size) → Kept fp w w' → wpList P ops Q rest (act.put o.dst v') w') : wpList P ops Q (o :: rest) act w := by
  obtain ⟨css, fps, h1, h2, h3, h4, h5, h6⟩ := hO
  obtain ⟨A, c, css', rfl, r1, r2, r3, r4⟩ := hR
  have hall : ∀ (i : Nat) cs, css'[i]? = some cs → cs.length = T.size := fun i cs hi => by
    have hlt : i < l'.length := by rw [← r2]; exact (List.getElem?_eq_some_iff.1 hi).1
    exact T.len _ _ _ (r4 i cs _ hi (List.getElem?_eq_getElem hlt))
  have h11 : ∀ u ∈ css'.flatten, u.oneCell' = true := fun u hu => by
    obtain ⟨cs, hcs, hu⟩ := List.mem_flatten.1 hu
    obtain ⟨i, hi, rfl⟩ := List.getElem_of_mem hcs
    exact T.one _ _ _ (r4 i _ _ (List.getElem?_eq_getElem hi) (List.getElem?_eq_getElem (by omega))) u hu
  refine wpList_app s x et h3 r3 (by rw [flatten_len hall, r2]) h11 hbytes h63 hbase hgd ho hs hx fun v' w' ho' hg' hv' => ?_
  obtain ⟨fp', g1, g2, g3⟩ := SlO.grow (css' := css') (fps' := l'.map fun _ => []) (l' := l') (m := l'.length) h1 h2 h3 h4 h5 h6 r2 (by simp) (fun i c' a' f' hi ha hf' => by
    simp at hf'
    obtain ⟨_, _, rfl⟩ := hf'
    exact hT _ _ _ _ (r4 i _ _ hi ha)) (by rw [flat_nil]; exact List.nodup_nil) (by rw [flat_nil]; simp) rfl ho' hg' hv'
  exact h v' w' fp' g1 (fun b hb => by
    rcases g2 b hb with g | g | g
    · exact .inl g
    · rw [flat_nil] at g; cases g
    · exact .inr g) g3

theorem SlO.form {α : Type} {T : Ty α} {w : World} {v : Value} {l : List α} {e base : Nat} {fp : List Nat} (h : SlO T e base w v l fp) : ∃ A c, v = .slice A l.length c ∧ l.length ≤ c := h.read.form

/-- A row of n elements that is being filled: the elements l are there. -/
def Fil {α : Type} (T : Ty α) (e : TypeId) (base : Nat) (w : World) (g n : Nat) (l : List α) (xs : List Value) : Prop :=
  w.ownsRow base e T.size (.slice (some ⟨g, 0, none⟩) n n) n xs ∧ ∃ (css : List (List Value)) (fps : List (List Nat)), css.length = l.length ∧ fps.length = l.length ∧ Filled T.size css xs ∧
    (∀ (i : Nat) cs a f, css[i]? = some cs → l[i]? = some a → fps[i]? = some f → T.O base w cs a f) ∧ (g :: fps.flatten).Nodup

theorem Fil.start {α : Type} (T : Ty α) (e : TypeId) (w : World) (Z : Array Value) (n : Nat) (hZ : Z.size = n * T.size) (hm : n ≤ maxLen) : Fil T e w.heap.size (w.alloc (.cells Z e)) w.heap.size n [] Z.toList :=
  ⟨World.ownsRow_lit w Z n (Nat.le_refl _) hm hZ, [], [], rfl, rfl, Filled.nil, fun i cs a f h => by simp at h, by simp⟩

theorem Fil.step {α : Type} {T : Ty α} {e : TypeId} {base : Nat} {w w1 w2 : World} {g n k : Nat} {l : List α} {xs xs' : List Value} (h : Fil T e base w g n l xs) (hb : Below w.heap.size w w1) {cs : List Value} {a : α} {f : List Nat} (hO : T.O w.heap.size w1 cs a f) (hbase : base ≤ w.heap.size)
    (ho : w2.ownsRow base e T.size (.slice (some ⟨g, 0, none⟩) n n) n xs') (hw : ∀ b, b ≠ g → w2.heap[b]? = w1.heap[b]?) (hk : l.length = k) (h1 : ∀ m, m < k * T.size → xs'[m]? = xs[m]?) (h2 : ∀ j, j < T.size → xs'[k * T.size + j]? = cs[j]?) : Fil T e base w2 g n (l ++ [a]) xs' := by
  obtain ⟨h3, css, fps, h4, h5, h6, h7, h8⟩ := h
  have hlt : ∀ b ∈ fps.flatten, b < w.heap.size := fun b hb => by
    obtain ⟨f, hf, hbf⟩ := List.mem_flatten.1 hb
    obtain ⟨i, hi, rfl⟩ := List.getElem_of_mem hf
    exact (T.lt _ _ _ _ _ (h7 i _ _ _ (List.getElem?_eq_getElem (by omega)) (List.getElem?_eq_getElem (by omega)) (List.getElem?_eq_getElem hi)) b hbf).2
  have hgw : g < w.heap.size := (h3.lt g rfl).2
  have hge := T.lt _ _ _ _ _ hO
  have hf := T.nodup _ _ _ _ _ hO
  have hO' := T.mono _ _ _ _ _ _ hbase hO
  rw [List.nodup_cons] at h8
  refine ⟨ho, css ++ [cs], fps ++ [f], by simp [h4], by simp [h5], h6.snoc (by omega) h1 h2, ?_, ?_⟩
  · intro i c a' f' hi ha hf'
    by_cases hil : i < l.length
    · rw [List.getElem?_append_left (by omega)] at hi ha hf'
      refine T.okeep _ _ _ _ _ _ (h7 i c a' f' hi ha hf') fun b hbm => ?_
      have hb' : b ∈ fps.flatten := List.mem_flatten.2 ⟨f', List.mem_of_getElem? hf', hbm⟩
      rw [hw b (fun e => h8.1 (e ▸ hb')), hb.block b (hlt b hb')]
    · rw [List.getElem?_append_right (by omega)] at hi ha hf'
      rw [h4] at hi
      rw [h5] at hf'
      have hi0 : i - l.length = 0 := by
        have := (List.getElem?_eq_some_iff.1 ha).1
        simp at this
        omega
      rw [hi0] at hi ha hf'
      simp at hi ha hf'
      subst hi ha hf'
      refine T.okeep _ _ _ _ _ _ hO' fun b hbm => hw b fun e => ?_
      have := (hge b hbm).1
      omega
  · rw [List.flatten_append, List.nodup_cons]
    refine ⟨fun hm => ?_, ?_⟩
    · rw [List.mem_append] at hm
      rcases hm with hm | hm
      · exact h8.1 hm
      · have := (hge g (by simpa using hm)).1; omega
    · rw [List.nodup_append]
      refine ⟨h8.2, by simpa using hf, fun x hx y hy hxy => ?_⟩
      have h9 := hlt x hx
      have h10 := (hge y (by simpa using hy)).1
      omega

theorem Fil.done {α : Type} {T : Ty α} {e : TypeId} {base : Nat} {w : World} {g n : Nat} {l : List α} {xs : List Value} (h : Fil T e base w g n l xs) (hn : l.length = n) : ∃ fp, SlO T e base w (.slice (some ⟨g, 0, none⟩) n n) l fp := by
  obtain ⟨h3, css, fps, h4, h5, h6, h7, h8⟩ := h
  have hall : ∀ (i : Nat) cs, css[i]? = some cs → cs.length = T.size := fun i cs hi => by
    have hlt : i < css.length := (List.getElem?_eq_some_iff.1 hi).1
    exact T.len _ _ _ (T.read _ _ _ _ _ (h7 i cs _ _ hi (List.getElem?_eq_getElem (by omega)) (List.getElem?_eq_getElem (by omega))))
  have hx := h6.done h3.1 (by omega) hall
  subst hx
  exact ⟨_, css, fps, h4, h5, by rw [hn]; exact h3, h7, rfl, by simpa [Value.ownBlock] using h8⟩

theorem set1_old {xs : List Value} {k m : Nat} {a : Value} (h : m < k * 1) : (xs.set k a)[m]? = xs[m]? := by rw [List.getElem?_set, if_neg (by omega)]
theorem set1_new {xs : List Value} {k n j : Nat} {a : Value} (hx : xs.length = n * 1) (hn : k < n) (hj : j < 1) : (xs.set k a)[k * 1 + j]? = [a][j]? := by
  rcases j with _ | j
  · simp [List.getElem?_set]; omega
  · omega
theorem set2_old {xs : List Value} {k m : Nat} {a b : Value} (h : m < k * 2) : ((xs.set (k * 2) a).set (k * 2 + 1) b)[m]? = xs[m]? := by
  simp only [List.getElem?_set]; repeat rw [if_neg (by omega)]
theorem set2_new {xs : List Value} {k n j : Nat} {a b : Value} (hx : xs.length = n * 2) (hn : k < n) (hj : j < 2) : ((xs.set (k * 2) a).set (k * 2 + 1) b)[k * 2 + j]? = [a, b][j]? := by
  rcases j with _ | _ | j <;> simp [List.getElem?_set] <;> omega
theorem set3_old {xs : List Value} {k m : Nat} {a b c : Value} (h : m < k * 3) : (((xs.set (k * 3) a).set (k * 3 + 1) b).set (k * 3 + 2) c)[m]? = xs[m]? := by
  simp only [List.getElem?_set]; repeat rw [if_neg (by omega)]
theorem set3_new {xs : List Value} {k n j : Nat} {a b c : Value} (hx : xs.length = n * 3) (hn : k < n) (hj : j < 3) : (((xs.set (k * 3) a).set (k * 3 + 1) b).set (k * 3 + 2) c)[k * 3 + j]? = [a, b, c][j]? := by
  rcases j with _ | _ | _ | j <;> simp [List.getElem?_set] <;> omega
theorem set4_old {xs : List Value} {k m : Nat} {a b c d : Value} (h : m < k * 4) : ((((xs.set (k * 4) a).set (k * 4 + 1) b).set (k * 4 + 2) c).set (k * 4 + 3) d)[m]? = xs[m]? := by
  simp only [List.getElem?_set]; repeat rw [if_neg (by omega)]
theorem set4_new {xs : List Value} {k n j : Nat} {a b c d : Value} (hx : xs.length = n * 4) (hn : k < n) (hj : j < 4) : ((((xs.set (k * 4) a).set (k * 4 + 1) b).set (k * 4 + 2) c).set (k * 4 + 3) d)[k * 4 + j]? = [a, b, c, d][j]? := by
  rcases j with _ | _ | _ | _ | j <;> simp [List.getElem?_set] <;> omega
theorem set5_old {xs : List Value} {k m : Nat} {a b c d e : Value} (h : m < k * 5) : (((((xs.set (k * 5) a).set (k * 5 + 1) b).set (k * 5 + 2) c).set (k * 5 + 3) d).set (k * 5 + 4) e)[m]? = xs[m]? := by
  simp only [List.getElem?_set]; repeat rw [if_neg (by omega)]
theorem set5_new {xs : List Value} {k n j : Nat} {a b c d e : Value} (hx : xs.length = n * 5) (hn : k < n) (hj : j < 5) : (((((xs.set (k * 5) a).set (k * 5 + 1) b).set (k * 5 + 2) c).set (k * 5 + 3) d).set (k * 5 + 4) e)[k * 5 + j]? = [a, b, c, d, e][j]? := by
  rcases j with _ | _ | _ | _ | _ | j <;> simp [List.getElem?_set] <;> omega

/-- Stores into one block leave the others. -/
theorem far_set {w : World} {g j b : Nat} {u : Value} (h : b ≠ g) : (w.setCell ⟨g, j, none⟩ u).heap[b]? = w.heap[b]? := Below.heap_setCell w ⟨g, j, none⟩ u b h

theorem SlO.set {α : Type} {T : Ty α} {e base g j : Nat} {w : World} {v u : Value} {l : List α} {fp : List Nat} (h : SlO T e base w v l fp) (hg : g < base) : SlO T e base (w.setCell ⟨g, j, none⟩ u) v l fp :=
  h.keep fun b hb => far_set (by have := (h.size_ok b hb).1; omega)
theorem SlO.alloc {α : Type} {T : Ty α} {e base : Nat} {w : World} {v : Value} {l : List α} {fp : List Nat} (h : SlO T e base w v l fp) (o : Obj) : SlO T e base (w.alloc o) v l fp :=
  h.keep fun b hb => Below.heap_alloc _ _ _ (h.size_ok b hb).2
theorem SlO.drewN {α : Type} {T : Ty α} {e base : Nat} {w : World} {v : Value} {l : List α} {fp : List Nat} (h : SlO T e base w v l fp) (n : Nat) : SlO T e base (w.drewN n) v l fp := h.keep fun b hb => rfl
theorem SlO.drew {α : Type} {T : Ty α} {e base : Nat} {w : World} {v : Value} {l : List α} {fp : List Nat} (h : SlO T e base w v l fp) : SlO T e base w.drew v l fp := h.keep fun b hb => rfl

theorem Ty.obelow {α : Type} (T : Ty α) {base : Nat} {w w' : World} {cs : List Value} {a : α} {fp : List Nat} (h : T.O base w cs a fp) (hb : Below w.heap.size w w') : T.O base w' cs a fp :=
  T.okeep _ _ _ _ _ _ h fun b hm => hb.block b (T.lt _ _ _ _ _ h b hm).2
theorem Ty.okept {α : Type} (T : Ty α) {base : Nat} {w w' : World} {cs : List Value} {a : α} {fp fp' : List Nat} (h : T.O base w cs a fp) (hk : Kept fp' w w') (hd : ∀ b ∈ fp, b ∉ fp') : T.O base w' cs a fp :=
  T.okeep _ _ _ _ _ _ h fun b hm => hk.block b (T.lt _ _ _ _ _ h b hm).2 (hd b hm)
theorem Ty.rd {α : Type} (T : Ty α) {base : Nat} {w : World} {cs : List Value} {a : α} {fp : List Nat} (h : T.O base w cs a fp) : T.R w cs a := T.read _ _ _ _ _ h
theorem Ty.kp {α : Type} (T : Ty α) {w w' : World} {cs : List Value} {a : α} (h : T.R w cs a) (hb : Below w.heap.size w w') : T.R w' cs a := T.keep _ _ _ _ h hb

end Go.Proofs.Ytfgobdejlfojiaa
