/- Strings as lists of bytes: constants, sums, comparing, out of byte slices, slices of strings. -/
import Derived.Test.YtfgobdejlfojiaaWkH
import Derived.Laws.Concat
import Derived.Laws.BytesArg
import Derived.Laws.BytesString
import Derived.Laws.Strings
namespace Go.Proofs.Ytfgobdejlfojiaa
open Go.RowKit
set_option linter.unusedVariables false
set_option maxRecDepth 20000

abbrev Sv (l : List UInt8) : Value := .string ⟨l.toArray⟩
def strT : Ty (List UInt8) := flatT 1 (fun l => [Sv l]) (by omega) (fun _ => rfl) (fun _ u hu => by simp at hu; rw [hu]; rfl)
theorem str_flat (base : Nat) (w : World) (cs : List Value) (a : List UInt8) (h : strT.R w cs a) : strT.O base w cs a [] := ⟨h, rfl⟩
theorem e_str : ElemT Try.prog 134 9 strT.size 16 := ElemT.mk' Try.underlying134 (z := .string ⟨#[]⟩) (by kernel_rfl) rfl (by decide)
theorem bs_str1 (a : ByteArray) (w : World) : (Instr.buildSlice 134 1 #[(0, .string a)]).run Try.prog w = .ok (.slice (some ⟨w.heap.size, 0, none⟩) 1 1) (w.alloc (.cells #[.string a] 9)) := by kernel_rfl

section
variable {P : Program} {n : Nat} {ops : Array Oper} {Q : Exit → Act → World → Prop} {L : Frm} {w w0 : World} {m : Md} {r : IT} {d : Nat} {ty : TypeId} {pos : String} {af : Array Edge}
theorem t_cats {x y : Operand} {t t' : TypeId} {a b : List UInt8} (hx : ev L x = some (Sv a)) (hy : ev L y = some (Sv b)) (hr : a.length + b.length ≤ 9223372036854775807) (k : WT P n ops Q r ((d, Sv (a ++ b)) :: L) w) (hn : Nat.blt d n = true) : WT P n ops Q (.st m ⟨some d, .binOp .add t x y t', ty, pos, af, none⟩ r) L w :=
  t_read (fun e ha _ _ _ w' _ => by
    have h : (Op.stringOp .add (ByteArray.mk a.toArray) (ByteArray.mk b.toArray)).run P w' = .ok (Sv (a ++ b)) w' := by
      rw [run_string_add_sum (a := ByteArray.mk a.toArray) (b := ByteArray.mk b.toArray) (h := by simpa [ByteArray.size] using hr), ByteArray.mk_append_mk]
    simp [execOp, ha.ev hx, ha.ev hy, eqGuard, binOp, h]) k hn
theorem t_neqs {x y : Operand} {t t' : TypeId} {a b : List UInt8} (hx : ev L x = some (Sv a)) (hy : ev L y = some (Sv b)) (k : WT P n ops Q r ((d, .bool (decide (a ≠ b))) :: L) w) (hn : Nat.blt d n = true) : WT P n ops Q (.st m ⟨some d, .binOp .neq t x y t', ty, pos, af, none⟩ r) L w :=
  t_read (fun e ha _ _ _ w' _ => by
    have h : (Op.stringOp .neq (ByteArray.mk a.toArray) (ByteArray.mk b.toArray)).run P w' = .ok (.bool (decide (a ≠ b))) w' := by
      simp only [Op.stringOp, ByteArray.toList_mk, Sem.run_pure]
      congr 2
      by_cases hab : a = b <;> simp [hab]
    simp [execOp, ha.ev hx, ha.ev hy, eqGuard, binOp, h]) k hn
theorem t_ldstr {t : TypeId} {xo : Operand} {p : Value} {a : List UInt8} (h : Ptr strT w0 p a) (ha : aggB P t = some false) (B : Ext w0 w) (hx : ev L xo = some p) (k : WT P n ops Q r ((d, Sv a) :: L) w) (hn : Nat.blt d n = true) : WT P n ops Q (.st m ⟨some d, .load t xo, ty, pos, af, none⟩ r) L w := by
  obtain ⟨g, o, cs, rfl, h2, h3⟩ := h
  have hcs : cs = [Sv a] := h2
  subst hcs
  exact t_ld1 ha (h3 0 _ rfl) B hx k hn
theorem t_neg {x : Operand} {t : TypeId} {a : Int} (hx : ev L x = some (I a)) (hr : -9223372036854775808 ≤ -a ∧ -a ≤ 9223372036854775807) (k : WT P n ops Q r ((d, I (-a)) :: L) w) (hn : Nat.blt d n = true) : WT P n ops Q (.st m ⟨some d, .unOp .neg t x, ty, pos, af, none⟩ r) L w :=
  t_read (fun e ha _ _ _ w' _ => by simp [execOp, ha.ev hx, Op.unary, Op.intArith, wr64 hr]) k hn
theorem t_quot {x y : Operand} {t t' : TypeId} {a b : Int} (hx : ev L x = some (I a)) (hy : ev L y = some (I b)) (hb : b ≠ 0) (hr : -9223372036854775808 ≤ a.tdiv b ∧ a.tdiv b ≤ 9223372036854775807) (k : WT P n ops Q r ((d, I (a.tdiv b)) :: L) w) (hn : Nat.blt d n = true) : WT P n ops Q (.st m ⟨some d, .binOp .quo t x y t', ty, pos, af, none⟩ r) L w :=
  t_read (fun e ha _ _ _ w' _ => by simp [execOp, ha.ev hx, ha.ev hy, eqGuard, binOp, Op.intDiv, hb, wr64 hr]) k hn
theorem byte_cells {w : World} {l : List UInt8} {css : List (List Value)} (hl : css.length = l.length) (h : ∀ (i : Nat) cs a, css[i]? = some cs → l[i]? = some a → byteT.R w cs a) : css.flatten = l.map fun b => Value.int .u8 (b.toNat : Int) := by
  have e : css = l.map fun b => [Value.int .u8 (b.toNat : Int)] := by
    apply List.ext_getElem?
    intro i
    rcases Nat.lt_or_ge i l.length with hi | hi
    · have h1 : css[i]? = some (css[i]'(by omega)) := List.getElem?_eq_getElem (by omega)
      have h2 : l[i]? = some (l[i]'hi) := List.getElem?_eq_getElem hi
      have h3 : css[i]'(by omega) = [Value.int .u8 ((l[i]'hi).toNat : Int)] := h i _ _ h1 h2
      rw [h1, h3, List.getElem?_map, h2]
      rfl
    · rw [List.getElem?_eq_none (by omega), List.getElem?_map, List.getElem?_eq_none hi]
      rfl
  rw [e]
  clear e hl h
  induction l with
  | nil => rfl
  | cons a t ih => simp only [List.map_cons, List.flatten_cons, ih]; rfl
/-- A string out of a byte slice. -/
theorem t_bts {s t e : TypeId} {x : Operand} {v : Value} {l : List UInt8} (hs : P.underlying s = some (.slice e)) (he : P.underlying e = some (.int .u8)) (ht : P.underlying t = some .string) (h : SlR byteT w0 v l) (B : Ext w0 w) (hx : ev L x = some v) (k : WT P n ops Q r ((d, Sv l) :: L) w) (hn : Nat.blt d n = true) : WT P n ops Q (.st m ⟨some d, .convert s t x, ty, pos, af, none⟩ r) L w := by
  obtain ⟨A, c, css, rfl, h1, h2, h3, h4⟩ := h
  have hfl := byte_cells h2 h4
  rw [hfl] at h3
  refine t_read (fun a ha _ _ _ w' hw' => ?_) k hn
  have h3' : Rd w' A (l.map fun b => Value.int .u8 (b.toNat : Int)) := (h3.below B).below hw'
  have key : (Conv.bytesToString (.slice A l.length c)).run P w' = .ok (Sv l) w' := by
    cases A with
    | none =>
      have : l = [] := by
        rcases Nat.eq_zero_or_pos l.length with hz | hz
        · exact List.eq_nil_of_length_eq_zero hz
        · obtain ⟨g, o, hA, _⟩ := h3' (by simpa using hz)
          cases hA
      subst this
      rfl
    | some ad =>
      have hld : (loadCells ad l.length).run P w' = .ok ((l.map fun b => (b.toNat : Int)).map (Value.int .u8)).toArray w' := by
        rcases Nat.eq_zero_or_pos l.length with hz | hz
        · have : l = [] := List.eq_nil_of_length_eq_zero hz
          subst this
          simp [loadCells, loadCellsFrom]
        · obtain ⟨g, o, hA, hc⟩ := h3' (by simpa using hz)
          cases hA
          have := run_loadCells (P := P) (w := w') (g := g) (o := o) (cs := l.map fun b => Value.int .u8 (b.toNat : Int)) hc
          rw [List.length_map] at this
          rw [this, List.map_map]
          rfl
      rw [run_bytesToString w' ad l.length c _ hld, foldl_push_bytes]
      congr 2
      simp [Function.comp_def]
  simp [execOp, ha.ev hx, convert, run_underlying hs, run_underlying ht, run_underlying he, key]
end

/-! ### Numbers as text -/

def digs (n : Nat) : List UInt8 := if h : n < 10 then [bt (48 + (n : Int))] else digs (n / 10) ++ [bt (48 + ((n % 10 : Nat) : Int))]
termination_by n
decreasing_by omega
theorem digs_small {n : Nat} (h : n < 10) : digs n = [bt (48 + (n : Int))] := by rw [digs, dif_pos h]
theorem digs_big {n : Nat} (h : ¬ n < 10) : digs n = digs (n / 10) ++ [bt (48 + ((n % 10 : Nat) : Int))] := by rw [digs, dif_neg h]
theorem digs_len : ∀ (k n : Nat), n < 10 ^ (k + 1) → (digs n).length ≤ k + 1
  | 0, n, h => by rw [digs_small (by omega)]; simp
  | k + 1, n, h => by
    by_cases hs : n < 10
    · rw [digs_small hs]; simp
    · rw [digs_big hs, List.length_append, List.length_singleton]
      have := digs_len k (n / 10) (by rw [Nat.div_lt_iff_lt_mul (by omega)]; rw [Nat.pow_succ] at h; exact h)
      omega
def fmtI (n : Int) : List UInt8 := (if n < 0 then [45] else []) ++ digs n.natAbs
theorem fmtI_len {n : Int} (h : In64 n) : (digs n.natAbs).length ≤ 20 ∧ (fmtI n).length ≤ 21 := by
  have h1 := digs_len 19 n.natAbs (by unfold In64 at h; omega)
  refine ⟨h1, ?_⟩
  unfold fmtI
  rw [List.length_append]
  split
  · simp; omega
  · simp; omega
theorem digit (n : Int) : ((n.natAbs % 10 : Nat) : Int) = if n.tmod 10 < 0 then -(n.tmod 10) else n.tmod 10 := by
  have h : (n.tmod 10).natAbs = n.natAbs % 10 := Int.natAbs_tmod n 10
  split <;> omega
theorem natAbs_quot (n : Int) : (n.tdiv 10).natAbs = n.natAbs / 10 := by
  exact Int.natAbs_tdiv n 10
end Go.Proofs.Ytfgobdejlfojiaa
