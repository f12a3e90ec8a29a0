/- Reading numbers and paths out of bytes, in plain words. -/
import Derived.Test.YtfgobdejlfojiaaWkI
import Derived.Test.YtfgobdejlfojiaaWkH
namespace Go.Proofs.Ytfgobdejlfojiaa
open Go.RowKit
set_option linter.unusedVariables false
set_option maxRecDepth 20000

/-- A number's bytes from place i on: place k of it is at hand, n is so far. -/
def rvK (b : List UInt8) : Nat → Nat → Int → Nat → Option (Int × Nat)
  | 0, _, _, _ => none
  | f + 1, k, n, i => match b[i]? with
    | none => none
    | some x => if x.toNat < 128 then (if (x.toNat = 0 ∧ 0 < k) ∨ 1000000000000 < n + (x.toNat : Int) % 128 * 128 ^ k then none else some (n + (x.toNat : Int) % 128 * 128 ^ k, i + 1)) else rvK b f (k + 1) (n + (x.toNat : Int) % 128 * 128 ^ k) (i + 1)
def readV (b : List UInt8) (i : Nat) : Option (Int × Nat) := rvK b 6 0 0 i
/-- What a reader of numbers hands back. -/
def rv3 : Option (Int × Nat) → Int × Int × Bool
  | none => (0, 0, false)
  | some (n, i) => (n, i, true)
def readVI (b : List UInt8) (i : Int) : Option (Int × Nat) := if 0 ≤ i then readV b i.toNat else none

theorem rvK_end {b : List UInt8} {f k i : Nat} {n : Int} (h : b.length ≤ i) : rvK b f k n i = none := by
  cases f with
  | zero => rfl
  | succ f => rw [rvK, List.getElem?_eq_none h]
theorem rvK_more {b : List UInt8} {f k i : Nat} {n : Int} {x : UInt8} (hx : b[i]? = some x) (h : ¬ x.toNat < 128) : rvK b (f + 1) k n i = rvK b f (k + 1) (n + (x.toNat : Int) % 128 * 128 ^ k) (i + 1) := by
  rw [rvK, hx]; simp only [if_neg h]
theorem rvK_bad {b : List UInt8} {f k i : Nat} {n : Int} {x : UInt8} (hx : b[i]? = some x) (h : x.toNat < 128) (hb : (x.toNat = 0 ∧ 0 < k) ∨ 1000000000000 < n + (x.toNat : Int) % 128 * 128 ^ k) : rvK b (f + 1) k n i = none := by
  rw [rvK, hx]; simp only [if_pos h, if_pos hb]
theorem rvK_last {b : List UInt8} {f k i : Nat} {n : Int} {x : UInt8} (hx : b[i]? = some x) (h : x.toNat < 128) (hb : ¬ ((x.toNat = 0 ∧ 0 < k) ∨ 1000000000000 < n + (x.toNat : Int) % 128 * 128 ^ k)) : rvK b (f + 1) k n i = some (n + (x.toNat : Int) % 128 * 128 ^ k, i + 1) := by
  rw [rvK, hx]; simp only [if_pos h, if_neg hb]
theorem rvK_out {b : List UInt8} : ∀ {f k i : Nat} {n : Int} {r : Int × Nat}, 0 ≤ n → rvK b f k n i = some r → 0 ≤ r.1 ∧ r.1 ≤ 1000000000000 ∧ i < r.2 ∧ r.2 ≤ b.length
  | 0, _, _, _, _, _, h => by cases h
  | f + 1, k, i, n, r, hn, h => by
    have hp : (0 : Int) ≤ 128 ^ k := Int.pow_nonneg (by omega)
    cases hx : b[i]? with
    | none => rw [rvK, hx] at h; cases h
    | some x =>
      have hi := (List.getElem?_eq_some_iff.1 hx).1
      have h0 : 0 ≤ (x.toNat : Int) % 128 * 128 ^ k := Int.mul_nonneg (by omega) hp
      by_cases hs : x.toNat < 128
      · by_cases hb : (x.toNat = 0 ∧ 0 < k) ∨ 1000000000000 < n + (x.toNat : Int) % 128 * 128 ^ k
        · rw [rvK_bad hx hs hb] at h; cases h
        · rw [rvK_last hx hs hb] at h
          cases h
          exact ⟨by show 0 ≤ n + _; omega, by show n + _ ≤ _; omega, by show i < i + 1; omega, by show i + 1 ≤ _; omega⟩
      · rw [rvK_more hx hs] at h
        have := rvK_out (by omega) h
        exact ⟨this.1, this.2.1, by omega, this.2.2.2⟩
theorem readV_out {b : List UInt8} {i : Nat} {r : Int × Nat} (h : readV b i = some r) : 0 ≤ r.1 ∧ r.1 ≤ 1000000000000 ∧ i < r.2 ∧ r.2 ≤ b.length := rvK_out (by omega) h
theorem readVI_out {b : List UInt8} {i : Int} {r : Int × Nat} (h : readVI b i = some r) : 0 ≤ r.1 ∧ r.1 ≤ 1000000000000 ∧ i < r.2 ∧ r.2 ≤ b.length ∧ 0 ≤ i := by
  unfold readVI at h
  split at h
  · have := readV_out h; omega
  · cases h

/-- Some numbers, one behind the other. -/
def decA (b : List UInt8) : Nat → Nat → List Int → Option (List Int × Nat)
  | 0, i, acc => some (acc, i)
  | n + 1, i, acc => match readV b i with
    | none => none
    | some (x, j) => decA b n j (acc ++ [x])
theorem decA_no {b : List UInt8} {n i : Nat} {acc : List Int} (h : readV b i = none) : decA b (n + 1) i acc = none := by rw [decA, h]
theorem decA_yes {b : List UInt8} {n i j : Nat} {x : Int} {acc : List Int} (h : readV b i = some (x, j)) : decA b (n + 1) i acc = decA b n j (acc ++ [x]) := by rw [decA, h]
theorem decA_add {b : List UInt8} : ∀ (m n i : Nat) (acc : List Int), decA b (m + n) i acc = match decA b m i acc with
    | none => none
    | some (l, j) => decA b n j l
  | 0, n, i, acc => by simp [decA]
  | m + 1, n, i, acc => by
    rw [show m + 1 + n = (m + n) + 1 by omega]
    cases h : readV b i with
    | none => rw [decA_no h, decA_no h]
    | some r =>
      obtain ⟨x, j⟩ := r
      rw [decA_yes h, decA_yes h, decA_add m n j]
theorem decA_acc {b : List UInt8} : ∀ (n i : Nat) (acc pre : List Int), decA b n i (pre ++ acc) = (decA b n i acc).map fun r => (pre ++ r.1, r.2)
  | 0, i, acc, pre => rfl
  | n + 1, i, acc, pre => by
    cases h : readV b i with
    | none => rw [decA_no h, decA_no h]; rfl
    | some r =>
      obtain ⟨x, j⟩ := r
      rw [decA_yes h, decA_yes h, List.append_assoc, decA_acc n j]
theorem decA_pre {b : List UInt8} (n i : Nat) (pre : List Int) : decA b n i pre = (decA b n i []).map fun r => (pre ++ r.1, r.2) := by
  have := decA_acc (b := b) n i [] pre
  rwa [List.append_nil] at this
theorem decA_out {b : List UInt8} : ∀ {n i : Nat} {acc : List Int} {r : List Int × Nat}, decA b n i acc = some r → (∀ x ∈ acc, 0 ≤ x ∧ x ≤ 1000000000000) → i ≤ b.length → r.1.length = acc.length + n ∧ (∀ x ∈ r.1, 0 ≤ x ∧ x ≤ 1000000000000) ∧ i ≤ r.2 ∧ r.2 ≤ b.length
  | 0, i, acc, r, h, ha, hi => by cases h; exact ⟨rfl, ha, Nat.le_refl _, hi⟩
  | n + 1, i, acc, r, h, ha, hi => by
    cases hr : readV b i with
    | none => rw [decA_no hr] at h; cases h
    | some q =>
      obtain ⟨x, j⟩ := q
      have ho := readV_out hr
      rw [decA_yes hr] at h
      have := decA_out h (fun y hy => by
        rcases List.mem_append.1 hy with hy | hy
        · exact ha y hy
        · rw [List.mem_singleton] at hy; rw [hy]; exact ⟨ho.1, ho.2.1⟩) ho.2.2.2
      have h3 : j ≤ r.2 := this.2.2.1
      have h4 : i < j := ho.2.2.1
      refine ⟨?_, this.2.1, by omega, this.2.2.2⟩
      rw [this.1, List.length_append, List.length_singleton]; omega
/-- Some numbers from a place that may lie outside. -/
def decI (b : List UInt8) (i : Int) (n : Int) : Option (List Int × Nat) := if inR n 0 100 && inR i 0 b.length then decA b n.toNat i.toNat [] else none
def dec3 : Option (List Int × Nat) → List Int × Int × Bool
  | none => ([], 0, false)
  | some (l, i) => (l, i, true)
theorem decI_out {b : List UInt8} {i n : Int} {r : List Int × Nat} (h : decI b i n = some r) : r.1.length = n.toNat ∧ (∀ x ∈ r.1, 0 ≤ x ∧ x ≤ 1000000000000) ∧ i ≤ r.2 ∧ r.2 ≤ b.length := by
  unfold decI at h
  split at h
  · rename_i hc
    simp only [Bool.and_eq_true] at hc
    have h2 := inR_iff.1 hc.2
    have := decA_out h (fun x hx => by cases hx) (by omega)
    refine ⟨by rw [this.1]; simp, this.2.1, by omega, this.2.2.2⟩
  · cases h

/-! ### Paths -/

def partOfI (h hs : List Int) : Part := ⟨gI h 0, gI h 1, gI h 2, hopsAt hs 0 (gI h 3).toNat⟩
def rpK (b : List UInt8) : Nat → Nat → Path → Option (Path × Nat)
  | 0, i, acc => if encPath acc then some (acc, i) else none
  | n + 1, i, acc => match decA b 4 i [] with
    | none => none
    | some (h, j) => if 8 < gI h 3 then none else match decA b (5 * (gI h 3).toNat) j [] with
      | none => none
      | some (hs, e) => rpK b n e (acc ++ [partOfI h hs])
def readP (b : List UInt8) (i : Int) : Option (Path × Nat) := match readVI b i with
  | none => none
  | some (n, j) => if 3 < n then none else rpK b n.toNat j []
def rp3 : Option (Path × Nat) → Path × Int × Bool
  | none => ([], 0, false)
  | some (p, i) => (p, i, true)
theorem encPath_cat {p q : Path} (h : encPath (p ++ q) = true) : encPath p = true := by
  unfold encPath at *
  simp only [Bool.and_eq_true, decide_eq_true_eq, List.length_append, List.all_append] at h ⊢
  exact ⟨by omega, h.2.1⟩
/-- A part that cannot be encoded spoils the rest. -/
theorem rpK_spoilt {b : List UInt8} : ∀ (n i : Nat) (acc : Path), encPath acc = false → rpK b n i acc = none
  | 0, i, acc, h => by rw [rpK, h]; rfl
  | n + 1, i, acc, h => by
    rw [rpK]
    split
    · rfl
    · split
      · rfl
      · split
        · rfl
        · refine rpK_spoilt n _ _ ?_
          cases hc : encPath (acc ++ [partOfI _ _])
          · rfl
          · rw [encPath_cat hc] at h; cases h
theorem rpK_enc {b : List UInt8} : ∀ (n i : Nat) (acc : Path) {r : Path × Nat}, rpK b n i acc = some r → encPath r.1 = true ∧ (i ≤ b.length → r.2 ≤ b.length)
  | 0, i, acc, r, h => by
    rw [rpK] at h
    split at h
    · rename_i he
      cases h
      exact ⟨he, fun h => h⟩
    · cases h
  | n + 1, i, acc, r, h => by
    rw [rpK] at h
    split at h
    · cases h
    · rename_i h1 j hd
      split at h
      · cases h
      · split at h
        · cases h
        · rename_i hs e hd2
          have hi := rpK_enc n _ _ h
          refine ⟨hi.1, fun hb => hi.2 ?_⟩
          have hj := decA_out hd (fun x hx => by cases hx) hb
          exact (decA_out hd2 (fun x hx => by cases hx) hj.2.2.2).2.2.2
theorem readP_out {b : List UInt8} {i : Int} {r : Path × Nat} (h : readP b i = some r) : encPath r.1 = true ∧ r.2 ≤ b.length := by
  unfold readP at h
  split at h
  · cases h
  · rename_i n j hv
    split at h
    · cases h
    · have := rpK_enc _ _ _ h
      exact ⟨this.1, this.2 (readVI_out hv).2.2.2.1⟩

/-! ### The numbers of a path spell it -/

theorem gI_app {a b : List Int} {i : Nat} : gI (a ++ b) (a.length + i) = gI b i := by
  unfold gI; rw [List.getElem?_append_right (by omega), show a.length + i - a.length = i by omega]
theorem gI_left {a b : List Int} {i : Nat} (h : i < a.length) : gI (a ++ b) i = gI a i := by
  unfold gI; rw [List.getElem?_append_left h]
theorem hopAt_app {a b : List Int} {i : Nat} : hopAt (a ++ b) (a.length + i) = hopAt b i := by
  unfold hopAt; simp only [Nat.add_assoc, gI_app]
theorem hopsAt_app {a b : List Int} {i n : Nat} : hopsAt (a ++ b) (a.length + i) n = hopsAt b i n := by
  unfold hopsAt; simp only [Nat.add_assoc, hopAt_app]
theorem hopAt_piH (h : Hop) (l : List Int) : hopAt (piH h ++ l) 0 = h := rfl
theorem piH_len (hs : List Hop) : (hs.flatMap piH).length = 5 * hs.length := by
  induction hs with
  | nil => rfl
  | cons a t ih => rw [List.flatMap_cons, List.length_append, ih]; show 5 + _ = 5 * (t.length + 1); omega
theorem hopsAt_zero (l : List Int) (i : Nat) : hopsAt l i 0 = [] := rfl
theorem hopsAt_cons (l : List Int) (i n : Nat) : hopsAt l i (n + 1) = hopAt l i :: hopsAt l (i + 5) n := by
  unfold hopsAt
  rw [List.range_succ_eq_map, List.map_cons, List.map_map]
  have : ((List.range n).map ((fun j => hopAt l (i + 5 * j)) ∘ Nat.succ)) = (List.range n).map fun j => hopAt l (i + 5 + 5 * j) := List.map_congr_left fun j _ => by
    show hopAt l (i + 5 * (j + 1)) = hopAt l (i + 5 + 5 * j)
    rw [show i + 5 * (j + 1) = i + 5 + 5 * j by omega]
  rw [this]; rfl
theorem hopsAt_flat (hs : List Hop) : ∀ l : List Int, hopsAt (hs.flatMap piH ++ l) 0 hs.length = hs := by
  induction hs with
  | nil => intro l; rfl
  | cons a t ih =>
    intro l
    rw [List.length_cons, hopsAt_cons, List.flatMap_cons, List.append_assoc, hopAt_piH]
    have : hopsAt (piH a ++ (t.flatMap piH ++ l)) (0 + 5) t.length = hopsAt (t.flatMap piH ++ l) 0 t.length := hopsAt_app (a := piH a) (i := 0)
    rw [this, ih l]
theorem hopsAt_ints (l : List Int) (n : Nat) (h : l.length = 5 * n) : (hopsAt l 0 n).flatMap piH = l := by
  induction n generalizing l with
  | zero => rw [List.eq_nil_of_length_eq_zero (by omega : l.length = 0)]; rfl
  | succ n ih =>
    obtain ⟨a, b, c, d, e, t, rfl⟩ : ∃ a b c d e t, l = a :: b :: c :: d :: e :: t := by
      rcases l with _ | ⟨a, _ | ⟨b, _ | ⟨c, _ | ⟨d, _ | ⟨e, t⟩⟩⟩⟩⟩
      all_goals first | exact ⟨_, _, _, _, _, _, rfl⟩ | (simp at h; done) | (simp at h; omega)
    rw [hopsAt_cons, List.flatMap_cons]
    have h1 : hopAt (a :: b :: c :: d :: e :: t) 0 = ⟨a, b, c, d, e⟩ := rfl
    have h2 : hopsAt (a :: b :: c :: d :: e :: t) (0 + 5) n = hopsAt t 0 n := hopsAt_app (a := [a, b, c, d, e]) (i := 0)
    rw [h1, h2, ih t (by simp at h; omega)]
    rfl
/-- The numbers of a path, read again. -/
theorem pfi_ints (q : Path) : ∀ (pre : List Int) (acc : Path), (∀ x ∈ q, x.hops.length ≤ 8) → pfi (pre ++ pathInts q) pre.length acc = some (acc ++ q) := by
  induction q with
  | nil =>
    intro pre acc _
    rw [pfi_done (by simp [pathInts, intsOf]), List.append_nil]
  | cons x t ih =>
    intro pre acc h8
    have hx := h8 x (by simp)
    have e0 : pathInts (x :: t) = piP x ++ (x.hops.flatMap piH ++ pathInts t) := by
      show intsOf piP piH (x :: t) = _
      unfold intsOf
      rw [List.flatMap_cons, List.append_assoc]
      rfl
    have hl4 : (piP x).length = 4 := rfl
    have hlh := piH_len x.hops
    have g3 : gI (pre ++ pathInts (x :: t)) (pre.length + 3) = x.hops.length := by rw [gI_app, e0]; rfl
    have hlen : (pre ++ pathInts (x :: t)).length = pre.length + 4 + 5 * x.hops.length + (pathInts t).length := by
      rw [e0]; simp only [List.length_append, hl4, hlh]; omega
    have hok : okAt (pre ++ pathInts (x :: t)) pre.length := by
      unfold okAt
      rw [g3, hlen]
      omega
    have hpA : partAt (pre ++ pathInts (x :: t)) pre.length = x := by
      unfold partAt
      rw [g3]
      have a0 : gI (pre ++ pathInts (x :: t)) pre.length = x.kind := by have := gI_app (a := pre) (b := pathInts (x :: t)) (i := 0); rw [Nat.add_zero] at this; rw [this, e0]; rfl
      have a1 : gI (pre ++ pathInts (x :: t)) (pre.length + 1) = x.ts := by rw [gI_app, e0]; rfl
      have a2 : gI (pre ++ pathInts (x :: t)) (pre.length + 2) = x.beta := by rw [gI_app, e0]; rfl
      have a4 : hopsAt (pre ++ pathInts (x :: t)) (pre.length + 4) ((x.hops.length : Int)).toNat = x.hops := by
        rw [hopsAt_app, e0]
        have := hopsAt_app (a := piP x) (b := x.hops.flatMap piH ++ pathInts t) (i := 0) (n := x.hops.length)
        rw [hl4] at this
        rw [Int.toNat_natCast]
        exact this.trans (hopsAt_flat x.hops _)
      rw [a0, a1, a2, a4]
    rw [pfi_step (by rw [hlen]; omega) hok, hpA, g3]
    have e1 : pre ++ pathInts (x :: t) = (pre ++ piP x ++ x.hops.flatMap piH) ++ pathInts t := by rw [e0]; simp only [List.append_assoc]
    have e2 : pre.length + 4 + 5 * ((x.hops.length : Int)).toNat = (pre ++ piP x ++ x.hops.flatMap piH).length := by
      simp only [List.length_append, hl4, hlh, Int.toNat_natCast]
    rw [e1, e2, ih _ _ fun y hy => h8 y (by simp [hy]), List.append_assoc]
    rfl
theorem pathOf_ints {q : Path} (h : ∀ x ∈ q, x.hops.length ≤ 8) : pathOf (pathInts q) = if encPath q then (q, true) else ([], false) := by
  have := pfi_ints q [] [] h
  rw [List.nil_append, List.nil_append, List.length_nil] at this
  unfold pathOf
  rw [this]
end Go.Proofs.Ytfgobdejlfojiaa
