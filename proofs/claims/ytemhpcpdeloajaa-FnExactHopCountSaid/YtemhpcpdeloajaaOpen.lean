/- How a law's arguments are opened: from the form's own reading of a value to the plain data that it reads as. -/
import Derived.Test.YtemhpcpdeloajaaRows
import Derived.Test.YtemhpcpdeloajaaData
import Derived.WalkKit
import Derived.ProofKit
import Derived.OpenShut
import Derived.ChangeOld
import Derived.Deep.Slices
import Derived.Deep.Fields
import Derived.ChangeSame
namespace Go.Proofs.Ytemhpcpdeloajaa
open Go.ChangeShapes Go.WideShapes Go.ChangeAt Go.RowKit Go.Deep
set_option linter.unusedVariables false

theorem knob : ownKnob Try.prog.godebug = none := by kernel_rfl
theorem laidOut : laidOutB Try.prog = true := by kernel_rfl

/-- An int's range. -/
def In64 (n : Int) : Prop := -9223372036854775808 ≤ n ∧ n ≤ 9223372036854775807

section
variable {H : Type} {enc : TypeId × Value → H} {P : Program} {w : World} {base : Nat} {spare : Nat → Bool} {held : Bool}

theorem in64_of_wf {n : Int} (h : (Lit.int .i64 n).wf = true) : In64 n := by
  have := bounds_i64 h
  unfold In64
  omega

theorem fields_at {e : TypeId} {fs : Array Field} {fuel : Nat} {cs : List Value} {x : DataW H × List MemPlace} (he : P.underlying e = some (.struct fs)) (hone : oneCellFields P fs = true) (hC : P.cellsOf e = fs.size) (h : DataW.trod enc P w base spare held fuel e cs = some x) :
    cs.length = fs.size ∧ ∃ n, ∀ (j : Nat) (f : Field), fs[j]? = some f → ∃ u y, cs[j]? = some u ∧ DataW.trod enc P w base spare held n f.type [u] = some y := by
  obtain ⟨ys, n', hn', hy, hlen, hyl, hf⟩ := DataW.trod_struct he h
  rw [hC] at hlen
  refine ⟨hlen, n', fun j f hj => ?_⟩
  obtain ⟨ho, hk⟩ := hone_of hone j f hj
  have hjl : j < fs.size := (Array.getElem?_eq_some_iff.1 hj).1
  have h1 := hf j f hj
  rw [ho, hk] at h1
  have hone' : (cs.drop j).take 1 = [cs[j]'(by omega)] := by
    rw [List.drop_eq_getElem_cons (by omega)]
    rfl
  rw [hone'] at h1
  exact ⟨_, ys[j]'(by omega), List.getElem?_eq_getElem (by omega), h1.trans (List.getElem?_eq_getElem (by omega))⟩

theorem int_at {t : TypeId} {n : Nat} {u : Value} {y : DataW H × List MemPlace} (ht : P.underlying t = some (.int .i64)) (h : DataW.trod enc P w base spare held n t [u] = some y) : ∃ a, u = I a ∧ In64 a := by
  obtain ⟨a, e, _, wf⟩ := DataW.trod_int ht h
  exact ⟨a, by simpa using e, in64_of_wf wf⟩
theorem bool_at {t : TypeId} {n : Nat} {u : Value} {y : DataW H × List MemPlace} (ht : P.underlying t = some .bool) (h : DataW.trod enc P w base spare held n t [u] = some y) : ∃ a, u = .bool a := by
  obtain ⟨a, e, _⟩ := DataW.trod_bool ht h
  exact ⟨a, by simpa using e⟩

/-- A slice, by its elements. -/
theorem open_sl {α : Type} (T : Ty α) (good : α → Prop) {t e : TypeId} (ht : P.underlying t = some (.slice e)) (hC : P.cellsOf e = T.size)
    (hel : ∀ (n : Nat) cs y, DataW.trod enc P w base spare held n e cs = some y → ∃ a, T.R w cs a ∧ good a) {fuel : Nat} {cs : List Value} {x : DataW H × List MemPlace} (h : DataW.trod enc P w base spare held fuel t cs = some x) :
    ∃ A c l, cs = [.slice A l.length c] ∧ SlR T w (.slice A l.length c) l ∧ l.length ≤ 9223372036854775807 ∧ ∀ a ∈ l, good a := by
  rcases open_slice ht h with ⟨h0, _⟩ | ⟨a, len, cap, m, n, D, Pl, hcs, hb, hl, hm, hmm, hx, hi⟩
  · exact ⟨none, 0, [], h0, ⟨none, 0, [], rfl, Nat.le_refl _, rfl, Rd.nil, fun i cs a hi => by simp at hi⟩, by simp, by simp⟩
  · have hlm : len ≤ m := by rw [hmm]; split <;> omega
    have hall : ∀ i : Fin len, ∃ (cs : List Value) (x : α), T.R w cs x ∧ good x ∧ cs.length = T.size ∧ ∀ j, j < T.size → w.cell? ((a.add (i * T.size)).add j) = cs[j]? := fun i => by
      obtain ⟨cs', h1, h2⟩ := hi i (by omega)
      obtain ⟨x, h3, h4⟩ := hel _ _ _ h2
      obtain ⟨_, h5, h6⟩ := World.cells?_some h1
      rw [hC] at h5 h6
      exact ⟨cs', x, h3, h4, h5, h6⟩
    obtain ⟨f, hf⟩ := Classical.axiomOfChoice hall
    obtain ⟨g, hg⟩ := Classical.axiomOfChoice hf
    have hlen : (List.ofFn g).length = len := List.length_ofFn
    refine ⟨some a, cap, List.ofFn g, by rw [hlen]; exact hcs, ⟨some a, cap, List.ofFn f, rfl, by rw [hlen]; exact hl, by simp, ?_, ?_⟩, by rw [hlen]; simp only [maxLen] at hm; omega, ?_⟩
    · intro hpos
      have hp : 0 < len := by
        rcases Nat.eq_zero_or_pos len with h0 | h0
        · subst h0; simp at hpos
        · exact h0
      have hsz := T.pos
      have hc0 := (hg ⟨0, hp⟩).2.2.2 0 hsz
      simp only [Nat.zero_mul] at hc0
      have hspot : a.spot = none := by
        have hsome : (w.cell? a).isSome = true := by
          have h9 : w.cell? a = (f ⟨0, hp⟩)[0]? := by
            have : (a.add 0).add 0 = a := by simp [Addr.add]
            rw [← this]; exact hc0
          rw [h9, List.getElem?_eq_getElem (by rw [(hg ⟨0, hp⟩).2.2.1]; exact hsz)]
          rfl
        unfold World.cell? at hsome
        split at hsome
        · split at hsome
          · simp at hsome
          · rename_i hs; simpa using hs
        · simp at hsome
      obtain ⟨ab, ao, as'⟩ := a
      simp only at hspot
      subst hspot
      refine ⟨ab, ao, rfl, fun j u hu => ?_⟩
      have hfl : ∀ (i : Nat) cs, (List.ofFn f)[i]? = some cs → cs.length = T.size := fun i cs hi => by
        obtain ⟨hlt, rfl⟩ := List.getElem?_eq_some_iff.1 hi
        rw [List.getElem_ofFn]
        exact (hg _).2.2.1
      have hj : j < len * T.size := by
        have := (List.getElem?_eq_some_iff.1 hu).1
        rw [flatten_len hfl, List.length_ofFn] at this
        exact this
      have hq : j / T.size < len := Nat.div_lt_of_lt_mul (by rw [Nat.mul_comm]; exact hj)
      have hr := Nat.mod_lt j hsz
      have ej : j / T.size * T.size + j % T.size = j := by rw [Nat.mul_comm]; exact Nat.div_add_mod j T.size
      have h1 := (hg ⟨j / T.size, hq⟩).2.2.2 (j % T.size) hr
      have h2 := flatten_at hfl (j / T.size) (f ⟨j / T.size, hq⟩) (by rw [List.getElem?_ofFn, dif_pos hq]) (j % T.size) hr
      rw [ej] at h2
      rw [Addr.add_lit, Addr.add_lit] at h1
      simp only [Nat.add_assoc] at h1
      rw [ej] at h1
      rw [h1, ← h2]
      exact hu
    · intro i cs x hi hx
      have hlt : i < len := by
        have := (List.getElem?_eq_some_iff.1 hi).1
        simpa using this
      rw [List.getElem?_ofFn, dif_pos hlt] at hi hx
      injection hi with hi
      injection hx with hx
      subst hi hx
      exact (hg _).1
    · intro x hx
      obtain ⟨i, hi, rfl⟩ := List.getElem_of_mem hx
      rw [List.getElem_ofFn]
      exact (hg _).2.1
end

def hopOk (h : Hop) : Prop := In64 h.ia ∧ In64 h.ing ∧ In64 h.eg ∧ In64 h.exp ∧ In64 h.mac
def partOk (p : Part) : Prop := (In64 p.kind ∧ In64 p.ts ∧ In64 p.beta) ∧ p.hops.length ≤ 9223372036854775807 ∧ ∀ h ∈ p.hops, hopOk h

section
variable {H : Type} {enc : TypeId × Value → H} {w : World} {base : Nat} {spare : Nat → Bool} {held : Bool}

theorem hop_of (n : Nat) (cs : List Value) (y : DataW H × List MemPlace) (h : DataW.trod enc Try.prog w base spare held n 123 cs = some y) : ∃ a, hopT.R w cs a ∧ hopOk a := by
  obtain ⟨hl, n', hf⟩ := fields_at Try.underlying123 (by kernel_rfl) (by kernel_rfl) h
  obtain ⟨u0, _, e0, h0⟩ := hf 0 _ rfl
  obtain ⟨u1, _, e1, h1⟩ := hf 1 _ rfl
  obtain ⟨u2, _, e2, h2⟩ := hf 2 _ rfl
  obtain ⟨u3, _, e3, h3⟩ := hf 3 _ rfl
  obtain ⟨u4, _, e4, h4⟩ := hf 4 _ rfl
  obtain ⟨a0, rfl, k0⟩ := int_at Try.underlying3 h0
  obtain ⟨a1, rfl, k1⟩ := int_at Try.underlying3 h1
  obtain ⟨a2, rfl, k2⟩ := int_at Try.underlying3 h2
  obtain ⟨a3, rfl, k3⟩ := int_at Try.underlying3 h3
  obtain ⟨a4, rfl, k4⟩ := int_at Try.underlying3 h4
  match cs, hl with
  | [x0, x1, x2, x3, x4], _ =>
    simp at e0 e1 e2 e3 e4
    exact ⟨⟨a0, a1, a2, a3, a4⟩, by show _ = _; rw [e0, e1, e2, e3, e4], k0, k1, k2, k3, k4⟩

theorem part_of (n : Nat) (cs : List Value) (y : DataW H × List MemPlace) (h : DataW.trod enc Try.prog w base spare held n 102 cs = some y) : ∃ a, partT.R w cs a ∧ partOk a := by
  obtain ⟨hl, n', hf⟩ := fields_at Try.underlying102 (by kernel_rfl) (by kernel_rfl) h
  obtain ⟨u0, _, e0, h0⟩ := hf 0 _ rfl
  obtain ⟨u1, _, e1, h1⟩ := hf 1 _ rfl
  obtain ⟨u2, _, e2, h2⟩ := hf 2 _ rfl
  obtain ⟨u3, _, e3, h3⟩ := hf 3 _ rfl
  obtain ⟨a0, rfl, k0⟩ := int_at Try.underlying3 h0
  obtain ⟨a1, rfl, k1⟩ := int_at Try.underlying3 h1
  obtain ⟨a2, rfl, k2⟩ := int_at Try.underlying3 h2
  obtain ⟨A, c, l, e, hR, hn, hg⟩ := open_sl hopT hopOk Try.underlying100 (by kernel_rfl) hop_of h3
  simp at e
  subst e
  match cs, hl with
  | [x0, x1, x2, x3], _ =>
    simp at e0 e1 e2 e3
    refine ⟨⟨a0, a1, a2, l⟩, ⟨[I a0, I a1, I a2], [.slice A l.length c], ?_, rfl, ⟨_, rfl, hR⟩⟩, ⟨k0, k1, k2⟩, hn, hg⟩
    rw [e0, e1, e2, e3]
    rfl

set_option maxRecDepth 100000 in
/-- A path as an argument. -/
theorem open_path {r : Reach} {b0 : Nat} {v : Value} {d : DataW H} {p : List MemPlace} (hv : Value.okWide Try.prog w r b0 27 v) (h : DataW.Trod enc Try.prog w base spare held 27 v d p) :
    ∃ A c l, v = .agg #[.slice A l.length c] ∧ SlR partT w (.slice A l.length c) l ∧ l.length ≤ 9223372036854775807 ∧ ∀ x ∈ l, partOk x := by
  obtain ⟨cs, rfl, hsz⟩ := okWide_struct Try.underlying27 hv
  obtain ⟨fuel, hf⟩ := h
  obtain ⟨hl, n', hf'⟩ := fields_at Try.underlying27 (by kernel_rfl) (by kernel_rfl) hf
  obtain ⟨u0, _, e0, h0⟩ := hf' 0 _ rfl
  obtain ⟨A, c, l, e, hR, hn, hg⟩ := open_sl partT partOk Try.underlying25 (by kernel_rfl) part_of h0
  simp at e
  subst e
  obtain ⟨cs⟩ := cs
  match cs, hl with
  | [x0], _ =>
    simp [Value.cells] at e0
    subst e0
    exact ⟨A, c, l, rfl, hR, hn, hg⟩
end

end Go.Proofs.Ytemhpcpdeloajaa
