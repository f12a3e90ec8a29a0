/- How a law's arguments are opened: from the form's own reading of a value to the plain data that it reads as. -/
import Derived.Test.YtfgobdejlfojiaaRows
import Derived.Test.YtfgobdejlfojiaaPlain
import Derived.WalkKit
import Derived.ProofKit
import Derived.OpenShut
import Derived.ChangeOld
import Derived.Deep.Slices
import Derived.Deep.Fields
import Derived.ChangeSame
namespace Go.Proofs.Ytfgobdejlfojiaa
open Go.ChangeShapes Go.WideShapes Go.ChangeAt Go.RowKit Go.Deep
set_option linter.unusedVariables false
set_option maxRecDepth 100000

theorem knob : ownKnob Try.prog.godebug = none := by kernel_rfl
theorem laidOut : laidOutB Try.prog = true := by kernel_rfl

section
variable {H : Type} {enc : TypeId × Value → H} {P : Program} {w : World} {base : Nat} {spare : Nat → Bool} {held : Bool}

theorem in64_of_wf {n : Int} (h : (Lit.int .i64 n).wf = true) : In64 n := by
  have := bounds_i64 h
  unfold In64
  omega

theorem fields_at {e : TypeId} {fs : Array Field} {fuel : Nat} {cs : List Value} {x : DataW H × List MemPlace} (he : P.underlying e = some (.struct fs)) (hone : oneCellFields P fs = true) (hC : P.cellsOf e = fs.size) (h : DataW.trod enc P w base spare held fuel e cs = some x) :
    cs.length = fs.size ∧ ∃ n, ∀ (j : Nat) (f : Field), fs[j]? = some f → ∃ u y, cs[j]? = some u ∧ DataW.trod enc P w base spare held n f.type [u] = some y := by
  obtain ⟨ys, n', hn', hy, hlen, hyl, hf⟩ := DataW.trod_struct he h
  rw [hC] at hlen
  refine ⟨hlen, n', fun j f hj => ?_⟩
  obtain ⟨ho, hk⟩ := hone_of hone j f hj
  have hjl : j < fs.size := (Array.getElem?_eq_some_iff.1 hj).1
  have h1 := hf j f hj
  rw [ho, hk] at h1
  have hone' : (cs.drop j).take 1 = [cs[j]'(by omega)] := by
    rw [List.drop_eq_getElem_cons (by omega)]
    rfl
  rw [hone'] at h1
  exact ⟨_, ys[j]'(by omega), List.getElem?_eq_getElem (by omega), h1.trans (List.getElem?_eq_getElem (by omega))⟩

theorem opn_int {t : TypeId} {n : Nat} {u : Value} {y : DataW H × List MemPlace} (ht : P.underlying t = some (.int .i64)) (h : DataW.trod enc P w base spare held n t [u] = some y) : ∃ a, u = I a ∧ In64 a := by
  obtain ⟨a, e, _, wf⟩ := DataW.trod_int ht h
  exact ⟨a, by simpa using e, in64_of_wf wf⟩
theorem opn_bool {t : TypeId} {n : Nat} {u : Value} {y : DataW H × List MemPlace} (ht : P.underlying t = some .bool) (h : DataW.trod enc P w base spare held n t [u] = some y) : ∃ a, u = .bool a := by
  obtain ⟨a, e, _⟩ := DataW.trod_bool ht h
  exact ⟨a, by simpa using e⟩

/-- A slice, by its elements. -/
theorem open_sl {α : Type} (T : Ty α) (good : α → Prop) {t e : TypeId} (ht : P.underlying t = some (.slice e)) (hC : P.cellsOf e = T.size)
    (hel : ∀ (n : Nat) cs y, DataW.trod enc P w base spare held n e cs = some y → ∃ a, T.R w cs a ∧ good a) {fuel : Nat} {cs : List Value} {x : DataW H × List MemPlace} (h : DataW.trod enc P w base spare held fuel t cs = some x) :
    ∃ A c l, cs = [.slice A l.length c] ∧ SlR T w (.slice A l.length c) l ∧ l.length ≤ 9223372036854775807 ∧ ∀ a ∈ l, good a := by
  rcases open_slice ht h with ⟨h0, _⟩ | ⟨a, len, cap, m, n, D, Pl, hcs, hb, hl, hm, hmm, hx, hi⟩
  · exact ⟨none, 0, [], h0, ⟨none, 0, [], rfl, Nat.le_refl _, rfl, Rd.nil, fun i cs a hi => by simp at hi⟩, by simp, by simp⟩
  · have hlm : len ≤ m := by rw [hmm]; split <;> omega
    have hall : ∀ i : Fin len, ∃ (cs : List Value) (x : α), T.R w cs x ∧ good x ∧ cs.length = T.size ∧ ∀ j, j < T.size → w.cell? ((a.add (i * T.size)).add j) = cs[j]? := fun i => by
      obtain ⟨cs', h1, h2⟩ := hi i (by omega)
      obtain ⟨x, h3, h4⟩ := hel _ _ _ h2
      obtain ⟨_, h5, h6⟩ := World.cells?_some h1
      rw [hC] at h5 h6
      exact ⟨cs', x, h3, h4, h5, h6⟩
    obtain ⟨f, hf⟩ := Classical.axiomOfChoice hall
    obtain ⟨g, hg⟩ := Classical.axiomOfChoice hf
    have hlen : (List.ofFn g).length = len := List.length_ofFn
    refine ⟨some a, cap, List.ofFn g, by rw [hlen]; exact hcs, ⟨some a, cap, List.ofFn f, rfl, by rw [hlen]; exact hl, by simp, ?_, ?_⟩, by rw [hlen]; simp only [maxLen] at hm; omega, ?_⟩
    · intro hpos
      have hp : 0 < len := by
        rcases Nat.eq_zero_or_pos len with h0 | h0
        · subst h0; simp at hpos
        · exact h0
      have hsz := T.pos
      have hc0 := (hg ⟨0, hp⟩).2.2.2 0 hsz
      simp only [Nat.zero_mul] at hc0
      have hspot : a.spot = none := by
        have hsome : (w.cell? a).isSome = true := by
          have h9 : w.cell? a = (f ⟨0, hp⟩)[0]? := by
            have : (a.add 0).add 0 = a := by simp [Addr.add]
            rw [← this]; exact hc0
          rw [h9, List.getElem?_eq_getElem (by rw [(hg ⟨0, hp⟩).2.2.1]; exact hsz)]
          rfl
        unfold World.cell? at hsome
        split at hsome
        · split at hsome
          · simp at hsome
          · rename_i hs; simpa using hs
        · simp at hsome
      obtain ⟨ab, ao, as'⟩ := a
      simp only at hspot
      subst hspot
      refine ⟨ab, ao, rfl, fun j u hu => ?_⟩
      have hfl : ∀ (i : Nat) cs, (List.ofFn f)[i]? = some cs → cs.length = T.size := fun i cs hi => by
        obtain ⟨hlt, rfl⟩ := List.getElem?_eq_some_iff.1 hi
        rw [List.getElem_ofFn]
        exact (hg _).2.2.1
      have hj : j < len * T.size := by
        have := (List.getElem?_eq_some_iff.1 hu).1
        rw [flatten_len hfl, List.length_ofFn] at this
        exact this
      have hq : j / T.size < len := Nat.div_lt_of_lt_mul (by rw [Nat.mul_comm]; exact hj)
      have hr := Nat.mod_lt j hsz
      have ej : j / T.size * T.size + j % T.size = j := by rw [Nat.mul_comm]; exact Nat.div_add_mod j T.size
      have h1 := (hg ⟨j / T.size, hq⟩).2.2.2 (j % T.size) hr
      have h2 := flatten_at hfl (j / T.size) (f ⟨j / T.size, hq⟩) (by rw [List.getElem?_ofFn, dif_pos hq]) (j % T.size) hr
      rw [ej] at h2
      rw [Addr.add_lit, Addr.add_lit] at h1
      simp only [Nat.add_assoc] at h1
      rw [ej] at h1
      rw [h1, ← h2]
      exact hu
    · intro i cs x hi hx
      have hlt : i < len := by
        have := (List.getElem?_eq_some_iff.1 hi).1
        simpa using this
      rw [List.getElem?_ofFn, dif_pos hlt] at hi hx
      injection hi with hi
      injection hx with hx
      subst hi hx
      exact (hg _).1
    · intro x hx
      obtain ⟨i, hi, rfl⟩ := List.getElem_of_mem hx
      rw [List.getElem_ofFn]
      exact (hg _).2.1
end

section
variable {H : Type} {enc : TypeId × Value → H} {w : World} {base : Nat} {spare : Nat → Bool} {held : Bool}

theorem open_i64 {r : Reach} {b0 : Nat} {v : Value} {d : DataW H} {p : List MemPlace} (hv : Value.okWide Try.prog w r b0 3 v) (h : DataW.Trod enc Try.prog w base spare held 3 v d p) : ∃ x, v = I x ∧ In64 x := by
  obtain ⟨x, rfl, _, _, wf⟩ := open_int Try.underlying3 hv h
  exact ⟨x, rfl, in64_of_wf wf⟩
theorem open_bl {r : Reach} {b0 : Nat} {v : Value} {d : DataW H} {p : List MemPlace} (hv : Value.okWide Try.prog w r b0 4 v) (h : DataW.Trod enc Try.prog w base spare held 4 v d p) : ∃ x, v = .bool x := by
  obtain ⟨x, rfl, _⟩ := open_bool Try.underlying4 hv h
  exact ⟨x, rfl⟩

theorem hop_of (n : Nat) (cs : List Value) (y : DataW H × List MemPlace) (h : DataW.trod enc Try.prog w base spare held n 185 cs = some y) : ∃ a, hopT.R w cs a ∧ (lenOk_hop a ∧ rng_hop a) := by
  obtain ⟨hl, n', hf⟩ := fields_at Try.underlying185 (by kernel_rfl) (by kernel_rfl) h
  obtain ⟨u0, _, e0, h0⟩ := hf 0 _ rfl
  obtain ⟨u1, _, e1, h1⟩ := hf 1 _ rfl
  obtain ⟨u2, _, e2, h2⟩ := hf 2 _ rfl
  obtain ⟨u3, _, e3, h3⟩ := hf 3 _ rfl
  obtain ⟨u4, _, e4, h4⟩ := hf 4 _ rfl
  obtain ⟨a0, rfl, k0⟩ := opn_int Try.underlying3 h0
  obtain ⟨a1, rfl, k1⟩ := opn_int Try.underlying3 h1
  obtain ⟨a2, rfl, k2⟩ := opn_int Try.underlying3 h2
  obtain ⟨a3, rfl, k3⟩ := opn_int Try.underlying3 h3
  obtain ⟨a4, rfl, k4⟩ := opn_int Try.underlying3 h4
  match cs, hl with
  | [x0, x1, x2, x3, x4], _ =>
    simp at e0 e1 e2 e3 e4
    have hR : hopT.R w [I a0, I a1, I a2, I a3, I a4] (⟨a0, a1, a2, a3, a4⟩ : Hop) := rfl
    exact ⟨(⟨a0, a1, a2, a3, a4⟩ : Hop), by rw [e0, e1, e2, e3, e4]; exact hR, trivial, ⟨k0, k1, k2, k3, k4⟩⟩

set_option maxRecDepth 100000 in
theorem open_hop {r : Reach} {b0 : Nat} {v : Value} {d : DataW H} {p : List MemPlace} (hv : Value.okWide Try.prog w r b0 185 v) (h : DataW.Trod enc Try.prog w base spare held 185 v d p) :
    ∃ x : Hop, v = .agg #[I (x.ia), I (x.ing), I (x.eg), I (x.exp), I (x.mac)] ∧ rng_hop x := by
  obtain ⟨cs, rfl, hsz⟩ := okWide_struct Try.underlying185 hv
  obtain ⟨fuel, hf⟩ := h
  obtain ⟨cs⟩ := cs
  obtain ⟨a, h1, _, h3⟩ := hop_of _ _ _ hf
  exact ⟨a, by have h4 : cs = _ := h1; rw [h4], h3⟩
theorem open_hopS {r : Reach} {b0 : Nat} {v : Value} {d : DataW H} {p : List MemPlace} (hv : Value.okWide Try.prog w r b0 137 v) (h : DataW.Trod enc Try.prog w base spare held 137 v d p) :
    ∃ l, SlR hopT w v l ∧ (l.length ≤ 9223372036854775807 ∧ ∀ x ∈ l, lenOk_hop x) ∧ ∀ x ∈ l, rng_hop x := by
  obtain ⟨a0, len, cap, rfl⟩ := okWide_slice Try.underlying137 hv
  obtain ⟨fuel, hf⟩ := h
  obtain ⟨A, c, l, e, hR, hn, hg⟩ := open_sl hopT (fun x => lenOk_hop x ∧ rng_hop x) Try.underlying137 (by kernel_rfl) hop_of hf
  simp [Value.cells] at e
  obtain ⟨rfl, rfl, rfl⟩ := e
  exact ⟨l, hR, ⟨hn, fun x hx => (hg x hx).1⟩, fun x hx => (hg x hx).2⟩
theorem asn_of (n : Nat) (cs : List Value) (y : DataW H × List MemPlace) (h : DataW.trod enc Try.prog w base spare held n 149 cs = some y) : ∃ a, asnT.R w cs a ∧ (lenOk_asn a ∧ rng_asn a) := by
  obtain ⟨hl, n', hf⟩ := fields_at Try.underlying149 (by kernel_rfl) (by kernel_rfl) h
  obtain ⟨u0, _, e0, h0⟩ := hf 0 _ rfl
  obtain ⟨u1, _, e1, h1⟩ := hf 1 _ rfl
  obtain ⟨u2, _, e2, h2⟩ := hf 2 _ rfl
  obtain ⟨a0, rfl, k0⟩ := opn_int Try.underlying3 h0
  obtain ⟨a1, rfl⟩ := opn_bool Try.underlying4 h1
  obtain ⟨a2, rfl, k2⟩ := opn_int Try.underlying3 h2
  match cs, hl with
  | [x0, x1, x2], _ =>
    simp at e0 e1 e2
    have hR : asnT.R w [I a0, .bool a1, I a2] (⟨a0, a1, a2⟩ : ASd) := rfl
    exact ⟨(⟨a0, a1, a2⟩ : ASd), by rw [e0, e1, e2]; exact hR, trivial, ⟨k0, k2⟩⟩

set_option maxRecDepth 100000 in
theorem open_asn {r : Reach} {b0 : Nat} {v : Value} {d : DataW H} {p : List MemPlace} (hv : Value.okWide Try.prog w r b0 149 v) (h : DataW.Trod enc Try.prog w base spare held 149 v d p) :
    ∃ x : ASd, v = .agg #[I (x.isd), .bool x.core, I (x.key)] ∧ rng_asn x := by
  obtain ⟨cs, rfl, hsz⟩ := okWide_struct Try.underlying149 hv
  obtain ⟨fuel, hf⟩ := h
  obtain ⟨cs⟩ := cs
  obtain ⟨a, h1, _, h3⟩ := asn_of _ _ _ hf
  exact ⟨a, by have h4 : cs = _ := h1; rw [h4], h3⟩
theorem link_of (n : Nat) (cs : List Value) (y : DataW H × List MemPlace) (h : DataW.trod enc Try.prog w base spare held n 153 cs = some y) : ∃ a, linkT.R w cs a ∧ (lenOk_link a ∧ rng_link a) := by
  obtain ⟨hl, n', hf⟩ := fields_at Try.underlying153 (by kernel_rfl) (by kernel_rfl) h
  obtain ⟨u0, _, e0, h0⟩ := hf 0 _ rfl
  obtain ⟨u1, _, e1, h1⟩ := hf 1 _ rfl
  obtain ⟨u2, _, e2, h2⟩ := hf 2 _ rfl
  obtain ⟨u3, _, e3, h3⟩ := hf 3 _ rfl
  obtain ⟨u4, _, e4, h4⟩ := hf 4 _ rfl
  obtain ⟨a0, rfl, k0⟩ := opn_int Try.underlying3 h0
  obtain ⟨a1, rfl, k1⟩ := opn_int Try.underlying3 h1
  obtain ⟨a2, rfl, k2⟩ := opn_int Try.underlying3 h2
  obtain ⟨a3, rfl, k3⟩ := opn_int Try.underlying3 h3
  obtain ⟨a4, rfl, k4⟩ := opn_int Try.underlying3 h4
  match cs, hl with
  | [x0, x1, x2, x3, x4], _ =>
    simp at e0 e1 e2 e3 e4
    have hR : linkT.R w [I a0, I a1, I a2, I a3, I a4] (⟨a0, a1, a2, a3, a4⟩ : Lnk) := rfl
    exact ⟨(⟨a0, a1, a2, a3, a4⟩ : Lnk), by rw [e0, e1, e2, e3, e4]; exact hR, trivial, ⟨k0, k1, k2, k3, k4⟩⟩

set_option maxRecDepth 100000 in
theorem open_link {r : Reach} {b0 : Nat} {v : Value} {d : DataW H} {p : List MemPlace} (hv : Value.okWide Try.prog w r b0 153 v) (h : DataW.Trod enc Try.prog w base spare held 153 v d p) :
    ∃ x : Lnk, v = .agg #[I (x.a), I (x.ai), I (x.b), I (x.bi), I (x.kind)] ∧ rng_link x := by
  obtain ⟨cs, rfl, hsz⟩ := okWide_struct Try.underlying153 hv
  obtain ⟨fuel, hf⟩ := h
  obtain ⟨cs⟩ := cs
  obtain ⟨a, h1, _, h3⟩ := link_of _ _ _ hf
  exact ⟨a, by have h4 : cs = _ := h1; rw [h4], h3⟩
theorem part_of (n : Nat) (cs : List Value) (y : DataW H × List MemPlace) (h : DataW.trod enc Try.prog w base spare held n 139 cs = some y) : ∃ a, partT.R w cs a ∧ (lenOk_part a ∧ rng_part a) := by
  obtain ⟨hl, n', hf⟩ := fields_at Try.underlying139 (by kernel_rfl) (by kernel_rfl) h
  obtain ⟨u0, _, e0, h0⟩ := hf 0 _ rfl
  obtain ⟨u1, _, e1, h1⟩ := hf 1 _ rfl
  obtain ⟨u2, _, e2, h2⟩ := hf 2 _ rfl
  obtain ⟨u3, _, e3, h3⟩ := hf 3 _ rfl
  obtain ⟨a0, rfl, k0⟩ := opn_int Try.underlying3 h0
  obtain ⟨a1, rfl, k1⟩ := opn_int Try.underlying3 h1
  obtain ⟨a2, rfl, k2⟩ := opn_int Try.underlying3 h2
  obtain ⟨A3, c3, a3, e, R3, n3, g3⟩ := open_sl hopT (fun x => lenOk_hop x ∧ rng_hop x) Try.underlying137 (by kernel_rfl) hop_of h3
  simp at e
  subst e
  match cs, hl with
  | [x0, x1, x2, x3], _ =>
    simp at e0 e1 e2 e3
    have hR : partT.R w [I a0, I a1, I a2, .slice A3 a3.length c3] (⟨a0, a1, a2, a3⟩ : Part) := part_mk (d := (⟨a0, a1, a2, a3⟩ : Part)) R3
    exact ⟨(⟨a0, a1, a2, a3⟩ : Part), by rw [e0, e1, e2, e3]; exact hR, n3, ⟨k0, k1, k2, fun x hx => (g3 x hx).2⟩⟩

set_option maxRecDepth 100000 in
theorem open_part {r : Reach} {b0 : Nat} {v : Value} {d : DataW H} {p : List MemPlace} (hv : Value.okWide Try.prog w r b0 139 v) (h : DataW.Trod enc Try.prog w base spare held 139 v d p) :
    ∃ cs x, v = .agg cs.toArray ∧ partT.R w cs x ∧ lenOk_part x ∧ rng_part x := by
  obtain ⟨cs, rfl, hsz⟩ := okWide_struct Try.underlying139 hv
  obtain ⟨fuel, hf⟩ := h
  obtain ⟨cs⟩ := cs
  obtain ⟨a, h1, h2, h3⟩ := part_of _ _ _ hf
  exact ⟨cs, a, rfl, h1, h2, h3⟩
theorem open_partS {r : Reach} {b0 : Nat} {v : Value} {d : DataW H} {p : List MemPlace} (hv : Value.okWide Try.prog w r b0 26 v) (h : DataW.Trod enc Try.prog w base spare held 26 v d p) :
    ∃ l, SlR partT w v l ∧ (l.length ≤ 9223372036854775807 ∧ ∀ x ∈ l, lenOk_part x) ∧ ∀ x ∈ l, rng_part x := by
  obtain ⟨a0, len, cap, rfl⟩ := okWide_slice Try.underlying26 hv
  obtain ⟨fuel, hf⟩ := h
  obtain ⟨A, c, l, e, hR, hn, hg⟩ := open_sl partT (fun x => lenOk_part x ∧ rng_part x) Try.underlying26 (by kernel_rfl) part_of hf
  simp [Value.cells] at e
  obtain ⟨rfl, rfl, rfl⟩ := e
  exact ⟨l, hR, ⟨hn, fun x hx => (hg x hx).1⟩, fun x hx => (hg x hx).2⟩
theorem path_of (n : Nat) (cs : List Value) (y : DataW H × List MemPlace) (h : DataW.trod enc Try.prog w base spare held n 28 cs = some y) : ∃ a, pathT.R w cs a ∧ (lenOk_path a ∧ rng_path a) := by
  obtain ⟨hl, n', hf⟩ := fields_at Try.underlying28 (by kernel_rfl) (by kernel_rfl) h
  obtain ⟨u0, _, e0, h0⟩ := hf 0 _ rfl
  obtain ⟨A0, c0, a0, e, R0, n0, g0⟩ := open_sl partT (fun x => lenOk_part x ∧ rng_part x) Try.underlying26 (by kernel_rfl) part_of h0
  simp at e
  subst e
  match cs, hl with
  | [x0], _ =>
    simp at e0
    have hR : pathT.R w [.slice A0 a0.length c0] a0 := path_mk (d := a0) R0
    exact ⟨a0, by rw [e0]; exact hR, ⟨n0, fun x hx => (g0 x hx).1⟩, fun x hx => (g0 x hx).2⟩

set_option maxRecDepth 100000 in
theorem open_path {r : Reach} {b0 : Nat} {v : Value} {d : DataW H} {p : List MemPlace} (hv : Value.okWide Try.prog w r b0 28 v) (h : DataW.Trod enc Try.prog w base spare held 28 v d p) :
    ∃ cs x, v = .agg cs.toArray ∧ pathT.R w cs x ∧ lenOk_path x ∧ rng_path x := by
  obtain ⟨cs, rfl, hsz⟩ := okWide_struct Try.underlying28 hv
  obtain ⟨fuel, hf⟩ := h
  obtain ⟨cs⟩ := cs
  obtain ⟨a, h1, h2, h3⟩ := path_of _ _ _ hf
  exact ⟨cs, a, rfl, h1, h2, h3⟩
theorem open_pathS {r : Reach} {b0 : Nat} {v : Value} {d : DataW H} {p : List MemPlace} (hv : Value.okWide Try.prog w r b0 70 v) (h : DataW.Trod enc Try.prog w base spare held 70 v d p) :
    ∃ l, SlR pathT w v l ∧ (l.length ≤ 9223372036854775807 ∧ ∀ x ∈ l, lenOk_path x) ∧ ∀ x ∈ l, rng_path x := by
  obtain ⟨a0, len, cap, rfl⟩ := okWide_slice Try.underlying70 hv
  obtain ⟨fuel, hf⟩ := h
  obtain ⟨A, c, l, e, hR, hn, hg⟩ := open_sl pathT (fun x => lenOk_path x ∧ rng_path x) Try.underlying70 (by kernel_rfl) path_of hf
  simp [Value.cells] at e
  obtain ⟨rfl, rfl, rfl⟩ := e
  exact ⟨l, hR, ⟨hn, fun x hx => (hg x hx).1⟩, fun x hx => (hg x hx).2⟩
theorem topo_of (n : Nat) (cs : List Value) (y : DataW H × List MemPlace) (h : DataW.trod enc Try.prog w base spare held n 25 cs = some y) : ∃ a, topoT.R w cs a ∧ (lenOk_topo a ∧ rng_topo a) := by
  obtain ⟨hl, n', hf⟩ := fields_at Try.underlying25 (by kernel_rfl) (by kernel_rfl) h
  obtain ⟨u0, _, e0, h0⟩ := hf 0 _ rfl
  obtain ⟨u1, _, e1, h1⟩ := hf 1 _ rfl
  obtain ⟨A0, c0, a0, e, R0, n0, g0⟩ := open_sl asnT (fun x => lenOk_asn x ∧ rng_asn x) Try.underlying22 (by kernel_rfl) asn_of h0
  simp at e
  subst e
  obtain ⟨A1, c1, a1, e, R1, n1, g1⟩ := open_sl linkT (fun x => lenOk_link x ∧ rng_link x) Try.underlying23 (by kernel_rfl) link_of h1
  simp at e
  subst e
  match cs, hl with
  | [x0, x1], _ =>
    simp at e0 e1
    have hR : topoT.R w [.slice A0 a0.length c0, .slice A1 a1.length c1] (⟨a0, a1⟩ : Topo) := topo_mk (d := (⟨a0, a1⟩ : Topo)) R0 R1
    exact ⟨(⟨a0, a1⟩ : Topo), by rw [e0, e1]; exact hR, ⟨n0, n1⟩, ⟨fun x hx => (g0 x hx).2, fun x hx => (g1 x hx).2⟩⟩

set_option maxRecDepth 100000 in
theorem open_topo {r : Reach} {b0 : Nat} {v : Value} {d : DataW H} {p : List MemPlace} (hv : Value.okWide Try.prog w r b0 25 v) (h : DataW.Trod enc Try.prog w base spare held 25 v d p) :
    ∃ cs x, v = .agg cs.toArray ∧ topoT.R w cs x ∧ lenOk_topo x ∧ rng_topo x := by
  obtain ⟨cs, rfl, hsz⟩ := okWide_struct Try.underlying25 hv
  obtain ⟨fuel, hf⟩ := h
  obtain ⟨cs⟩ := cs
  obtain ⟨a, h1, h2, h3⟩ := topo_of _ _ _ hf
  exact ⟨cs, a, rfl, h1, h2, h3⟩
end

end Go.Proofs.Ytfgobdejlfojiaa
