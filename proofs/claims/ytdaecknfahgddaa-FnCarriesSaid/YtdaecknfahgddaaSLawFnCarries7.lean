/- What LawFnCarries needs of the texts below it, part 7: contracts of functions, plain lemmas. (Put together by slim.py.) -/
import Derived.Test.YtdaecknfahgddaaSLawFnCarries6
namespace Go.Proofs.Ytdaecknfahgddaa
set_option linter.unusedVariables false
section
variable (P : Program) (f : FuncId) (fn : Func) (s : ChangeSpec) (c : OpenClaim)
def jnA : Bool := c.wf (OpenSpec.ofChange s) && laidOutB P && mapsRowed P && fn.params.all (P.readableRec ·) && namedTie P c.named s.vars && (c.stops == []) && (P.stops == []) && (c.knobs == []) && (P.stopKnobs == [])
def jnB : Bool := (c.inPlace == P.inPlace f) && (c.unfollowed == P.unfollowed f) && (c.recurses == P.recurses f) && (c.named == P.varsNamed f)
def jnC : Bool := (c.maps == (fn.params.toList ++ s.plain.varTypes P).any (P.mapsRec ·)) && (c.ifaces == (fn.params.toList ++ s.plain.varTypes P).any (P.ifacesRec ·)) && (c.mapsOut == P.mapsAmong fn.resultTypes.toList) &&
  (c.loops == (fn.params.toList ++ s.plain.varTypes P).any (P.loopsFrom ·)) && (c.wideKeys == (fn.params.toList ++ s.plain.varTypes P ++ fn.resultTypes.toList).any (P.wideKeysFrom ·)) &&
  s.vars.all (P.varReadable ·) && fn.resultTypes.all (fun t => P.readableRec t && decide (t < P.types.size)) && (c.ifacesOut == fn.resultTypes.toList.any (P.ifacesRec ·)) && (c.loopsOut == fn.resultTypes.toList.any (P.loopsFrom ·)) && (c.plainKeys == P.plainKeys) && c.shortTexts.isNone
def jnD : Bool := P.stopsHeard
def jnE : Bool := P.mayEnter
def jnF : Bool := c.lifted == P.liftsFinal
def jnG : Bool := P.make == some c.make
def jnH : Bool := (c.kinds == (if c.domain.isEmpty then [] else fn.params.toList.map fun t => match P.underlying t with | some (.int k) => some k | _ => none))
def jnI : Bool := c.pinned == c.pinnedBy
def jnJ : Bool := (c.veiled == (fn.params.toList ++ s.plain.varTypes P ++ fn.resultTypes.toList).any (P.veiledRec ·)) && c.veiledFits P fn.params.toList (fn.params.toList ++ s.plain.varTypes P ++ fn.resultTypes.toList)
end
theorem joined_of {P : Program} {f : FuncId} {fn : Func} {s : ChangeSpec} {c : OpenClaim} (hA : jnA P fn s c = true) (hB : jnB P f c = true) (hC : jnC P fn s c = true) (hD : jnD P = true) (hE : jnE P = true) (hF : jnF P c = true) (hG : jnG P c = true) (hH : jnH P fn c = true) (hI : jnI c = true) (hJ : jnJ P fn s c = true) : joinedFacts P f fn s c = true := by
  unfold jnA at hA
  unfold jnB at hB
  unfold jnC at hC
  unfold jnD at hD
  unfold jnE at hE
  unfold jnF at hF
  unfold jnG at hG
  unfold jnH at hH
  unfold jnI at hI
  unfold jnJ at hJ
  simp only [Bool.and_eq_true] at hA hB hC hJ
  unfold joinedFacts
  simp only [Bool.and_eq_true]
  obtain ⟨⟨⟨⟨⟨⟨⟨⟨a1, a2⟩, a3⟩, a4⟩, a5⟩, a6⟩, a7⟩, a8⟩, a9⟩ := hA
  obtain ⟨⟨⟨b1, b2⟩, b3⟩, b4⟩ := hB
  obtain ⟨⟨⟨⟨⟨⟨⟨⟨⟨⟨c1, c2⟩, c3⟩, c4⟩, c5⟩, c6⟩, c7⟩, c8⟩, c9⟩, c10⟩, c11⟩ := hC
  obtain ⟨d1, d2⟩ := hJ
  exact ⟨⟨⟨⟨⟨⟨⟨⟨⟨⟨⟨⟨⟨⟨⟨⟨⟨⟨⟨⟨⟨⟨⟨⟨⟨⟨⟨⟨⟨⟨⟨a1, a2⟩, a3⟩, a4⟩, a5⟩, a6⟩, a7⟩, a8⟩, a9⟩, b1⟩, b2⟩, b3⟩, b4⟩, c1⟩, c2⟩, c3⟩, c4⟩, c5⟩, c6⟩, c7⟩, c8⟩, c9⟩, c10⟩, c11⟩, hD⟩, hE⟩, hF⟩, hG⟩, hH⟩, hI⟩, d1⟩, d2⟩
end Go.Proofs.Ytdaecknfahgddaa
namespace Go.Proofs.Ytdaecknfahgddaa
open Go.ChangeShapes Go.WideShapes Go.ChangeAt Go.RowKit Go.Deep
set_option linter.unusedVariables false
set_option maxRecDepth 100000
theorem knob : ownKnob Try.prog.godebug = none := by kernel_rfl
theorem laidOut : laidOutB Try.prog = true := by kernel_rfl
section
variable {H : Type} {enc : TypeId × Value → H} {P : Program} {w : World} {base : Nat} {spare : Nat → Bool} {held : Bool}
/-- A slice, by its elements. -/
theorem open_sl {α : Type} (T : Ty α) (good : α → Prop) {t e : TypeId} (ht : P.underlying t = some (.slice e)) (hC : P.cellsOf e = T.size)
    (hel : ∀ (n : Nat) cs y, DataW.trod enc P w base spare held n e cs = some y → ∃ a, T.R w cs a ∧ good a) {fuel : Nat} {cs : List Value} {x : DataW H × List MemPlace} (h : DataW.trod enc P w base spare held fuel t cs = some x) :
    ∃ A c l, cs = [.slice A l.length c] ∧ SlR T w (.slice A l.length c) l ∧ l.length ≤ 9223372036854775807 ∧ ∀ a ∈ l, good a := by
  rcases open_slice ht h with ⟨h0, _⟩ | ⟨a, len, cap, m, n, D, Pl, hcs, hb, hl, hm, hmm, hx, hi⟩
  · exact ⟨none, 0, [], h0, ⟨none, 0, [], rfl, Nat.le_refl _, rfl, Rd.nil, fun i cs a hi => by simp at hi⟩, by simp, by simp⟩
  · have hlm : len ≤ m := by rw [hmm]; split <;> omega
    have hall : ∀ i : Fin len, ∃ (cs : List Value) (x : α), T.R w cs x ∧ good x ∧ cs.length = T.size ∧ ∀ j, j < T.size → w.cell? ((a.add (i * T.size)).add j) = cs[j]? := fun i => by
      obtain ⟨cs', h1, h2⟩ := hi i (by omega)
      obtain ⟨x, h3, h4⟩ := hel _ _ _ h2
      obtain ⟨_, h5, h6⟩ := World.cells?_some h1
      rw [hC] at h5 h6
      exact ⟨cs', x, h3, h4, h5, h6⟩
    obtain ⟨f, hf⟩ := Classical.axiomOfChoice hall
    obtain ⟨g, hg⟩ := Classical.axiomOfChoice hf
    have hlen : (List.ofFn g).length = len := List.length_ofFn
    refine ⟨some a, cap, List.ofFn g, by rw [hlen]; exact hcs, ⟨some a, cap, List.ofFn f, rfl, by rw [hlen]; exact hl, by simp, ?_, ?_⟩, by rw [hlen]; simp only [maxLen] at hm; omega, ?_⟩
    · intro hpos
      have hp : 0 < len := by
        rcases Nat.eq_zero_or_pos len with h0 | h0
        · subst h0; simp at hpos
        · exact h0
      have hsz := T.pos
      have hc0 := (hg ⟨0, hp⟩).2.2.2 0 hsz
      simp only [Nat.zero_mul] at hc0
      have hspot : a.spot = none := by
        have hsome : (w.cell? a).isSome = true := by
          have h9 : w.cell? a = (f ⟨0, hp⟩)[0]? := by
            have : (a.add 0).add 0 = a := by simp [Addr.add]
            rw [← this]; exact hc0
          rw [h9, List.getElem?_eq_getElem (by rw [(hg ⟨0, hp⟩).2.2.1]; exact hsz)]
          rfl
        unfold World.cell? at hsome
        split at hsome
        · split at hsome
          · simp at hsome
          · rename_i hs; simpa using hs
        · simp at hsome
      obtain ⟨ab, ao, as'⟩ := a
      simp only at hspot
      subst hspot
      refine ⟨ab, ao, rfl, fun j u hu => ?_⟩
      have hfl : ∀ (i : Nat) cs, (List.ofFn f)[i]? = some cs → cs.length = T.size := fun i cs hi => by
        obtain ⟨hlt, rfl⟩ := List.getElem?_eq_some_iff.1 hi
        rw [List.getElem_ofFn]
        exact (hg _).2.2.1
      have hj : j < len * T.size := by
        have := (List.getElem?_eq_some_iff.1 hu).1
        rw [flatten_len hfl, List.length_ofFn] at this
        exact this
      have hq : j / T.size < len := Nat.div_lt_of_lt_mul (by rw [Nat.mul_comm]; exact hj)
      have hr := Nat.mod_lt j hsz
      have ej : j / T.size * T.size + j % T.size = j := by rw [Nat.mul_comm]; exact Nat.div_add_mod j T.size
      have h1 := (hg ⟨j / T.size, hq⟩).2.2.2 (j % T.size) hr
      have h2 := flatten_at hfl (j / T.size) (f ⟨j / T.size, hq⟩) (by rw [List.getElem?_ofFn, dif_pos hq]) (j % T.size) hr
      rw [ej] at h2
      rw [Addr.add_lit, Addr.add_lit] at h1
      simp only [Nat.add_assoc] at h1
      rw [ej] at h1
      rw [h1, ← h2]
      exact hu
    · intro i cs x hi hx
      have hlt : i < len := by
        have := (List.getElem?_eq_some_iff.1 hi).1
        simpa using this
      rw [List.getElem?_ofFn, dif_pos hlt] at hi hx
      injection hi with hi
      injection hx with hx
      subst hi hx
      exact (hg _).1
    · intro x hx
      obtain ⟨i, hi, rfl⟩ := List.getElem_of_mem hx
      rw [List.getElem_ofFn]
      exact (hg _).2.1
end
section
variable {H : Type} {enc : TypeId × Value → H} {w : World} {base : Nat} {spare : Nat → Bool} {held : Bool}
end
end Go.Proofs.Ytdaecknfahgddaa
namespace Go.Proofs.Ytdaecknfahgddaa
open Go.ChangeShapes Go.WideShapes Go.ChangeAt Go.RowKit Go.Deep
set_option linter.unusedVariables false
set_option maxRecDepth 100000
section
variable {H : Type} {enc : TypeId × Value → H} {w : World} {base : Nat} {spare : Nat → Bool} {held : Bool}
theorem byte_of (n : Nat) (cs : List Value) (y : DataW H × List MemPlace) (h : DataW.trod enc Try.prog w base spare held n 5 cs = some y) : ∃ a : UInt8, byteT.R w cs a ∧ True := by
  obtain ⟨a, e, _, wf⟩ := DataW.trod_int Try.underlying5 h
  have hb := bounds_u8 wf
  refine ⟨UInt8.ofNat a.toNat, ?_, trivial⟩
  show cs = [.int .u8 ((UInt8.ofNat a.toNat).toNat : Int)]
  rw [e, UInt8.toNat_ofNat', Nat.mod_eq_of_lt (by omega), Int.toNat_of_nonneg hb.1]
end
end Go.Proofs.Ytdaecknfahgddaa
namespace Go.Proofs.Ytdaecknfahgddaa
open Go.ChangeShapes Go.WideShapes Go.ChangeAt Go.RowKit Go.Deep
set_option linter.unusedVariables false
set_option maxRecDepth 100000
section
variable {H : Type} {enc : TypeId × Value → H} {w : World} {base : Nat} {spare : Nat → Bool} {held : Bool}
theorem open_byteS {r : Reach} {b0 : Nat} {v : Value} {d : DataW H} {p : List MemPlace} (hv : Value.okWide Try.prog w r b0 22 v) (h : DataW.Trod enc Try.prog w base spare held 22 v d p) :
    ∃ l, SlR byteT w v l ∧ l.length ≤ 9223372036854775807 := by
  obtain ⟨a0, len, cap, rfl⟩ := okWide_slice Try.underlying22 hv
  obtain ⟨fuel, hf⟩ := h
  obtain ⟨A, c, l, e, hR, hn, hg⟩ := open_sl byteT (fun _ => True) Try.underlying22 (by kernel_rfl) byte_of hf
  simp [Value.cells] at e
  obtain ⟨rfl, rfl, rfl⟩ := e
  exact ⟨l, hR, hn⟩
end
end Go.Proofs.Ytdaecknfahgddaa
