/- How a verdict, a slice of bytes, a slice of ints is opened. -/
import Derived.Test.YtaapaafagmbkoaaOpenPkt
namespace Go.Proofs.Ytaapaafagmbkoaa
open Go.ChangeShapes Go.WideShapes Go.ChangeAt Go.RowKit Go.Deep
set_option linter.unusedVariables false
set_option maxRecDepth 100000

section
variable {H : Type} {enc : TypeId × Value → H} {w : World} {base : Nat} {spare : Nat → Bool} {held : Bool}
theorem vrd_of (n : Nat) (cs : List Value) (y : DataW H × List MemPlace) (h : DataW.trod enc Try.prog w base spare held n 50 cs = some y) : ∃ a, vrdT.R w cs a ∧ (lenOk_vrd a ∧ rng_vrd a) := by
  obtain ⟨ys, n', hn', hy, hl, hyl, hf⟩ := DataW.trod_struct Try.underlying50 h
  have hl : cs.length = 12 := hl.trans (by kernel_rfl)
  match cs, hl with
  | [x0, x1, x2, x3, x4, x5, x6, x7, x8, x9, x10, x11], _ =>
    have h0 : DataW.trod enc Try.prog w base spare held n' 3 (([x0, x1, x2, x3, x4, x5, x6, x7, x8, x9, x10, x11].drop 0).take (Try.prog.cellsOf 3)) = ys[0]? := hf 0 _ rfl
    have h1 : DataW.trod enc Try.prog w base spare held n' 3 (([x0, x1, x2, x3, x4, x5, x6, x7, x8, x9, x10, x11].drop 1).take (Try.prog.cellsOf 3)) = ys[1]? := hf 1 _ rfl
    have h2 : DataW.trod enc Try.prog w base spare held n' 48 (([x0, x1, x2, x3, x4, x5, x6, x7, x8, x9, x10, x11].drop 2).take (Try.prog.cellsOf 48)) = ys[2]? := hf 2 _ rfl
    obtain ⟨y0, e0⟩ : ∃ y, ys[0]? = some y := ⟨_, List.getElem?_eq_getElem (by rw [hyl]; decide)⟩
    obtain ⟨y1, e1⟩ : ∃ y, ys[1]? = some y := ⟨_, List.getElem?_eq_getElem (by rw [hyl]; decide)⟩
    obtain ⟨y2, e2⟩ : ∃ y, ys[2]? = some y := ⟨_, List.getElem?_eq_getElem (by rw [hyl]; decide)⟩
    rw [e0] at h0
    rw [e1] at h1
    rw [e2] at h2
    have c0 : Try.prog.cellsOf 3 = 1 := by kernel_rfl
    have c2 : Try.prog.cellsOf 48 = 10 := by kernel_rfl
    simp only [c0, c2, List.drop_zero, List.drop_succ_cons, List.take_succ_cons, List.take_zero] at h0 h1 h2
    obtain ⟨a0, rfl, i0⟩ := opn_int Try.underlying3 h0
    obtain ⟨a1, rfl, i1⟩ := opn_int Try.underlying3 h1
    obtain ⟨p, R2, l2, g2⟩ := pkt_of _ _ _ h2
    obtain ⟨A3, c3, A9, c9, e, ⟨R3, _⟩, ⟨R9, _⟩⟩ := pkt_form R2
    simp at e
    obtain ⟨rfl, rfl, rfl, rfl, rfl, rfl, rfl, rfl, rfl, rfl⟩ := e
    have hR := vrd_mk (d := (⟨a0, a1, p⟩ : Vrd)) R3 R9
    exact ⟨(⟨a0, a1, p⟩ : Vrd), hR, l2, ⟨i0, i1, g2⟩⟩

set_option maxRecDepth 100000 in
theorem open_vrd {r : Reach} {b0 : Nat} {v : Value} {d : DataW H} {p : List MemPlace} (hv : Value.okWide Try.prog w r b0 50 v) (h : DataW.Trod enc Try.prog w base spare held 50 v d p) :
    ∃ cs x, v = .agg cs.toArray ∧ vrdT.R w cs x ∧ lenOk_vrd x ∧ rng_vrd x := by
  obtain ⟨cs, rfl, hsz⟩ := okWide_struct Try.underlying50 hv
  obtain ⟨fuel, hf⟩ := h
  obtain ⟨cs⟩ := cs
  obtain ⟨a, h1, h2, h3⟩ := vrd_of _ _ _ hf
  exact ⟨cs, a, rfl, h1, h2, h3⟩
theorem open_byteS {r : Reach} {b0 : Nat} {v : Value} {d : DataW H} {p : List MemPlace} (hv : Value.okWide Try.prog w r b0 46 v) (h : DataW.Trod enc Try.prog w base spare held 46 v d p) :
    ∃ l, SlR byteT w v l ∧ l.length ≤ 9223372036854775807 := by
  obtain ⟨a0, len, cap, rfl⟩ := okWide_slice Try.underlying46 hv
  obtain ⟨fuel, hf⟩ := h
  obtain ⟨A, c, l, e, hR, hn, hg⟩ := open_sl byteT (fun _ => True) Try.underlying46 (by kernel_rfl) byte_of hf
  simp [Value.cells] at e
  obtain ⟨rfl, rfl, rfl⟩ := e
  exact ⟨l, hR, hn⟩
theorem int_of (n : Nat) (cs : List Value) (y : DataW H × List MemPlace) (h : DataW.trod enc Try.prog w base spare held n 3 cs = some y) : ∃ a : Int, intT.R w cs a ∧ In64 a := by
  obtain ⟨a, e, _, wf⟩ := DataW.trod_int Try.underlying3 h
  exact ⟨a, e, in64_of_wf wf⟩
theorem open_intS {r : Reach} {b0 : Nat} {v : Value} {d : DataW H} {p : List MemPlace} (hv : Value.okWide Try.prog w r b0 26 v) (h : DataW.Trod enc Try.prog w base spare held 26 v d p) :
    ∃ l, SlR intT w v l ∧ l.length ≤ 9223372036854775807 ∧ ∀ x ∈ l, In64 x := by
  obtain ⟨a0, len, cap, rfl⟩ := okWide_slice Try.underlying26 hv
  obtain ⟨fuel, hf⟩ := h
  obtain ⟨A, c, l, e, hR, hn, hg⟩ := open_sl intT In64 Try.underlying26 (by kernel_rfl) int_of hf
  simp [Value.cells] at e
  obtain ⟨rfl, rfl, rfl⟩ := e
  exact ⟨l, hR, hn, hg⟩
end

end Go.Proofs.Ytaapaafagmbkoaa
