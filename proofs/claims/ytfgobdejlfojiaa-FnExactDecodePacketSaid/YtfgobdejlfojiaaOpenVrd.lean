/- How a verdict, a slice of bytes, a slice of ints is opened. -/
import Derived.Test.YtfgobdejlfojiaaOpenPkt
namespace Go.Proofs.Ytfgobdejlfojiaa
open Go.ChangeShapes Go.WideShapes Go.ChangeAt Go.RowKit Go.Deep
set_option linter.unusedVariables false
set_option maxRecDepth 100000

section
variable {H : Type} {enc : TypeId × Value → H} {w : World} {base : Nat} {spare : Nat → Bool} {held : Bool}
theorem open_byteS {r : Reach} {b0 : Nat} {v : Value} {d : DataW H} {p : List MemPlace} (hv : Value.okWide Try.prog w r b0 46 v) (h : DataW.Trod enc Try.prog w base spare held 46 v d p) :
    ∃ l, SlR byteT w v l ∧ l.length ≤ 9223372036854775807 := by
  obtain ⟨a0, len, cap, rfl⟩ := okWide_slice Try.underlying46 hv
  obtain ⟨fuel, hf⟩ := h
  obtain ⟨A, c, l, e, hR, hn, hg⟩ := open_sl byteT (fun _ => True) Try.underlying46 (by kernel_rfl) byte_of hf
  simp [Value.cells] at e
  obtain ⟨rfl, rfl, rfl⟩ := e
  exact ⟨l, hR, hn⟩
theorem int_of (n : Nat) (cs : List Value) (y : DataW H × List MemPlace) (h : DataW.trod enc Try.prog w base spare held n 3 cs = some y) : ∃ a : Int, intT.R w cs a ∧ In64 a := by
  obtain ⟨a, e, _, wf⟩ := DataW.trod_int Try.underlying3 h
  exact ⟨a, e, in64_of_wf wf⟩
theorem open_intS {r : Reach} {b0 : Nat} {v : Value} {d : DataW H} {p : List MemPlace} (hv : Value.okWide Try.prog w r b0 100 v) (h : DataW.Trod enc Try.prog w base spare held 100 v d p) :
    ∃ l, SlR intT w v l ∧ l.length ≤ 9223372036854775807 ∧ ∀ x ∈ l, In64 x := by
  obtain ⟨a0, len, cap, rfl⟩ := okWide_slice Try.underlying100 hv
  obtain ⟨fuel, hf⟩ := h
  obtain ⟨A, c, l, e, hR, hn, hg⟩ := open_sl intT In64 Try.underlying100 (by kernel_rfl) int_of hf
  simp [Value.cells] at e
  obtain ⟨rfl, rfl, rfl⟩ := e
  exact ⟨l, hR, hn, hg⟩
end

end Go.Proofs.Ytfgobdejlfojiaa
