/- How a packet is opened. -/
import Derived.Test.YtfgobdejlfojiaaOpen
namespace Go.Proofs.Ytfgobdejlfojiaa
open Go.ChangeShapes Go.WideShapes Go.ChangeAt Go.RowKit Go.Deep
set_option linter.unusedVariables false
set_option maxRecDepth 100000

section
variable {H : Type} {enc : TypeId × Value → H} {w : World} {base : Nat} {spare : Nat → Bool} {held : Bool}

theorem byte_of (n : Nat) (cs : List Value) (y : DataW H × List MemPlace) (h : DataW.trod enc Try.prog w base spare held n 5 cs = some y) : ∃ a : UInt8, byteT.R w cs a ∧ True := by
  obtain ⟨a, e, _, wf⟩ := DataW.trod_int Try.underlying5 h
  have hb := bounds_u8 wf
  refine ⟨UInt8.ofNat a.toNat, ?_, trivial⟩
  show cs = [.int .u8 ((UInt8.ofNat a.toNat).toNat : Int)]
  rw [e, UInt8.toNat_ofNat', Nat.mod_eq_of_lt (by omega), Int.toNat_of_nonneg hb.1]

theorem pkt_of (n : Nat) (cs : List Value) (y : DataW H × List MemPlace) (h : DataW.trod enc Try.prog w base spare held n 48 cs = some y) : ∃ a, pktT.R w cs a ∧ (lenOk_pkt a ∧ rng_pkt a) := by
  obtain ⟨hl, n', hf⟩ := fields_at Try.underlying48 (by kernel_rfl) (by kernel_rfl) h
  obtain ⟨u0, _, e0, h0⟩ := hf 0 _ rfl
  obtain ⟨u1, _, e1, h1⟩ := hf 1 _ rfl
  obtain ⟨u2, _, e2, h2⟩ := hf 2 _ rfl
  obtain ⟨u3, _, e3, h3⟩ := hf 3 _ rfl
  obtain ⟨u4, _, e4, h4⟩ := hf 4 _ rfl
  obtain ⟨u5, _, e5, h5⟩ := hf 5 _ rfl
  obtain ⟨u6, _, e6, h6⟩ := hf 6 _ rfl
  obtain ⟨u7, _, e7, h7⟩ := hf 7 _ rfl
  obtain ⟨u8, _, e8, h8⟩ := hf 8 _ rfl
  obtain ⟨u9, _, e9, h9⟩ := hf 9 _ rfl
  obtain ⟨a0, rfl, i0⟩ := opn_int Try.underlying3 h0
  obtain ⟨a1, rfl, i1⟩ := opn_int Try.underlying3 h1
  obtain ⟨a2, rfl, i2⟩ := opn_int Try.underlying3 h2
  obtain ⟨p, R3, l3, g3⟩ := path_of _ _ _ h3
  obtain ⟨A3, c3, e, R3', _⟩ := path_form R3
  simp at e
  subst e
  obtain ⟨a4, rfl, i4⟩ := opn_int Try.underlying3 h4
  obtain ⟨a5, rfl, i5⟩ := opn_int Try.underlying3 h5
  obtain ⟨a6, rfl, i6⟩ := opn_int Try.underlying3 h6
  obtain ⟨a7, rfl, i7⟩ := opn_int Try.underlying3 h7
  obtain ⟨a8, rfl, i8⟩ := opn_int Try.underlying3 h8
  obtain ⟨A9, c9, b, e, R9, n9, _⟩ := open_sl byteT (fun _ => True) Try.underlying46 (by kernel_rfl) byte_of h9
  simp at e
  subst e
  match cs, hl with
  | [x0, x1, x2, x3, x4, x5, x6, x7, x8, x9], _ =>
    simp at e0 e1 e2 e3 e4 e5 e6 e7 e8 e9
    have hR := pkt_mk (d := (⟨a0, a1, a2, p, a4, a5, a6, a7, a8, b⟩ : Pkt)) R3' R9
    exact ⟨(⟨a0, a1, a2, p, a4, a5, a6, a7, a8, b⟩ : Pkt), by rw [e0, e1, e2, e3, e4, e5, e6, e7, e8, e9]; exact hR, ⟨l3, n9⟩, ⟨i0, i1, i2, g3, i4, i5, i6, i7, i8⟩⟩

set_option maxRecDepth 100000 in
theorem open_pkt {r : Reach} {b0 : Nat} {v : Value} {d : DataW H} {p : List MemPlace} (hv : Value.okWide Try.prog w r b0 48 v) (h : DataW.Trod enc Try.prog w base spare held 48 v d p) :
    ∃ cs x, v = .agg cs.toArray ∧ pktT.R w cs x ∧ lenOk_pkt x ∧ rng_pkt x := by
  obtain ⟨cs, rfl, hsz⟩ := okWide_struct Try.underlying48 hv
  obtain ⟨fuel, hf⟩ := h
  obtain ⟨cs⟩ := cs
  obtain ⟨a, h1, h2, h3⟩ := pkt_of _ _ _ hf
  exact ⟨cs, a, rfl, h1, h2, h3⟩
end

end Go.Proofs.Ytfgobdejlfojiaa
