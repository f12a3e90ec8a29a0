/- Owned things, any of them drawn to the front. -/
import Derived.Test.YtfgobdejlfojiaaSep
namespace Go.Proofs.Ytfgobdejlfojiaa
set_option linter.unusedVariables false

theorem SepF.pull {b : Nat} {w : World} {o : Ow} {os : List Ow} : ∀ {l : List Ow} {fp : List Nat}, SepF b w (l ++ o :: os) fp → ∃ fp', SepF b w (o :: (l ++ os)) fp' ∧ ∀ x, x ∈ fp' → x ∈ fp
  | [], fp, h => ⟨fp, h, fun _ h => h⟩
  | o1 :: l, fp, h => by
    obtain ⟨f, g, rfl, h1, h2, h3⟩ := h
    obtain ⟨g', ⟨f2, g2, rfl, k1, k2, k3⟩, h5⟩ := SepF.pull (l := l) h2
    refine ⟨f2 ++ (f ++ g2), ⟨f2, f ++ g2, rfl, k1, ⟨f, g2, rfl, h1, k2, fun x hx hy => h3 x hx (h5 x (List.mem_append.2 (.inr hy)))⟩, ?_⟩, ?_⟩
    · intro x hx hy
      rcases List.mem_append.1 hy with hy | hy
      · exact h3 x hy (h5 x (List.mem_append.2 (.inl hx)))
      · exact k3 x hx hy
    · intro x hx
      simp only [List.mem_append] at hx ⊢
      rcases hx with hx | hx | hx
      · exact .inr (h5 x (List.mem_append.2 (.inl hx)))
      · exact .inl hx
      · exact .inr (h5 x (List.mem_append.2 (.inr hx)))
theorem Sep.pull {b : Nat} {w : World} {o : Ow} {os : List Ow} (l : List Ow) (h : Sep b w (l ++ o :: os)) : Sep b w (o :: (l ++ os)) := by
  obtain ⟨h1, fp, h2⟩ := h
  obtain ⟨fp', h3, _⟩ := h2.pull
  exact ⟨h1, fp', h3⟩
theorem Sep.f4 {b : Nat} {w : World} {o o0 o1 o2 o3 : Ow} {os : List Ow} (h : Sep b w (o0 :: o1 :: o2 :: o3 :: o :: os)) : Sep b w (o :: o0 :: o1 :: o2 :: o3 :: os) := Sep.pull [o0, o1, o2, o3] h
theorem Sep.f5 {b : Nat} {w : World} {o o0 o1 o2 o3 o4 : Ow} {os : List Ow} (h : Sep b w (o0 :: o1 :: o2 :: o3 :: o4 :: o :: os)) : Sep b w (o :: o0 :: o1 :: o2 :: o3 :: o4 :: os) := Sep.pull [o0, o1, o2, o3, o4] h
theorem Sep.f6 {b : Nat} {w : World} {o o0 o1 o2 o3 o4 o5 : Ow} {os : List Ow} (h : Sep b w (o0 :: o1 :: o2 :: o3 :: o4 :: o5 :: o :: os)) : Sep b w (o :: o0 :: o1 :: o2 :: o3 :: o4 :: o5 :: os) := Sep.pull [o0, o1, o2, o3, o4, o5] h
theorem Sep.f7 {b : Nat} {w : World} {o o0 o1 o2 o3 o4 o5 o6 : Ow} {os : List Ow} (h : Sep b w (o0 :: o1 :: o2 :: o3 :: o4 :: o5 :: o6 :: o :: os)) : Sep b w (o :: o0 :: o1 :: o2 :: o3 :: o4 :: o5 :: o6 :: os) := Sep.pull [o0, o1, o2, o3, o4, o5, o6] h
theorem Sep.f8 {b : Nat} {w : World} {o o0 o1 o2 o3 o4 o5 o6 o7 : Ow} {os : List Ow} (h : Sep b w (o0 :: o1 :: o2 :: o3 :: o4 :: o5 :: o6 :: o7 :: o :: os)) : Sep b w (o :: o0 :: o1 :: o2 :: o3 :: o4 :: o5 :: o6 :: o7 :: os) := Sep.pull [o0, o1, o2, o3, o4, o5, o6, o7] h
theorem Sep.f9 {b : Nat} {w : World} {o o0 o1 o2 o3 o4 o5 o6 o7 o8 : Ow} {os : List Ow} (h : Sep b w (o0 :: o1 :: o2 :: o3 :: o4 :: o5 :: o6 :: o7 :: o8 :: o :: os)) : Sep b w (o :: o0 :: o1 :: o2 :: o3 :: o4 :: o5 :: o6 :: o7 :: o8 :: os) := Sep.pull [o0, o1, o2, o3, o4, o5, o6, o7, o8] h
theorem Sep.f10 {b : Nat} {w : World} {o o0 o1 o2 o3 o4 o5 o6 o7 o8 o9 : Ow} {os : List Ow} (h : Sep b w (o0 :: o1 :: o2 :: o3 :: o4 :: o5 :: o6 :: o7 :: o8 :: o9 :: o :: os)) : Sep b w (o :: o0 :: o1 :: o2 :: o3 :: o4 :: o5 :: o6 :: o7 :: o8 :: o9 :: os) := Sep.pull [o0, o1, o2, o3, o4, o5, o6, o7, o8, o9] h
theorem Sep.f11 {b : Nat} {w : World} {o o0 o1 o2 o3 o4 o5 o6 o7 o8 o9 o10 : Ow} {os : List Ow} (h : Sep b w (o0 :: o1 :: o2 :: o3 :: o4 :: o5 :: o6 :: o7 :: o8 :: o9 :: o10 :: o :: os)) : Sep b w (o :: o0 :: o1 :: o2 :: o3 :: o4 :: o5 :: o6 :: o7 :: o8 :: o9 :: o10 :: os) := Sep.pull [o0, o1, o2, o3, o4, o5, o6, o7, o8, o9, o10] h
theorem Sep.f12 {b : Nat} {w : World} {o o0 o1 o2 o3 o4 o5 o6 o7 o8 o9 o10 o11 : Ow} {os : List Ow} (h : Sep b w (o0 :: o1 :: o2 :: o3 :: o4 :: o5 :: o6 :: o7 :: o8 :: o9 :: o10 :: o11 :: o :: os)) : Sep b w (o :: o0 :: o1 :: o2 :: o3 :: o4 :: o5 :: o6 :: o7 :: o8 :: o9 :: o10 :: o11 :: os) := Sep.pull [o0, o1, o2, o3, o4, o5, o6, o7, o8, o9, o10, o11] h
theorem Sep.f13 {b : Nat} {w : World} {o o0 o1 o2 o3 o4 o5 o6 o7 o8 o9 o10 o11 o12 : Ow} {os : List Ow} (h : Sep b w (o0 :: o1 :: o2 :: o3 :: o4 :: o5 :: o6 :: o7 :: o8 :: o9 :: o10 :: o11 :: o12 :: o :: os)) : Sep b w (o :: o0 :: o1 :: o2 :: o3 :: o4 :: o5 :: o6 :: o7 :: o8 :: o9 :: o10 :: o11 :: o12 :: os) := Sep.pull [o0, o1, o2, o3, o4, o5, o6, o7, o8, o9, o10, o11, o12] h
theorem Sep.f14 {b : Nat} {w : World} {o o0 o1 o2 o3 o4 o5 o6 o7 o8 o9 o10 o11 o12 o13 : Ow} {os : List Ow} (h : Sep b w (o0 :: o1 :: o2 :: o3 :: o4 :: o5 :: o6 :: o7 :: o8 :: o9 :: o10 :: o11 :: o12 :: o13 :: o :: os)) : Sep b w (o :: o0 :: o1 :: o2 :: o3 :: o4 :: o5 :: o6 :: o7 :: o8 :: o9 :: o10 :: o11 :: o12 :: o13 :: os) := Sep.pull [o0, o1, o2, o3, o4, o5, o6, o7, o8, o9, o10, o11, o12, o13] h
theorem Sep.f15 {b : Nat} {w : World} {o o0 o1 o2 o3 o4 o5 o6 o7 o8 o9 o10 o11 o12 o13 o14 : Ow} {os : List Ow} (h : Sep b w (o0 :: o1 :: o2 :: o3 :: o4 :: o5 :: o6 :: o7 :: o8 :: o9 :: o10 :: o11 :: o12 :: o13 :: o14 :: o :: os)) : Sep b w (o :: o0 :: o1 :: o2 :: o3 :: o4 :: o5 :: o6 :: o7 :: o8 :: o9 :: o10 :: o11 :: o12 :: o13 :: o14 :: os) := Sep.pull [o0, o1, o2, o3, o4, o5, o6, o7, o8, o9, o10, o11, o12, o13, o14] h
theorem Sep.f16 {b : Nat} {w : World} {o o0 o1 o2 o3 o4 o5 o6 o7 o8 o9 o10 o11 o12 o13 o14 o15 : Ow} {os : List Ow} (h : Sep b w (o0 :: o1 :: o2 :: o3 :: o4 :: o5 :: o6 :: o7 :: o8 :: o9 :: o10 :: o11 :: o12 :: o13 :: o14 :: o15 :: o :: os)) : Sep b w (o :: o0 :: o1 :: o2 :: o3 :: o4 :: o5 :: o6 :: o7 :: o8 :: o9 :: o10 :: o11 :: o12 :: o13 :: o14 :: o15 :: os) := Sep.pull [o0, o1, o2, o3, o4, o5, o6, o7, o8, o9, o10, o11, o12, o13, o14, o15] h
theorem Sep.f17 {b : Nat} {w : World} {o o0 o1 o2 o3 o4 o5 o6 o7 o8 o9 o10 o11 o12 o13 o14 o15 o16 : Ow} {os : List Ow} (h : Sep b w (o0 :: o1 :: o2 :: o3 :: o4 :: o5 :: o6 :: o7 :: o8 :: o9 :: o10 :: o11 :: o12 :: o13 :: o14 :: o15 :: o16 :: o :: os)) : Sep b w (o :: o0 :: o1 :: o2 :: o3 :: o4 :: o5 :: o6 :: o7 :: o8 :: o9 :: o10 :: o11 :: o12 :: o13 :: o14 :: o15 :: o16 :: os) := Sep.pull [o0, o1, o2, o3, o4, o5, o6, o7, o8, o9, o10, o11, o12, o13, o14, o15, o16] h
theorem Sep.f18 {b : Nat} {w : World} {o o0 o1 o2 o3 o4 o5 o6 o7 o8 o9 o10 o11 o12 o13 o14 o15 o16 o17 : Ow} {os : List Ow} (h : Sep b w (o0 :: o1 :: o2 :: o3 :: o4 :: o5 :: o6 :: o7 :: o8 :: o9 :: o10 :: o11 :: o12 :: o13 :: o14 :: o15 :: o16 :: o17 :: o :: os)) : Sep b w (o :: o0 :: o1 :: o2 :: o3 :: o4 :: o5 :: o6 :: o7 :: o8 :: o9 :: o10 :: o11 :: o12 :: o13 :: o14 :: o15 :: o16 :: o17 :: os) := Sep.pull [o0, o1, o2, o3, o4, o5, o6, o7, o8, o9, o10, o11, o12, o13, o14, o15, o16, o17] h
theorem Sep.f19 {b : Nat} {w : World} {o o0 o1 o2 o3 o4 o5 o6 o7 o8 o9 o10 o11 o12 o13 o14 o15 o16 o17 o18 : Ow} {os : List Ow} (h : Sep b w (o0 :: o1 :: o2 :: o3 :: o4 :: o5 :: o6 :: o7 :: o8 :: o9 :: o10 :: o11 :: o12 :: o13 :: o14 :: o15 :: o16 :: o17 :: o18 :: o :: os)) : Sep b w (o :: o0 :: o1 :: o2 :: o3 :: o4 :: o5 :: o6 :: o7 :: o8 :: o9 :: o10 :: o11 :: o12 :: o13 :: o14 :: o15 :: o16 :: o17 :: o18 :: os) := Sep.pull [o0, o1, o2, o3, o4, o5, o6, o7, o8, o9, o10, o11, o12, o13, o14, o15, o16, o17, o18] h
theorem Sep.f20 {b : Nat} {w : World} {o o0 o1 o2 o3 o4 o5 o6 o7 o8 o9 o10 o11 o12 o13 o14 o15 o16 o17 o18 o19 : Ow} {os : List Ow} (h : Sep b w (o0 :: o1 :: o2 :: o3 :: o4 :: o5 :: o6 :: o7 :: o8 :: o9 :: o10 :: o11 :: o12 :: o13 :: o14 :: o15 :: o16 :: o17 :: o18 :: o19 :: o :: os)) : Sep b w (o :: o0 :: o1 :: o2 :: o3 :: o4 :: o5 :: o6 :: o7 :: o8 :: o9 :: o10 :: o11 :: o12 :: o13 :: o14 :: o15 :: o16 :: o17 :: o18 :: o19 :: os) := Sep.pull [o0, o1, o2, o3, o4, o5, o6, o7, o8, o9, o10, o11, o12, o13, o14, o15, o16, o17, o18, o19] h

end Go.Proofs.Ytfgobdejlfojiaa
