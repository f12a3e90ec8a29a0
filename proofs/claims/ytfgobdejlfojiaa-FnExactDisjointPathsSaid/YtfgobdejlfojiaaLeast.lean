/- The least expiry of hops (for seats without PathExpiry). -/
import Derived.Test.YtfgobdejlfojiaaRun
namespace Go.Proofs.Ytfgobdejlfojiaa
open Go.RowKit
set_option linter.unusedVariables false
set_option maxRecDepth 20000

def leastStep (o : Option Int) (h : Hop) : Option Int := match o with
  | none => some h.exp
  | some m => some (if h.exp < m then h.exp else m)
def leastO (hs : List Hop) : Option Int := hs.foldl leastStep none
/-- The least expiry, 0 if there is no hop. -/
def leastE (hs : List Hop) : Int := (leastO hs).getD 0

theorem leastO_snoc (hs : List Hop) (x : Hop) : leastO (hs ++ [x]) = leastStep (leastO hs) x := by unfold leastO; rw [List.foldl_append]; rfl
theorem leastO_none (hs : List Hop) : leastO hs = none ↔ hs = [] := by
  constructor
  · intro h
    rcases List.eq_nil_or_concat hs with h1 | ⟨t, x, h1⟩
    · exact h1
    · rw [h1, List.concat_eq_append, leastO_snoc] at h
      unfold leastStep at h
      split at h <;> cases h
  · rintro rfl
    rfl
theorem leastE_first (x : Hop) : leastE [x] = x.exp := rfl
theorem leastE_snoc {hs : List Hop} (x : Hop) (h : hs ≠ []) : leastE (hs ++ [x]) = if x.exp < leastE hs then x.exp else leastE hs := by
  unfold leastE
  rw [leastO_snoc]
  cases ho : leastO hs with
  | none => exact absurd ((leastO_none hs).1 ho) h
  | some m => rfl

end Go.Proofs.Ytfgobdejlfojiaa
