/- Small functions on numbers: InRange, isResidue, Mod, the digest. -/
import Derived.Test.YtailmflghbdglaaRows
import Derived.Test.YtailmflghbdglaaPlain
import Derived.WalkKit
import Derived.WalkSpells
import Derived.WalkLawsBesides
namespace Go.Proofs.Ytailmflghbdglaa
open Go.RowKit
set_option linter.unusedVariables false

/-- n lies between a and b. -/
def inR (n a b : Int) : Bool := decide (a ≤ n) && decide (n ≤ b)
theorem inR_yes {n a b : Int} (h1 : a ≤ n) (h2 : n ≤ b) : inR n a b = true := by simp [inR, h1, h2]
theorem inR_lo {n a b : Int} (h : n < a) : inR n a b = false := by unfold inR; simp; omega
theorem inR_hi {n a b : Int} (h : b < n) : inR n a b = false := by unfold inR; simp; omega
theorem inR_iff {n a b : Int} : inR n a b = true ↔ a ≤ n ∧ n ≤ b := by simp [inR]

theorem impl_InRange (n a b : Int) (w : World) : Calls Try.prog 73 #[I n, I a, I b] w fun e w' => e = .returned (.bool (inR n a b)) ∧ w = w' := by
  by_cases h1 : a ≤ n
  · by_cases h2 : n ≤ b
    · rw [inR_yes h1 h2]
      go_enter Try.func73, Try.ntmps73
      go_wp2
      go_ret
      exact ⟨rfl, rfl⟩
    · rw [inR_hi (by omega)]
      have h3 : b < n := by omega
      go_enter Try.func73, Try.ntmps73
      go_wp2
      go_ret
      exact ⟨rfl, rfl⟩
  · rw [inR_lo (by omega)]
    have h3 : n < a := by omega
    go_enter Try.func73, Try.ntmps73
    go_wp2
    go_ret
    exact ⟨rfl, rfl⟩
theorem spec_l1In (n a b : Int) (w : World) : Calls Try.prog 63 #[I n, I a, I b] w fun e w' => e = .returned (.bool (inR n a b)) ∧ w = w' := by
  by_cases h1 : a ≤ n
  · by_cases h2 : n ≤ b
    · rw [inR_yes h1 h2]
      go_enter Try.func63, Try.ntmps63
      go_wp2
      go_ret
      exact ⟨rfl, rfl⟩
    · rw [inR_hi (by omega)]
      have h3 : b < n := by omega
      go_enter Try.func63, Try.ntmps63
      go_wp2
      go_ret
      exact ⟨rfl, rfl⟩
  · rw [inR_lo (by omega)]
    have h3 : n < a := by omega
    go_enter Try.func63, Try.ntmps63
    go_wp2
    go_ret
    exact ⟨rfl, rfl⟩
theorem impl_isResidue (n : Int) (w : World) : Calls Try.prog 88 #[I n] w fun e w' => e = .returned (.bool (inR n 0 2147483646)) ∧ w = w' := by
  go_enter Try.func88, Try.ntmps88
  go_wp2_with (fail)
  refine (impl_InRange _ _ _ _).mono ?_
  rintro e w1 ⟨rfl, rfl⟩
  go_wp2_with (fail)
  go_ret
  exact ⟨rfl, rfl⟩
theorem spec_l3Ok (n : Int) (w : World) : Calls Try.prog 87 #[I n] w fun e w' => e = .returned (.bool (inR n 0 2147483646)) ∧ w = w' := by
  go_enter Try.func87, Try.ntmps87
  go_wp2_with (fail)
  refine (spec_l1In _ _ _ _).mono ?_
  rintro e w1 ⟨rfl, rfl⟩
  go_wp2_with (fail)
  go_ret
  exact ⟨rfl, rfl⟩

/-- The remainder of the digest's prime. -/
def modP (x : Int) : Int := x.tmod 2147483647 % 2147483647
theorem modP_bd (x : Int) : 0 ≤ modP x ∧ modP x < 2147483647 := by unfold modP; omega

def digStep (d x : Int) : Int := (d * 1000003 + modP x + 11) % 2147483647
def digest (l : List Int) : Int := l.foldl digStep 7
theorem digest_bd (l : List Int) : 0 ≤ digest l ∧ digest l < 2147483647 := by
  unfold digest
  generalize hq : (7 : Int) = q
  have h7 : 0 ≤ q ∧ q < 2147483647 := by omega
  clear hq
  induction l generalizing q with
  | nil => exact h7
  | cons a t ih => exact ih _ (by unfold digStep; omega)
theorem digest_snoc (l : List Int) (x : Int) : digest (l ++ [x]) = digStep (digest l) x := by unfold digest; rw [List.foldl_append]; rfl



end Go.Proofs.Ytailmflghbdglaa
