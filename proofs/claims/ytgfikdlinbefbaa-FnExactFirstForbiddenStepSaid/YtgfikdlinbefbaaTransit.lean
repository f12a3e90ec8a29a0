/- impl.TransitAllowed and spec.TransitAllowed. -/
import Derived.Test.YtgfikdlinbefbaaNum
namespace Go.Proofs.Ytgfikdlinbefbaa
open Go.RowKit
set_option linter.unusedVariables false

/-- From an interface of kind a to one of kind b a packet may pass. -/
def transit (a b : Int) : Bool :=
  if a = 5 ∨ a = 2 then b == 1 || b == 2 || b == 3 || b == 5
  else if a = 3 then b == 2 || b == 5
  else if a = 1 then b == 1 || b == 2 || b == 5
  else false

theorem kinds (a : Int) : a = 5 ∨ a = 2 ∨ a = 3 ∨ a = 1 ∨ ((a == 5) = false ∧ (a == 2) = false ∧ (a == 3) = false ∧ (a == 1) = false) := by
  simp only [beq_eq_false_iff_ne, ne_eq]; omega

theorem impl_transit (a b : Int) (w : World) : Calls Try.prog 135 #[I a, I b] w fun e w' => e = .returned (.bool (transit a b)) ∧ w = w' := by
  obtain ⟨r, Hr⟩ : ∃ r, Hid (r = transit a b) := ⟨_, rfl⟩
  rw [← Hr.out]
  rcases kinds a with rfl | rfl | rfl | rfl | ⟨h1, h2, h3, h4⟩
  all_goals
    rcases kinds b with rfl | rfl | rfl | rfl | ⟨g1, g2, g3, g4⟩
    all_goals
      go_enter Try.func135, Try.ntmps135
      go_wp2
      go_ret
      exact ⟨by rw [Hr.out]; simp_all [transit], rfl⟩
theorem impl_TransitAllowed (a b : Int) (w : World) (ha : In64 a) (hb : In64 b) : Calls Try.prog 135 #[I a, I b] w fun e w' => e = .returned (.bool (transit a b)) ∧ Below w.heap.size w w' :=
  (impl_transit a b w).mono fun e w' ⟨h1, h2⟩ => ⟨h1, h2 ▸ Below.refl _ _⟩
theorem spec_transit (a b : Int) (w : World) : Calls Try.prog 132 #[I a, I b] w fun e w' => e = .returned (.bool (transit a b)) ∧ w = w' := by
  obtain ⟨r, Hr⟩ : ∃ r, Hid (r = transit a b) := ⟨_, rfl⟩
  rw [← Hr.out]
  rcases kinds a with rfl | rfl | rfl | rfl | ⟨h1, h2, h3, h4⟩
  all_goals
    rcases kinds b with rfl | rfl | rfl | rfl | ⟨g1, g2, g3, g4⟩
    all_goals
      go_enter Try.func132, Try.ntmps132
      go_wp2
      go_ret
      exact ⟨by rw [Hr.out]; simp_all [transit], rfl⟩
theorem spec_TransitAllowed (a b : Int) (w : World) (ha : In64 a) (hb : In64 b) : Calls Try.prog 132 #[I a, I b] w fun e w' => e = .returned (.bool (transit a b)) ∧ Below w.heap.size w w' :=
  (spec_transit a b w).mono fun e w' ⟨h1, h2⟩ => ⟨h1, h2 ▸ Below.refl _ _⟩

end Go.Proofs.Ytgfikdlinbefbaa
