/- The copies, comparisons and measures that the laws make: Step. (Printed by fam.py.) -/
import Derived.Test.YtaapaafagmbkoaaRows
import Derived.Test.YtaapaafagmbkoaaPlain
import Derived.WalkKit
import Derived.WalkSpells
import Derived.WalkLawsBesides
import Derived.StillTailTactics
import Derived.Deep.QuietTactic
import Derived.BigQuiet
namespace Go.Proofs.Ytaapaafagmbkoaa
open Go.RowKit
set_option linter.unusedVariables false

theorem et_step : ElemT Try.prog 42 110 3 24 := ElemT.mk' Try.underlying42 (z := .agg #[I 0, I 0, I 0]) (by kernel_rfl) rfl (by omega)

theorem eq_step (a0 : Int) (a1 : Int) (a2 : Int) (w : World) : Calls Try.prog 82 #[.agg #[I a0, I a1, I a2], .agg #[I a0, I a1, I a2]] w fun r w' => r = .returned (.bool true) ∧ Below w.heap.size w w' := by
  go_enter Try.func82, Try.ntmps82
  go_wp2
  go_ret
  exact ⟨rfl, ext_alloc (ext_alloc1 _ _) _⟩

set_option maxRecDepth 100000 in
theorem eq_stepS (l : List Stp) (v u : Value) (w : World) (h : SlR stepT w v l) (h' : SlR stepT w u l) (hn : l.length ≤ 140737488355328) : Calls Try.prog 32 #[v, u] w fun r w' => r = .returned (.bool true) ∧ Below w.heap.size w w' := by
  obtain ⟨A, c, rfl, _⟩ := h.form
  obtain ⟨A', c', rfl, _⟩ := h'.form
  obtain ⟨n, H⟩ : ∃ n, Hid (n = l.length) := ⟨_, rfl⟩
  rw [← H.out] at h h' hn ⊢
  go_enter Try.func32, Try.ntmps32
  go_wp2
  go_loopw [5] (fun i wr => ∃ k : Nat, k ≤ n ∧ i = I k ∧ Below w.heap.size w wr) (fun i _ => n - (intOf i).toNat)
  case atStart => exact ⟨0, by omega, rfl, Below.refl _ _⟩
  case round =>
    rename_i wr
    obtain ⟨k, hk, rfl, hb⟩ := hrel
    by_cases hlt : k < n
    · obtain ⟨g, o, cc, x, e, hg, hxk, p0, p1, p2⟩ := step_at (h.below hb) (by rw [← H.out]; exact hlt)
      obtain ⟨g', o', cc', x', e', hg', hxk', p0', p1', p2'⟩ := step_at (h'.below hb) (by rw [← H.out]; exact hlt)
      obtain rfl : x' = x := by have h1 := hxk.out; have h2 := hxk'.out; rw [h1] at h2; injection h2 with h2; exact h2.symm
      rw [← H.out] at e e'
      cases e
      cases e'
      go_wp2
      go_still_tail 8, (by kernel_rfl)
      go_wp2_with (fail)
      refine (eq_step _ _ _ _).mono ?_
      rintro e w1 ⟨rfl, hb1⟩
      go_wp2_with (fail)
      go_roundw
      case rel => exact ⟨k + 1, by omega, by go_num, hb.drew.trans (hb1.mono hb.size)⟩
      case measure => simp [intOf]; omega
    · go_wp2
      go_ret
      exact ⟨rfl, hb⟩

end Go.Proofs.Ytaapaafagmbkoaa
