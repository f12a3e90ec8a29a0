/- The copies, comparisons and measures that the laws make: Int. (Printed by fam.py.) -/
import Derived.Test.YtemhpcpdeloajaaRows
import Derived.Test.YtemhpcpdeloajaaPlain
import Derived.WalkKit
import Derived.WalkSpells
import Derived.WalkLawsBesides
import Derived.StillTailTactics
import Derived.Deep.QuietTactic
import Derived.BigQuiet
namespace Go.Proofs.Ytemhpcpdeloajaa
open Go.RowKit
set_option linter.unusedVariables false

theorem et_int : ElemT Try.prog 45 3 1 8 := ElemT.mk' Try.underlying45 (z := I 0) (by kernel_rfl) rfl (by omega)

set_option maxRecDepth 100000 in
theorem eq_intS (l : List Int) (v u : Value) (w : World) (h : SlR intT w v l) (h' : SlR intT w u l) (hn : l.length ≤ 140737488355328) : Calls Try.prog 39 #[v, u] w fun r w' => r = .returned (.bool true) ∧ Below w.heap.size w w' := by
  obtain ⟨A, c, rfl, _⟩ := h.form
  obtain ⟨A', c', rfl, _⟩ := h'.form
  obtain ⟨n, H⟩ : ∃ n, Hid (n = l.length) := ⟨_, rfl⟩
  rw [← H.out] at h h' hn ⊢
  go_enter Try.func39, Try.ntmps39
  go_wp2
  go_loopw [5] (fun i wr => ∃ k : Nat, k ≤ n ∧ i = I k ∧ Below w.heap.size w wr) (fun i _ => n - (intOf i).toNat)
  case atStart => exact ⟨0, by omega, rfl, Below.refl _ _⟩
  case round =>
    rename_i wr
    obtain ⟨k, hk, rfl, hb⟩ := hrel
    by_cases hlt : k < n
    · obtain ⟨g, o, cc, x, e, hg, hxk, p0⟩ := int_at (h.below hb) (by rw [← H.out]; exact hlt)
      obtain ⟨g', o', cc', x', e', hg', hxk', p0'⟩ := int_at (h'.below hb) (by rw [← H.out]; exact hlt)
      obtain rfl : x' = x := by have h1 := hxk.out; have h2 := hxk'.out; rw [h1] at h2; injection h2 with h2; exact h2.symm
      rw [← H.out] at e e'
      cases e
      cases e'
      go_wp2
      go_quiet (fail)
      go_wp2
      go_roundw
      case rel => exact ⟨k + 1, by omega, by go_num, below_drewN hb _⟩
      case measure => simp [intOf]; omega
    · go_wp2
      go_ret
      exact ⟨rfl, hb⟩

end Go.Proofs.Ytemhpcpdeloajaa
