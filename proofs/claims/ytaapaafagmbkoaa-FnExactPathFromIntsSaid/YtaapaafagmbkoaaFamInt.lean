/- The copies, comparisons and measures that the laws make: Int. (Printed by fam.py.) -/
import Derived.Test.YtaapaafagmbkoaaRows
import Derived.Test.YtaapaafagmbkoaaPlain
import Derived.WalkKit
import Derived.WalkSpells
import Derived.WalkLawsBesides
import Derived.StillTailTactics
import Derived.Deep.QuietTactic
import Derived.BigQuiet
namespace Go.Proofs.Ytaapaafagmbkoaa
open Go.RowKit
set_option linter.unusedVariables false

theorem et_int : ElemT Try.prog 26 3 1 8 := ElemT.mk' Try.underlying26 (z := I 0) (by kernel_rfl) rfl (by omega)

theorem to_intS (l : List Int) (v : Value) (w : World) (h : SlR intT w v l) (hn : l.length ≤ 1048576) : Calls Try.prog 27 #[v] w fun r w' => ∃ v' fp, r = .returned v' ∧ SlO intT 3 w.heap.size w' v' l fp ∧ Below w.heap.size w w' := by
  obtain ⟨A, c, rfl, _⟩ := h.form
  obtain ⟨n, H⟩ : ∃ n, Hid (n = l.length) := ⟨_, rfl⟩
  rw [← H.out] at h hn ⊢
  obtain ⟨Z, hZ, hmk⟩ := make_rule et_int n (by omega) (by omega)
  have HZ := hid hZ
  clear hZ
  go_enter Try.func27, Try.ntmps27
  go_wp2
  go_loopw [4] (fun i wr => ∃ k : Nat, k ≤ n ∧ i = I k ∧ Below w.heap.size w wr ∧ ∃ xs, Fil intT 3 w.heap.size wr w.heap.size n (l.take k) xs) (fun i _ => n - (intOf i).toNat)
  case atStart => exact ⟨0, by omega, rfl, ext_alloc1 _ _, _, Fil.start intT 3 w Z n HZ.out (by simp only [maxLen]; omega)⟩
  case round =>
    rename_i wr
    obtain ⟨k, hk, rfl, hb, xs, hF⟩ := hrel
    clear hmk
    by_cases hlt : k < n
    · obtain ⟨g, o, c', x, e, hg, hxk, p0⟩ := int_at (h.below hb) (by rw [← H.out]; exact hlt)
      rw [← H.out] at e
      cases e
      have ho := hF.1
      have hw := hb.size
      have hlw : w.heap.size < wr.heap.size := (ho.lt w.heap.size rfl).2
      have f0 := ho.frozenAt (k)
      obtain ⟨u0, d0⟩ := own_cell ho (k) (by show _ < _ * 1; omega)
      go_wp2
      go_roundw
      case rel =>
        have hl := H.out
        have hb1 : Below wr.heap.size wr wr := Below.refl _ _
        have hb2 := hb.trans (hb1.mono hw)
        have hF2 := hF.step hb1 (cs := [I x]) (f := []) ⟨rfl, rfl⟩ hw (own_set (own_below ho hb1) (k) (I x)) (fun b hbg => by rw [far_set hbg]) (k := k) (by simp; omega) (fun m hm => set1_old hm) (fun j hj => set1_new ho.1 hlt hj)
        rw [← take_succ hxk.out] at hF2
        exact ⟨k + 1, by omega, by go_num, (below_set hb2 (Nat.le_refl _) _), _, hF2⟩
      case measure => simp [intOf]; omega
    · go_wp2
      go_ret
      have : k = n := by omega
      subst this
      rw [H.out, List.take_length] at hF
      obtain ⟨fp, hO⟩ := hF.done rfl
      exact ⟨_, fp, rfl, by rw [H.out]; exact hO, hb⟩

set_option maxRecDepth 100000 in
theorem eq_intS (l : List Int) (v u : Value) (w : World) (h : SlR intT w v l) (h' : SlR intT w u l) (hn : l.length ≤ 140737488355328) : Calls Try.prog 19 #[v, u] w fun r w' => r = .returned (.bool true) ∧ Below w.heap.size w w' := by
  obtain ⟨A, c, rfl, _⟩ := h.form
  obtain ⟨A', c', rfl, _⟩ := h'.form
  obtain ⟨n, H⟩ : ∃ n, Hid (n = l.length) := ⟨_, rfl⟩
  rw [← H.out] at h h' hn ⊢
  go_enter Try.func19, Try.ntmps19
  go_wp2
  go_loopw [5] (fun i wr => ∃ k : Nat, k ≤ n ∧ i = I k ∧ Below w.heap.size w wr) (fun i _ => n - (intOf i).toNat)
  case atStart => exact ⟨0, by omega, rfl, Below.refl _ _⟩
  case round =>
    rename_i wr
    obtain ⟨k, hk, rfl, hb⟩ := hrel
    by_cases hlt : k < n
    · obtain ⟨g, o, cc, x, e, hg, hxk, p0⟩ := int_at (h.below hb) (by rw [← H.out]; exact hlt)
      obtain ⟨g', o', cc', x', e', hg', hxk', p0'⟩ := int_at (h'.below hb) (by rw [← H.out]; exact hlt)
      obtain rfl : x' = x := by have h1 := hxk.out; have h2 := hxk'.out; rw [h1] at h2; injection h2 with h2; exact h2.symm
      rw [← H.out] at e e'
      cases e
      cases e'
      go_wp2
      go_quiet (fail)
      go_wp2
      go_roundw
      case rel => exact ⟨k + 1, by omega, by go_num, below_drewN hb _⟩
      case measure => simp [intOf]; omega
    · go_wp2
      go_ret
      exact ⟨rfl, hb⟩

end Go.Proofs.Ytaapaafagmbkoaa
