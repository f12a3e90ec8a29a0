/- The comparisons that a law makes: laws.eqHop .. laws.eqPath answer true where both sides read as the same data. -/
import Derived.Test.YtemhpcpdeloajaaRows
import Derived.Test.YtemhpcpdeloajaaData
import Derived.WalkKit
import Derived.WalkSpells
import Derived.WalkLawsBesides
import Derived.StillTailTactics
import Derived.Outline
namespace Go.Proofs.Ytemhpcpdeloajaa
open Go.RowKit
set_option linter.unusedVariables false

theorem eqHop_c (a b c d e : Int) (w : World) :
    Calls Try.prog 108 #[.agg #[I a, I b, I c, I d, I e], .agg #[I a, I b, I c, I d, I e]] w fun r w' => r = .returned (.bool true) ∧ Below w.heap.size w w' := by
  go_enter Try.func108, Try.ntmps108
  go_wp2
  go_ret
  exact ⟨rfl, ((Below.refl _ _).alloc (Nat.le_refl _) _).alloc (by simp) _⟩

set_option maxRecDepth 100000 in
theorem eqHopS_c (hs : List Hop) (v u : Value) (w : World) (h : SlR hopT w v hs) (h' : SlR hopT w u hs) (hn : hs.length ≤ 1048576) :
    Calls Try.prog 102 #[v, u] w fun r w' => r = .returned (.bool true) ∧ Below w.heap.size w w' := by
  obtain ⟨A, c, rfl, _⟩ := h.form
  obtain ⟨A', c', rfl, _⟩ := h'.form
  obtain ⟨n, H⟩ : ∃ n, Hid (n = hs.length) := ⟨_, rfl⟩
  rw [← H.out] at h h' hn ⊢
  go_enter Try.func102, Try.ntmps102
  go_wp2
  go_loopw [5] (fun i wr => ∃ k : Nat, k ≤ n ∧ i = I k ∧ Below w.heap.size w wr) (fun i _ => n - (intOf i).toNat)
  case atStart => exact ⟨0, by omega, rfl, Below.refl _ _⟩
  case round =>
    rename_i wr
    obtain ⟨k, hk, rfl, hb⟩ := hrel
    by_cases hlt : k < n
    · obtain ⟨g, o, c1, x, e, hg, hxk, c0, c1, c2, c3, c4⟩ := hops_at (h.below hb) (by rw [← H.out]; exact hlt)
      obtain ⟨g', o', c1', x', e', hg', hxk', c0', c1', c2', c3', c4'⟩ := hops_at (h'.below hb) (by rw [← H.out]; exact hlt)
      obtain rfl : x' = x := by have h1 := hxk.out; have h2 := hxk'.out; rw [h1] at h2; injection h2 with h2; exact h2.symm
      rw [← H.out] at e e'
      cases e
      cases e'
      go_wp2
      go_still_tail 8, (by kernel_rfl)
      go_wp2_with (fail)
      refine (eqHop_c _ _ _ _ _ _).mono ?_
      rintro e w1 ⟨rfl, hb1⟩
      go_wp2_with (fail)
      go_roundw
      case rel => exact ⟨k + 1, by omega, by go_num, hb.drew.trans (hb1.mono hb.size)⟩
      case measure => simp [intOf]; omega
    · go_wp2
      go_ret
      exact ⟨rfl, hb⟩
theorem eqPathPart_c (p : Part) (v u : Value) (w : World) (h : SlR hopT w v p.hops) (h' : SlR hopT w u p.hops) (hn : p.hops.length ≤ 1048576) :
    Calls Try.prog 81 #[.agg #[I p.kind, I p.ts, I p.beta, v], .agg #[I p.kind, I p.ts, I p.beta, u]] w fun r w' => r = .returned (.bool true) ∧ Below w.heap.size w w' := by
  obtain ⟨A, c, rfl, _⟩ := h.form
  obtain ⟨A', c', rfl, _⟩ := h'.form
  have hb0 : Below w.heap.size w ((w.alloc (.cells #[I p.kind, I p.ts, I p.beta, .slice A p.hops.length c] 75)).alloc (.cells #[I p.kind, I p.ts, I p.beta, .slice A' p.hops.length c'] 75)) :=
    ((Below.refl _ _).alloc (Nat.le_refl _) _).alloc (by simp) _
  go_enter Try.func81, Try.ntmps81
  go_wp2_with (fail)
  refine (eqHopS_c p.hops _ _ _ (h.below hb0) (h'.below hb0) hn).mono ?_
  rintro e w1 ⟨rfl, hb1⟩
  go_wp2_with (fail)
  go_ret
  exact ⟨rfl, hb0.trans (hb1.mono hb0.size)⟩

set_option maxRecDepth 100000 in
theorem eqPathPartS_c (ps : List Part) (v u : Value) (w : World) (h : SlR partT w v ps) (h' : SlR partT w u ps) (hn : ps.length ≤ 1048576) (hm : ∀ p ∈ ps, p.hops.length ≤ 1048576) :
    Calls Try.prog 58 #[v, u] w fun r w' => r = .returned (.bool true) ∧ Below w.heap.size w w' := by
  obtain ⟨A, c, rfl, _⟩ := h.form
  obtain ⟨A', c', rfl, _⟩ := h'.form
  obtain ⟨n, H⟩ : ∃ n, Hid (n = ps.length) := ⟨_, rfl⟩
  rw [← H.out] at h h' hn ⊢
  have Hm := hid hm
  clear hm
  go_enter Try.func58, Try.ntmps58
  go_wp2
  go_loopw [5] (fun i wr => ∃ k : Nat, k ≤ n ∧ i = I k ∧ Below w.heap.size w wr) (fun i _ => n - (intOf i).toNat)
  case atStart => exact ⟨0, by omega, rfl, Below.refl _ _⟩
  case round =>
    rename_i wr
    obtain ⟨k, hk, rfl, hb⟩ := hrel
    by_cases hlt : k < n
    · obtain ⟨g, o, q, x, B, d, e, hg, hxk, hd, hin, c0, c1, c2, c3⟩ := parts_at (h.below hb) (by rw [← H.out]; exact hlt)
      obtain ⟨g', o', q', x', B', d', e', hg', hxk', hd', hin', c0', c1', c2', c3'⟩ := parts_at (h'.below hb) (by rw [← H.out]; exact hlt)
      obtain rfl : x' = x := by have h1 := hxk.out; have h2 := hxk'.out; rw [h1] at h2; injection h2 with h2; exact h2.symm
      rw [← H.out] at e e'
      cases e
      cases e'
      go_wp2
      go_still_tail 8, (by kernel_rfl)
      go_wp2_with (fail)
      refine (eqPathPart_c x' _ _ _ (hin.below (below_drew _)) (hin'.below (below_drew _)) (Hm.out _ (List.mem_of_getElem? hxk.out))).mono ?_
      rintro e w1 ⟨rfl, hb1⟩
      go_wp2_with (fail)
      go_roundw
      case rel => exact ⟨k + 1, by omega, by go_num, hb.drew.trans (hb1.mono hb.size)⟩
      case measure => simp [intOf]; omega
    · go_wp2
      go_ret
      exact ⟨rfl, hb⟩

theorem eqPath_c (p : Path) (v u : Value) (w : World) (h : SlR partT w v p) (h' : SlR partT w u p) (hn : p.length ≤ 1048576) (hm : ∀ x ∈ p, x.hops.length ≤ 1048576) :
    Calls Try.prog 23 #[.agg #[v], .agg #[u]] w fun r w' => r = .returned (.bool true) ∧ Below w.heap.size w w' := by
  obtain ⟨A, c, rfl, _⟩ := h.form
  obtain ⟨A', c', rfl, _⟩ := h'.form
  have Hm := hid hm
  clear hm
  have hb0 : Below w.heap.size w ((w.alloc (.cells #[.slice A p.length c] 32)).alloc (.cells #[.slice A' p.length c'] 32)) :=
    ((Below.refl _ _).alloc (Nat.le_refl _) _).alloc (by simp) _
  go_enter Try.func23, Try.ntmps23
  go_wp2_with (fail)
  refine (eqPathPartS_c p _ _ _ (h.below hb0) (h'.below hb0) hn Hm.out).mono ?_
  rintro e w1 ⟨rfl, hb1⟩
  go_wp2_with (fail)
  go_ret
  exact ⟨rfl, hb0.trans (hb1.mono hb0.size)⟩

end Go.Proofs.Ytemhpcpdeloajaa
