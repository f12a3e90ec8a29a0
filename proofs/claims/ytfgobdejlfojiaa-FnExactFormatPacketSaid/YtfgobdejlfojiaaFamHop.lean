/- The copies, comparisons and measures that the laws make: Hop. (Printed by fam.py.) -/
import Derived.Test.YtfgobdejlfojiaaRows
import Derived.Test.YtfgobdejlfojiaaPlain
import Derived.WalkKit
import Derived.WalkSpells
import Derived.WalkLawsBesides
import Derived.StillTailTactics
import Derived.Deep.QuietTactic
import Derived.BigQuiet
namespace Go.Proofs.Ytfgobdejlfojiaa
open Go.RowKit
set_option linter.unusedVariables false

theorem et_hop : ElemT Try.prog 88 93 5 40 := ElemT.mk' Try.underlying88 (z := .agg #[I 0, I 0, I 0, I 0, I 0]) (by kernel_rfl) rfl (by omega)

theorem to_hop (a0 : Int) (a1 : Int) (a2 : Int) (a3 : Int) (a4 : Int) (w : World) : Calls Try.prog 190 #[.agg #[I a0, I a1, I a2, I a3, I a4]] w fun r w' => r = .returned (.agg #[I a0, I a1, I a2, I a3, I a4]) ∧ Below w.heap.size w w' := by
  go_enter Try.func190, Try.ntmps190
  go_wp2
  refine bodyPost_ret (v := .agg #[I a0, I a1, I a2, I a3, I a4]) (by simp [results, Try.results190, go_sem]) rfl ⟨rfl, ?_⟩
  repeat (first | refine ext_set ?_ (by first | omega | (simp; try omega)) _ | refine ext_alloc ?_ _ | refine Below.drew ?_ | assumption | exact Below.refl _ _)

theorem to_hopS (l : List Hop) (v : Value) (w : World) (h : SlR hopT w v l) (hn : l.length ≤ 1048576) : Calls Try.prog 174 #[v] w fun r w' => ∃ v' fp, r = .returned v' ∧ SlO hopT 93 w.heap.size w' v' l fp ∧ Below w.heap.size w w' := by
  obtain ⟨A, c, rfl, _⟩ := h.form
  obtain ⟨n, H⟩ : ∃ n, Hid (n = l.length) := ⟨_, rfl⟩
  rw [← H.out] at h hn ⊢
  obtain ⟨Z, hZ, hmk⟩ := make_rule et_hop n (by omega) (by omega)
  have HZ := hid hZ
  clear hZ
  go_enter Try.func174, Try.ntmps174
  go_wp2
  go_loopw [4] (fun i wr => ∃ k : Nat, k ≤ n ∧ i = I k ∧ Below w.heap.size w wr ∧ ∃ xs, Fil hopT 93 w.heap.size wr w.heap.size n (l.take k) xs) (fun i _ => n - (intOf i).toNat)
  case atStart => exact ⟨0, by omega, rfl, ext_alloc1 _ _, _, Fil.start hopT 93 w Z n HZ.out (by simp only [maxLen]; omega)⟩
  case round =>
    rename_i wr
    obtain ⟨k, hk, rfl, hb, xs, hF⟩ := hrel
    clear hmk
    by_cases hlt : k < n
    · obtain ⟨g, o, c', x, e, hg, hxk, p0, p1, p2, p3, p4⟩ := hop_at (h.below hb) (by rw [← H.out]; exact hlt)
      rw [← H.out] at e
      cases e
      have ho := hF.1
      have hw := hb.size
      have hlw : w.heap.size < wr.heap.size := (ho.lt w.heap.size rfl).2
      have f0 := ho.frozenAt (k * 5)
      have f1 := ho.frozenAt (k * 5 + 1)
      have f2 := ho.frozenAt (k * 5 + 2)
      have f3 := ho.frozenAt (k * 5 + 3)
      have f4 := ho.frozenAt (k * 5 + 4)
      obtain ⟨u0, d0⟩ := own_cell ho (k * 5) (by show _ < _ * 5; omega)
      obtain ⟨u1, d1⟩ := own_cell ho (k * 5 + 1) (by show _ < _ * 5; omega)
      obtain ⟨u2, d2⟩ := own_cell ho (k * 5 + 2) (by show _ < _ * 5; omega)
      obtain ⟨u3, d3⟩ := own_cell ho (k * 5 + 3) (by show _ < _ * 5; omega)
      obtain ⟨u4, d4⟩ := own_cell ho (k * 5 + 4) (by show _ < _ * 5; omega)
      go_wp2_with (fail)
      refine (to_hop _ _ _ _ _ _).mono ?_
      rintro e w1 ⟨rfl, hb1⟩
      obtain ⟨q1, q2⟩ := bcell hb1
      go_wp2_with (fail)
      go_roundw
      case rel =>
        have hl := H.out
        have hb2 := hb.trans (hb1.mono hw)
        have hF2 := hF.step hb1 (cs := [I (x.ia), I (x.ing), I (x.eg), I (x.exp), I (x.mac)]) (f := []) ⟨rfl, rfl⟩ hw (own_set (own_set (own_set (own_set (own_set (own_below ho hb1) (k * 5) (I (x.ia))) (k * 5 + 1) (I (x.ing))) (k * 5 + 2) (I (x.eg))) (k * 5 + 3) (I (x.exp))) (k * 5 + 4) (I (x.mac))) (fun b hbg => by rw [far_set hbg, far_set hbg, far_set hbg, far_set hbg, far_set hbg]) (k := k) (by simp; omega) (fun m hm => set5_old hm) (fun j hj => set5_new ho.1 hlt hj)
        rw [← take_succ hxk.out] at hF2
        exact ⟨k + 1, by omega, by go_num, (below_set (below_set (below_set (below_set (below_set hb2 (Nat.le_refl _) _) (Nat.le_refl _) _) (Nat.le_refl _) _) (Nat.le_refl _) _) (Nat.le_refl _) _), _, hF2⟩
      case measure => simp [intOf]; omega
    · go_wp2
      go_ret
      have : k = n := by omega
      subst this
      rw [H.out, List.take_length] at hF
      obtain ⟨fp, hO⟩ := hF.done rfl
      exact ⟨_, fp, rfl, by rw [H.out]; exact hO, hb⟩

theorem eq_hop (a0 : Int) (a1 : Int) (a2 : Int) (a3 : Int) (a4 : Int) (w : World) : Calls Try.prog 192 #[.agg #[I a0, I a1, I a2, I a3, I a4], .agg #[I a0, I a1, I a2, I a3, I a4]] w fun r w' => r = .returned (.bool true) ∧ Below w.heap.size w w' := by
  go_enter Try.func192, Try.ntmps192
  go_wp2
  go_ret
  exact ⟨rfl, ext_alloc (ext_alloc1 _ _) _⟩

set_option maxRecDepth 100000 in
theorem eq_hopS (l : List Hop) (v u : Value) (w : World) (h : SlR hopT w v l) (h' : SlR hopT w u l) (hn : l.length ≤ 140737488355328) : Calls Try.prog 179 #[v, u] w fun r w' => r = .returned (.bool true) ∧ Below w.heap.size w w' := by
  obtain ⟨A, c, rfl, _⟩ := h.form
  obtain ⟨A', c', rfl, _⟩ := h'.form
  obtain ⟨n, H⟩ : ∃ n, Hid (n = l.length) := ⟨_, rfl⟩
  rw [← H.out] at h h' hn ⊢
  go_enter Try.func179, Try.ntmps179
  go_wp2
  go_loopw [5] (fun i wr => ∃ k : Nat, k ≤ n ∧ i = I k ∧ Below w.heap.size w wr) (fun i _ => n - (intOf i).toNat)
  case atStart => exact ⟨0, by omega, rfl, Below.refl _ _⟩
  case round =>
    rename_i wr
    obtain ⟨k, hk, rfl, hb⟩ := hrel
    by_cases hlt : k < n
    · obtain ⟨g, o, cc, x, e, hg, hxk, p0, p1, p2, p3, p4⟩ := hop_at (h.below hb) (by rw [← H.out]; exact hlt)
      obtain ⟨g', o', cc', x', e', hg', hxk', p0', p1', p2', p3', p4'⟩ := hop_at (h'.below hb) (by rw [← H.out]; exact hlt)
      obtain rfl : x' = x := by have h1 := hxk.out; have h2 := hxk'.out; rw [h1] at h2; injection h2 with h2; exact h2.symm
      rw [← H.out] at e e'
      cases e
      cases e'
      go_wp2
      go_still_tail 8, (by kernel_rfl)
      go_wp2_with (fail)
      refine (eq_hop _ _ _ _ _ _).mono ?_
      rintro e w1 ⟨rfl, hb1⟩
      go_wp2_with (fail)
      go_roundw
      case rel => exact ⟨k + 1, by omega, by go_num, hb.drew.trans (hb1.mono hb.size)⟩
      case measure => simp [intOf]; omega
    · go_wp2
      go_ret
      exact ⟨rfl, hb⟩

theorem szc_hopS (A : Option Addr) (n c : Nat) (left : Int) (w : World) (hl : 0 ≤ left) (hl2 : left ≤ 1048576) (hn : n ≤ 9223372036854775807) : Calls Try.prog 171 #[.slice A n c, I left] w fun r w' => r = .returned (I (szI left n)) ∧ w = w' := by
  by_cases h : (n : Int) ≤ left
  · rw [szI_yes h]
    have h1 : ¬ left - (n : Int) < 0 := by omega
    go_enter Try.func171, Try.ntmps171
    go_wp2
    go_ret
    exact ⟨rfl, rfl⟩
  · rw [szI_no (by omega)]
    have h1 : left - (n : Int) < 0 := by omega
    go_enter Try.func171, Try.ntmps171
    go_wp2
    go_ret
    exact ⟨rfl, rfl⟩

end Go.Proofs.Ytfgobdejlfojiaa
