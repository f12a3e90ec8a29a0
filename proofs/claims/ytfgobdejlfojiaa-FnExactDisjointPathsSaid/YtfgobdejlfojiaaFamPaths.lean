/- The copies, comparisons and measures that the laws make: Paths. (Printed by fam.py.) -/
import Derived.Test.YtfgobdejlfojiaaRows
import Derived.Test.YtfgobdejlfojiaaPlain
import Derived.Test.YtfgobdejlfojiaaFamPath
import Derived.WalkKit
import Derived.WalkSpells
import Derived.WalkLawsBesides
import Derived.StillTailTactics
import Derived.Deep.QuietTactic
import Derived.BigQuiet
namespace Go.Proofs.Ytfgobdejlfojiaa
open Go.RowKit
set_option linter.unusedVariables false

theorem et_path : ElemT Try.prog 72 39 1 24 := ElemT.mk' Try.underlying72 (z := .agg #[.slice none 0 0]) (by kernel_rfl) rfl (by omega)

theorem to_pathS (l : List Path) (v : Value) (w : World) (h : SlR pathT w v l) (hn : sz_paths l ≤ 1048576) : Calls Try.prog 50 #[v] w fun r w' => ∃ v' fp, r = .returned v' ∧ SlO pathT 39 w.heap.size w' v' l fp ∧ Below w.heap.size w w' := by
  obtain ⟨A, c, rfl, _⟩ := h.form
  obtain ⟨n, H⟩ : ∃ n, Hid (n = l.length) := ⟨_, rfl⟩
  have Hm : Hid (∀ x ∈ l, sz_path x ≤ 1048576) := fun x hx => by have := le_sum_of_mem (List.mem_map.2 ⟨x, hx, rfl⟩ : sz_path x ∈ l.map sz_path); unfold sz_paths at hn; omega
  replace hn : l.length ≤ 1048576 := by unfold sz_paths at hn; omega
  rw [← H.out] at h hn ⊢
  obtain ⟨Z, hZ, hmk⟩ := make_rule et_path n (by omega) (by omega)
  have HZ := hid hZ
  clear hZ
  go_enter Try.func50, Try.ntmps50
  go_wp2
  go_loopw [4] (fun i wr => ∃ k : Nat, k ≤ n ∧ i = I k ∧ Below w.heap.size w wr ∧ ∃ xs, Fil pathT 39 w.heap.size wr w.heap.size n (l.take k) xs) (fun i _ => n - (intOf i).toNat)
  case atStart => exact ⟨0, by omega, rfl, ext_alloc1 _ _, _, Fil.start pathT 39 w Z n HZ.out (by simp only [maxLen]; omega)⟩
  case round =>
    rename_i wr
    obtain ⟨k, hk, rfl, hb, xs, hF⟩ := hrel
    clear hmk
    by_cases hlt : k < n
    · obtain ⟨g, o, c', x, A0, cA0, e, hg, hxk, k0, m0, p0⟩ := path_at (h.below hb) (by rw [← H.out]; exact hlt)
      rw [← H.out] at e
      cases e
      have ho := hF.1
      have hw := hb.size
      have hlw : w.heap.size < wr.heap.size := (ho.lt w.heap.size rfl).2
      have f0 := ho.frozenAt (k)
      obtain ⟨u0, d0⟩ := own_cell ho (k) (by show _ < _ * 1; omega)
      go_wp2_with (fail)
      refine (to_path x _ _ (path_mk k0) (Hm.out x (List.mem_of_getElem? hxk.out))).mono ?_
      rintro e w1 ⟨cs', fp, rfl, hO, hb1⟩
      obtain ⟨B0, cB0, g0, rfl, _⟩ := path_oform hO
      obtain ⟨q1, q2⟩ := bcell hb1
      go_wp2_with (fail)
      go_roundw
      case rel =>
        have hl := H.out
        have hb2 := hb.trans (hb1.mono hw)
        have hF2 := hF.step hb1 (cs := [.slice B0 x.length cB0]) (f := fp) hO hw (own_set (own_below ho hb1) (k) (.slice B0 x.length cB0)) (fun b hbg => by rw [far_set hbg]) (k := k) (by simp; omega) (fun m hm => set1_old hm) (fun j hj => set1_new ho.1 hlt hj)
        rw [← take_succ hxk.out] at hF2
        exact ⟨k + 1, by omega, by go_num, (below_set hb2 (Nat.le_refl _) _), _, hF2⟩
      case measure => simp [intOf]; omega
    · go_wp2
      go_ret
      have : k = n := by omega
      subst this
      rw [H.out, List.take_length] at hF
      obtain ⟨fp, hO⟩ := hF.done rfl
      exact ⟨_, fp, rfl, by rw [H.out]; exact hO, hb⟩

set_option maxRecDepth 100000 in
theorem eq_pathS (l : List Path) (v u : Value) (w : World) (h : SlR pathT w v l) (h' : SlR pathT w u l) (hn : sz_paths l ≤ 1048576) : Calls Try.prog 52 #[v, u] w fun r w' => r = .returned (.bool true) ∧ Below w.heap.size w w' := by
  obtain ⟨A, c, rfl, _⟩ := h.form
  obtain ⟨A', c', rfl, _⟩ := h'.form
  obtain ⟨n, H⟩ : ∃ n, Hid (n = l.length) := ⟨_, rfl⟩
  have Hm : Hid (∀ x ∈ l, sz_path x ≤ 1048576) := fun x hx => by have := le_sum_of_mem (List.mem_map.2 ⟨x, hx, rfl⟩ : sz_path x ∈ l.map sz_path); unfold sz_paths at hn; omega
  replace hn : l.length ≤ 1048576 := by unfold sz_paths at hn; omega
  rw [← H.out] at h h' hn ⊢
  go_enter Try.func52, Try.ntmps52
  go_wp2
  go_loopw [5] (fun i wr => ∃ k : Nat, k ≤ n ∧ i = I k ∧ Below w.heap.size w wr) (fun i _ => n - (intOf i).toNat)
  case atStart => exact ⟨0, by omega, rfl, Below.refl _ _⟩
  case round =>
    rename_i wr
    obtain ⟨k, hk, rfl, hb⟩ := hrel
    by_cases hlt : k < n
    · obtain ⟨g, o, cc, x, A0, cA0, e, hg, hxk, k0, m0, p0⟩ := path_at (h.below hb) (by rw [← H.out]; exact hlt)
      obtain ⟨g', o', cc', x', A0', cA0', e', hg', hxk', k0', m0', p0'⟩ := path_at (h'.below hb) (by rw [← H.out]; exact hlt)
      obtain rfl : x' = x := by have h1 := hxk.out; have h2 := hxk'.out; rw [h1] at h2; injection h2 with h2; exact h2.symm
      rw [← H.out] at e e'
      cases e
      cases e'
      go_wp2
      go_still_tail 8, (by kernel_rfl)
      go_wp2_with (fail)
      refine (eq_path x' _ _ _ (path_mk (k0.below (below_drew _))) (path_mk (k0'.below (below_drew _))) (Hm.out _ (List.mem_of_getElem? hxk.out))).mono ?_
      rintro e w1 ⟨rfl, hb1⟩
      go_wp2_with (fail)
      go_roundw
      case rel => exact ⟨k + 1, by omega, by go_num, hb.drew.trans (hb1.mono hb.size)⟩
      case measure => simp [intOf]; omega
    · go_wp2
      go_ret
      exact ⟨rfl, hb⟩

theorem szc_pathS (l : List Path) (v : Value) (left : Int) (w : World) (h : SlR pathT w v l) (hl : 0 ≤ left) (hl2 : left ≤ 1048576) (hn : l.length ≤ 9223372036854775807) (hm : ∀ x ∈ l, lenOk_path x) : Calls Try.prog 48 #[v, I left] w fun r w' => r = .returned (I (szI left (sz_paths l))) ∧ Below w.heap.size w w' := by
  obtain ⟨A, c, rfl, _⟩ := h.form
  obtain ⟨n, H⟩ : ∃ n, Hid (n = l.length) := ⟨_, rfl⟩
  obtain ⟨ls, L⟩ : ∃ ls, Hid (ls = l.map sz_path) := ⟨_, rfl⟩
  have e1 : sz_paths l = n + ls.sum := by unfold sz_paths; rw [← H.out, ← L.out]
  rw [e1]
  rw [← H.out] at h hn ⊢
  have Hm := hid hm
  clear hm e1
  by_cases hbig : left < (n : Int)
  · rw [szI_no (by omega)]
    have h1 : left - (n : Int) < 0 := by omega
    go_enter Try.func48, Try.ntmps48
    go_wp2
    go_ret
    exact ⟨rfl, Below.refl _ _⟩
  · have h1 : ¬ left - (n : Int) < 0 := by omega
    go_enter Try.func48, Try.ntmps48
    go_wp2
    go_loopw [1, 5] (fun t i wr => ∃ k : Nat, k ≤ n ∧ i = I k ∧ t = I (left - n - (ls.take k).sum) ∧ ((ls.take k).sum : Int) ≤ left - n ∧ Below w.heap.size w wr) (fun _ i _ => n - (intOf i).toNat)
    case atStart => exact ⟨0, by omega, rfl, by simp, by simp; omega, Below.refl _ _⟩
    case round =>
      rename_i wr
      obtain ⟨k, hk, rfl, rfl, hs, hb⟩ := hrel
      by_cases hlt : k < n
      · obtain ⟨g, o, cc, x, A0, cA0, e, hg, hxk, k0, m0, p0⟩ := path_at (h.below hb) (by rw [← H.out]; exact hlt)
        rw [← H.out] at e
        cases e
        have hx1 := Hm.out x (List.mem_of_getElem? hxk.out)
        have hS : Hid ((ls.take (k + 1)).sum = (ls.take k).sum + sz_path x) := sum_take_succ (by rw [L.out, List.getElem?_map, hxk.out]; rfl)
        have hC := hid (szc_path x _ (left - n - (ls.take k).sum) wr (path_mk k0) (by omega) (by omega) hx1)
        obtain ⟨s, HS⟩ : ∃ s, Hid (s = (ls.take k).sum) := ⟨_, rfl⟩
        obtain ⟨t, HT⟩ : ∃ t, Hid (t = sz_path x) := ⟨_, rfl⟩
        rw [← HS.out] at hs hC ⊢
        rw [← HT.out] at hC
        by_cases hfit : (t : Int) ≤ left - n - s
        · rw [szI_yes hfit] at hC
          have h2 : ¬ left - n - s - (t : Int) < 0 := by omega
          go_wp2_with (fail)
          refine hC.out.mono ?_
          rintro e w1 ⟨rfl, hb1⟩
          go_wp2_with (fail)
          go_roundw
          case rel =>
            have h3 := hS.out
            have h4 := HS.out
            have h5 := HT.out
            exact ⟨k + 1, by omega, by go_num, by rw [h3, ← h4, ← h5]; congr 1; omega, by omega, ext_trans hb hb1⟩
          case measure => simp [intOf]; omega
        · rw [szI_no (by omega)] at hC
          go_wp2_with (fail)
          refine hC.out.mono ?_
          rintro e w1 ⟨rfl, hb1⟩
          go_wp2_with (fail)
          go_ret
          have h3 := hS.out
          have h4 := HS.out
          have h6 := HT.out
          have h5 := sum_take_le ls (k + 1)
          exact ⟨by rw [szI_no (by omega)]; rfl, ext_trans hb hb1⟩
      · go_wp2
        go_ret
        have hkn : k = n := by omega
        have h5 : (ls.take k).sum = ls.sum := by rw [List.take_of_length_le (by rw [L.out, List.length_map, ← H.out]; omega)]
        refine ⟨?_, hb⟩
        rw [szI_yes (by omega)]
        exact ret_int (by omega)

end Go.Proofs.Ytfgobdejlfojiaa
