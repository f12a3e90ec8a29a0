/- HasPath and EqualPathLists, of the program and of the reference. -/
import Derived.Test.YtailmflghbdglaaEqualPaths
import Derived.Test.YtailmflghbdglaaFamPaths
import Derived.StillTailTactics
namespace Go.Proofs.Ytailmflghbdglaa
open Go.RowKit
set_option linter.unusedVariables false

theorem mem_sz_paths {l : List Path} {x : Path} (h : x ∈ l) : sz_path x ≤ sz_paths l := by
  have := le_sum_of_mem (List.mem_map.2 ⟨x, h, rfl⟩ : sz_path x ∈ l.map sz_path)
  show _ ≤ l.length + _
  omega
theorem not_mem_succ {l : List Path} {k : Nat} {x p : Path} (h : ¬ p ∈ l.take k) (hx : l[k]? = some x) (hn : ¬ x = p) : ¬ p ∈ l.take (k + 1) := by
  rw [take_succ hx]
  intro hm
  rcases List.mem_append.1 hm with hm | hm
  · exact h hm
  · rw [List.mem_singleton] at hm; exact hn hm.symm

set_option maxRecDepth 100000 in
theorem impl_HasPath (l : List Path) (v : Value) (p : Path) (cs : List Value) (w : World) (h : SlR pathT w v l) (hz : sz_paths l ≤ 1048576) (hl : l.length ≤ 9223372036854775807 ∧ ∀ x ∈ l, lenOk_path x) (hg : ∀ x ∈ l, rng_path x) (h' : pathT.R w cs p) (hz' : sz_path p ≤ 1048576) (hl' : lenOk_path p) (hg' : rng_path p) :
    Calls Try.prog 20 #[v, .agg cs.toArray] w fun e w' => e = .returned (.bool (decide (p ∈ l))) ∧ Below w.heap.size w w' := by
  obtain ⟨A, c, rfl, hc⟩ := h.form
  have hp' := h'
  obtain ⟨A', c', rfl, _⟩ := path_form h'
  obtain ⟨n, H⟩ : ∃ n, Hid (n = l.length) := ⟨_, rfl⟩
  have hn : n ≤ 1048576 := by rw [H.out]; have : sz_paths l = l.length + (l.map sz_path).sum := rfl; omega
  obtain ⟨r, Hr⟩ : ∃ r, Hid (r = decide (p ∈ l)) := ⟨_, rfl⟩
  rw [← Hr.out]
  have Hz := hid hz
  have Hl := hid hl.2
  have Hg := hid hg
  clear hz hl hg hc
  rw [← H.out] at h ⊢
  have hb0 : Below w.heap.size w (w.alloc (.cells #[.slice A' (List.length p) c'] 33)) := ext_alloc1 _ _
  have p0 : Hid ((w.alloc (.cells #[.slice A' (List.length p) c'] 33)).cell? ⟨w.heap.size, 0, none⟩ = some (.slice A' (List.length p) c')) := by show _ = _; simp
  go_enter Try.func20, Try.ntmps20
  go_wp2
  go_loopw [9] (fun i wr => ∃ k : Nat, k ≤ n ∧ i = I k ∧ ¬ p ∈ l.take k ∧ Below w.heap.size w wr ∧ wr.cell? ⟨w.heap.size, 0, none⟩ = some (.slice A' (List.length p) c')) (fun i _ => n - (intOf i).toNat)
  case atStart => exact ⟨0, by omega, rfl, by simp, hb0, p0.out⟩
  case round =>
    obtain ⟨k, hk, rfl, hab, hb, p1⟩ := hrel
    have Hab := hid hab
    clear hab p0 hb0
    by_cases hlt : k < n
    · obtain ⟨g, o, q, x, B, d, e, hgg, hxk, hin, hd, c0⟩ := path_at (h.below hb) (by rw [← H.out]; exact hlt)
      rw [← H.out] at e
      cases e
      have hm := List.mem_of_getElem? hxk.out
      have HC := hid (impl_EqualPaths x _ p _ (wr.alloc (.cells #[.slice B (List.length x) d] 33)) (path_mk (hin.below (ext_alloc1 _ _))) (Nat.le_trans (mem_sz_paths hm) Hz.out) (Hl.out x hm) (Hg.out x hm) (pathT.kp hp' (ext_alloc hb _)) hz' hl' hg')
      clear hm
      have hs : w.heap.size < wr.heap.size := World.block_lt_of_cell? wr _ p1
      go_wp2_with (fail)
      refine HC.out.mono ?_
      rintro e w1 ⟨rfl, hb1⟩
      have x1 : Below w.heap.size w w1 := ext_trans (ext_alloc hb _) hb1
      have p2 := ck hb1 (ck (ext_alloc1 _ _) p1)
      by_cases hxy : x = p
      · have hdx : decide (x = p) = true := by simp [hxy]
        have HR : Hid (r = true) := by show r = _; rw [Hr.out]; simp [← hxy, List.mem_of_getElem? hxk.out]
        rw [hdx]
        clear hdx hxy
        go_wp2_with (fail)
        go_ret
        exact ⟨by rw [HR.out]; rfl, x1⟩
      · have hdx : decide (x = p) = false := by simp [hxy]
        have Hxy := hid hxy
        rw [hdx]
        clear hdx hxy
        go_wp2_with (fail)
        go_roundw
        case rel => exact ⟨k + 1, by omega, by go_num, not_mem_succ Hab.out hxk.out Hxy.out, x1, p2⟩
        case measure => simp [intOf]; omega
    · have hkn : k = n := by omega
      subst hkn
      have HR : Hid (r = false) := by show r = _; rw [Hr.out]; have := Hab.out; rw [H.out, List.take_length] at this; simp [this]
      go_wp2
      go_ret
      exact ⟨by rw [HR.out]; rfl, hb⟩

set_option maxRecDepth 100000 in
theorem spec_HasPath (l : List Path) (v : Value) (p : Path) (cs : List Value) (w : World) (h : SlR pathT w v l) (hz : sz_paths l ≤ 1048576) (hl : l.length ≤ 9223372036854775807 ∧ ∀ x ∈ l, lenOk_path x) (hg : ∀ x ∈ l, rng_path x) (h' : pathT.R w cs p) (hz' : sz_path p ≤ 1048576) (hl' : lenOk_path p) (hg' : rng_path p) :
    Calls Try.prog 17 #[v, .agg cs.toArray] w fun e w' => e = .returned (.bool (decide (p ∈ l))) ∧ Below w.heap.size w w' := by
  obtain ⟨A, c, rfl, hc⟩ := h.form
  have hp' := h'
  obtain ⟨A', c', rfl, _⟩ := path_form h'
  obtain ⟨n, H⟩ : ∃ n, Hid (n = l.length) := ⟨_, rfl⟩
  have hn : n ≤ 1048576 := by rw [H.out]; have : sz_paths l = l.length + (l.map sz_path).sum := rfl; omega
  obtain ⟨r, Hr⟩ : ∃ r, Hid (r = decide (p ∈ l)) := ⟨_, rfl⟩
  rw [← Hr.out]
  have Hz := hid hz
  have Hl := hid hl.2
  have Hg := hid hg
  clear hz hl hg hc
  rw [← H.out] at h ⊢
  have hb0 : Below w.heap.size w (w.alloc (.cells #[.slice A' (List.length p) c'] 33)) := ext_alloc1 _ _
  have p0 : Hid ((w.alloc (.cells #[.slice A' (List.length p) c'] 33)).cell? ⟨w.heap.size, 0, none⟩ = some (.slice A' (List.length p) c')) := by show _ = _; simp
  go_enter Try.func17, Try.ntmps17
  go_wp2
  go_loopw [5] (fun i wr => ∃ k : Nat, k ≤ n ∧ i = I k ∧ ¬ p ∈ l.take k ∧ Below w.heap.size w wr ∧ wr.cell? ⟨w.heap.size, 0, none⟩ = some (.slice A' (List.length p) c')) (fun i _ => n - (intOf i).toNat)
  case atStart => exact ⟨0, by omega, rfl, by simp, hb0, p0.out⟩
  case round =>
    obtain ⟨k, hk, rfl, hab, hb, p1⟩ := hrel
    have Hab := hid hab
    clear hab p0 hb0
    by_cases hlt : k < n
    · obtain ⟨g, o, q, x, B, d, e, hgg, hxk, hin, hd, c0⟩ := path_at (h.below hb) (by rw [← H.out]; exact hlt)
      rw [← H.out] at e
      cases e
      have hm := List.mem_of_getElem? hxk.out
      have HC := hid (spec_EqualPaths x _ p _ wr.drew (path_mk (hin.below (below_drew _))) (Nat.le_trans (mem_sz_paths hm) Hz.out) (Hl.out x hm) (Hg.out x hm) (pathT.kp hp' hb.drew) hz' hl' hg')
      clear hm
      have hs : w.heap.size < wr.heap.size := World.block_lt_of_cell? wr _ p1
      go_wp2
      go_still_tail 5, (by kernel_rfl)
      go_wp2_with (fail)
      refine HC.out.mono ?_
      rintro e w1 ⟨rfl, hb1⟩
      have x1 : Below w.heap.size w w1 := ext_trans hb.drew hb1
      have p2 := ck hb1 (show wr.drew.cell? _ = _ from p1)
      by_cases hxy : x = p
      · have hdx : decide (x = p) = true := by simp [hxy]
        have HR : Hid (r = true) := by show r = _; rw [Hr.out]; simp [← hxy, List.mem_of_getElem? hxk.out]
        rw [hdx]
        clear hdx hxy
        go_wp2_with (fail)
        go_ret
        exact ⟨by rw [HR.out]; rfl, x1⟩
      · have hdx : decide (x = p) = false := by simp [hxy]
        have Hxy := hid hxy
        rw [hdx]
        clear hdx hxy
        go_wp2_with (fail)
        go_roundw
        case rel => exact ⟨k + 1, by omega, by go_num, not_mem_succ Hab.out hxk.out Hxy.out, x1, p2⟩
        case measure => simp [intOf]; omega
    · have hkn : k = n := by omega
      subst hkn
      have HR : Hid (r = false) := by show r = _; rw [Hr.out]; have := Hab.out; rw [H.out, List.take_length] at this; simp [this]
      go_wp2
      go_ret
      exact ⟨by rw [HR.out]; rfl, hb⟩

set_option maxRecDepth 100000 in
theorem impl_EqualPathLists (a : List Path) (v : Value) (b : List Path) (u : Value) (w : World) (h : SlR pathT w v a) (hz : sz_paths a ≤ 1048576) (hl : a.length ≤ 9223372036854775807 ∧ ∀ x ∈ a, lenOk_path x) (hg : ∀ x ∈ a, rng_path x) (h' : SlR pathT w u b) (hz' : sz_paths b ≤ 1048576) (hl' : b.length ≤ 9223372036854775807 ∧ ∀ x ∈ b, lenOk_path x) (hg' : ∀ x ∈ b, rng_path x) :
    Calls Try.prog 29 #[v, u] w fun e w' => e = .returned (.bool (decide (a = b))) ∧ Below w.heap.size w w' := by
  obtain ⟨A, c, rfl, hc⟩ := h.form
  obtain ⟨A', c', rfl, hc'⟩ := h'.form
  obtain ⟨n, H⟩ : ∃ n, Hid (n = a.length) := ⟨_, rfl⟩
  obtain ⟨n', H'⟩ : ∃ n, Hid (n = b.length) := ⟨_, rfl⟩
  have hn : n ≤ 1048576 := by rw [H.out]; have : sz_paths a = List.length a + (a.map sz_path).sum := rfl; omega
  have hn' : n' ≤ 1048576 := by rw [H'.out]; have : sz_paths b = List.length b + (b.map sz_path).sum := rfl; omega
  obtain ⟨r, Hr⟩ : ∃ r, Hid (r = decide (a = b)) := ⟨_, rfl⟩
  rw [← Hr.out]
  have Hz := hid hz
  have Hl := hid hl.2
  have Hg := hid hg
  have Hz' := hid hz'
  have Hl' := hid hl'.2
  have Hg' := hid hg'
  clear hz hl hg hc hz' hl' hg' hc'
  rw [← H.out] at h ⊢
  rw [← H'.out] at h' ⊢
  by_cases hnn : n = n'
  · subst hnn
    go_enter Try.func29, Try.ntmps29
    go_wp2
    go_loopw [13] (fun i wr => ∃ k : Nat, k ≤ n ∧ i = I k ∧ a.take k = b.take k ∧ Below w.heap.size w wr) (fun i _ => n - (intOf i).toNat)
    case atStart => exact ⟨0, by omega, rfl, rfl, Below.refl _ _⟩
    case round =>
      obtain ⟨k, hk, rfl, hab, hb⟩ := hrel
      have Hab := hid hab
      clear hab
      by_cases hlt : k < n
      · obtain ⟨g, o, q, x, B, d, e, hg, hxk, hin, hd, c0⟩ := path_at (h.below hb) (by rw [← H.out]; exact hlt)
        obtain ⟨g', o', q', y, B', d', e', hg', hyk, hin', hd', b0⟩ := path_at (h'.below hb) (by rw [← H'.out]; exact hlt)
        rw [← H.out] at e
        rw [← H'.out] at e'
        cases e
        cases e'
        have hm := List.mem_of_getElem? hxk.out
        have hm' := List.mem_of_getElem? hyk.out
        have HC := hid (impl_EqualPaths x _ y _ wr.drew (path_mk (hin.below (below_drew _))) (Nat.le_trans (mem_sz_paths hm) Hz.out) (Hl.out x hm) (Hg.out x hm) (path_mk (hin'.below (below_drew _))) (Nat.le_trans (mem_sz_paths hm') Hz'.out) (Hl'.out y hm') (Hg'.out y hm'))
        clear hm hm'
        go_wp2
        go_still_tail 8, (by kernel_rfl)
        go_wp2_with (fail)
        refine HC.out.mono ?_
        rintro e w1 ⟨rfl, hb1⟩
        have x1 : Below w.heap.size w w1 := ext_trans hb.drew hb1
        by_cases hxy : x = y
        · have hdx : decide (x = y) = true := by simp [hxy]
          have Hxy := hid hxy
          clear hxy
          rw [hdx]
          clear hdx
          go_wp2_with (fail)
          go_roundw
          case rel => exact ⟨k + 1, by omega, by go_num, take_eq_of Hab.out hxk.out (Hxy.out ▸ hyk.out), x1⟩
          case measure => simp [intOf]; omega
        · have hdx : decide (x = y) = false := by simp [hxy]
          have HR : Hid (r = false) := by show r = _; rw [Hr.out]; simp [ne_of_at hxk.out hyk.out hxy]
          rw [hdx]
          clear hdx hxy
          go_wp2_with (fail)
          go_ret
          exact ⟨by rw [HR.out]; rfl, x1⟩
      · have hkn : k = n := by omega
        have HR : Hid (r = true) := by
          show r = _
          have := Hab.out
          rw [List.take_of_length_le (by rw [← H.out]; omega), List.take_of_length_le (by rw [← H'.out]; omega)] at this
          rw [Hr.out, this]; simp
        go_wp2
        go_ret
        exact ⟨by rw [HR.out]; rfl, hb⟩
  · have HR : Hid (r = false) := by
      show r = _
      rw [Hr.out]
      simp only [decide_eq_false_iff_not]
      rintro rfl
      exact hnn (H.out.trans H'.out.symm)
    go_enter Try.func29, Try.ntmps29
    go_wp2
    go_ret
    exact ⟨by rw [HR.out]; rfl, Below.refl _ _⟩
set_option maxRecDepth 100000 in
theorem spec_EqualPathLists (a : List Path) (v : Value) (b : List Path) (u : Value) (w : World) (h : SlR pathT w v a) (hz : sz_paths a ≤ 1048576) (hl : a.length ≤ 9223372036854775807 ∧ ∀ x ∈ a, lenOk_path x) (hg : ∀ x ∈ a, rng_path x) (h' : SlR pathT w u b) (hz' : sz_paths b ≤ 1048576) (hl' : b.length ≤ 9223372036854775807 ∧ ∀ x ∈ b, lenOk_path x) (hg' : ∀ x ∈ b, rng_path x) :
    Calls Try.prog 28 #[v, u] w fun e w' => e = .returned (.bool (decide (a = b))) ∧ Below w.heap.size w w' := by
  obtain ⟨A, c, rfl, hc⟩ := h.form
  obtain ⟨A', c', rfl, hc'⟩ := h'.form
  obtain ⟨n, H⟩ : ∃ n, Hid (n = a.length) := ⟨_, rfl⟩
  obtain ⟨n', H'⟩ : ∃ n, Hid (n = b.length) := ⟨_, rfl⟩
  have hn : n ≤ 1048576 := by rw [H.out]; have : sz_paths a = List.length a + (a.map sz_path).sum := rfl; omega
  have hn' : n' ≤ 1048576 := by rw [H'.out]; have : sz_paths b = List.length b + (b.map sz_path).sum := rfl; omega
  obtain ⟨r, Hr⟩ : ∃ r, Hid (r = decide (a = b)) := ⟨_, rfl⟩
  rw [← Hr.out]
  have Hz := hid hz
  have Hl := hid hl.2
  have Hg := hid hg
  have Hz' := hid hz'
  have Hl' := hid hl'.2
  have Hg' := hid hg'
  clear hz hl hg hc hz' hl' hg' hc'
  rw [← H.out] at h ⊢
  rw [← H'.out] at h' ⊢
  by_cases hnn : n = n'
  · subst hnn
    go_enter Try.func28, Try.ntmps28
    go_wp2
    go_loopw [5] (fun i wr => ∃ k : Nat, k ≤ n ∧ i = I k ∧ a.take k = b.take k ∧ Below w.heap.size w wr) (fun i _ => n - (intOf i).toNat)
    case atStart => exact ⟨0, by omega, rfl, rfl, Below.refl _ _⟩
    case round =>
      obtain ⟨k, hk, rfl, hab, hb⟩ := hrel
      have Hab := hid hab
      clear hab
      by_cases hlt : k < n
      · obtain ⟨g, o, q, x, B, d, e, hg, hxk, hin, hd, c0⟩ := path_at (h.below hb) (by rw [← H.out]; exact hlt)
        obtain ⟨g', o', q', y, B', d', e', hg', hyk, hin', hd', b0⟩ := path_at (h'.below hb) (by rw [← H'.out]; exact hlt)
        rw [← H.out] at e
        rw [← H'.out] at e'
        cases e
        cases e'
        have hm := List.mem_of_getElem? hxk.out
        have hm' := List.mem_of_getElem? hyk.out
        have HC := hid (spec_EqualPaths x _ y _ wr.drew (path_mk (hin.below (below_drew _))) (Nat.le_trans (mem_sz_paths hm) Hz.out) (Hl.out x hm) (Hg.out x hm) (path_mk (hin'.below (below_drew _))) (Nat.le_trans (mem_sz_paths hm') Hz'.out) (Hl'.out y hm') (Hg'.out y hm'))
        clear hm hm'
        go_wp2
        go_still_tail 8, (by kernel_rfl)
        go_wp2_with (fail)
        refine HC.out.mono ?_
        rintro e w1 ⟨rfl, hb1⟩
        have x1 : Below w.heap.size w w1 := ext_trans hb.drew hb1
        by_cases hxy : x = y
        · have hdx : decide (x = y) = true := by simp [hxy]
          have Hxy := hid hxy
          clear hxy
          rw [hdx]
          clear hdx
          go_wp2_with (fail)
          go_roundw
          case rel => exact ⟨k + 1, by omega, by go_num, take_eq_of Hab.out hxk.out (Hxy.out ▸ hyk.out), x1⟩
          case measure => simp [intOf]; omega
        · have hdx : decide (x = y) = false := by simp [hxy]
          have HR : Hid (r = false) := by show r = _; rw [Hr.out]; simp [ne_of_at hxk.out hyk.out hxy]
          rw [hdx]
          clear hdx hxy
          go_wp2_with (fail)
          go_ret
          exact ⟨by rw [HR.out]; rfl, x1⟩
      · have hkn : k = n := by omega
        have HR : Hid (r = true) := by
          show r = _
          have := Hab.out
          rw [List.take_of_length_le (by rw [← H.out]; omega), List.take_of_length_le (by rw [← H'.out]; omega)] at this
          rw [Hr.out, this]; simp
        go_wp2
        go_ret
        exact ⟨by rw [HR.out]; rfl, hb⟩
  · have HR : Hid (r = false) := by
      show r = _
      rw [Hr.out]
      simp only [decide_eq_false_iff_not]
      rintro rfl
      exact hnn (H.out.trans H'.out.symm)
    go_enter Try.func28, Try.ntmps28
    go_wp2
    go_ret
    exact ⟨by rw [HR.out]; rfl, Below.refl _ _⟩

end Go.Proofs.Ytailmflghbdglaa
