/- Comparisons of hop lists, parts, paths and lists of paths, of the program and of the reference: equality. -/
import Derived.Test.YtaapaafagmbkoaaFamPath
import Derived.Laws.StructEq
namespace Go.Proofs.Ytaapaafagmbkoaa
open Go.RowKit
set_option linter.unusedVariables false

theorem take_eq_of {α : Type} {a b : List α} {k : Nat} {x : α} (h : a.take k = b.take k) (ha : a[k]? = some x) (hb : b[k]? = some x) : a.take (k + 1) = b.take (k + 1) := by
  rw [take_succ ha, take_succ hb, h]
theorem ne_of_at {α : Type} {a b : List α} {k : Nat} {x y : α} (ha : a[k]? = some x) (hb : b[k]? = some y) (hxy : x ≠ y) : a ≠ b := by
  rintro rfl
  rw [ha] at hb
  injection hb with hb
  exact hxy hb

theorem hop_ne {x0 x1 x2 x3 x4 y0 y1 y2 y3 y4 : Int} (h : ¬ (Hop.mk x0 x1 x2 x3 x4) = Hop.mk y0 y1 y2 y3 y4) :
    (x0 == y0) = false ∨ (x0 = y0 ∧ (x1 == y1) = false) ∨ (x0 = y0 ∧ x1 = y1 ∧ (x2 == y2) = false) ∨ (x0 = y0 ∧ x1 = y1 ∧ x2 = y2 ∧ (x3 == y3) = false) ∨ (x0 = y0 ∧ x1 = y1 ∧ x2 = y2 ∧ x3 = y3 ∧ (x4 == y4) = false) := by
  simp only [Hop.mk.injEq] at h
  simp only [beq_eq_false_iff_ne, ne_eq]
  omega

set_option maxRecDepth 100000 in
theorem impl_sameHops (a b : List Hop) (v u : Value) (w : World) (h : SlR hopT w v a) (h' : SlR hopT w u b) (hn : a.length ≤ 1048576) (hn' : b.length ≤ 1048576) :
    Calls Try.prog 178 #[v, u] w fun e w' => e = .returned (.bool (decide (a = b))) ∧ Below w.heap.size w w' := by
  obtain ⟨A, c, rfl, _⟩ := h.form
  obtain ⟨A', c', rfl, _⟩ := h'.form
  obtain ⟨n, H⟩ : ∃ n, Hid (n = a.length) := ⟨_, rfl⟩
  obtain ⟨n', H'⟩ : ∃ n, Hid (n = b.length) := ⟨_, rfl⟩
  by_cases hnn : n = n'
  · subst hnn
    rw [← H.out] at h hn ⊢
    rw [← H'.out] at h' hn' ⊢
    go_enter Try.func178, Try.ntmps178
    go_wp2
    go_loopw [13] (fun i wr => ∃ k : Nat, k ≤ n ∧ i = I k ∧ a.take k = b.take k ∧ Below w.heap.size w wr) (fun i _ => n - (intOf i).toNat)
    case atStart => exact ⟨0, by omega, rfl, rfl, Below.refl _ _⟩
    case round =>
      rename_i wr
      obtain ⟨k, hk, rfl, hab, hb⟩ := hrel
      have Hab := hid hab
      clear hab
      by_cases hlt : k < n
      · obtain ⟨g, o, q, x, e, hg, hxk, c0, c1, c2, c3, c4⟩ := hop_at (h.below hb) (by rw [← H.out]; exact hlt)
        obtain ⟨g', o', q', y, e', hg', hyk, b0, b1, b2, b3, b4⟩ := hop_at (h'.below hb) (by rw [← H'.out]; exact hlt)
        rw [← H.out] at e
        rw [← H'.out] at e'
        cases e
        cases e'
        by_cases hxy : x = y
        · subst hxy
          go_wp2
          go_quiet (fail)
          go_wp2
          go_roundw
          case rel => exact ⟨k + 1, by omega, by go_num, take_eq_of Hab.out hxk.out hyk.out, below_drewN hb _⟩
          case measure => simp [intOf]; omega
        · have hne : Hid (decide (a = b) = false) := by simp [ne_of_at hxk.out hyk.out hxy, Hid]
          obtain ⟨x0, x1, x2, x3, x4⟩ := x
          obtain ⟨y0, y1, y2, y3, y4⟩ := y
          dsimp only at c0 c1 c2 c3 c4 b0 b1 b2 b3 b4
          have hd := hop_ne hxy
          clear hxy hxk hyk
          rcases hd with t | ⟨rfl, t⟩ | ⟨rfl, rfl, t⟩ | ⟨rfl, rfl, rfl, t⟩ | ⟨rfl, rfl, rfl, rfl, t⟩
          all_goals
            go_wp2
            go_quiet (fail)
            go_wp2
            go_ret
            exact ⟨by rw [hne.out]; rfl, below_drewN hb _⟩
      · go_wp2
        go_ret
        have hkn : k = n := by omega
        subst hkn
        have h1 := Hab.out
        rw [H.out, List.take_length, ← H.out, H'.out, List.take_length] at h1
        exact ⟨by rw [h1]; simp, hb⟩
  · have hne : Hid (decide (a = b) = false) := by
      have : a ≠ b := by rintro rfl; exact hnn (H.out.trans H'.out.symm)
      simp [this, Hid]
    rw [hne.out, ← H.out, ← H'.out]
    go_enter Try.func178, Try.ntmps178
    go_wp2
    go_ret
    exact ⟨rfl, Below.refl _ _⟩
set_option maxRecDepth 100000 in
theorem spec_sameHops (a b : List Hop) (v u : Value) (w : World) (h : SlR hopT w v a) (h' : SlR hopT w u b) (hn : a.length ≤ 1048576) (hn' : b.length ≤ 1048576) :
    Calls Try.prog 177 #[v, u] w fun e w' => e = .returned (.bool (decide (a = b))) ∧ Below w.heap.size w w' := by
  obtain ⟨A, c, rfl, _⟩ := h.form
  obtain ⟨A', c', rfl, _⟩ := h'.form
  obtain ⟨n, H⟩ : ∃ n, Hid (n = a.length) := ⟨_, rfl⟩
  obtain ⟨n', H'⟩ : ∃ n, Hid (n = b.length) := ⟨_, rfl⟩
  by_cases hnn : n = n'
  · subst hnn
    rw [← H.out] at h hn ⊢
    rw [← H'.out] at h' hn' ⊢
    go_enter Try.func177, Try.ntmps177
    go_wp2
    go_loopw [5] (fun i wr => ∃ k : Nat, k ≤ n ∧ i = I k ∧ a.take k = b.take k ∧ Below w.heap.size w wr) (fun i _ => n - (intOf i).toNat)
    case atStart => exact ⟨0, by omega, rfl, rfl, Below.refl _ _⟩
    case round =>
      rename_i wr
      obtain ⟨k, hk, rfl, hab, hb⟩ := hrel
      have Hab := hid hab
      clear hab
      by_cases hlt : k < n
      · obtain ⟨g, o, q, x, e, hg, hxk, c0, c1, c2, c3, c4⟩ := hop_at (h.below hb) (by rw [← H.out]; exact hlt)
        obtain ⟨g', o', q', y, e', hg', hyk, b0, b1, b2, b3, b4⟩ := hop_at (h'.below hb) (by rw [← H'.out]; exact hlt)
        rw [← H.out] at e
        rw [← H'.out] at e'
        cases e
        cases e'
        by_cases hxy : x = y
        · subst hxy
          go_wp2
          go_quiet (fail)
          go_wp2
          go_roundw
          case rel => exact ⟨k + 1, by omega, by go_num, take_eq_of Hab.out hxk.out hyk.out, below_drewN hb _⟩
          case measure => simp [intOf]; omega
        · have hne : Hid (decide (a = b) = false) := by simp [ne_of_at hxk.out hyk.out hxy, Hid]
          obtain ⟨x0, x1, x2, x3, x4⟩ := x
          obtain ⟨y0, y1, y2, y3, y4⟩ := y
          dsimp only at c0 c1 c2 c3 c4 b0 b1 b2 b3 b4
          have hd := hop_ne hxy
          clear hxy hxk hyk
          rcases hd with t | ⟨rfl, t⟩ | ⟨rfl, rfl, t⟩ | ⟨rfl, rfl, rfl, t⟩ | ⟨rfl, rfl, rfl, rfl, t⟩
          all_goals
            go_wp2
            go_quiet (fail)
            go_wp2
            go_ret
            exact ⟨by rw [hne.out]; rfl, below_drewN hb _⟩
      · go_wp2
        go_ret
        have hkn : k = n := by omega
        subst hkn
        have h1 := Hab.out
        rw [H.out, List.take_length, ← H.out, H'.out, List.take_length] at h1
        exact ⟨by rw [h1]; simp, hb⟩
  · have hne : Hid (decide (a = b) = false) := by
      have : a ≠ b := by rintro rfl; exact hnn (H.out.trans H'.out.symm)
      simp [this, Hid]
    rw [hne.out, ← H.out, ← H'.out]
    go_enter Try.func177, Try.ntmps177
    go_wp2
    go_ret
    exact ⟨rfl, Below.refl _ _⟩

theorem part_eq_iff (a b : Part) : a = b ↔ a.kind = b.kind ∧ a.ts = b.ts ∧ a.beta = b.beta ∧ a.hops = b.hops := by
  cases a; cases b; simp

theorem impl_EqualParts (a b : Part) (cs ds : List Value) (w : World) (h : partT.R w cs a) (h' : partT.R w ds b) (hn : sz_part a ≤ 1048576) (hn' : sz_part b ≤ 1048576) :
    Calls Try.prog 164 #[.agg cs.toArray, .agg ds.toArray] w fun e w' => e = .returned (.bool (decide (a = b))) ∧ Below w.heap.size w w' := by
  obtain ⟨A, c, rfl, ⟨k, _⟩⟩ := part_form h
  obtain ⟨B, d, rfl, ⟨k', _⟩⟩ := part_form h'
  have hd := part_eq_iff a b
  obtain ⟨r, Hr⟩ : ∃ r, Hid (r = decide (a = b)) := ⟨_, rfl⟩
  rw [← Hr.out]
  by_cases e0 : a.kind = b.kind
  · have f0 : (a.kind == b.kind) = true := by simp [e0]
    by_cases e1 : a.ts = b.ts
    · have f1 : (a.ts == b.ts) = true := by simp [e1]
      by_cases e2 : a.beta = b.beta
      · have f2 : (a.beta == b.beta) = true := by simp [e2]
        have HR : Hid (r = decide (a.hops = b.hops)) := by show r = _; rw [Hr.out]; simp [hd, e0, e1, e2]
        clear hd e0 e1 e2
        go_enter Try.func164, Try.ntmps164
        go_wp2_with (fail)
        refine (impl_sameHops a.hops b.hops _ _ _ (k.below ?e1) (k'.below ?e1) hn hn').mono ?_
        case e1 => exact ext_alloc (ext_alloc1 _ _) _
        rintro e w1 ⟨rfl, hb1⟩
        rw [← HR.out]
        go_wp2_with (fail)
        go_ret
        exact ⟨rfl, ext_trans (ext_alloc (ext_alloc1 _ _) _) hb1⟩
      · have f2 : (a.beta == b.beta) = false := by simp [e2]
        have HR : Hid (r = false) := by show r = _; rw [Hr.out]; simp [hd, e2]
        clear hd e0 e1 e2
        go_enter Try.func164, Try.ntmps164
        go_wp2_with (fail)
        go_ret
        exact ⟨by rw [HR.out]; rfl, ext_alloc (ext_alloc1 _ _) _⟩
    · have f1 : (a.ts == b.ts) = false := by simp [e1]
      have HR : Hid (r = false) := by show r = _; rw [Hr.out]; simp [hd, e1]
      clear hd e0 e1
      go_enter Try.func164, Try.ntmps164
      go_wp2_with (fail)
      go_ret
      exact ⟨by rw [HR.out]; rfl, ext_alloc (ext_alloc1 _ _) _⟩
  · have f0 : (a.kind == b.kind) = false := by simp [e0]
    have HR : Hid (r = false) := by show r = _; rw [Hr.out]; simp [hd, e0]
    clear hd e0
    go_enter Try.func164, Try.ntmps164
    go_wp2_with (fail)
    go_ret
    exact ⟨by rw [HR.out]; rfl, ext_alloc (ext_alloc1 _ _) _⟩
theorem spec_EqualParts (a b : Part) (cs ds : List Value) (w : World) (h : partT.R w cs a) (h' : partT.R w ds b) (hn : sz_part a ≤ 1048576) (hn' : sz_part b ≤ 1048576) :
    Calls Try.prog 163 #[.agg cs.toArray, .agg ds.toArray] w fun e w' => e = .returned (.bool (decide (a = b))) ∧ Below w.heap.size w w' := by
  obtain ⟨A, c, rfl, ⟨k, _⟩⟩ := part_form h
  obtain ⟨B, d, rfl, ⟨k', _⟩⟩ := part_form h'
  have hd := part_eq_iff a b
  obtain ⟨r, Hr⟩ : ∃ r, Hid (r = decide (a = b)) := ⟨_, rfl⟩
  rw [← Hr.out]
  by_cases e0 : a.kind = b.kind
  · have f0 : (a.kind == b.kind) = true := by simp [e0]
    by_cases e1 : a.ts = b.ts
    · have f1 : (a.ts == b.ts) = true := by simp [e1]
      by_cases e2 : a.beta = b.beta
      · have f2 : (a.beta == b.beta) = true := by simp [e2]
        have HR : Hid (r = decide (a.hops = b.hops)) := by show r = _; rw [Hr.out]; simp [hd, e0, e1, e2]
        clear hd e0 e1 e2
        go_enter Try.func163, Try.ntmps163
        go_wp2_with (fail)
        refine (spec_sameHops a.hops b.hops _ _ _ (k.below ?e1) (k'.below ?e1) hn hn').mono ?_
        case e1 => exact ext_alloc (ext_alloc1 _ _) _
        rintro e w1 ⟨rfl, hb1⟩
        rw [← HR.out]
        go_wp2_with (fail)
        go_ret
        exact ⟨rfl, ext_trans (ext_alloc (ext_alloc1 _ _) _) hb1⟩
      · have f2 : (a.beta == b.beta) = false := by simp [e2]
        have HR : Hid (r = false) := by show r = _; rw [Hr.out]; simp [hd, e2]
        clear hd e0 e1 e2
        go_enter Try.func163, Try.ntmps163
        go_wp2_with (fail)
        go_ret
        exact ⟨by rw [HR.out]; rfl, ext_alloc (ext_alloc1 _ _) _⟩
    · have f1 : (a.ts == b.ts) = false := by simp [e1]
      have HR : Hid (r = false) := by show r = _; rw [Hr.out]; simp [hd, e1]
      clear hd e0 e1
      go_enter Try.func163, Try.ntmps163
      go_wp2_with (fail)
      go_ret
      exact ⟨by rw [HR.out]; rfl, ext_alloc (ext_alloc1 _ _) _⟩
  · have f0 : (a.kind == b.kind) = false := by simp [e0]
    have HR : Hid (r = false) := by show r = _; rw [Hr.out]; simp [hd, e0]
    clear hd e0
    go_enter Try.func163, Try.ntmps163
    go_wp2_with (fail)
    go_ret
    exact ⟨by rw [HR.out]; rfl, ext_alloc (ext_alloc1 _ _) _⟩

theorem mem_sz_path {p : Path} {x : Part} (h : x ∈ p) : sz_part x ≤ sz_path p := by
  have := le_sum_of_mem (List.mem_map.2 ⟨x, h, rfl⟩ : sz_part x ∈ p.map sz_part)
  show _ ≤ List.length p + _
  omega

set_option maxRecDepth 100000 in
theorem impl_EqualPaths (a : Path) (cs : List Value) (b : Path) (ds : List Value) (w : World) (h : pathT.R w cs a) (hz : sz_path a ≤ 1048576) (hl : lenOk_path a) (hg : rng_path a) (h' : pathT.R w ds b) (hz' : sz_path b ≤ 1048576) (hl' : lenOk_path b) (hg' : rng_path b) :
    Calls Try.prog 137 #[.agg cs.toArray, .agg ds.toArray] w fun e w' => e = .returned (.bool (decide (a = b))) ∧ Below w.heap.size w w' := by
  obtain ⟨A, c, rfl, ⟨h, _⟩⟩ := path_form h
  obtain ⟨A', c', rfl, ⟨h', _⟩⟩ := path_form h'
  obtain ⟨n, H⟩ : ∃ n, Hid (n = a.length) := ⟨_, rfl⟩
  obtain ⟨n', H'⟩ : ∃ n, Hid (n = b.length) := ⟨_, rfl⟩
  have hn : n ≤ 1048576 := by rw [H.out]; have : sz_path a = List.length a + (a.map sz_part).sum := rfl; omega
  have hn' : n' ≤ 1048576 := by rw [H'.out]; have : sz_path b = List.length b + (b.map sz_part).sum := rfl; omega
  obtain ⟨r, Hr⟩ : ∃ r, Hid (r = decide (a = b)) := ⟨_, rfl⟩
  rw [← Hr.out]
  clear hl hg hl' hg'
  have Hz := hid hz
  have Hz' := hid hz'
  clear hz hz'
  rw [← H.out] at h ⊢
  rw [← H'.out] at h' ⊢
  have hb0 : Below w.heap.size w ((w.alloc (.cells #[.slice A n c] 30)).alloc (.cells #[.slice A' n' c'] 30)) := ext_alloc (ext_alloc1 _ _) _
  by_cases hnn : n = n'
  · subst hnn
    have p0 : ((w.alloc (.cells #[.slice A n c] 30)).alloc (.cells #[.slice A' n c'] 30)).cell? ⟨w.heap.size, 0, none⟩ = some (.slice A n c) := by simp
    have p1 : ((w.alloc (.cells #[.slice A n c] 30)).alloc (.cells #[.slice A' n c'] 30)).cell? ⟨w.heap.size + 1, 0, none⟩ = some (.slice A' n c') := by simp
    have P0 := hid p0
    have P1 := hid p1
    clear p0 p1
    go_enter Try.func137, Try.ntmps137
    go_wp2
    go_loopw [16] (fun i wr => ∃ k : Nat, k ≤ n ∧ i = I k ∧ a.take k = b.take k ∧ Below w.heap.size w wr ∧ wr.cell? ⟨w.heap.size, 0, none⟩ = some (.slice A n c) ∧ wr.cell? ⟨w.heap.size + 1, 0, none⟩ = some (.slice A' n c')) (fun i _ => n - (intOf i).toNat)
    case atStart => exact ⟨0, by omega, rfl, rfl, hb0, P0.out, P1.out⟩
    case round =>
      rename_i wr
      obtain ⟨k, hk, rfl, hab, hb, p0, p1⟩ := hrel
      have Hab := hid hab
      clear hab P0 P1 hb0
      by_cases hlt : k < n
      · obtain ⟨g, o, q, x, B, d, e, hg, hxk, hin, hd, c0, c1, c2, c3⟩ := part_at (h.below hb) (by rw [← H.out]; exact hlt)
        obtain ⟨g', o', q', y, B', d', e', hg', hyk, hin', hd', b0, b1, b2, b3⟩ := part_at (h'.below hb) (by rw [← H'.out]; exact hlt)
        rw [← H.out] at e
        rw [← H'.out] at e'
        cases e
        cases e'
        have sx : sz_part x ≤ 1048576 := Nat.le_trans (mem_sz_path (List.mem_of_getElem? hxk.out)) Hz.out
        have sy : sz_part y ≤ 1048576 := Nat.le_trans (mem_sz_path (List.mem_of_getElem? hyk.out)) Hz'.out
        go_wp2
        go_still_tail 10, (by kernel_rfl)
        go_wp2_with (fail)
        refine (impl_EqualParts x y _ _ _ (part_mk (hin.below (below_drew _))) (part_mk (hin'.below (below_drew _))) sx sy).mono ?_
        rintro e w1 ⟨rfl, hb1⟩
        have x1 : Below w.heap.size w w1 := ext_trans hb.drew hb1
        have p0' := ck hb1 (show wr.drew.cell? _ = _ from p0)
        have p1' := ck hb1 (show wr.drew.cell? _ = _ from p1)
        by_cases hxy : x = y
        · have hdx : decide (x = y) = true := by simp [hxy]
          have Hxy := hid hxy
          clear hxy
          rw [hdx]
          clear hdx
          go_wp2_with (fail)
          go_roundw
          case rel => exact ⟨k + 1, by omega, by go_num, take_eq_of Hab.out hxk.out (Hxy.out ▸ hyk.out), x1, p0', p1'⟩
          case measure => simp [intOf]; omega
        · have hdx : decide (x = y) = false := by simp [hxy]
          have HR : Hid (r = false) := by show r = _; rw [Hr.out]; simp [ne_of_at hxk.out hyk.out hxy]
          rw [hdx]
          clear hdx hxy
          go_wp2_with (fail)
          go_ret
          exact ⟨by rw [HR.out]; rfl, x1⟩
      · go_wp2
        go_ret
        have hkn : k = n := by omega
        subst hkn
        have h1 := Hab.out
        rw [H.out, List.take_length, ← H.out, H'.out, List.take_length] at h1
        exact ⟨by rw [Hr.out, h1]; simp, hb⟩
  · have HR : Hid (r = false) := by
      have : a ≠ b := by rintro rfl; exact hnn (H.out.trans H'.out.symm)
      show r = _; rw [Hr.out]; simp [this]
    go_enter Try.func137, Try.ntmps137
    go_wp2
    go_ret
    exact ⟨by rw [HR.out]; rfl, hb0⟩
set_option maxRecDepth 100000 in
theorem spec_EqualPaths (a : Path) (cs : List Value) (b : Path) (ds : List Value) (w : World) (h : pathT.R w cs a) (hz : sz_path a ≤ 1048576) (hl : lenOk_path a) (hg : rng_path a) (h' : pathT.R w ds b) (hz' : sz_path b ≤ 1048576) (hl' : lenOk_path b) (hg' : rng_path b) :
    Calls Try.prog 135 #[.agg cs.toArray, .agg ds.toArray] w fun e w' => e = .returned (.bool (decide (a = b))) ∧ Below w.heap.size w w' := by
  obtain ⟨A, c, rfl, ⟨h, _⟩⟩ := path_form h
  obtain ⟨A', c', rfl, ⟨h', _⟩⟩ := path_form h'
  obtain ⟨n, H⟩ : ∃ n, Hid (n = a.length) := ⟨_, rfl⟩
  obtain ⟨n', H'⟩ : ∃ n, Hid (n = b.length) := ⟨_, rfl⟩
  have hn : n ≤ 1048576 := by rw [H.out]; have : sz_path a = List.length a + (a.map sz_part).sum := rfl; omega
  have hn' : n' ≤ 1048576 := by rw [H'.out]; have : sz_path b = List.length b + (b.map sz_part).sum := rfl; omega
  obtain ⟨r, Hr⟩ : ∃ r, Hid (r = decide (a = b)) := ⟨_, rfl⟩
  rw [← Hr.out]
  clear hl hg hl' hg'
  have Hz := hid hz
  have Hz' := hid hz'
  clear hz hz'
  rw [← H.out] at h ⊢
  rw [← H'.out] at h' ⊢
  have hb0 : Below w.heap.size w ((w.alloc (.cells #[.slice A n c] 30)).alloc (.cells #[.slice A' n' c'] 30)) := ext_alloc (ext_alloc1 _ _) _
  by_cases hnn : n = n'
  · subst hnn
    have p0 : ((w.alloc (.cells #[.slice A n c] 30)).alloc (.cells #[.slice A' n c'] 30)).cell? ⟨w.heap.size, 0, none⟩ = some (.slice A n c) := by simp
    have p1 : ((w.alloc (.cells #[.slice A n c] 30)).alloc (.cells #[.slice A' n c'] 30)).cell? ⟨w.heap.size + 1, 0, none⟩ = some (.slice A' n c') := by simp
    have P0 := hid p0
    have P1 := hid p1
    clear p0 p1
    go_enter Try.func135, Try.ntmps135
    go_wp2
    go_loopw [5] (fun i wr => ∃ k : Nat, k ≤ n ∧ i = I k ∧ a.take k = b.take k ∧ Below w.heap.size w wr ∧ wr.cell? ⟨w.heap.size, 0, none⟩ = some (.slice A n c) ∧ wr.cell? ⟨w.heap.size + 1, 0, none⟩ = some (.slice A' n c')) (fun i _ => n - (intOf i).toNat)
    case atStart => exact ⟨0, by omega, rfl, rfl, hb0, P0.out, P1.out⟩
    case round =>
      rename_i wr
      obtain ⟨k, hk, rfl, hab, hb, p0, p1⟩ := hrel
      have Hab := hid hab
      clear hab P0 P1 hb0
      by_cases hlt : k < n
      · obtain ⟨g, o, q, x, B, d, e, hg, hxk, hin, hd, c0, c1, c2, c3⟩ := part_at (h.below hb) (by rw [← H.out]; exact hlt)
        obtain ⟨g', o', q', y, B', d', e', hg', hyk, hin', hd', b0, b1, b2, b3⟩ := part_at (h'.below hb) (by rw [← H'.out]; exact hlt)
        rw [← H.out] at e
        rw [← H'.out] at e'
        cases e
        cases e'
        have sx : sz_part x ≤ 1048576 := Nat.le_trans (mem_sz_path (List.mem_of_getElem? hxk.out)) Hz.out
        have sy : sz_part y ≤ 1048576 := Nat.le_trans (mem_sz_path (List.mem_of_getElem? hyk.out)) Hz'.out
        go_wp2
        go_still_tail 10, (by kernel_rfl)
        go_wp2_with (fail)
        refine (spec_EqualParts x y _ _ _ (part_mk (hin.below (below_drew _))) (part_mk (hin'.below (below_drew _))) sx sy).mono ?_
        rintro e w1 ⟨rfl, hb1⟩
        have x1 : Below w.heap.size w w1 := ext_trans hb.drew hb1
        have p0' := ck hb1 (show wr.drew.cell? _ = _ from p0)
        have p1' := ck hb1 (show wr.drew.cell? _ = _ from p1)
        by_cases hxy : x = y
        · have hdx : decide (x = y) = true := by simp [hxy]
          have Hxy := hid hxy
          clear hxy
          rw [hdx]
          clear hdx
          go_wp2_with (fail)
          go_roundw
          case rel => exact ⟨k + 1, by omega, by go_num, take_eq_of Hab.out hxk.out (Hxy.out ▸ hyk.out), x1, p0', p1'⟩
          case measure => simp [intOf]; omega
        · have hdx : decide (x = y) = false := by simp [hxy]
          have HR : Hid (r = false) := by show r = _; rw [Hr.out]; simp [ne_of_at hxk.out hyk.out hxy]
          rw [hdx]
          clear hdx hxy
          go_wp2_with (fail)
          go_ret
          exact ⟨by rw [HR.out]; rfl, x1⟩
      · go_wp2
        go_ret
        have hkn : k = n := by omega
        subst hkn
        have h1 := Hab.out
        rw [H.out, List.take_length, ← H.out, H'.out, List.take_length] at h1
        exact ⟨by rw [Hr.out, h1]; simp, hb⟩
  · have HR : Hid (r = false) := by
      have : a ≠ b := by rintro rfl; exact hnn (H.out.trans H'.out.symm)
      show r = _; rw [Hr.out]; simp [this]
    go_enter Try.func135, Try.ntmps135
    go_wp2
    go_ret
    exact ⟨by rw [HR.out]; rfl, hb0⟩

end Go.Proofs.Ytaapaafagmbkoaa
