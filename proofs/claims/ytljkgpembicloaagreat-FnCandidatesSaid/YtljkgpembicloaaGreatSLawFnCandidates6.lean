/- What LawFnCandidates needs of the texts below it, part 6: contracts of functions, plain lemmas. (Put together by slim.py.) -/
import Derived.Test.YtljkgpembicloaaGreatSLawFnCandidates5
namespace Go.Proofs.YtljkgpembicloaaGreat
open Go.RowKit
set_option linter.unusedVariables false
set_option maxRecDepth 100000
theorem take_eq_of {α : Type} {a b : List α} {k : Nat} {x : α} (h : a.take k = b.take k) (ha : a[k]? = some x) (hb : b[k]? = some x) : a.take (k + 1) = b.take (k + 1) := by
  rw [take_succ ha, take_succ hb, h]
theorem ne_of_at {α : Type} {a b : List α} {k : Nat} {x y : α} (ha : a[k]? = some x) (hb : b[k]? = some y) (hxy : x ≠ y) : a ≠ b := by
  rintro rfl; rw [ha] at hb
  injection hb with hb
  exact hxy hb
theorem hop_ne {x0 x1 x2 x3 x4 y0 y1 y2 y3 y4 : Int} (h : ¬ (Hop.mk x0 x1 x2 x3 x4) = Hop.mk y0 y1 y2 y3 y4) :
    (x0 == y0) = false ∨ (x0 = y0 ∧ (x1 == y1) = false) ∨ (x0 = y0 ∧ x1 = y1 ∧ (x2 == y2) = false) ∨ (x0 = y0 ∧ x1 = y1 ∧ x2 = y2 ∧ (x3 == y3) = false) ∨ (x0 = y0 ∧ x1 = y1 ∧ x2 = y2 ∧ x3 = y3 ∧ (x4 == y4) = false) := by
  simp only [Hop.mk.injEq] at h
  simp only [beq_eq_false_iff_ne, ne_eq]
  omega
set_option maxRecDepth 100000 in
theorem impl_sameHops (a b : List Hop) (v u : Value) (w : World) (h : SlR hopT w v a) (h' : SlR hopT w u b) (hn : a.length ≤ 1048576) (hn' : b.length ≤ 1048576) :
  Calls Tryz.prog 162 #[v, u] w fun e w' => e = .returned (.bool (decide (a = b))) ∧ Below w.heap.size w w' := by
 obtain ⟨A, c, rfl, _⟩ := h.form; obtain ⟨A', c', rfl, _⟩ := h'.form; obtain ⟨n, H⟩ : ∃ n, Hid (n = a.length) := ⟨_, rfl⟩; obtain ⟨n', H'⟩ : ∃ n, Hid (n = b.length) := ⟨_, rfl⟩
 by_cases hnn : n = n'
 ·subst hnn; rw [← H.out] at h hn ⊢; rw [← H'.out] at h' hn' ⊢
  go_enter Tryz.func162, Tryz.ntmps162
  go_wp2
  go_loopw [13] (fun i wr => ∃ k : Nat, k ≤ n ∧ i = I k ∧ a.take k = b.take k ∧ Below w.heap.size w wr) (fun i _ => n - (intOf i).toNat)
  case atStart => exact ⟨0, by omega, rfl, rfl, Below.refl _ _⟩
  case round =>
   rename_i wr
   obtain ⟨k, hk, rfl, hab, hb⟩ := hrel; have Hab := hid hab; clear hab
   by_cases hlt : k < n
   ·obtain ⟨g, o, q, x, e, hg, hxk, c0, c1, c2, c3, c4⟩ := hop_at (h.below hb) (by rw [← H.out]; exact hlt); obtain ⟨g', o', q', y, e', hg', hyk, b0, b1, b2, b3, b4⟩ := hop_at (h'.below hb) (by rw [← H'.out]; exact hlt); rw [← H.out] at e; rw [← H'.out] at e'; cases e; cases e'
    by_cases hxy : x = y
    ·subst hxy
     go_wp2
     go_quiet (fail)
     go_wp2
     go_roundw
     case rel => exact ⟨k + 1, by omega, by go_num, take_eq_of Hab.out hxk.out hyk.out, below_drewN hb _⟩
     case measure => simp [intOf]; omega
    ·have hne : Hid (decide (a = b) = false) := by simp [ne_of_at hxk.out hyk.out hxy, Hid]
     obtain ⟨x0, x1, x2, x3, x4⟩ := x; obtain ⟨y0, y1, y2, y3, y4⟩ := y; dsimp only at c0 c1 c2 c3 c4 b0 b1 b2 b3 b4; have hd := hop_ne hxy; clear hxy hxk hyk
     rcases hd with t | ⟨rfl, t⟩ | ⟨rfl, rfl, t⟩ | ⟨rfl, rfl, rfl, t⟩ | ⟨rfl, rfl, rfl, rfl, t⟩
     all_goals
      go_wp2
      go_quiet (fail)
      go_wp2
      go_ret
      exact ⟨by rw [hne.out]; rfl, below_drewN hb _⟩
   ·go_wp2
    go_ret
    have hkn : k = n := by omega
    subst hkn; have h1 := Hab.out; rw [H.out, List.take_length, ← H.out, H'.out, List.take_length] at h1; exact ⟨by rw [h1]; simp, hb⟩
 ·have hne : Hid (decide (a = b) = false) := by
   have : a ≠ b := by rintro rfl; exact hnn (H.out.trans H'.out.symm)
   simp [this, Hid]
  rw [hne.out, ← H.out, ← H'.out]
  go_enter Tryz.func162, Tryz.ntmps162
  go_wp2
  go_ret
  exact ⟨rfl, Below.refl _ _⟩
set_option maxRecDepth 100000 in
theorem spec_sameHops (a b : List Hop) (v u : Value) (w : World) (h : SlR hopT w v a) (h' : SlR hopT w u b) (hn : a.length ≤ 1048576) (hn' : b.length ≤ 1048576) :
  Calls Tryz.prog 163 #[v, u] w fun e w' => e = .returned (.bool (decide (a = b))) ∧ Below w.heap.size w w' := by
 obtain ⟨A, c, rfl, _⟩ := h.form; obtain ⟨A', c', rfl, _⟩ := h'.form; obtain ⟨n, H⟩ : ∃ n, Hid (n = a.length) := ⟨_, rfl⟩; obtain ⟨n', H'⟩ : ∃ n, Hid (n = b.length) := ⟨_, rfl⟩
 by_cases hnn : n = n'
 ·subst hnn; rw [← H.out] at h hn ⊢; rw [← H'.out] at h' hn' ⊢
  go_enter Tryz.func163, Tryz.ntmps163
  go_wp2
  go_loopw [5] (fun i wr => ∃ k : Nat, k ≤ n ∧ i = I k ∧ a.take k = b.take k ∧ Below w.heap.size w wr) (fun i _ => n - (intOf i).toNat)
  case atStart => exact ⟨0, by omega, rfl, rfl, Below.refl _ _⟩
  case round =>
   rename_i wr
   obtain ⟨k, hk, rfl, hab, hb⟩ := hrel; have Hab := hid hab; clear hab
   by_cases hlt : k < n
   ·obtain ⟨g, o, q, x, e, hg, hxk, c0, c1, c2, c3, c4⟩ := hop_at (h.below hb) (by rw [← H.out]; exact hlt); obtain ⟨g', o', q', y, e', hg', hyk, b0, b1, b2, b3, b4⟩ := hop_at (h'.below hb) (by rw [← H'.out]; exact hlt); rw [← H.out] at e; rw [← H'.out] at e'; cases e; cases e'
    by_cases hxy : x = y
    ·subst hxy
     go_wp2
     go_quiet (fail)
     go_wp2
     go_roundw
     case rel => exact ⟨k + 1, by omega, by go_num, take_eq_of Hab.out hxk.out hyk.out, below_drewN hb _⟩
     case measure => simp [intOf]; omega
    ·have hne : Hid (decide (a = b) = false) := by simp [ne_of_at hxk.out hyk.out hxy, Hid]
     obtain ⟨x0, x1, x2, x3, x4⟩ := x; obtain ⟨y0, y1, y2, y3, y4⟩ := y; dsimp only at c0 c1 c2 c3 c4 b0 b1 b2 b3 b4; have hd := hop_ne hxy; clear hxy hxk hyk
     rcases hd with t | ⟨rfl, t⟩ | ⟨rfl, rfl, t⟩ | ⟨rfl, rfl, rfl, t⟩ | ⟨rfl, rfl, rfl, rfl, t⟩
     all_goals
      go_wp2
      go_quiet (fail)
      go_wp2
      go_ret
      exact ⟨by rw [hne.out]; rfl, below_drewN hb _⟩
   ·go_wp2
    go_ret
    have hkn : k = n := by omega
    subst hkn; have h1 := Hab.out; rw [H.out, List.take_length, ← H.out, H'.out, List.take_length] at h1; exact ⟨by rw [h1]; simp, hb⟩
 ·have hne : Hid (decide (a = b) = false) := by
   have : a ≠ b := by rintro rfl; exact hnn (H.out.trans H'.out.symm)
   simp [this, Hid]
  rw [hne.out, ← H.out, ← H'.out]
  go_enter Tryz.func163, Tryz.ntmps163
  go_wp2
  go_ret
  exact ⟨rfl, Below.refl _ _⟩
theorem part_eq_iff (a b : Part) : a = b ↔ a.kind = b.kind ∧ a.ts = b.ts ∧ a.beta = b.beta ∧ a.hops = b.hops := by
  cases a; cases b; simp
theorem impl_EqualParts (a b : Part) (cs ds : List Value) (w : World) (h : partT.R w cs a) (h' : partT.R w ds b) (hn : sz_part a ≤ 1048576) (hn' : sz_part b ≤ 1048576) :
  Calls Tryz.prog 122 #[.agg cs.toArray, .agg ds.toArray] w fun e w' => e = .returned (.bool (decide (a = b))) ∧ Below w.heap.size w w' := by
 obtain ⟨A, c, rfl, ⟨k, _⟩⟩ := part_form h; obtain ⟨B, d, rfl, ⟨k', _⟩⟩ := part_form h'; have hd := part_eq_iff a b; obtain ⟨r, Hr⟩ : ∃ r, Hid (r = decide (a = b)) := ⟨_, rfl⟩; rw [← Hr.out]
 by_cases e0 : a.kind = b.kind
 ·have f0 : (a.kind == b.kind) = true := by simp [e0]
  by_cases e1 : a.ts = b.ts
  ·have f1 : (a.ts == b.ts) = true := by simp [e1]
   by_cases e2 : a.beta = b.beta
   ·have f2 : (a.beta == b.beta) = true := by simp [e2]
    have HR : Hid (r = decide (a.hops = b.hops)) := by show r = _; rw [Hr.out]; simp [hd, e0, e1, e2]
    clear hd e0 e1 e2
    go_enter Tryz.func122, Tryz.ntmps122
    go_wp2_with (fail)
    refine (impl_sameHops a.hops b.hops _ _ _ (k.below ?e1) (k'.below ?e1) hn hn').mono ?_
    case e1 => exact ext_alloc (ext_alloc1 _ _) _
    rintro e w1 ⟨rfl, hb1⟩; rw [← HR.out]
    go_wp2_with (fail)
    go_ret
    exact ⟨rfl, ext_trans (ext_alloc (ext_alloc1 _ _) _) hb1⟩
   ·have f2 : (a.beta == b.beta) = false := by simp [e2]
    have HR : Hid (r = false) := by show r = _; rw [Hr.out]; simp [hd, e2]
    clear hd e0 e1 e2
    go_enter Tryz.func122, Tryz.ntmps122
    go_wp2_with (fail)
    go_ret
    exact ⟨by rw [HR.out]; rfl, ext_alloc (ext_alloc1 _ _) _⟩
  ·have f1 : (a.ts == b.ts) = false := by simp [e1]
   have HR : Hid (r = false) := by show r = _; rw [Hr.out]; simp [hd, e1]
   clear hd e0 e1
   go_enter Tryz.func122, Tryz.ntmps122
   go_wp2_with (fail)
   go_ret
   exact ⟨by rw [HR.out]; rfl, ext_alloc (ext_alloc1 _ _) _⟩
 ·have f0 : (a.kind == b.kind) = false := by simp [e0]
  have HR : Hid (r = false) := by show r = _; rw [Hr.out]; simp [hd, e0]
  clear hd e0
  go_enter Tryz.func122, Tryz.ntmps122
  go_wp2_with (fail)
  go_ret
  exact ⟨by rw [HR.out]; rfl, ext_alloc (ext_alloc1 _ _) _⟩
theorem spec_EqualParts (a b : Part) (cs ds : List Value) (w : World) (h : partT.R w cs a) (h' : partT.R w ds b) (hn : sz_part a ≤ 1048576) (hn' : sz_part b ≤ 1048576) :
  Calls Tryz.prog 123 #[.agg cs.toArray, .agg ds.toArray] w fun e w' => e = .returned (.bool (decide (a = b))) ∧ Below w.heap.size w w' := by
 obtain ⟨A, c, rfl, ⟨k, _⟩⟩ := part_form h; obtain ⟨B, d, rfl, ⟨k', _⟩⟩ := part_form h'; have hd := part_eq_iff a b; obtain ⟨r, Hr⟩ : ∃ r, Hid (r = decide (a = b)) := ⟨_, rfl⟩; rw [← Hr.out]
 by_cases e0 : a.kind = b.kind
 ·have f0 : (a.kind == b.kind) = true := by simp [e0]
  by_cases e1 : a.ts = b.ts
  ·have f1 : (a.ts == b.ts) = true := by simp [e1]
   by_cases e2 : a.beta = b.beta
   ·have f2 : (a.beta == b.beta) = true := by simp [e2]
    have HR : Hid (r = decide (a.hops = b.hops)) := by show r = _; rw [Hr.out]; simp [hd, e0, e1, e2]
    clear hd e0 e1 e2
    go_enter Tryz.func123, Tryz.ntmps123
    go_wp2_with (fail)
    refine (spec_sameHops a.hops b.hops _ _ _ (k.below ?e1) (k'.below ?e1) hn hn').mono ?_
    case e1 => exact ext_alloc (ext_alloc1 _ _) _
    rintro e w1 ⟨rfl, hb1⟩; rw [← HR.out]
    go_wp2_with (fail)
    go_ret
    exact ⟨rfl, ext_trans (ext_alloc (ext_alloc1 _ _) _) hb1⟩
   ·have f2 : (a.beta == b.beta) = false := by simp [e2]
    have HR : Hid (r = false) := by show r = _; rw [Hr.out]; simp [hd, e2]
    clear hd e0 e1 e2
    go_enter Tryz.func123, Tryz.ntmps123
    go_wp2_with (fail)
    go_ret
    exact ⟨by rw [HR.out]; rfl, ext_alloc (ext_alloc1 _ _) _⟩
  ·have f1 : (a.ts == b.ts) = false := by simp [e1]
   have HR : Hid (r = false) := by show r = _; rw [Hr.out]; simp [hd, e1]
   clear hd e0 e1
   go_enter Tryz.func123, Tryz.ntmps123
   go_wp2_with (fail)
   go_ret
   exact ⟨by rw [HR.out]; rfl, ext_alloc (ext_alloc1 _ _) _⟩
 ·have f0 : (a.kind == b.kind) = false := by simp [e0]
  have HR : Hid (r = false) := by show r = _; rw [Hr.out]; simp [hd, e0]
  clear hd e0
  go_enter Tryz.func123, Tryz.ntmps123
  go_wp2_with (fail)
  go_ret
  exact ⟨by rw [HR.out]; rfl, ext_alloc (ext_alloc1 _ _) _⟩
theorem mem_sz_path {p : Path} {x : Part} (h : x ∈ p) : sz_part x ≤ sz_path p := by
  have := le_sum_of_mem (List.mem_map.2 ⟨x, h, rfl⟩ : sz_part x ∈ p.map sz_part)
  show _ ≤ List.length p + _
  omega
set_option maxRecDepth 100000 in
theorem impl_EqualPaths (a : Path) (cs : List Value) (b : Path) (ds : List Value) (w : World) (h : pathT.R w cs a) (hz : sz_path a ≤ 1048576) (hl : lenOk_path a) (hg : rng_path a) (h' : pathT.R w ds b) (hz' : sz_path b ≤ 1048576) (hl' : lenOk_path b) (hg' : rng_path b) :
  Calls Tryz.prog 72 #[.agg cs.toArray, .agg ds.toArray] w fun e w' => e = .returned (.bool (decide (a = b))) ∧ Below w.heap.size w w' := by
 obtain ⟨A, c, rfl, ⟨h, _⟩⟩ := path_form h; obtain ⟨A', c', rfl, ⟨h', _⟩⟩ := path_form h'; obtain ⟨n, H⟩ : ∃ n, Hid (n = a.length) := ⟨_, rfl⟩; obtain ⟨n', H'⟩ : ∃ n, Hid (n = b.length) := ⟨_, rfl⟩
 have hn : n ≤ 1048576 := by rw [H.out]; have : sz_path a = List.length a + (a.map sz_part).sum := rfl; omega
 have hn' : n' ≤ 1048576 := by rw [H'.out]; have : sz_path b = List.length b + (b.map sz_part).sum := rfl; omega
 obtain ⟨r, Hr⟩ : ∃ r, Hid (r = decide (a = b)) := ⟨_, rfl⟩; rw [← Hr.out]; clear hl hg hl' hg'; have Hz := hid hz; have Hz' := hid hz'; clear hz hz'; rw [← H.out] at h ⊢; rw [← H'.out] at h' ⊢; have hb0 : Below w.heap.size w ((w.alloc (.cells #[.slice A n c] 38)).alloc (.cells #[.slice A' n' c'] 38)) := ext_alloc (ext_alloc1 _ _) _
 by_cases hnn : n = n'
 ·subst hnn
  have p0 : ((w.alloc (.cells #[.slice A n c] 38)).alloc (.cells #[.slice A' n c'] 38)).cell? ⟨w.heap.size, 0, none⟩ = some (.slice A n c) := by simp
  have p1 : ((w.alloc (.cells #[.slice A n c] 38)).alloc (.cells #[.slice A' n c'] 38)).cell? ⟨w.heap.size + 1, 0, none⟩ = some (.slice A' n c') := by simp
  have P0 := hid p0; have P1 := hid p1; clear p0 p1
  go_enter Tryz.func72, Tryz.ntmps72
  go_wp2
  go_loopw [16] (fun i wr => ∃ k : Nat, k ≤ n ∧ i = I k ∧ a.take k = b.take k ∧ Below w.heap.size w wr ∧ wr.cell? ⟨w.heap.size, 0, none⟩ = some (.slice A n c) ∧ wr.cell? ⟨w.heap.size + 1, 0, none⟩ = some (.slice A' n c')) (fun i _ => n - (intOf i).toNat)
  case atStart => exact ⟨0, by omega, rfl, rfl, hb0, P0.out, P1.out⟩
  case round =>
   rename_i wr
   obtain ⟨k, hk, rfl, hab, hb, p0, p1⟩ := hrel; have Hab := hid hab; clear hab P0 P1 hb0
   by_cases hlt : k < n
   ·obtain ⟨g, o, q, x, B, d, e, hg, hxk, hin, hd, c0, c1, c2, c3⟩ := part_at (h.below hb) (by rw [← H.out]; exact hlt); obtain ⟨g', o', q', y, B', d', e', hg', hyk, hin', hd', b0, b1, b2, b3⟩ := part_at (h'.below hb) (by rw [← H'.out]; exact hlt); rw [← H.out] at e; rw [← H'.out] at e'; cases e; cases e'; have sx : sz_part x ≤ 1048576 := Nat.le_trans (mem_sz_path (List.mem_of_getElem? hxk.out)) Hz.out; have sy : sz_part y ≤ 1048576 := Nat.le_trans (mem_sz_path (List.mem_of_getElem? hyk.out)) Hz'.out
    go_wp2
    go_still_tail 10, (by kernel_rfl)
    go_wp2_with (fail)
    refine (impl_EqualParts x y _ _ _ (part_mk (hin.below (below_drew _))) (part_mk (hin'.below (below_drew _))) sx sy).mono ?_; rintro e w1 ⟨rfl, hb1⟩; have x1 : Below w.heap.size w w1 := ext_trans hb.drew hb1; have p0' := ck hb1 (show wr.drew.cell? _ = _ from p0); have p1' := ck hb1 (show wr.drew.cell? _ = _ from p1)
    by_cases hxy : x = y
    ·have hdx : decide (x = y) = true := by simp [hxy]
     have Hxy := hid hxy; clear hxy; rw [hdx]; clear hdx
     go_wp2_with (fail)
     go_roundw
     case rel => exact ⟨k + 1, by omega, by go_num, take_eq_of Hab.out hxk.out (Hxy.out ▸ hyk.out), x1, p0', p1'⟩
     case measure => simp [intOf]; omega
    ·have hdx : decide (x = y) = false := by simp [hxy]
     have HR : Hid (r = false) := by show r = _; rw [Hr.out]; simp [ne_of_at hxk.out hyk.out hxy]
     rw [hdx]; clear hdx hxy
     go_wp2_with (fail)
     go_ret
     exact ⟨by rw [HR.out]; rfl, x1⟩
   ·go_wp2
    go_ret
    have hkn : k = n := by omega
    subst hkn; have h1 := Hab.out; rw [H.out, List.take_length, ← H.out, H'.out, List.take_length] at h1; exact ⟨by rw [Hr.out, h1]; simp, hb⟩
 ·have HR : Hid (r = false) := by
   have : a ≠ b := by rintro rfl; exact hnn (H.out.trans H'.out.symm)
   show r = _; rw [Hr.out]; simp [this]
  go_enter Tryz.func72, Tryz.ntmps72
  go_wp2
  go_ret
  exact ⟨by rw [HR.out]; rfl, hb0⟩
set_option maxRecDepth 100000 in
theorem spec_EqualPaths (a : Path) (cs : List Value) (b : Path) (ds : List Value) (w : World) (h : pathT.R w cs a) (hz : sz_path a ≤ 1048576) (hl : lenOk_path a) (hg : rng_path a) (h' : pathT.R w ds b) (hz' : sz_path b ≤ 1048576) (hl' : lenOk_path b) (hg' : rng_path b) :
  Calls Tryz.prog 73 #[.agg cs.toArray, .agg ds.toArray] w fun e w' => e = .returned (.bool (decide (a = b))) ∧ Below w.heap.size w w' := by
 obtain ⟨A, c, rfl, ⟨h, _⟩⟩ := path_form h; obtain ⟨A', c', rfl, ⟨h', _⟩⟩ := path_form h'; obtain ⟨n, H⟩ : ∃ n, Hid (n = a.length) := ⟨_, rfl⟩; obtain ⟨n', H'⟩ : ∃ n, Hid (n = b.length) := ⟨_, rfl⟩
 have hn : n ≤ 1048576 := by rw [H.out]; have : sz_path a = List.length a + (a.map sz_part).sum := rfl; omega
 have hn' : n' ≤ 1048576 := by rw [H'.out]; have : sz_path b = List.length b + (b.map sz_part).sum := rfl; omega
 obtain ⟨r, Hr⟩ : ∃ r, Hid (r = decide (a = b)) := ⟨_, rfl⟩; rw [← Hr.out]; clear hl hg hl' hg'; have Hz := hid hz; have Hz' := hid hz'; clear hz hz'; rw [← H.out] at h ⊢; rw [← H'.out] at h' ⊢; have hb0 : Below w.heap.size w ((w.alloc (.cells #[.slice A n c] 38)).alloc (.cells #[.slice A' n' c'] 38)) := ext_alloc (ext_alloc1 _ _) _
 by_cases hnn : n = n'
 ·subst hnn
  have p0 : ((w.alloc (.cells #[.slice A n c] 38)).alloc (.cells #[.slice A' n c'] 38)).cell? ⟨w.heap.size, 0, none⟩ = some (.slice A n c) := by simp
  have p1 : ((w.alloc (.cells #[.slice A n c] 38)).alloc (.cells #[.slice A' n c'] 38)).cell? ⟨w.heap.size + 1, 0, none⟩ = some (.slice A' n c') := by simp
  have P0 := hid p0; have P1 := hid p1; clear p0 p1
  go_enter Tryz.func73, Tryz.ntmps73
  go_wp2
  go_loopw [5] (fun i wr => ∃ k : Nat, k ≤ n ∧ i = I k ∧ a.take k = b.take k ∧ Below w.heap.size w wr ∧ wr.cell? ⟨w.heap.size, 0, none⟩ = some (.slice A n c) ∧ wr.cell? ⟨w.heap.size + 1, 0, none⟩ = some (.slice A' n c')) (fun i _ => n - (intOf i).toNat)
  case atStart => exact ⟨0, by omega, rfl, rfl, hb0, P0.out, P1.out⟩
  case round =>
   rename_i wr
   obtain ⟨k, hk, rfl, hab, hb, p0, p1⟩ := hrel; have Hab := hid hab; clear hab P0 P1 hb0
   by_cases hlt : k < n
   ·obtain ⟨g, o, q, x, B, d, e, hg, hxk, hin, hd, c0, c1, c2, c3⟩ := part_at (h.below hb) (by rw [← H.out]; exact hlt); obtain ⟨g', o', q', y, B', d', e', hg', hyk, hin', hd', b0, b1, b2, b3⟩ := part_at (h'.below hb) (by rw [← H'.out]; exact hlt); rw [← H.out] at e; rw [← H'.out] at e'; cases e; cases e'; have sx : sz_part x ≤ 1048576 := Nat.le_trans (mem_sz_path (List.mem_of_getElem? hxk.out)) Hz.out; have sy : sz_part y ≤ 1048576 := Nat.le_trans (mem_sz_path (List.mem_of_getElem? hyk.out)) Hz'.out
    go_wp2
    go_still_tail 10, (by kernel_rfl)
    go_wp2_with (fail)
    refine (spec_EqualParts x y _ _ _ (part_mk (hin.below (below_drew _))) (part_mk (hin'.below (below_drew _))) sx sy).mono ?_; rintro e w1 ⟨rfl, hb1⟩; have x1 : Below w.heap.size w w1 := ext_trans hb.drew hb1; have p0' := ck hb1 (show wr.drew.cell? _ = _ from p0); have p1' := ck hb1 (show wr.drew.cell? _ = _ from p1)
    by_cases hxy : x = y
    ·have hdx : decide (x = y) = true := by simp [hxy]
     have Hxy := hid hxy; clear hxy; rw [hdx]; clear hdx
     go_wp2_with (fail)
     go_roundw
     case rel => exact ⟨k + 1, by omega, by go_num, take_eq_of Hab.out hxk.out (Hxy.out ▸ hyk.out), x1, p0', p1'⟩
     case measure => simp [intOf]; omega
    ·have hdx : decide (x = y) = false := by simp [hxy]
     have HR : Hid (r = false) := by show r = _; rw [Hr.out]; simp [ne_of_at hxk.out hyk.out hxy]
     rw [hdx]; clear hdx hxy
     go_wp2_with (fail)
     go_ret
     exact ⟨by rw [HR.out]; rfl, x1⟩
   ·go_wp2
    go_ret
    have hkn : k = n := by omega
    subst hkn; have h1 := Hab.out; rw [H.out, List.take_length, ← H.out, H'.out, List.take_length] at h1; exact ⟨by rw [Hr.out, h1]; simp, hb⟩
 ·have HR : Hid (r = false) := by
   have : a ≠ b := by rintro rfl; exact hnn (H.out.trans H'.out.symm)
   show r = _; rw [Hr.out]; simp [this]
  go_enter Tryz.func73, Tryz.ntmps73
  go_wp2
  go_ret
  exact ⟨by rw [HR.out]; rfl, hb0⟩
theorem mem_sz_paths {l : List Path} {x : Path} (h : x ∈ l) : sz_path x ≤ sz_paths l := by
  have := le_sum_of_mem (List.mem_map.2 ⟨x, h, rfl⟩ : sz_path x ∈ l.map sz_path)
  show _ ≤ l.length + _
  omega
theorem not_mem_succ {l : List Path} {k : Nat} {x p : Path} (h : ¬ p ∈ l.take k) (hx : l[k]? = some x) (hn : ¬ x = p) : ¬ p ∈ l.take (k + 1) := by
  rw [take_succ hx]; intro hm
  rcases List.mem_append.1 hm with hm | hm
  · exact h hm
  · rw [List.mem_singleton] at hm; exact hn hm.symm
set_option maxRecDepth 100000 in
theorem impl_HasPath (l : List Path) (v : Value) (p : Path) (cs : List Value) (w : World) (h : SlR pathT w v l) (hz : sz_paths l ≤ 1048576) (hl : l.length ≤ 9223372036854775807 ∧ ∀ x ∈ l, lenOk_path x) (hg : ∀ x ∈ l, rng_path x) (h' : pathT.R w cs p) (hz' : sz_path p ≤ 1048576) (hl' : lenOk_path p) (hg' : rng_path p) :
  Calls Tryz.prog 22 #[v, .agg cs.toArray] w fun e w' => e = .returned (.bool (decide (p ∈ l))) ∧ Below w.heap.size w w' := by
 obtain ⟨A, c, rfl, hc⟩ := h.form; have hp' := h'; obtain ⟨A', c', rfl, _⟩ := path_form h'; obtain ⟨n, H⟩ : ∃ n, Hid (n = l.length) := ⟨_, rfl⟩
 have hn : n ≤ 1048576 := by rw [H.out]; have : sz_paths l = l.length + (l.map sz_path).sum := rfl; omega
 obtain ⟨r, Hr⟩ : ∃ r, Hid (r = decide (p ∈ l)) := ⟨_, rfl⟩; rw [← Hr.out]; have Hz := hid hz; have Hl := hid hl.2; have Hg := hid hg; clear hz hl hg hc; rw [← H.out] at h ⊢; have hb0 : Below w.heap.size w (w.alloc (.cells #[.slice A' (List.length p) c'] 38)) := ext_alloc1 _ _
 have p0 : Hid ((w.alloc (.cells #[.slice A' (List.length p) c'] 38)).cell? ⟨w.heap.size, 0, none⟩ = some (.slice A' (List.length p) c')) := by show _ = _; simp
 go_enter Tryz.func22, Tryz.ntmps22
 go_wp2
 go_loopw [9] (fun i wr => ∃ k : Nat, k ≤ n ∧ i = I k ∧ ¬ p ∈ l.take k ∧ Below w.heap.size w wr ∧ wr.cell? ⟨w.heap.size, 0, none⟩ = some (.slice A' (List.length p) c')) (fun i _ => n - (intOf i).toNat)
 case atStart => exact ⟨0, by omega, rfl, by simp, hb0, p0.out⟩
 case round =>
  obtain ⟨k, hk, rfl, hab, hb, p1⟩ := hrel; have Hab := hid hab; clear hab p0 hb0
  by_cases hlt : k < n
  ·obtain ⟨g, o, q, x, B, d, e, hgg, hxk, hin, hd, c0⟩ := path_at (h.below hb) (by rw [← H.out]; exact hlt); rw [← H.out] at e; cases e; have hm := List.mem_of_getElem? hxk.out; have HC := hid (impl_EqualPaths x _ p _ (wr.alloc (.cells #[.slice B (List.length x) d] 38)) (path_mk (hin.below (ext_alloc1 _ _))) (Nat.le_trans (mem_sz_paths hm) Hz.out) (Hl.out x hm) (Hg.out x hm) (pathT.kp hp' (ext_alloc hb _)) hz' hl' hg'); clear hm; have hs : w.heap.size < wr.heap.size := World.block_lt_of_cell? wr _ p1
   go_wp2_with (fail)
   refine HC.out.mono ?_; rintro e w1 ⟨rfl, hb1⟩; have x1 : Below w.heap.size w w1 := ext_trans (ext_alloc hb _) hb1; have p2 := ck hb1 (ck (ext_alloc1 _ _) p1)
   by_cases hxy : x = p
   ·have hdx : decide (x = p) = true := by simp [hxy]
    have HR : Hid (r = true) := by show r = _; rw [Hr.out]; simp [← hxy, List.mem_of_getElem? hxk.out]
    rw [hdx]; clear hdx hxy
    go_wp2_with (fail)
    go_ret
    exact ⟨by rw [HR.out]; rfl, x1⟩
   ·have hdx : decide (x = p) = false := by simp [hxy]
    have Hxy := hid hxy; rw [hdx]; clear hdx hxy
    go_wp2_with (fail)
    go_roundw
    case rel => exact ⟨k + 1, by omega, by go_num, not_mem_succ Hab.out hxk.out Hxy.out, x1, p2⟩
    case measure => simp [intOf]; omega
  ·have hkn : k = n := by omega
   subst hkn
   have HR : Hid (r = false) := by show r = _; rw [Hr.out]; have := Hab.out; rw [H.out, List.take_length] at this; simp [this]
   go_wp2
   go_ret
   exact ⟨by rw [HR.out]; rfl, hb⟩
set_option maxRecDepth 100000 in
theorem spec_HasPath (l : List Path) (v : Value) (p : Path) (cs : List Value) (w : World) (h : SlR pathT w v l) (hz : sz_paths l ≤ 1048576) (hl : l.length ≤ 9223372036854775807 ∧ ∀ x ∈ l, lenOk_path x) (hg : ∀ x ∈ l, rng_path x) (h' : pathT.R w cs p) (hz' : sz_path p ≤ 1048576) (hl' : lenOk_path p) (hg' : rng_path p) :
  Calls Tryz.prog 23 #[v, .agg cs.toArray] w fun e w' => e = .returned (.bool (decide (p ∈ l))) ∧ Below w.heap.size w w' := by
 obtain ⟨A, c, rfl, hc⟩ := h.form; have hp' := h'; obtain ⟨A', c', rfl, _⟩ := path_form h'; obtain ⟨n, H⟩ : ∃ n, Hid (n = l.length) := ⟨_, rfl⟩
 have hn : n ≤ 1048576 := by rw [H.out]; have : sz_paths l = l.length + (l.map sz_path).sum := rfl; omega
 obtain ⟨r, Hr⟩ : ∃ r, Hid (r = decide (p ∈ l)) := ⟨_, rfl⟩; rw [← Hr.out]; have Hz := hid hz; have Hl := hid hl.2; have Hg := hid hg; clear hz hl hg hc; rw [← H.out] at h ⊢; have hb0 : Below w.heap.size w (w.alloc (.cells #[.slice A' (List.length p) c'] 38)) := ext_alloc1 _ _
 have p0 : Hid ((w.alloc (.cells #[.slice A' (List.length p) c'] 38)).cell? ⟨w.heap.size, 0, none⟩ = some (.slice A' (List.length p) c')) := by show _ = _; simp
 go_enter Tryz.func23, Tryz.ntmps23
 go_wp2
 go_loopw [5] (fun i wr => ∃ k : Nat, k ≤ n ∧ i = I k ∧ ¬ p ∈ l.take k ∧ Below w.heap.size w wr ∧ wr.cell? ⟨w.heap.size, 0, none⟩ = some (.slice A' (List.length p) c')) (fun i _ => n - (intOf i).toNat)
 case atStart => exact ⟨0, by omega, rfl, by simp, hb0, p0.out⟩
 case round =>
  obtain ⟨k, hk, rfl, hab, hb, p1⟩ := hrel; have Hab := hid hab; clear hab p0 hb0
  by_cases hlt : k < n
  ·obtain ⟨g, o, q, x, B, d, e, hgg, hxk, hin, hd, c0⟩ := path_at (h.below hb) (by rw [← H.out]; exact hlt); rw [← H.out] at e; cases e; have hm := List.mem_of_getElem? hxk.out; have HC := hid (spec_EqualPaths x _ p _ wr.drew (path_mk (hin.below (below_drew _))) (Nat.le_trans (mem_sz_paths hm) Hz.out) (Hl.out x hm) (Hg.out x hm) (pathT.kp hp' hb.drew) hz' hl' hg'); clear hm; have hs : w.heap.size < wr.heap.size := World.block_lt_of_cell? wr _ p1
   go_wp2
   go_still_tail 5, (by kernel_rfl)
   go_wp2_with (fail)
   refine HC.out.mono ?_; rintro e w1 ⟨rfl, hb1⟩; have x1 : Below w.heap.size w w1 := ext_trans hb.drew hb1; have p2 := ck hb1 (show wr.drew.cell? _ = _ from p1)
   by_cases hxy : x = p
   ·have hdx : decide (x = p) = true := by simp [hxy]
    have HR : Hid (r = true) := by show r = _; rw [Hr.out]; simp [← hxy, List.mem_of_getElem? hxk.out]
    rw [hdx]; clear hdx hxy
    go_wp2_with (fail)
    go_ret
    exact ⟨by rw [HR.out]; rfl, x1⟩
   ·have hdx : decide (x = p) = false := by simp [hxy]
    have Hxy := hid hxy; rw [hdx]; clear hdx hxy
    go_wp2_with (fail)
    go_roundw
    case rel => exact ⟨k + 1, by omega, by go_num, not_mem_succ Hab.out hxk.out Hxy.out, x1, p2⟩
    case measure => simp [intOf]; omega
  ·have hkn : k = n := by omega
   subst hkn
   have HR : Hid (r = false) := by show r = _; rw [Hr.out]; have := Hab.out; rw [H.out, List.take_length] at this; simp [this]
   go_wp2
   go_ret
   exact ⟨by rw [HR.out]; rfl, hb⟩
set_option maxRecDepth 100000 in
theorem impl_EqualPathLists (a : List Path) (v : Value) (b : List Path) (u : Value) (w : World) (h : SlR pathT w v a) (hz : sz_paths a ≤ 1048576) (hl : a.length ≤ 9223372036854775807 ∧ ∀ x ∈ a, lenOk_path x) (hg : ∀ x ∈ a, rng_path x) (h' : SlR pathT w u b) (hz' : sz_paths b ≤ 1048576) (hl' : b.length ≤ 9223372036854775807 ∧ ∀ x ∈ b, lenOk_path x) (hg' : ∀ x ∈ b, rng_path x) :
  Calls Tryz.prog 24 #[v, u] w fun e w' => e = .returned (.bool (decide (a = b))) ∧ Below w.heap.size w w' := by
 obtain ⟨A, c, rfl, hc⟩ := h.form; obtain ⟨A', c', rfl, hc'⟩ := h'.form; obtain ⟨n, H⟩ : ∃ n, Hid (n = a.length) := ⟨_, rfl⟩; obtain ⟨n', H'⟩ : ∃ n, Hid (n = b.length) := ⟨_, rfl⟩
 have hn : n ≤ 1048576 := by rw [H.out]; have : sz_paths a = List.length a + (a.map sz_path).sum := rfl; omega
 have hn' : n' ≤ 1048576 := by rw [H'.out]; have : sz_paths b = List.length b + (b.map sz_path).sum := rfl; omega
 obtain ⟨r, Hr⟩ : ∃ r, Hid (r = decide (a = b)) := ⟨_, rfl⟩; rw [← Hr.out]; have Hz := hid hz; have Hl := hid hl.2; have Hg := hid hg; have Hz' := hid hz'; have Hl' := hid hl'.2; have Hg' := hid hg'; clear hz hl hg hc hz' hl' hg' hc'; rw [← H.out] at h ⊢; rw [← H'.out] at h' ⊢
 by_cases hnn : n = n'
 ·subst hnn
  go_enter Tryz.func24, Tryz.ntmps24
  go_wp2
  go_loopw [13] (fun i wr => ∃ k : Nat, k ≤ n ∧ i = I k ∧ a.take k = b.take k ∧ Below w.heap.size w wr) (fun i _ => n - (intOf i).toNat)
  case atStart => exact ⟨0, by omega, rfl, rfl, Below.refl _ _⟩
  case round =>
   obtain ⟨k, hk, rfl, hab, hb⟩ := hrel; have Hab := hid hab; clear hab
   by_cases hlt : k < n
   ·obtain ⟨g, o, q, x, B, d, e, hg, hxk, hin, hd, c0⟩ := path_at (h.below hb) (by rw [← H.out]; exact hlt); obtain ⟨g', o', q', y, B', d', e', hg', hyk, hin', hd', b0⟩ := path_at (h'.below hb) (by rw [← H'.out]; exact hlt); rw [← H.out] at e; rw [← H'.out] at e'; cases e; cases e'; have hm := List.mem_of_getElem? hxk.out; have hm' := List.mem_of_getElem? hyk.out; have HC := hid (impl_EqualPaths x _ y _ wr.drew (path_mk (hin.below (below_drew _))) (Nat.le_trans (mem_sz_paths hm) Hz.out) (Hl.out x hm) (Hg.out x hm) (path_mk (hin'.below (below_drew _))) (Nat.le_trans (mem_sz_paths hm') Hz'.out) (Hl'.out y hm') (Hg'.out y hm')); clear hm hm'
    go_wp2
    go_still_tail 8, (by kernel_rfl)
    go_wp2_with (fail)
    refine HC.out.mono ?_; rintro e w1 ⟨rfl, hb1⟩; have x1 : Below w.heap.size w w1 := ext_trans hb.drew hb1
    by_cases hxy : x = y
    ·have hdx : decide (x = y) = true := by simp [hxy]
     have Hxy := hid hxy; clear hxy; rw [hdx]; clear hdx
     go_wp2_with (fail)
     go_roundw
     case rel => exact ⟨k + 1, by omega, by go_num, take_eq_of Hab.out hxk.out (Hxy.out ▸ hyk.out), x1⟩
     case measure => simp [intOf]; omega
    ·have hdx : decide (x = y) = false := by simp [hxy]
     have HR : Hid (r = false) := by show r = _; rw [Hr.out]; simp [ne_of_at hxk.out hyk.out hxy]
     rw [hdx]; clear hdx hxy
     go_wp2_with (fail)
     go_ret
     exact ⟨by rw [HR.out]; rfl, x1⟩
   ·have hkn : k = n := by omega
    have HR : Hid (r = true) := by
     show r = _
     have := Hab.out; rw [List.take_of_length_le (by rw [← H.out]; omega), List.take_of_length_le (by rw [← H'.out]; omega)] at this; rw [Hr.out, this]; simp
    go_wp2
    go_ret
    exact ⟨by rw [HR.out]; rfl, hb⟩
 ·have HR : Hid (r = false) := by
   show r = _
   rw [Hr.out]
   simp only [decide_eq_false_iff_not]
   rintro rfl; exact hnn (H.out.trans H'.out.symm)
  go_enter Tryz.func24, Tryz.ntmps24
  go_wp2
  go_ret
  exact ⟨by rw [HR.out]; rfl, Below.refl _ _⟩
theorem lastIa_eq {y : Part} {x : Hop} (h : y.hops[y.hops.length - 1]? = some x) : lastIa y = x.ia := by unfold lastIa; rw [h]
theorem firstIa_eq {y : Part} {x : Hop} (h : y.hops[0]? = some x) : firstIa y = x.ia := by unfold firstIa; rw [h]
theorem all_at {α : Type} {f : α → Bool} {l : List α} {k j : Nat} {x : α} (ha : (l.take k).all f = true) (hj : j < k) (hx : l[j]? = some x) : f x = true := by
  rw [List.all_eq_true] at ha; exact ha x (List.mem_of_getElem? (i := j) (by rw [List.getElem?_take_of_lt hj]; exact hx))
theorem impl_placeOf (k : Int) (w : World) : Calls Tryz.prog 111 #[I k] w fun e w' => e = .returned (I (place k)) ∧ w = w' := by
 have X0 := Below.refl w.heap.size w; refine enter Tryz.func111 rfl Tryz.ntmps111 rfl ?_; refine w_h ?_; have S := Sep.nil w; have B := Below.refl w.heap.size w; have Hb := Nat.le_refl w.heap.size; refine t_a rfl ?_ rfl; refine t_e ?_; (iterate 2 refine w_s ?_); refine w_g ?_; refine t_m rfl ?_ rfl; refine t_e ?_; refine w_block ?_; refine w_h ?_; refine t_eql rfl rfl ?_ rfl; refine t_a rfl ?_ rfl; refine t_e ?_; refine w_if rfl ?_ ?_
 ·intro h1; refine w_h ?_; refine t_a rfl ?_ rfl; refine t_e ?_; refine w_r ?_; refine x_block_ret ?_; refine x_t ?_; refine x_ret1 rfl rfl ?_; exact ⟨ret_int (by simp [place, h1]), rfl⟩
 ·intro h1; (iterate 2 refine w_s ?_); refine w_g ?_; refine t_eql rfl rfl ?_ rfl; refine t_a rfl ?_ rfl; refine t_e ?_; refine w_if rfl ?_ ?_
  ·intro h2; refine w_k ?_; refine x_s ?_; refine w_if rfl ?_ (fun h => (by exact absurd h2 h)); intro hc6; refine w_h ?_; refine t_a rfl ?_ rfl; refine t_e ?_; refine w_r ?_; refine x_block_ret ?_; refine x_t ?_; refine x_ret1 rfl rfl ?_; exact ⟨ret_int (by simp [place, h2]), rfl⟩
  ·intro h2; refine w_g ?_; refine t_eql rfl rfl ?_ rfl; refine t_a rfl ?_ rfl; refine t_e ?_; refine w_if rfl ?_ ?_
   ·intro h3; refine w_h ?_; refine t_a rfl ?_ rfl; refine t_e ?_; refine w_r ?_; refine x_block_ret ?_; refine x_t ?_; refine x_ret1 rfl rfl ?_; exact ⟨ret_int (by simp [place, h3]), rfl⟩
   ·intro h3; refine w_k ?_; refine x_b ?_; refine x_s ?_; refine w_h ?_; refine t_a rfl ?_ rfl; refine t_e ?_; refine w_r ?_; refine x_ret1 rfl rfl ?_; exact ⟨ret_int (by simp [place, h1, h2, h3]), rfl⟩
theorem spec_l22Rank (k : Int) (w : World) : Calls Tryz.prog 181 #[I k] w fun e w' => e = .returned (I (place k)) ∧ w = w' := by
 have X0 := Below.refl w.heap.size w; refine enter Tryz.func181 rfl Tryz.ntmps181 rfl ?_; refine w_h ?_; have S := Sep.nil w; have B := Below.refl w.heap.size w; have Hb := Nat.le_refl w.heap.size; refine t_a rfl ?_ rfl; refine t_e ?_; (iterate 2 refine w_s ?_); refine w_g ?_; refine t_m rfl ?_ rfl; refine t_e ?_; refine w_block ?_; refine w_h ?_; refine t_eql rfl rfl ?_ rfl; refine t_a rfl ?_ rfl; refine t_e ?_; refine w_if rfl ?_ ?_
 ·intro h1; refine w_h ?_; refine t_a rfl ?_ rfl; refine t_e ?_; refine w_r ?_; refine x_block_ret ?_; refine x_t ?_; refine x_ret1 rfl rfl ?_; exact ⟨ret_int (by simp [place, h1]), rfl⟩
 ·intro h1; (iterate 2 refine w_s ?_); refine w_g ?_; refine t_eql rfl rfl ?_ rfl; refine t_a rfl ?_ rfl; refine t_e ?_; refine w_if rfl ?_ ?_
  ·intro h2; refine w_k ?_; refine x_s ?_; refine w_if rfl ?_ (fun h => (by exact absurd h2 h)); intro hc6; refine w_h ?_; refine t_a rfl ?_ rfl; refine t_e ?_; refine w_r ?_; refine x_block_ret ?_; refine x_t ?_; refine x_ret1 rfl rfl ?_; exact ⟨ret_int (by simp [place, h2]), rfl⟩
  ·intro h2; refine w_g ?_; refine t_eql rfl rfl ?_ rfl; refine t_a rfl ?_ rfl; refine t_e ?_; refine w_if rfl ?_ ?_
   ·intro h3; refine w_h ?_; refine t_a rfl ?_ rfl; refine t_e ?_; refine w_r ?_; refine x_block_ret ?_; refine x_t ?_; refine x_ret1 rfl rfl ?_; exact ⟨ret_int (by simp [place, h3]), rfl⟩
   ·intro h3; refine w_k ?_; refine x_b ?_; refine x_s ?_; refine w_h ?_; refine t_a rfl ?_ rfl; refine t_e ?_; refine w_r ?_; refine x_ret1 rfl rfl ?_; exact ⟨ret_int (by simp [place, h1, h2, h3]), rfl⟩
theorem impl_WellFormedPath (t : Topo) (v : Value) (p : Path) (u : Value) (w : World) (h : VA topoT w v t) (hp : VA pathT w u p) (hz : sz_topo t ≤ 1048576) (hz' : sz_path p ≤ 1048576) : Calls Tryz.prog 57 #[v, u] w fun e w' => e = .returned (.bool (wellFormed t p)) ∧ Below w.heap.size w w' := by
 have hpl : List.length p ≤ sz_path p := by show List.length p ≤ List.length p + _; omega
 have X0 := Below.refl w.heap.size w; refine enter Tryz.func57 rfl Tryz.ntmps57 rfl ?_; refine w_h ?_; refine t_boxr ‹_› rfl ?_ rfl rfl; intro p2 w1 x2 hp2; replace h := h.below x2; replace hp := hp.below x2; have X0 := ext_trans X0 x2; refine t_boxr ‹_› rfl ?_ rfl rfl; intro p3 w3 x4 hp3; replace h := h.below x4; replace hp := hp.below x4; replace hp2 := hp2.below x4; have X0 := ext_trans X0 x4; have S := Sep.nil w3; have B := Below.refl w3.heap.size w3; have Hb := Nat.le_refl w3.heap.size; refine t_a rfl ?_ rfl; refine t_e ?_; (iterate 2 refine w_s ?_); refine w_g ?_; refine t_fld ln_path_0 ‹_› fb_path_0 rfl ?_ rfl; intro p8 hp8; refine t_lds ‹_› ab_s_part B rfl ?_ rfl; intro v9 hv9; refine t_len e_part ‹_› rfl rfl ?_ rfl; refine t_calls Tryz.call109 rfl (impl_InRange _ _ _ _) ?_ rfl rfl; refine t_notb rfl ?_ rfl; refine t_e ?_; refine w_ifb rfl ?_ ?_
 ·intro h1; refine w_h ?_; refine t_a rfl ?_ rfl; refine t_e ?_; refine w_r ?_; refine x_t ?_; refine x_ret1 rfl rfl ?_; exact ⟨ret_bool (by simp at h1; simp [wellFormed, h1]), ext_trans X0 B⟩
 intro h1
 have h1' : inR (List.length p) 1 3 = true := by simpa using h1
 refine w_k ?_; refine x_s ?_; (iterate 2 refine w_s ?_); refine w_g ?_; refine t_fld ln_path_0 ‹_› fb_path_0 rfl ?_ rfl; intro p13 hp13; refine t_lds ‹_› ab_s_part B rfl ?_ rfl; intro v14 hv14; refine t_len e_part ‹_› rfl rfl ?_ rfl; refine t_m rfl ?_ rfl; refine t_e ?_; refine w_block ?_; refine w_loop (X := Nat) (fun k wq => k ≤ List.length p ∧ (p.take k).all (validPart t) = true ∧ (∀ j, j < k - 1 → joinOk p j = true) ∧ Below w3.heap.size w3 wq ∧ Sep w3.heap.size wq []) (fun k => [(16, I ((k : Int))), (2, p2), (3, p3), (14, v14), (15, I ((p.length : Int)))]) (fun k => List.length p - k) (0) ?_ ⟨rfl, rfl, rfl, rfl, rfl, trivial⟩ ?_
 ·exact ⟨by omega, rfl, by omega, B, S⟩
 ·rintro k w5 hI; (try dsimp only at hI ⊢); obtain ⟨hk, ha, hb, B, S⟩ := hI; refine w_h ?_; refine t_lss rfl rfl ?_ rfl; refine t_e ?_; refine w_s ?_; refine w_if rfl ?_ ?_
  ·intro hlt; obtain ⟨e19, he19⟩ : ∃ e, p[k]? = some e := getx (by omega); have hhl := hops_sz he19; refine w_k ?_; refine x_s ?_; refine w_s ?_; refine w_block ?_; refine w_h ?_; refine t_m rfl ?_ rfl; refine t_idx e_part (k := k) ‹_› he19 B rfl rfl (by first | rfl | omega) ?_ rfl; intro p19 hp19; refine t_lda ‹_› ab_part sb_part B rfl ?_ rfl; intro v20 hv20; obtain ⟨v20_3, rfl, hv20_3⟩ := part_va hv20; refine t_w S z_part rfl ?_ rfl rfl; intro g6 w6 x7 S; have B := bx Hb B x7; refine t_a rfl ?_ rfl; refine t_stn S sb_part rfl rfl rfl rfl (by repeat first | exact oc0 | refine oc rfl ?_ | refine oc (SlR.cells ‹_›).2 ?_) ?_; intro w8 b9 S; have B := B.trans b9; refine t_e ?_; (iterate 2 refine w_s ?_); refine w_g ?_; refine t_lda ‹_› ab_topo sb_topo B rfl ?_ rfl; intro v21 hv21; obtain ⟨v21_0, v21_1, rfl, hv21_0, hv21_1⟩ := topo_va hv21; refine t_b S.box ab_part sb_part rfl rfl ?_ rfl
   refine t_x Tryz.call110 rfl (impl_ValidPart _ _ _ _ _ (by first | assumption | exact VA.below ‹_› B | exact topo_mkv (by first | assumption | exact SlR.below ‹_› B) (by first | assumption | exact SlR.below ‹_› B)) (by first | assumption | exact VA.below ‹_› B | exact part_mkv (by first | assumption | exact SlR.below ‹_› B)) (by omega) (by omega)) ?_ rfl rfl; intro w10 x11; have B := bx Hb B x11; have S := S.below x11; refine t_notb rfl ?_ rfl; refine t_e ?_; refine w_ifb rfl ?_ ?_
   ·intro h2; refine w_h ?_; refine t_a rfl ?_ rfl; refine t_e ?_; refine w_r ?_; refine x_t ?_; refine x_block_ret ?_; (iterate 2 refine x_t ?_); refine x_block_ret ?_; refine x_t ?_; refine x_ret1 rfl rfl ?_; exact ⟨ret_bool (by rw [wellFormed, allF_bad he19 (by simpa using h2)]; simp), ext_trans X0 B⟩
   intro h2
   have h2' : validPart t e19 = true := by simpa using h2
   have ha2 := allF_succ he19 ha h2'; have hl2 := valid_len h2'; refine w_k ?_; refine x_s ?_; refine w_h ?_; refine t_m rfl ?_ rfl; refine t_gtr rfl rfl ?_ rfl; refine t_e ?_; refine w_if rfl ?_ ?_
   ·intro h3
    have hk3 : k - 1 + 1 = k := by omega
    have hlt3 : k - 1 < List.length p - 1 := by omega
    obtain ⟨e31, he31⟩ : ∃ e, p[k - 1]? = some e := getx (by omega); have hl3 := valid_len (all_at ha (by omega) he31); have hhl3 := hops_sz he31; have hJ := joinOk_eq he31 (by rw [hk3]; exact he19); obtain ⟨e47, he47⟩ : ∃ e, e31.hops[e31.hops.length - 1]? = some e := getx (by omega); obtain ⟨e52, he52⟩ : ∃ e, e19.hops[0]? = some e := getx (by omega); rw [lastIa_eq he47, firstIa_eq he52] at hJ; refine w_h ?_; refine t_fld ln_path_0 ‹_› fb_path_0 rfl ?_ rfl; intro p27 hp27; refine t_lds ‹_› ab_s_part B rfl ?_ rfl; intro v28 hv28; refine t_m rfl ?_ rfl; refine t_sub rfl rfl (by omega) ?_ rfl; refine t_idx e_part (k := (k - 1)) ‹_› he31 B rfl rfl (by first | rfl | omega) ?_ rfl; intro p31 hp31; refine t_lda ‹_› ab_part sb_part B rfl ?_ rfl; intro v32 hv32; obtain ⟨v32_3, rfl, hv32_3⟩ := part_va hv32; refine t_w S z_part rfl ?_ rfl rfl; intro g7 w12 x13 S; have B := bx Hb B x13; refine t_stn S sb_part rfl rfl rfl rfl (by repeat first | exact oc0 | refine oc rfl ?_ | refine oc (SlR.cells ‹_›).2 ?_) ?_; intro w14 b15 S; have B := B.trans b15; refine t_e ?_; refine w_s ?_
    refine w_draw (.st .take 0 (.st .take 1 (.st .take 3 (.st .take 4 (.st .run 2 (.st .run 5 (.st .take 6 (.st .take 7 (.st .take 8 (.st .take 9 (.st .take 10 (.st .take 11 (.st .take 12 (.st .take 13 (.st .take 14 (.st .take 15 (.st .take 16 (.st .take 17 (.st .take 18 (.st .take 19 (.st .take 20 (.st .take 21 (.st .take 22 (.st .take 23 .done)))))))))))))))))))))))) mixed (by kernel_rfl) ?_; intro w16 x17; have B := bx Hb B x17; have S := S.below x17; refine t_y fb_part_0 rfl rfl ?_ rfl; refine t_bx1 S.box ab_int rfl rfl ?_ rfl; refine t_y fb_part_0 rfl rfl ?_ rfl; refine t_bx1 S.tail.box ab_int rfl rfl ?_ rfl; refine t_calls Tryz.call111 rfl (impl_placeOf _ _) ?_ rfl rfl; refine t_calls Tryz.call111 rfl (impl_placeOf _ _) ?_ rfl rfl; refine t_geq rfl rfl ?_ rfl; refine t_m rfl ?_ rfl; refine t_partp (t := 40) rfl ?_ ?_
    ·intro h4; (iterate 15 refine t_off rfl rfl rfl ?_ rfl); refine t_q rfl rfl ?_ rfl; refine t_e' ?_; refine w_yes rfl ?_; refine w_h ?_; refine t_a rfl ?_ rfl; refine t_e ?_; refine w_r ?_; refine x_block_ret ?_; (iterate 2 refine x_t ?_); refine x_block_ret ?_; refine x_t ?_; refine x_ret1 rfl rfl ?_; exact ⟨ret_bool (by rw [wellFormed, all_no hlt3 (by rw [hJ, decide_eq_false (by omega)]; rfl)]; simp), ext_trans X0 B⟩
    intro h4; refine t_on rfl rfl ?_; refine t_y fb_part_3 rfl rfl ?_ rfl; refine t_on rfl rfl ?_; refine t_bx1 S.box ab_s_hop rfl rfl ?_ rfl; refine t_on rfl rfl ?_; refine t_y fb_part_3 rfl rfl ?_ rfl; refine t_on rfl rfl ?_; refine t_bx1 S.box ab_s_hop rfl rfl ?_ rfl; refine t_on rfl rfl ?_; refine t_len e_hop ‹_› rfl rfl ?_ rfl; refine t_on rfl rfl ?_; refine t_sub rfl rfl (by omega) ?_ rfl; refine t_on rfl rfl ?_; refine t_idx e_hop (k := (e31.hops.length - 1)) ‹_› he47 B rfl rfl (by first | rfl | omega) ?_ rfl; intro p47 hp47; refine t_on rfl rfl ?_; refine t_fld ln_hop_0 ‹_› fb_hop_0 rfl ?_ rfl; intro p48 hp48; refine t_on rfl rfl ?_; refine t_ldi ‹_› ab_int B rfl ?_ rfl; refine t_on rfl rfl ?_; refine t_y fb_part_3 rfl rfl ?_ rfl; refine t_on rfl rfl ?_; refine t_bx1 S.tail.box ab_s_hop rfl rfl ?_ rfl; refine t_on rfl rfl ?_; refine t_idx e_hop (k := 0) ‹_› he52 B rfl rfl (by first | rfl | omega) ?_ rfl; intro p52 hp52; refine t_on rfl rfl ?_; refine t_fld ln_hop_0 ‹_› fb_hop_0 rfl ?_ rfl; intro p53 hp53; refine t_on rfl rfl ?_; refine t_ldi ‹_› ab_int B rfl ?_ rfl; refine t_on rfl rfl ?_; refine t_neq rfl rfl ?_ rfl; refine t_p rfl rfl ?_ rfl; refine t_e' ?_
    refine w_if rfl ?_ ?_
    ·intro h5; refine w_h ?_; refine t_a rfl ?_ rfl; refine t_e ?_; refine w_r ?_; refine x_block_ret ?_; (iterate 2 refine x_t ?_); refine x_block_ret ?_; refine x_t ?_; refine x_ret1 rfl rfl ?_; exact ⟨ret_bool (by rw [wellFormed, all_no hlt3 (by rw [hJ, decide_eq_false h5]; simp)]; simp), ext_trans X0 B⟩
    intro h5; refine w_k ?_; refine x_b ?_; refine x_s ?_; refine w_g ?_; refine t_add rfl rfl (by omega) ?_ rfl; refine t_m rfl ?_ rfl; refine t_d ?_; have S := S.tail.tail; refine x_r (X := Nat) (k + 1) ?_ (by exact ⟨rfl, rfl, rfl, rfl, rfl, trivial⟩) (by (try dsimp only); omega); (try dsimp only); refine ⟨by omega, ha2, fun j hj => ?_, B, S⟩; refine upto_succ (k := k - 1) hb ?_ j (by omega); rw [hJ, decide_eq_true (by omega), decide_eq_true (by omega)]
    rfl
   ·intro h3; refine w_k ?_; refine x_b ?_; refine x_s ?_; refine w_g ?_; refine t_add rfl rfl (by omega) ?_ rfl; refine t_m rfl ?_ rfl; refine t_d ?_; have S := S.tail; refine x_r (X := Nat) (k + 1) ?_ (by exact ⟨rfl, rfl, rfl, rfl, rfl, trivial⟩) (by (try dsimp only); omega); (try dsimp only); exact ⟨by omega, ha2, fun j hj => by omega, B, S⟩
  ·intro hge; refine w_exit ?_; (iterate 2 refine x_then_exit ?_); refine x_block_exit ?_; refine x_s ?_; refine w_h ?_; refine t_a rfl ?_ rfl; refine t_e ?_; refine w_r ?_; refine x_ret1 rfl rfl ?_; exact ⟨ret_bool (by rw [wellFormed, h1', allF_end (by omega) ha, all_ok fun j hj => hb j (by omega)]; rfl), ext_trans X0 B⟩
theorem spec_WellFormedPath (t : Topo) (v : Value) (p : Path) (u : Value) (w : World) (h : VA topoT w v t) (hp : VA pathT w u p) (hz : sz_topo t ≤ 1048576) (hz' : sz_path p ≤ 1048576) : Calls Tryz.prog 159 #[v, u] w fun e w' => e = .returned (.bool (wellFormed t p)) ∧ Below w.heap.size w w' := by
 have hpl : List.length p ≤ sz_path p := by show List.length p ≤ List.length p + _; omega
 have X0 := Below.refl w.heap.size w; refine enter Tryz.func159 rfl Tryz.ntmps159 rfl ?_; refine w_h ?_; refine t_boxr ‹_› rfl ?_ rfl rfl; intro p2 w18 x19 hp2; replace h := h.below x19; replace hp := hp.below x19; have X0 := ext_trans X0 x19; refine t_boxr ‹_› rfl ?_ rfl rfl; intro p3 w20 x21 hp3; replace h := h.below x21; replace hp := hp.below x21; replace hp2 := hp2.below x21; have X0 := ext_trans X0 x21; have S := Sep.nil w20; have B := Below.refl w20.heap.size w20; have Hb := Nat.le_refl w20.heap.size; refine t_a rfl ?_ rfl; refine t_e ?_; (iterate 2 refine w_s ?_); refine w_g ?_; refine t_fld ln_path_0 ‹_› fb_path_0 rfl ?_ rfl; intro p7 hp7; refine t_lds ‹_› ab_s_part B rfl ?_ rfl; intro v8 hv8; refine t_len e_part ‹_› rfl rfl ?_ rfl; refine t_calls Tryz.call144 rfl (spec_l1In _ _ _ _) ?_ rfl rfl; refine t_notb rfl ?_ rfl; refine t_e ?_; refine w_ifb rfl ?_ ?_
 ·intro h1; refine w_h ?_; refine t_a rfl ?_ rfl; refine t_e ?_; refine w_r ?_; refine x_t ?_; refine x_ret1 rfl rfl ?_; exact ⟨ret_bool (by simp at h1; simp [wellFormed, h1]), ext_trans X0 B⟩
 intro h1
 have h1' : inR (List.length p) 1 3 = true := by simpa using h1
 refine w_k ?_; refine x_s ?_; (iterate 2 refine w_s ?_); refine w_g ?_; refine t_a rfl ?_ rfl; refine t_e ?_; refine w_block ?_; refine w_loop (X := Nat) (fun k wq => k ≤ List.length p ∧ (p.take k).all (validPart t) = true ∧ (∀ j, j < k - 1 → joinOk p j = true) ∧ Below w20.heap.size w20 wq ∧ Sep w20.heap.size wq []) (fun k => [(5, I ((k : Int))), (2, p2), (3, p3)]) (fun k => List.length p - k) (0) ?_ ⟨rfl, rfl, rfl, trivial⟩ ?_
 ·exact ⟨by omega, rfl, by omega, B, S⟩
 ·rintro k w22 hI; (try dsimp only at hI ⊢); obtain ⟨hk, ha, hb, B, S⟩ := hI; (iterate 2 refine w_s ?_); refine w_g ?_; refine t_m rfl ?_ rfl; refine t_fld ln_path_0 ‹_› fb_path_0 rfl ?_ rfl; intro p13 hp13; refine t_lds ‹_› ab_s_part B rfl ?_ rfl; intro v14 hv14; refine t_len e_part ‹_› rfl rfl ?_ rfl; refine t_lss rfl rfl ?_ rfl; refine t_e ?_; refine w_if rfl ?_ ?_
  ·intro hlt; obtain ⟨e23, he23⟩ : ∃ e, p[k]? = some e := getx (by omega); have hhl := hops_sz he23; refine w_k ?_; refine x_s ?_; refine w_s ?_; refine w_block ?_; (iterate 2 refine w_s ?_); refine w_draw (.st .take 0 (.st .take 1 (.st .take 2 (.st .take 3 (.st .take 4 (.st .take 5 (.st .run 6 (.st .take 7 .done)))))))) mixed (by kernel_rfl) ?_; intro w23 x24; have B := bx Hb B x24; have S := S.below x24; refine t_lda ‹_› ab_topo sb_topo B rfl ?_ rfl; intro v19 hv19; obtain ⟨v19_0, v19_1, rfl, hv19_0, hv19_1⟩ := topo_va hv19; refine t_fld ln_path_0 ‹_› fb_path_0 rfl ?_ rfl; intro p20 hp20; refine t_lds ‹_› ab_s_part B rfl ?_ rfl; intro v21 hv21; refine t_m rfl ?_ rfl; refine t_idx e_part (k := k) ‹_› he23 B rfl rfl (by first | rfl | omega) ?_ rfl; intro p23 hp23; refine t_lda ‹_› ab_part sb_part B rfl ?_ rfl; intro v24 hv24; obtain ⟨v24_3, rfl, hv24_3⟩ := part_va hv24
   refine t_x Tryz.call180 rfl (spec_ValidPart _ _ _ _ _ (by first | assumption | exact VA.below ‹_› B | exact topo_mkv (by first | assumption | exact SlR.below ‹_› B) (by first | assumption | exact SlR.below ‹_› B)) (by first | assumption | exact VA.below ‹_› B | exact part_mkv (by first | assumption | exact SlR.below ‹_› B)) (by omega) (by omega)) ?_ rfl rfl; intro w25 x26; have B := bx Hb B x26; have S := S.below x26; refine t_notb rfl ?_ rfl; refine t_e' ?_; refine w_ifb rfl ?_ ?_
   ·intro h2; refine w_h ?_; refine t_a rfl ?_ rfl; refine t_e ?_; refine w_r ?_; refine x_t ?_; refine x_block_ret ?_; (iterate 2 refine x_t ?_); refine x_block_ret ?_; refine x_t ?_; refine x_ret1 rfl rfl ?_; exact ⟨ret_bool (by rw [wellFormed, allF_bad he23 (by simpa using h2)]; simp), ext_trans X0 B⟩
   intro h2
   have h2' : validPart t e23 = true := by simpa using h2
   have ha2 := allF_succ he23 ha h2'; have hl2 := valid_len h2'; refine w_k ?_; refine x_s ?_; refine w_h ?_; refine t_m rfl ?_ rfl; refine t_gtr rfl rfl ?_ rfl; refine t_e ?_; refine w_if rfl ?_ ?_
   ·intro h3
    have hk3 : k - 1 + 1 = k := by omega
    have hlt3 : k - 1 < List.length p - 1 := by omega
    obtain ⟨e33, he33⟩ : ∃ e, p[k - 1]? = some e := getx (by omega); have hl3 := valid_len (all_at ha (by omega) he33); have hhl3 := hops_sz he33; have hJ := joinOk_eq he33 (by rw [hk3]; exact he23); obtain ⟨e53, he53⟩ : ∃ e, e33.hops[e33.hops.length - 1]? = some e := getx (by omega); obtain ⟨e62, he62⟩ : ∃ e, e23.hops[0]? = some e := getx (by omega); rw [lastIa_eq he53, firstIa_eq he62] at hJ; refine w_h ?_; refine t_fld ln_path_0 ‹_› fb_path_0 rfl ?_ rfl; intro p29 hp29; refine t_lds ‹_› ab_s_part B rfl ?_ rfl; intro v30 hv30; refine t_m rfl ?_ rfl; refine t_sub rfl rfl (by omega) ?_ rfl; refine t_idx e_part (k := (k - 1)) ‹_› he33 B rfl rfl (by first | rfl | omega) ?_ rfl; intro p33 hp33; refine t_lda ‹_› ab_part sb_part B rfl ?_ rfl; intro v34 hv34; obtain ⟨v34_3, rfl, hv34_3⟩ := part_va hv34; refine t_w S z_part rfl ?_ rfl rfl; intro g6 w27 x28 S; have B := bx Hb B x28; refine t_stn S sb_part rfl rfl rfl rfl (by repeat first | exact oc0 | refine oc rfl ?_ | refine oc (SlR.cells ‹_›).2 ?_) ?_; intro w29 b30 S; have B := B.trans b30; refine t_e ?_; refine w_s ?_
    refine w_draw (.st .take 0 (.st .take 1 (.st .take 3 (.st .take 4 (.st .take 5 (.st .take 6 (.st .take 7 (.st .take 8 (.st .run 2 (.st .run 9 (.st .take 10 (.st .take 11 (.st .take 12 (.st .take 13 (.st .take 14 (.st .take 15 (.st .take 16 (.st .take 17 (.st .take 18 (.st .take 19 (.st .take 20 (.st .take 21 (.st .take 22 (.st .take 23 (.st .take 24 (.st .take 25 (.st .take 26 (.st .take 27 (.st .take 28 (.st .take 29 (.st .take 30 (.st .take 31 .done)))))))))))))))))))))))))))))))) mixed (by kernel_rfl) ?_; intro w31 x32; have B := bx Hb B x32; have S := S.below x32; refine t_y fb_part_0 rfl rfl ?_ rfl; refine t_bx1 S.box ab_int rfl rfl ?_ rfl; refine t_fld ln_path_0 ‹_› fb_path_0 rfl ?_ rfl; intro p38 hp38; refine t_lds ‹_› ab_s_part B rfl ?_ rfl; intro v39 hv39; refine t_m rfl ?_ rfl; refine t_idx e_part (k := k) ‹_› he23 B rfl rfl (by first | rfl | omega) ?_ rfl; intro p41 hp41; refine t_fld ln_part_0 ‹_› fb_part_0 rfl ?_ rfl; intro p42 hp42; refine t_ldi ‹_› ab_int B rfl ?_ rfl; refine t_calls Tryz.call181 rfl (spec_l22Rank _ _) ?_ rfl rfl; refine t_calls Tryz.call181 rfl (spec_l22Rank _ _) ?_ rfl rfl; refine t_geq rfl rfl ?_ rfl; refine t_m rfl ?_ rfl
    refine t_partp (t := 46) rfl ?_ ?_
    ·intro h4; (iterate 19 refine t_off rfl rfl rfl ?_ rfl); refine t_q rfl rfl ?_ rfl; refine t_e' ?_; refine w_yes rfl ?_; refine w_h ?_; refine t_a rfl ?_ rfl; refine t_e ?_; refine w_r ?_; refine x_block_ret ?_; (iterate 2 refine x_t ?_); refine x_block_ret ?_; refine x_t ?_; refine x_ret1 rfl rfl ?_; exact ⟨ret_bool (by rw [wellFormed, all_no hlt3 (by rw [hJ, decide_eq_false (by omega)]; rfl)]; simp), ext_trans X0 B⟩
    intro h4; refine t_on rfl rfl ?_; refine t_y fb_part_3 rfl rfl ?_ rfl; refine t_on rfl rfl ?_; refine t_bx1 S.box ab_s_hop rfl rfl ?_ rfl; refine t_on rfl rfl ?_; refine t_y fb_part_3 rfl rfl ?_ rfl; refine t_on rfl rfl ?_; refine t_bx1 S.box ab_s_hop rfl rfl ?_ rfl; refine t_on rfl rfl ?_; refine t_len e_hop ‹_› rfl rfl ?_ rfl; refine t_on rfl rfl ?_; refine t_sub rfl rfl (by omega) ?_ rfl; refine t_on rfl rfl ?_; refine t_idx e_hop (k := (e33.hops.length - 1)) ‹_› he53 B rfl rfl (by first | rfl | omega) ?_ rfl; intro p53 hp53; refine t_on rfl rfl ?_; refine t_fld ln_hop_0 ‹_› fb_hop_0 rfl ?_ rfl; intro p54 hp54; refine t_on rfl rfl ?_; refine t_ldi ‹_› ab_int B rfl ?_ rfl; refine t_on rfl rfl ?_; refine t_fld ln_path_0 ‹_› fb_path_0 rfl ?_ rfl; intro p56 hp56; refine t_on rfl rfl ?_; refine t_lds ‹_› ab_s_part B rfl ?_ rfl; intro v57 hv57; refine t_on rfl rfl ?_; refine t_m rfl ?_ rfl; refine t_on rfl rfl ?_; refine t_idx e_part (k := k) ‹_› he23 B rfl rfl (by first | rfl | omega) ?_ rfl; intro p59 hp59; refine t_on rfl rfl ?_; refine t_fld ln_part_3 ‹_› fb_part_3 rfl ?_ rfl; intro p60 hp60; refine t_on rfl rfl ?_; refine t_lds ‹_› ab_s_hop B rfl ?_ rfl; intro v61 hv61
    refine t_on rfl rfl ?_; refine t_idx e_hop (k := 0) ‹_› he62 B rfl rfl (by first | rfl | omega) ?_ rfl; intro p62 hp62; refine t_on rfl rfl ?_; refine t_fld ln_hop_0 ‹_› fb_hop_0 rfl ?_ rfl; intro p63 hp63; refine t_on rfl rfl ?_; refine t_ldi ‹_› ab_int B rfl ?_ rfl; refine t_on rfl rfl ?_; refine t_neq rfl rfl ?_ rfl; refine t_p rfl rfl ?_ rfl; refine t_e' ?_; refine w_if rfl ?_ ?_
    ·intro h5; refine w_h ?_; refine t_a rfl ?_ rfl; refine t_e ?_; refine w_r ?_; refine x_block_ret ?_; (iterate 2 refine x_t ?_); refine x_block_ret ?_; refine x_t ?_; refine x_ret1 rfl rfl ?_; exact ⟨ret_bool (by rw [wellFormed, all_no hlt3 (by rw [hJ, decide_eq_false h5]; simp)]; simp), ext_trans X0 B⟩
    intro h5; refine w_k ?_; refine x_b ?_; refine x_s ?_; refine w_g ?_; refine t_m rfl ?_ rfl; refine t_add rfl rfl (by omega) ?_ rfl; refine t_a rfl ?_ rfl; refine t_d ?_; have S := S.tail; refine x_r (X := Nat) (k + 1) ?_ (by exact ⟨rfl, rfl, rfl, trivial⟩) (by (try dsimp only); omega); (try dsimp only); refine ⟨by omega, ha2, fun j hj => ?_, B, S⟩; refine upto_succ (k := k - 1) hb ?_ j (by omega); rw [hJ, decide_eq_true (by omega), decide_eq_true (by omega)]
    rfl
   ·intro h3; refine w_k ?_; refine x_b ?_; refine x_s ?_; refine w_g ?_; refine t_m rfl ?_ rfl; refine t_add rfl rfl (by omega) ?_ rfl; refine t_a rfl ?_ rfl; refine t_d ?_; refine x_r (X := Nat) (k + 1) ?_ (by exact ⟨rfl, rfl, rfl, trivial⟩) (by (try dsimp only); omega); (try dsimp only); exact ⟨by omega, ha2, fun j hj => by omega, B, S⟩
  ·intro hge; refine w_exit ?_; (iterate 2 refine x_then_exit ?_); refine x_block_exit ?_; refine x_s ?_; refine w_h ?_; refine t_a rfl ?_ rfl; refine t_e ?_; refine w_r ?_; refine x_ret1 rfl rfl ?_; exact ⟨ret_bool (by rw [wellFormed, h1', allF_end (by omega) ha, all_ok fun j hj => hb j (by omega)]; rfl), ext_trans X0 B⟩
theorem fresh_eq {l : List Int} {k : Nat} {x : Int} (h : l[k]? = some x) : fresh l k = !(l.take k).contains x := by unfold fresh; rw [h]
theorem impl_SimplePath (t : Topo) (v : Value) (p : Path) (u : Value) (w : World) (h : VA topoT w v t) (hp : VA pathT w u p) (hz : sz_topo t ≤ 1048576) (hz' : sz_path p ≤ 1048576) (hl : lenOk_path p) (hg : rng_path p) : Calls Tryz.prog 112 #[v, u] w fun e w' => e = .returned (.bool (simplePath t p)) ∧ Below w.heap.size w w' := by
 have hsl := pathSteps_len p; have hnl := nums_len (pathSteps p); have X0 := Below.refl w.heap.size w; refine enter Tryz.func112 rfl Tryz.ntmps112 rfl ?_; refine w_h ?_; refine t_boxr ‹_› rfl ?_ rfl rfl; intro p2 w33 x34 hp2; replace h := h.below x34; replace hp := hp.below x34; have X0 := ext_trans X0 x34; refine t_boxr ‹_› rfl ?_ rfl rfl; intro p3 w35 x36 hp3; replace h := h.below x36; replace hp := hp.below x36; replace hp2 := hp2.below x36; have X0 := ext_trans X0 x36; have S := Sep.nil w35; have B := Below.refl w35.heap.size w35; have Hb := Nat.le_refl w35.heap.size; refine t_a rfl ?_ rfl; refine t_e ?_; (iterate 2 refine w_s ?_); refine w_g ?_; refine t_lda ‹_› ab_topo sb_topo B rfl ?_ rfl; intro v8 hv8; obtain ⟨v8_0, v8_1, rfl, hv8_0, hv8_1⟩ := topo_va hv8; refine t_lda ‹_› ab_path sb_path B rfl ?_ rfl; intro v9 hv9; obtain ⟨v9_0, rfl, hv9_0⟩ := path_va hv9
 refine t_x Tryz.call57 rfl (impl_WellFormedPath _ _ _ _ _ (by first | assumption | exact VA.below ‹_› B | exact topo_mkv (by first | assumption | exact SlR.below ‹_› B) (by first | assumption | exact SlR.below ‹_› B)) (by first | assumption | exact VA.below ‹_› B | exact path_mkv (by first | assumption | exact SlR.below ‹_› B)) (by omega) (by omega)) ?_ rfl rfl; intro w37 x38; have B := bx Hb B x38; have S := S.below x38; refine t_notb rfl ?_ rfl; refine t_e ?_; refine w_ifb rfl ?_ ?_
 ·intro h1; refine w_h ?_; refine t_a rfl ?_ rfl; refine t_e ?_; refine w_r ?_; refine x_t ?_; refine x_ret1 rfl rfl ?_; exact ⟨ret_bool (by simp at h1; simp [simplePath, h1]), ext_trans X0 B⟩
 intro h1
 have h1' : wellFormed t p = true := by simpa using h1
 refine w_k ?_; refine x_s ?_; refine w_h ?_; refine t_lda ‹_› ab_path sb_path B rfl ?_ rfl; intro v12 hv12; obtain ⟨v12_0, rfl, hv12_0⟩ := path_va hv12; refine t_c Tryz.call44 rfl (va1 (by first | assumption | exact VA.below ‹_› B | exact path_mkv (by first | assumption | exact SlR.below ‹_› B)) fun cs h => impl_InterfacesUsed _ cs _ h (by omega) ‹_› ‹_›) ?_ rfl rfl; rintro e w39 ⟨v13, fpv13, rfl, hOv13, x40⟩; refine ⟨_, rfl, x40, ?_⟩; have S := S.add (o := slO _ _ _ _) x40 hOv13; have B := bx Hb B x40; refine t_a rfl ?_ rfl; refine t_e ?_; (iterate 2 refine w_s ?_); refine w_g ?_; refine t_m rfl ?_ rfl; refine t_len e_int (S.sl) rfl rfl ?_ rfl; refine t_m rfl ?_ rfl; refine t_e ?_; refine w_block ?_; refine w_loop (X := Nat) (fun k wq => k ≤ (nums (pathSteps p)).length ∧ (∀ j, j < k → fresh (nums (pathSteps p)) j = true) ∧ Below w35.heap.size w35 wq ∧ Sep w35.heap.size wq [slO intT 3 v13 (nums (pathSteps p))]) (fun k => [(16, I ((k : Int))), (5, v13), (14, v13), (15, I (((nums (pathSteps p)).length : Int)))]) (fun k => (nums (pathSteps p)).length - k) (0) ?_ ⟨rfl, rfl, rfl, rfl, trivial⟩ ?_
 ·exact ⟨by omega, by omega, B, S⟩
 ·rintro k w41 hI; (try dsimp only at hI ⊢); obtain ⟨hk, ha, B, S⟩ := hI
  have htl : ((nums (pathSteps p)).take k).length ≤ 16777216 := by rw [List.length_take]; omega
  refine w_h ?_; refine t_lss rfl rfl ?_ rfl; refine t_e ?_; refine w_s ?_; refine w_if rfl ?_ ?_
  ·intro hlt; refine w_k ?_; refine x_s ?_; refine w_s ?_; refine w_block ?_; refine w_h ?_; refine t_m rfl ?_ rfl; obtain ⟨e19, he19⟩ : ∃ e, (nums (pathSteps p))[k]? = some e := getx (by omega); refine t_idx e_int (k := k) (S.sl) he19 (Below.refl _ _) rfl rfl (by first | rfl | omega) ?_ rfl; intro p19 hp19; refine t_ldi ‹_› ab_int (Below.refl _ _) rfl ?_ rfl; (iterate 2 refine t_a rfl ?_ rfl); refine t_k ?_; (iterate 2 refine t_m rfl ?_ rfl); refine t_slt e_int (k := k) (S.sl) rfl rfl (by first | rfl | omega) (by omega) ?_ rfl; intro v23 hv23; refine t_m rfl ?_ rfl; refine t_calls Tryz.call80 rfl (impl_hasInt _ _ _ _ (by first | assumption | exact SlR.below ‹_› B) (by (try rw [List.length_take]); (try rw [List.length_map]); omega)) ?_ rfl rfl; refine t_e ?_; have hF := fresh_eq he19; refine w_ifb rfl ?_ ?_
   ·intro h2; refine w_h ?_; refine t_a rfl ?_ rfl; refine t_e ?_; refine w_r ?_; refine x_block_ret ?_; (iterate 2 refine x_t ?_); refine x_block_ret ?_; refine x_t ?_; refine x_ret1 rfl rfl ?_; exact ⟨ret_bool (by rw [simplePath, all_no (k := k) (by omega) (by rw [hF, h2]; rfl)]; simp), ext_trans X0 B⟩
   ·intro h2; refine w_k ?_; refine x_b ?_; refine x_s ?_; refine w_g ?_; refine t_add rfl rfl (by omega) ?_ rfl; refine t_m rfl ?_ rfl; refine t_d ?_; refine x_r (X := Nat) (k + 1) ?_ (by exact ⟨rfl, rfl, rfl, rfl, trivial⟩) (by (try dsimp only); omega); (try dsimp only); exact ⟨by omega, upto_succ ha (by rw [hF, h2]; rfl), B, S⟩
  ·intro hge; refine w_exit ?_; (iterate 2 refine x_then_exit ?_); refine x_block_exit ?_; refine x_s ?_; refine w_h ?_; refine t_a rfl ?_ rfl; refine t_e ?_; refine w_r ?_; refine x_ret1 rfl rfl ?_; exact ⟨ret_bool (by rw [simplePath, h1', all_ok fun j hj => ha j (by omega)]; rfl), ext_trans X0 B⟩
theorem spec_SimplePath (t : Topo) (v : Value) (p : Path) (u : Value) (w : World) (h : VA topoT w v t) (hp : VA pathT w u p) (hz : sz_topo t ≤ 1048576) (hz' : sz_path p ≤ 1048576) (hl : lenOk_path p) (hg : rng_path p) : Calls Tryz.prog 115 #[v, u] w fun e w' => e = .returned (.bool (simplePath t p)) ∧ Below w.heap.size w w' := by
 have hsl := pathSteps_len p; have hnl := nums_len (pathSteps p); have X0 := Below.refl w.heap.size w; refine enter Tryz.func115 rfl Tryz.ntmps115 rfl ?_; refine w_h ?_; refine t_boxr ‹_› rfl ?_ rfl rfl; intro p2 w42 x43 hp2; replace h := h.below x43; replace hp := hp.below x43; have X0 := ext_trans X0 x43; refine t_boxr ‹_› rfl ?_ rfl rfl; intro p3 w44 x45 hp3; replace h := h.below x45; replace hp := hp.below x45; replace hp2 := hp2.below x45; have X0 := ext_trans X0 x45; have S := Sep.nil w44; have B := Below.refl w44.heap.size w44; have Hb := Nat.le_refl w44.heap.size; refine t_a rfl ?_ rfl; refine t_e ?_; (iterate 2 refine w_s ?_); refine w_g ?_; refine t_lda ‹_› ab_topo sb_topo B rfl ?_ rfl; intro v7 hv7; obtain ⟨v7_0, v7_1, rfl, hv7_0, hv7_1⟩ := topo_va hv7; refine t_lda ‹_› ab_path sb_path B rfl ?_ rfl; intro v8 hv8; obtain ⟨v8_0, rfl, hv8_0⟩ := path_va hv8
 refine t_x Tryz.call159 rfl (spec_WellFormedPath _ _ _ _ _ (by first | assumption | exact VA.below ‹_› B | exact topo_mkv (by first | assumption | exact SlR.below ‹_› B) (by first | assumption | exact SlR.below ‹_› B)) (by first | assumption | exact VA.below ‹_› B | exact path_mkv (by first | assumption | exact SlR.below ‹_› B)) (by omega) (by omega)) ?_ rfl rfl; intro w46 x47; have B := bx Hb B x47; have S := S.below x47; refine t_notb rfl ?_ rfl; refine t_e ?_; refine w_ifb rfl ?_ ?_
 ·intro h1; refine w_h ?_; refine t_a rfl ?_ rfl; refine t_e ?_; refine w_r ?_; refine x_t ?_; refine x_ret1 rfl rfl ?_; exact ⟨ret_bool (by simp at h1; simp [simplePath, h1]), ext_trans X0 B⟩
 intro h1
 have h1' : wellFormed t p = true := by simpa using h1
 refine w_k ?_; refine x_s ?_; refine w_h ?_; refine t_lda ‹_› ab_path sb_path B rfl ?_ rfl; intro v11 hv11; obtain ⟨v11_0, rfl, hv11_0⟩ := path_va hv11; refine t_c Tryz.call81 rfl (va1 (by first | assumption | exact VA.below ‹_› B | exact path_mkv (by first | assumption | exact SlR.below ‹_› B)) fun cs h => spec_InterfacesUsed _ cs _ h (by omega) ‹_› ‹_›) ?_ rfl rfl; rintro e w48 ⟨v12, fpv12, rfl, hOv12, x49⟩; refine ⟨_, rfl, x49, ?_⟩; have S := S.add (o := slO _ _ _ _) x49 hOv12; have B := bx Hb B x49; refine t_a rfl ?_ rfl; refine t_e ?_; (iterate 2 refine w_s ?_); refine w_g ?_; refine t_a rfl ?_ rfl; refine t_e ?_; refine w_block ?_; refine w_loop (X := Nat) (fun k wq => k ≤ (nums (pathSteps p)).length ∧ (∀ j, j < k → fresh (nums (pathSteps p)) j = true) ∧ Below w44.heap.size w44 wq ∧ Sep w44.heap.size wq [slO intT 3 v12 (nums (pathSteps p))]) (fun k => [(6, I ((k : Int))), (5, v12)]) (fun k => (nums (pathSteps p)).length - k) (0) ?_ ⟨rfl, rfl, trivial⟩ ?_
 ·exact ⟨by omega, by omega, B, S⟩
 ·rintro k w50 hI; (try dsimp only at hI ⊢); obtain ⟨hk, ha, B, S⟩ := hI
  have htl : ((nums (pathSteps p)).take k).length ≤ 16777216 := by rw [List.length_take]; omega
  (iterate 2 refine w_s ?_); refine w_g ?_; (iterate 2 refine t_m rfl ?_ rfl); refine t_len e_int (S.sl) rfl rfl ?_ rfl; refine t_lss rfl rfl ?_ rfl; refine t_e ?_; refine w_if rfl ?_ ?_
  ·intro hlt; refine w_k ?_; refine x_s ?_; refine w_s ?_; refine w_block ?_; refine w_s ?_; refine w_draw (.st .take 0 (.st .take 1 (.st .take 2 (.st .take 3 (.st .take 4 (.st .take 5 (.st .take 6 (.st .run 7 .done)))))))) mixed (by kernel_rfl) ?_; intro w51 x52; have B := bx Hb B x52; have S := S.below x52; (iterate 2 refine t_m rfl ?_ rfl); refine t_slt e_int (k := k) (S.sl) rfl rfl (by first | rfl | omega) (by omega) ?_ rfl; intro v21 hv21; (iterate 2 refine t_m rfl ?_ rfl); obtain ⟨e24, he24⟩ : ∃ e, (nums (pathSteps p))[k]? = some e := getx (by omega); refine t_idx e_int (k := k) (S.sl) he24 (Below.refl _ _) rfl rfl (by first | rfl | omega) ?_ rfl; intro p24 hp24; refine t_ldi ‹_› ab_int (Below.refl _ _) rfl ?_ rfl; refine t_calls Tryz.call82 rfl (spec_l9Has _ _ _ _ (by first | assumption | exact SlR.below ‹_› B) (by (try rw [List.length_take]); (try rw [List.length_map]); omega)) ?_ rfl rfl; refine t_e' ?_; have hF := fresh_eq he24; refine w_ifb rfl ?_ ?_
   ·intro h2; refine w_h ?_; refine t_a rfl ?_ rfl; refine t_e ?_; refine w_r ?_; refine x_block_ret ?_; (iterate 2 refine x_t ?_); refine x_block_ret ?_; refine x_t ?_; refine x_ret1 rfl rfl ?_; exact ⟨ret_bool (by rw [simplePath, all_no (k := k) (by omega) (by rw [hF, h2]; rfl)]; simp), ext_trans X0 B⟩
   ·intro h2; refine w_k ?_; refine x_b ?_; refine x_s ?_; refine w_g ?_; refine t_m rfl ?_ rfl; refine t_add rfl rfl (by omega) ?_ rfl; refine t_a rfl ?_ rfl; refine t_d ?_; refine x_r (X := Nat) (k + 1) ?_ (by exact ⟨rfl, rfl, trivial⟩) (by (try dsimp only); omega); (try dsimp only); exact ⟨by omega, upto_succ ha (by rw [hF, h2]; rfl), B, S⟩
  ·intro hge; refine w_exit ?_; (iterate 2 refine x_then_exit ?_); refine x_block_exit ?_; refine x_s ?_; refine w_h ?_; refine t_a rfl ?_ rfl; refine t_e ?_; refine w_r ?_; refine x_ret1 rfl rfl ?_; exact ⟨ret_bool (by rw [simplePath, h1', all_ok fun j hj => ha j (by omega)]; rfl), ext_trans X0 B⟩
theorem least_le (now : Int) (hs : List Hop) : hs ≠ [] → (now ≤ leastE hs ↔ ∀ h ∈ hs, now ≤ h.exp) := by
  suffices H : ∀ n (hs : List Hop), hs.length = n → hs ≠ [] → (now ≤ leastE hs ↔ ∀ h ∈ hs, now ≤ h.exp) from H _ hs rfl
  intro n
  induction n with
  | zero => intro hs hl hne; exact absurd (List.eq_nil_of_length_eq_zero hl) hne
  | succ n ih =>
    intro hs hl hne
    rcases List.eq_nil_or_concat hs with h1 | ⟨t, x, h1⟩
    · exact absurd h1 hne
    · rw [List.concat_eq_append] at h1
      subst h1
      by_cases ht : t = []
      · subst ht
        simp [leastE_first]
      · have h2 := ih t (by simp at hl; exact hl) ht
        rw [leastE_snoc x ht]
        constructor
        · intro h h3 hm
          rcases List.mem_append.1 hm with hm | hm
          · refine h2.1 ?_ h3 hm
            split at h <;> omega
          · rw [List.mem_singleton] at hm
            subst hm
            split at h <;> omega
        · intro h
          have h4 := h2.2 fun y hy => h y (List.mem_append.2 (.inl hy))
          have h5 := h x (List.mem_append.2 (.inr (List.mem_singleton.2 rfl)))
          split <;> omega
theorem wf_partsU {t : Topo} {p : Path} (h : simplePath t p = true) {k : Nat} {x : Part} (hx : p[k]? = some x) : 1 ≤ x.hops.length := by
  unfold simplePath wellFormed at h
  simp only [Bool.and_eq_true, List.all_eq_true] at h
  exact valid_len (h.1.1.2 x (List.mem_of_getElem? hx))
theorem partNow_no {now : Int} {x : Part} {k : Nat} {y : Hop} (hy : x.hops[k]? = some y) (h : y.exp < now) : partNow now x = false := by
  unfold partNow
  have hm := List.mem_of_getElem? hy
  have : ¬ now ≤ leastE x.hops := fun hc => by
    have := (least_le now x.hops (List.ne_nil_of_mem hm)).1 hc y hm
    omega
  rw [decide_eq_false this, Bool.and_false]
theorem partNow_yes {now : Int} {x : Part} (h0 : 1 ≤ x.hops.length) (hts : x.ts ≤ now) (h : ∀ y ∈ x.hops, now ≤ y.exp) : partNow now x = true := by
  unfold partNow
  rw [decide_eq_true hts, decide_eq_true ((least_le now x.hops (by intro h1; rw [h1] at h0; simp at h0)).2 h)]
  rfl
theorem spec_HopNow (x : Hop) (now : Int) (w : World) : Calls Tryz.prog 117 #[.agg #[I x.ia, I x.ing, I x.eg, I x.exp, I x.mac], I now] w fun e w' => e = .returned (.bool (decide (now ≤ x.exp))) ∧ Below w.heap.size w w' := by
  have hx := hop_mkv w x; have X0 := Below.refl w.heap.size w; refine enter Tryz.func117 rfl Tryz.ntmps117 rfl ?_; refine w_h ?_; refine t_boxr ‹_› rfl ?_ rfl rfl; intro p2 w1 x2 hp2; replace hx := hx.below x2; have X0 := ext_trans X0 x2; have S := Sep.nil w1; have B := Below.refl w1.heap.size w1; have Hb := Nat.le_refl w1.heap.size; refine t_a rfl ?_ rfl; refine t_k ?_; refine t_m rfl ?_ rfl; refine t_fld ln_hop_3 ‹_› fb_hop_3 rfl ?_ rfl; intro p6 hp6; refine t_ldi ‹_› ab_int B rfl ?_ rfl; refine t_leq rfl rfl ?_ rfl; refine t_a rfl ?_ rfl; refine t_e ?_; refine w_r ?_; refine x_ret1 rfl rfl ?_; exact ⟨rfl, ext_trans X0 B⟩
theorem impl_PathUsable (t : Topo) (v : Value) (p : Path) (u : Value) (now : Int) (w : World) (h : VA topoT w v t) (hp : VA pathT w u p) (hz : sz_topo t ≤ 1048576) (hz' : sz_path p ≤ 1048576) (hl : lenOk_path p) (hg : rng_path p) : Calls Tryz.prog 58 #[v, u, I now] w fun e w' => e = .returned (.bool (usable t p now)) ∧ Below w.heap.size w w' := by
 have hpl : List.length p ≤ sz_path p := by show List.length p ≤ List.length p + _; omega
 have X0 := Below.refl w.heap.size w; refine enter Tryz.func58 rfl Tryz.ntmps58 rfl ?_; refine w_h ?_; refine t_boxr ‹_› rfl ?_ rfl rfl; intro p3 w3 x4 hp3; replace h := h.below x4; replace hp := hp.below x4; have X0 := ext_trans X0 x4; refine t_boxr ‹_› rfl ?_ rfl rfl; intro p4 w5 x6 hp4; replace h := h.below x6; replace hp := hp.below x6; replace hp3 := hp3.below x6; have X0 := ext_trans X0 x6; have S := Sep.nil w5; have B := Below.refl w5.heap.size w5; have Hb := Nat.le_refl w5.heap.size; refine t_a rfl ?_ rfl; refine t_e ?_; (iterate 2 refine w_s ?_); refine w_g ?_; refine t_lda ‹_› ab_topo sb_topo B rfl ?_ rfl; intro v9 hv9; obtain ⟨v9_0, v9_1, rfl, hv9_0, hv9_1⟩ := topo_va hv9; refine t_lda ‹_› ab_path sb_path B rfl ?_ rfl; intro v10 hv10; obtain ⟨v10_0, rfl, hv10_0⟩ := path_va hv10; refine t_x Tryz.call112 rfl (impl_SimplePath _ _ _ _ _ (by first | assumption | exact VA.below ‹_› B | exact topo_mkv (by first | assumption | exact SlR.below ‹_› B) (by first | assumption | exact SlR.below ‹_› B)) (by first | assumption | exact VA.below ‹_› B | exact path_mkv (by first | assumption | exact SlR.below ‹_› B)) (by omega) (by omega) ‹_› ‹_›) ?_ rfl rfl; intro w7 x8
 have B := bx Hb B x8; have S := S.below x8; refine t_notb rfl ?_ rfl; refine t_m rfl ?_ rfl; refine t_part (t := 13) rfl ?_ ?_
 ·intro h1; (iterate 4 refine t_off rfl rfl rfl ?_ rfl); refine t_q rfl rfl ?_ rfl; refine t_e ?_; refine w_yes rfl ?_; refine w_h ?_; refine t_a rfl ?_ rfl; refine t_e ?_; refine w_r ?_; refine x_t ?_; refine x_ret1 rfl rfl ?_; exact ⟨ret_bool (by simp at h1; simp [usable, h1]), ext_trans X0 B⟩
 intro h1
 have h1' : simplePath t p = true := by simpa using h1
 refine t_on rfl rfl ?_; refine t_lda ‹_› ab_topo sb_topo B rfl ?_ rfl; intro v14 hv14; obtain ⟨v14_0, v14_1, rfl, hv14_0, hv14_1⟩ := topo_va hv14; refine t_on rfl rfl ?_; refine t_lda ‹_› ab_path sb_path B rfl ?_ rfl; intro v15 hv15; obtain ⟨v15_0, rfl, hv15_0⟩ := path_va hv15; refine t_on rfl rfl ?_; refine t_x Tryz.call56 rfl (impl_VerifyPath _ _ _ _ _ (by first | assumption | exact VA.below ‹_› B | exact topo_mkv (by first | assumption | exact SlR.below ‹_› B) (by first | assumption | exact SlR.below ‹_› B)) (by first | assumption | exact VA.below ‹_› B | exact path_mkv (by first | assumption | exact SlR.below ‹_› B)) (by omega) (by omega)) ?_ rfl rfl; intro w9 x10; have B := bx Hb B x10; have S := S.below x10; refine t_on rfl rfl ?_; refine t_notb rfl ?_ rfl; refine t_p rfl rfl ?_ rfl; refine t_e ?_; refine w_ifb rfl ?_ ?_
 ·intro h2; refine w_h ?_; refine t_a rfl ?_ rfl; refine t_e ?_; refine w_r ?_; refine x_t ?_; refine x_ret1 rfl rfl ?_; exact ⟨ret_bool (by simp at h2; simp [usable, h2]), ext_trans X0 B⟩
 intro h2
 have h2' : verifyPath t p = true := by simpa using h2
 refine w_k ?_; refine x_s ?_; (iterate 2 refine w_s ?_); refine w_g ?_; refine t_fld ln_path_0 ‹_› fb_path_0 rfl ?_ rfl; intro p19 hp19; refine t_lds ‹_› ab_s_part B rfl ?_ rfl; intro v20 hv20; refine t_len e_part ‹_› rfl rfl ?_ rfl; refine t_m rfl ?_ rfl; refine t_e ?_; refine w_block ?_; refine w_loop (X := Nat) (fun k wq => k ≤ List.length p ∧ (p.take k).all (partNow now) = true ∧ Below w5.heap.size w5 wq ∧ Sep w5.heap.size wq []) (fun k => [(22, I ((k : Int))), (2, I now), (20, v20), (21, I ((p.length : Int)))]) (fun k => List.length p - k) (0) ?_ ⟨rfl, rfl, rfl, rfl, trivial⟩ ?_
 ·exact ⟨by omega, rfl, B, S⟩
 ·rintro k w11 hI; (try dsimp only at hI ⊢); obtain ⟨hk, ha, B, S⟩ := hI; refine w_h ?_; refine t_lss rfl rfl ?_ rfl; refine t_e ?_; refine w_s ?_; refine w_if rfl ?_ ?_
  ·intro hlt; obtain ⟨e24, he24⟩ : ∃ e, p[k]? = some e := getx (by omega); have hhl := hops_sz he24; refine w_k ?_; refine x_s ?_; refine w_s ?_; refine w_block ?_; refine w_h ?_; refine t_idx e_part (k := k) ‹_› he24 B rfl rfl (by first | rfl | omega) ?_ rfl; intro p24 hp24; refine t_lda ‹_› ab_part sb_part B rfl ?_ rfl; intro v25 hv25; obtain ⟨v25_3, rfl, hv25_3⟩ := part_va hv25; refine t_w S z_part rfl ?_ rfl rfl; intro g8 w12 x13 S; have B := bx Hb B x13; refine t_stn S sb_part rfl rfl rfl rfl (by repeat first | exact oc0 | refine oc rfl ?_ | refine oc (SlR.cells ‹_›).2 ?_) ?_; intro w14 b15 S; have B := B.trans b15; refine t_k ?_; refine t_y fb_part_1 rfl rfl ?_ rfl; refine t_bx1 S.box ab_int rfl rfl ?_ rfl; refine t_m rfl ?_ rfl; refine t_gtr rfl rfl ?_ rfl; refine t_m rfl ?_ rfl; refine t_partp (t := 30) rfl ?_ ?_
   ·intro h3; (iterate 5 refine t_off rfl rfl rfl ?_ rfl); refine t_q rfl rfl ?_ rfl; refine t_e ?_; refine w_yes rfl ?_; refine w_h ?_; refine t_a rfl ?_ rfl; refine t_e ?_; refine w_r ?_; refine x_block_ret ?_; (iterate 2 refine x_t ?_); refine x_block_ret ?_; refine x_t ?_; refine x_ret1 rfl rfl ?_; exact ⟨ret_bool (by rw [usable, allF_bad he24 (by unfold partNow; rw [decide_eq_false (by omega)]; rfl)]; simp), ext_trans X0 B⟩
   intro h3; refine t_on rfl rfl ?_; refine t_m rfl ?_ rfl; refine t_on rfl rfl ?_; refine t_y fb_part_3 rfl rfl ?_ rfl; refine t_on rfl rfl ?_; refine t_bx1 S.box ab_s_hop rfl rfl ?_ rfl; refine t_on rfl rfl ?_; refine t_x Tryz.call84 rfl (impl_leastExpiry _ _ _ (by first | assumption | exact SlR.below ‹_› B) (by omega)) ?_ rfl rfl; intro w16 x17; have B := bx Hb B x17; have S := S.below x17; refine t_on rfl rfl ?_; refine t_gtr rfl rfl ?_ rfl; refine t_p rfl rfl ?_ rfl; refine t_e ?_; refine w_if rfl ?_ ?_
   ·intro h4; refine w_h ?_; refine t_a rfl ?_ rfl; refine t_e ?_; refine w_r ?_; refine x_block_ret ?_; (iterate 2 refine x_t ?_); refine x_block_ret ?_; refine x_t ?_; refine x_ret1 rfl rfl ?_; exact ⟨ret_bool (by rw [usable, allF_bad he24 (by unfold partNow; rw [decide_eq_false (p := now ≤ _) (by omega)]; simp)]; simp), ext_trans X0 B⟩
   intro h4; refine w_k ?_; refine x_b ?_; refine x_s ?_; refine w_g ?_; refine t_add rfl rfl (by omega) ?_ rfl; refine t_m rfl ?_ rfl; refine t_d ?_; have S := S.tail; refine x_r (X := Nat) (k + 1) ?_ (by exact ⟨rfl, rfl, rfl, rfl, trivial⟩) (by (try dsimp only); omega); (try dsimp only); exact ⟨by omega, allF_succ he24 ha (by unfold partNow; rw [decide_eq_true (by omega), decide_eq_true (by omega)]; rfl), B, S⟩
  ·intro hge; refine w_exit ?_; (iterate 2 refine x_then_exit ?_); refine x_block_exit ?_; refine x_s ?_; refine w_h ?_; refine t_a rfl ?_ rfl; refine t_e ?_; refine w_r ?_; refine x_ret1 rfl rfl ?_; exact ⟨ret_bool (by rw [usable, h1', h2', allF_end (by omega) ha]; rfl), ext_trans X0 B⟩
theorem spec_PathUsable (t : Topo) (v : Value) (p : Path) (u : Value) (now : Int) (w : World) (h : VA topoT w v t) (hp : VA pathT w u p) (hz : sz_topo t ≤ 1048576) (hz' : sz_path p ≤ 1048576) (hl : lenOk_path p) (hg : rng_path p) : Calls Tryz.prog 62 #[v, u, I now] w fun e w' => e = .returned (.bool (usable t p now)) ∧ Below w.heap.size w w' := by
 have hpl : List.length p ≤ sz_path p := by show List.length p ≤ List.length p + _; omega
 have X0 := Below.refl w.heap.size w; refine enter Tryz.func62 rfl Tryz.ntmps62 rfl ?_; refine w_h ?_; refine t_boxr ‹_› rfl ?_ rfl rfl; intro p3 w18 x19 hp3; replace h := h.below x19; replace hp := hp.below x19; have X0 := ext_trans X0 x19; refine t_boxr ‹_› rfl ?_ rfl rfl; intro p4 w20 x21 hp4; replace h := h.below x21; replace hp := hp.below x21; replace hp3 := hp3.below x21; have X0 := ext_trans X0 x21; have S := Sep.nil w20; have B := Below.refl w20.heap.size w20; have Hb := Nat.le_refl w20.heap.size; refine t_a rfl ?_ rfl; refine t_e ?_; (iterate 2 refine w_s ?_); refine w_g ?_; refine t_lda ‹_› ab_topo sb_topo B rfl ?_ rfl; intro v9 hv9; obtain ⟨v9_0, v9_1, rfl, hv9_0, hv9_1⟩ := topo_va hv9; refine t_lda ‹_› ab_path sb_path B rfl ?_ rfl; intro v10 hv10; obtain ⟨v10_0, rfl, hv10_0⟩ := path_va hv10; refine t_x Tryz.call115 rfl (spec_SimplePath _ _ _ _ _ (by first | assumption | exact VA.below ‹_› B | exact topo_mkv (by first | assumption | exact SlR.below ‹_› B) (by first | assumption | exact SlR.below ‹_› B)) (by first | assumption | exact VA.below ‹_› B | exact path_mkv (by first | assumption | exact SlR.below ‹_› B)) (by omega) (by omega) ‹_› ‹_›) ?_ rfl rfl; intro w22 x23
 have B := bx Hb B x23; have S := S.below x23; refine t_notb rfl ?_ rfl; refine t_m rfl ?_ rfl; refine t_part (t := 13) rfl ?_ ?_
 ·intro h1; (iterate 4 refine t_off rfl rfl rfl ?_ rfl); refine t_q rfl rfl ?_ rfl; refine t_e ?_; refine w_yes rfl ?_; refine w_h ?_; refine t_a rfl ?_ rfl; refine t_e ?_; refine w_r ?_; refine x_t ?_; refine x_ret1 rfl rfl ?_; exact ⟨ret_bool (by simp at h1; simp [usable, h1]), ext_trans X0 B⟩
 intro h1
 have h1' : simplePath t p = true := by simpa using h1
 refine t_on rfl rfl ?_; refine t_lda ‹_› ab_topo sb_topo B rfl ?_ rfl; intro v14 hv14; obtain ⟨v14_0, v14_1, rfl, hv14_0, hv14_1⟩ := topo_va hv14; refine t_on rfl rfl ?_; refine t_lda ‹_› ab_path sb_path B rfl ?_ rfl; intro v15 hv15; obtain ⟨v15_0, rfl, hv15_0⟩ := path_va hv15; refine t_on rfl rfl ?_; refine t_x Tryz.call116 rfl (spec_VerifyPath _ _ _ _ _ (by first | assumption | exact VA.below ‹_› B | exact topo_mkv (by first | assumption | exact SlR.below ‹_› B) (by first | assumption | exact SlR.below ‹_› B)) (by first | assumption | exact VA.below ‹_› B | exact path_mkv (by first | assumption | exact SlR.below ‹_› B)) (by omega) (by omega)) ?_ rfl rfl; intro w24 x25; have B := bx Hb B x25; have S := S.below x25; refine t_on rfl rfl ?_; refine t_notb rfl ?_ rfl; refine t_p rfl rfl ?_ rfl; refine t_e ?_; refine w_ifb rfl ?_ ?_
 ·intro h2; refine w_h ?_; refine t_a rfl ?_ rfl; refine t_e ?_; refine w_r ?_; refine x_t ?_; refine x_ret1 rfl rfl ?_; exact ⟨ret_bool (by simp at h2; simp [usable, h2]), ext_trans X0 B⟩
 intro h2
 have h2' : verifyPath t p = true := by simpa using h2
 refine w_k ?_; refine x_s ?_; (iterate 2 refine w_s ?_); refine w_g ?_; refine t_a rfl ?_ rfl; refine t_e ?_; refine w_block ?_; refine w_loop (X := Nat) (fun k wq => k ≤ List.length p ∧ (p.take k).all (partNow now) = true ∧ Below w20.heap.size w20 wq ∧ Sep w20.heap.size wq []) (fun k => [(7, I ((k : Int))), (2, I now), (4, p4)]) (fun k => List.length p - k) (0) ?_ ⟨rfl, rfl, rfl, trivial⟩ ?_
 ·exact ⟨by omega, rfl, B, S⟩
 ·rintro k w26 hI; (try dsimp only at hI ⊢); obtain ⟨hk, ha, B, S⟩ := hI; (iterate 2 refine w_s ?_); refine w_g ?_; refine t_m rfl ?_ rfl; refine t_fld ln_path_0 ‹_› fb_path_0 rfl ?_ rfl; intro p20 hp20; refine t_lds ‹_› ab_s_part B rfl ?_ rfl; intro v21 hv21; refine t_len e_part ‹_› rfl rfl ?_ rfl; refine t_lss rfl rfl ?_ rfl; refine t_e ?_; refine w_if rfl ?_ ?_
  ·intro hlt; obtain ⟨x, hx⟩ : ∃ e, p[k]? = some e := getx (by omega); have hhl := hops_sz hx; have hl1 := wf_partsU h1' hx; refine w_k ?_; refine x_s ?_; refine w_s ?_; refine w_block ?_; (iterate 2 refine w_s ?_); refine w_g ?_; refine t_fld ln_path_0 ‹_› fb_path_0 rfl ?_ rfl; intro p26 hp26; refine t_lds ‹_› ab_s_part B rfl ?_ rfl; intro v27 hv27; refine t_m rfl ?_ rfl; refine t_idx e_part (k := k) ‹_› hx B rfl rfl (by first | rfl | omega) ?_ rfl; intro p29 hp29; refine t_fld ln_part_1 ‹_› fb_part_1 rfl ?_ rfl; intro p30 hp30; refine t_ldi ‹_› ab_int B rfl ?_ rfl; refine t_m rfl ?_ rfl; refine t_gtr rfl rfl ?_ rfl; refine t_e ?_; refine w_if rfl ?_ ?_
   ·intro h3; refine w_h ?_; refine t_a rfl ?_ rfl; refine t_e ?_; refine w_r ?_; refine x_t ?_; refine x_block_ret ?_; (iterate 2 refine x_t ?_); refine x_block_ret ?_; refine x_t ?_; refine x_ret1 rfl rfl ?_; exact ⟨ret_bool (by rw [usable, allF_bad hx (by unfold partNow; rw [decide_eq_false (by omega)]; rfl)]; simp), ext_trans X0 B⟩
   intro h3; refine w_k ?_; refine x_s ?_; refine w_h ?_; refine t_a rfl ?_ rfl; refine t_e ?_; refine w_block ?_; refine w_loop (X := Nat) (fun j wq => j ≤ x.hops.length ∧ (∀ y ∈ x.hops.take j, now ≤ y.exp) ∧ Below w20.heap.size w20 wq ∧ Sep w20.heap.size wq []) (fun j => [(8, I ((j : Int))), (7, I ((k : Int))), (2, I now), (4, p4)]) (fun j => x.hops.length - j) (0) ?_ ⟨rfl, rfl, rfl, rfl, trivial⟩ ?_
   ·exact ⟨by omega, (fun y hy => by cases hy), B, S⟩
   ·rintro j w27 hI; (try dsimp only at hI ⊢); obtain ⟨hj, hy, B, S⟩ := hI; (iterate 2 refine w_s ?_); refine w_g ?_; refine t_m rfl ?_ rfl; refine t_fld ln_path_0 ‹_› fb_path_0 rfl ?_ rfl; intro p35 hp35; refine t_lds ‹_› ab_s_part B rfl ?_ rfl; intro v36 hv36; refine t_m rfl ?_ rfl; refine t_idx e_part (k := k) ‹_› hx B rfl rfl (by first | rfl | omega) ?_ rfl; intro p38 hp38; refine t_fld ln_part_3 ‹_› fb_part_3 rfl ?_ rfl; intro p39 hp39; refine t_lds ‹_› ab_s_hop B rfl ?_ rfl; intro v40 hv40; refine t_len e_hop ‹_› rfl rfl ?_ rfl; refine t_lss rfl rfl ?_ rfl; refine t_e ?_; refine w_if rfl ?_ ?_
    ·intro hlt2; obtain ⟨y, hyy⟩ : ∃ e, x.hops[j]? = some e := getx (by omega); refine w_k ?_; refine x_s ?_; refine w_s ?_; refine w_block ?_; refine w_h ?_; refine t_fld ln_path_0 ‹_› fb_path_0 rfl ?_ rfl; intro p45 hp45; refine t_lds ‹_› ab_s_part B rfl ?_ rfl; intro v46 hv46; refine t_m rfl ?_ rfl; refine t_idx e_part (k := k) ‹_› hx B rfl rfl (by first | rfl | omega) ?_ rfl; intro p48 hp48; refine t_fld ln_part_3 ‹_› fb_part_3 rfl ?_ rfl; intro p49 hp49; refine t_lds ‹_› ab_s_hop B rfl ?_ rfl; intro v50 hv50; refine t_m rfl ?_ rfl; refine t_idx e_hop (k := j) ‹_› hyy B rfl rfl (by first | rfl | omega) ?_ rfl; intro p52 hp52; refine t_lda ‹_› ab_hop sb_hop B rfl ?_ rfl; intro v53 hv53; obtain rfl := hop_va hv53; refine t_m rfl ?_ rfl; refine t_x Tryz.call117 rfl (spec_HopNow _ _ _) ?_ rfl rfl; intro w28 x29; have B := bx Hb B x29; have S := S.below x29; refine t_not rfl ?_ rfl; refine t_e ?_; refine w_if rfl ?_ ?_
     ·intro h4; refine w_h ?_; refine t_a rfl ?_ rfl; refine t_e ?_; refine w_r ?_; refine x_block_ret ?_; (iterate 2 refine x_t ?_); (iterate 2 refine x_block_ret ?_); (iterate 2 refine x_t ?_); refine x_block_ret ?_; refine x_t ?_; refine x_ret1 rfl rfl ?_; exact ⟨ret_bool (by rw [usable, allF_bad hx (partNow_no hyy (by omega))]; simp), ext_trans X0 B⟩
     intro h4; refine w_k ?_; refine x_b ?_; refine x_s ?_; refine w_g ?_; refine t_m rfl ?_ rfl; refine t_add rfl rfl (by omega) ?_ rfl; refine t_a rfl ?_ rfl; refine t_d ?_; refine x_r (X := Nat) (j + 1) ?_ (by exact ⟨rfl, rfl, rfl, rfl, trivial⟩) (by (try dsimp only); omega); (try dsimp only); refine ⟨by omega, fun z hz => ?_, B, S⟩; rw [take_succ hyy] at hz
     rcases List.mem_append.1 hz with hz | hz
     ·exact hy z hz
     ·rw [List.mem_singleton] at hz; subst hz
      omega
    ·intro hge2; refine w_exit ?_; (iterate 2 refine x_then_exit ?_); refine x_block_exit ?_; refine x_b ?_; refine x_s ?_; refine w_g ?_; refine t_m rfl ?_ rfl; refine t_add rfl rfl (by omega) ?_ rfl; refine t_a rfl ?_ rfl; refine t_d ?_; refine x_r (X := Nat) (k + 1) ?_ (by exact ⟨rfl, rfl, rfl, trivial⟩) (by (try dsimp only); omega); (try dsimp only); refine ⟨by omega, allF_succ hx ha (partNow_yes hl1 (by omega) fun y hyy => hy y ?_), B, S⟩; rw [List.take_of_length_le (by omega)]; exact hyy
  ·intro hge; refine w_exit ?_; (iterate 2 refine x_then_exit ?_); refine x_block_exit ?_; refine x_s ?_; refine w_h ?_; refine t_a rfl ?_ rfl; refine t_e ?_; refine w_r ?_; refine x_ret1 rfl rfl ?_; exact ⟨ret_bool (by rw [usable, h1', h2', allF_end (by omega) ha]; rfl), ext_trans X0 B⟩
theorem pick_va {fp : List Nat} {w0 w : World} {u : Value} {x : Path} (h : VA (pickT pathT fp w0) w u x) : ∃ v0, u = .agg #[v0] ∧ ∀ w', (∀ y ∈ fp, w'.heap[y]? = w0.heap[y]?) → pathT.R w' [v0] x := by
  obtain ⟨cs, rfl, h2⟩ := h; have hl : cs.length = 1 := pathT.len _ _ _ (h2 w0 fun _ _ => rfl); obtain ⟨c, rfl⟩ := List.length_eq_one_iff.1 hl; exact ⟨c, rfl, h2⟩
theorem pk_rd {fp : List Nat} {w0 w : World} {v0 : Value} {x : Path} (h : ∀ w', (∀ y ∈ fp, w'.heap[y]? = w0.heap[y]?) → pathT.R w' [v0] x) (k : ∀ y ∈ fp, w.heap[y]? = w0.heap[y]?) : SlR partT w v0 x := by
  obtain ⟨v, e, h2⟩ := h w k; cases e; exact h2
theorem impl_HasP (l : List Path) (v : Value) (p : Path) (u : Value) (w : World) (h : SlR pathT w v l) (h' : VA pathT w u p) (hz : sz_paths l ≤ 1048576) (hl : ∀ x ∈ l, lenOk_path x) (hg : ∀ x ∈ l, rng_path x) (hz' : sz_path p ≤ 1048576) (hl' : lenOk_path p) (hg' : rng_path p) : Calls Tryz.prog 22 #[v, u] w fun e w' => e = .returned (.bool (decide (p ∈ l))) ∧ Below w.heap.size w w' := by
  obtain ⟨cs, rfl, h2⟩ := h'
  have hln : l.length ≤ 9223372036854775807 := by unfold sz_paths at hz; omega
  exact impl_HasPath l v p cs w h hz ⟨hln, hl⟩ hg h2 hz' hl' hg'
theorem spec_HasP (l : List Path) (v : Value) (p : Path) (u : Value) (w : World) (h : SlR pathT w v l) (h' : VA pathT w u p) (hz : sz_paths l ≤ 1048576) (hl : ∀ x ∈ l, lenOk_path x) (hg : ∀ x ∈ l, rng_path x) (hz' : sz_path p ≤ 1048576) (hl' : lenOk_path p) (hg' : rng_path p) : Calls Tryz.prog 23 #[v, u] w fun e w' => e = .returned (.bool (decide (p ∈ l))) ∧ Below w.heap.size w w' := by
  obtain ⟨cs, rfl, h2⟩ := h'
  have hln : l.length ≤ 9223372036854775807 := by unfold sz_paths at hz; omega
  exact spec_HasPath l v p cs w h hz ⟨hln, hl⟩ hg h2 hz' hl' hg'
theorem pick_no {t : Topo} {now : Int} {out : List Path} {x : Path} (h : ¬ ((out.length : Int) < 24 ∧ usable t x now = true ∧ ¬ x ∈ out)) : pick t now out x = out := by unfold pick; rw [if_neg h]
theorem pick_yes {t : Topo} {now : Int} {out : List Path} {x : Path} (h : (out.length : Int) < 24 ∧ usable t x now = true ∧ ¬ x ∈ out) : pick t now out x = out ++ [x] := by unfold pick; rw [if_pos h]
theorem findP_S {t : Topo} {now : Int} {l : List Path} (h : PathsS l) (k : Nat) : PathsS (findP t now (l.take k)) := by
  obtain ⟨h1, _, h3, _⟩ := findP_all (t := t) (now := now) (l.take k); exact ⟨by omega, fun x hx => h.2 x (List.mem_of_mem_take (h1 x hx).1)⟩
theorem findP_full {t : Topo} {now : Int} {l : List Path} {k : Nat} (h : ¬ ((findP t now (l.take k)).length : Int) < 24) : findP t now l = findP t now (l.take k) := by
  have e : findP t now l = (l.drop k).foldl (pick t now) (findP t now (l.take k)) := by
    unfold findP
    rw [← List.foldl_append, List.take_append_drop]
  rw [e, pick_full h]
set_option maxHeartbeats 4000000 in
theorem impl_FindPaths (t : Topo) (q : Sdb) (v v1 : Value) (a b now : Int) (w : World) (h : VA topoT w v t) (h' : VA sdbT w v1 q) (hz : sz_topo t ≤ 1048576) (hz' : sz_sdb q ≤ 1048576) (hn : DbN q) (hP : PathsS (comb t q a b)) : Calls Tryz.prog 9 #[v, v1, I a, I b, I now] w fun e w' => ∃ v, e = .returned v ∧ True ∧ Sep w.heap.size w' [rdO pathT v (findP t now (comb t q a b))] ∧ Ext w w' := by
 have hPl := hP.1; have X0 := Below.refl w.heap.size w; refine enter Tryz.func9 rfl Tryz.ntmps9 rfl ?_; refine w_h ?_; refine t_boxr ‹_› rfl ?_ rfl rfl; intro p5 w1 x2 hp5; replace h := h.below x2; replace h' := h'.below x2; have X0 := ext_trans X0 x2; refine t_boxr ‹_› rfl ?_ rfl rfl; intro p6 w3 x4 hp6; replace h := h.below x4; replace h' := h'.below x4; replace hp5 := hp5.below x4; have X0 := ext_trans X0 x4; have S := Sep.nil w3; have B := Below.refl w3.heap.size w3; have Hb := Nat.le_refl w3.heap.size; refine t_a rfl ?_ rfl; refine t_k ?_; refine t_a rfl ?_ rfl; refine t_e ?_; (iterate 2 refine w_s ?_); refine w_g ?_; refine t_lda ‹_› ab_topo sb_topo B rfl ?_ rfl; intro v14 hv14; obtain ⟨v14_0, v14_1, rfl, hv14_0, hv14_1⟩ := topo_va hv14; refine t_lda ‹_› ab_sdb sb_sdb B rfl ?_ rfl; intro v15 hv15; obtain ⟨v15_0, v15_1, rfl, hv15_0, hv15_1⟩ := sdb_va hv15; (iterate 2 refine t_m rfl ?_ rfl)
 refine t_c Tryz.call45 rfl (impl_CombinePaths t q _ _ _ _ _ (by first | assumption | exact VA.below ‹_› B | exact topo_mkv (by first | assumption | exact SlR.below ‹_› B) (by first | assumption | exact SlR.below ‹_› B)) (by first | assumption | exact VA.below ‹_› B | exact sdb_mkv (by first | assumption | exact SlR.below ‹_› B) (by first | assumption | exact SlR.below ‹_› B)) (by omega) (by omega) ‹_›) ?_ rfl rfl; rintro e w5 ⟨v18, fpv18, rfl, hOv18, x6⟩; refine ⟨_, rfl, x6, ?_⟩; have S := S.add (o := slO _ _ _ _) x6 hOv18; have B := bx Hb B x6; refine t_len e_path (S.sl) rfl rfl ?_ rfl; refine t_m rfl ?_ rfl; refine t_e ?_; refine w_block ?_; obtain ⟨fp, hpk, S⟩ := S.toKeep
 skip
 refine w_loop (X := Nat × List Path × Value) (fun x wq => (fun k out u => k ≤ (comb t q a b).length ∧ out = findP t now ((comb t q a b).take k) ∧ Below w3.heap.size w3 wq ∧ Sep w3.heap.size wq [slO (pickT pathT fp w5) 38 u out, keepO fp w5]) x.1 x.2.1 x.2.2) (fun x => (fun k out u => [(20, I ((k : Int))), (11, u), (4, I now), (5, p5), (10, .slice none 0 0), (18, v18), (19, I (((comb t q a b).length : Int)))]) x.1 x.2.1 x.2.2) (fun x => (fun k out u => (comb t q a b).length - k) x.1 x.2.1 x.2.2) (0, [], _) ?_ ⟨rfl, rfl, rfl, rfl, rfl, rfl, rfl, trivial⟩ ?_
 ·exact ⟨by omega, rfl, B, S.addNil⟩
 rintro ⟨k, out, u⟩ w7 hI; (try dsimp only at hI ⊢); obtain ⟨hk, ho, B, S⟩ := hI
 have hoS : PathsS out := by rw [ho]; exact findP_S hP k
 have hso := hoS.sz; have hlo := hoS.lenOk; have hgo := hoS.rng
 have hol : out.length ≤ 24 := by rw [ho]; exact (findP_all _).2.2.1
 refine w_h ?_; refine t_lss rfl rfl ?_ rfl; refine t_e ?_; refine w_s ?_; refine w_if rfl ?_ ?_
 ·intro hlt; obtain ⟨x, hx⟩ : ∃ e, (comb t q a b)[k]? = some e := getx (by omega); have hxS := hP.2 x (List.mem_of_getElem? hx); have hxz := hxS.sz; have hxl := hxS.lenOk; have hxr := hxS.rng; have hsucc := findP_succ (t := t) (now := now) hx; rw [← ho] at hsucc; refine w_k ?_; refine x_s ?_; refine w_s ?_; refine w_block ?_; refine w_h ?_; refine t_idxk e_path (k := k) hpk S.tail.kept hx rfl rfl (by first | rfl | omega) ?_ rfl; intro p22 hp22; refine t_lda (T := (pickT pathT fp w5)) (hp22 _ S.tail.kept) ab_path sb_path (Below.refl _ _) rfl ?_ rfl; intro v23 hv23; obtain ⟨v23_0, rfl, qv23_0⟩ := pick_va hv23; refine t_allocx S z_path rfl ?_ rfl rfl; intro g13 w8 ge13 x9 S; have B := bx Hb B x9; refine t_stx S sb_path rfl rfl rfl rfl (by repeat first | exact oc0 | refine oc rfl ?_ | refine oc (SlR.cells (pk_rd qv23_0 S.tail.tail.kept)).2 ?_) x9 ge13 ?_; intro w10 b11 S cb11; have B := B.trans b11; refine t_k ?_; refine t_m rfl ?_ rfl; refine t_len e_path (pick_sl S.tail.sl S.tail.tail.kept) rfl rfl ?_ rfl; refine t_lss rfl rfl ?_ rfl; refine t_m rfl ?_ rfl; refine t_partp (t := 27) rfl ?_ ?_
  ·intro h1; refine t_on rfl rfl ?_; refine t_lda ‹_› ab_topo sb_topo B rfl ?_ rfl; intro v28 hv28; obtain ⟨v28_0, v28_1, rfl, hv28_0, hv28_1⟩ := topo_va hv28; refine t_on rfl rfl ?_; refine t_b S.box ab_path sb_path rfl rfl ?_ rfl; refine t_on rfl rfl ?_; refine t_m rfl ?_ rfl; refine t_on rfl rfl ?_; refine t_x Tryz.call58 rfl (impl_PathUsable t _ x _ _ _ (by first | assumption | exact VA.below ‹_› B | exact topo_mkv (by first | assumption | exact SlR.below ‹_› B) (by first | assumption | exact SlR.below ‹_› B)) (path_mkv (pk_rd qv23_0 S.tail.tail.kept)) (by omega) (by omega) ‹_› ‹_›) ?_ rfl rfl; intro w12 x13; have B := bx Hb B x13; have S := S.below x13; refine t_q rfl rfl ?_ rfl; refine t_m rfl ?_ rfl; refine t_part (t := 33) rfl ?_ ?_
   ·intro h2; refine t_on rfl rfl ?_; refine t_m rfl ?_ rfl; refine t_on rfl rfl ?_; refine t_b S.box ab_path sb_path rfl rfl ?_ rfl; refine t_on rfl rfl ?_; refine t_x Tryz.call22 rfl (impl_HasP out _ x _ _ (pick_sl S.tail.sl S.tail.tail.kept) (path_mkv (pk_rd qv23_0 S.tail.tail.kept)) (by omega) ‹_› ‹_› (by omega) ‹_› ‹_›) ?_ rfl rfl; intro w14 x15; have B := bx Hb B x15; have S := S.below x15; refine t_on rfl rfl ?_; refine t_not rfl ?_ rfl; refine t_q rfl rfl ?_ rfl; refine t_e ?_; refine w_if rfl ?_ ?_
    ·intro h3; refine w_g ?_; refine t_m rfl ?_ rfl; refine t_b S.box ab_path sb_path rfl rfl ?_ rfl; refine t_lit1 (fun w => bs_path1 _ w) rfl ?_ rfl rfl; intro A41 w16 x17 hA41; have B := bx Hb B x17; have S := S.below x17; have S := S.f1; have S := Sep.addFlat (T := (pickT pathT fp w5)) (cs := [v23_0]) (a := x) S ⟨qv23_0, rfl⟩; have S := S.f1; refine t_snoc (T := (pickT pathT fp w5)) e_path S hA41 rfl rfl rfl (by first | omega | (simp; done) | (simp; omega)) (by (simp only [maxLen]); first | omega | (simp; done) | (simp; omega)) ?_ rfl; intro v42 w18 x19 S; have B := B.trans x19; refine t_a rfl ?_ rfl; refine t_d ?_; refine x_b ?_; refine x_s ?_; refine w_g ?_; refine t_add rfl rfl (by omega) ?_ rfl; refine t_m rfl ?_ rfl; refine t_d ?_; have S := S.f1.tail; refine x_r (X := Nat × List Path × Value) (k + 1, out ++ [x], v42) ?_ (by exact ⟨rfl, rfl, rfl, rfl, rfl, rfl, rfl, trivial⟩) (by (try dsimp only); omega); (try dsimp only); exact ⟨by omega, by rw [hsucc, pick_yes ⟨h1, h2, h3⟩], B, S⟩
    ·intro h3; refine w_k ?_; refine x_b ?_; refine x_s ?_; refine w_g ?_; refine t_add rfl rfl (by omega) ?_ rfl; refine t_m rfl ?_ rfl; refine t_d ?_; have S := S.tail; refine x_r (X := Nat × List Path × Value) (k + 1, out, u) ?_ (by exact ⟨rfl, rfl, rfl, rfl, rfl, rfl, rfl, trivial⟩) (by (try dsimp only); omega); (try dsimp only); exact ⟨by omega, by rw [hsucc, pick_no (fun z => h3 z.2.2)], B, S⟩
   ·intro h2; (iterate 4 refine t_off rfl rfl rfl ?_ rfl); refine t_p rfl rfl ?_ rfl; refine t_e ?_; refine w_no rfl ?_; refine w_k ?_; refine x_b ?_; refine x_s ?_; refine w_g ?_; refine t_add rfl rfl (by omega) ?_ rfl; refine t_m rfl ?_ rfl; refine t_d ?_; have S := S.tail; refine x_r (X := Nat × List Path × Value) (k + 1, out, u) ?_ (by exact ⟨rfl, rfl, rfl, rfl, rfl, rfl, rfl, trivial⟩) (by (try dsimp only); omega); (try dsimp only); exact ⟨by omega, by rw [hsucc, pick_no (fun z => by rw [h2] at z; exact absurd z.2.1 (by simp))], B, S⟩
  ·intro h1; (iterate 4 refine t_off rfl rfl rfl ?_ rfl); refine t_p rfl rfl ?_ rfl; refine t_m rfl ?_ rfl; (iterate 4 refine t_off rfl rfl rfl ?_ rfl); refine t_p rfl rfl ?_ rfl; refine t_e ?_; refine w_no rfl ?_; refine w_k ?_; refine x_b ?_; refine x_s ?_; refine w_g ?_; refine t_add rfl rfl (by omega) ?_ rfl; refine t_m rfl ?_ rfl; refine t_d ?_; have S := S.tail; refine x_r (X := Nat × List Path × Value) (k + 1, out, u) ?_ (by exact ⟨rfl, rfl, rfl, rfl, rfl, rfl, rfl, trivial⟩) (by (try dsimp only); omega); (try dsimp only); exact ⟨by omega, by rw [hsucc, pick_no (fun z => h1 z.1)], B, S⟩
 intro hge; rw [List.take_of_length_le (by omega)] at ho; refine w_exit ?_; (iterate 2 refine x_then_exit ?_); refine x_block_exit ?_; refine x_s ?_; refine w_h ?_; refine t_m rfl ?_ rfl; refine t_a rfl ?_ rfl; refine t_e ?_; refine w_r ?_; refine x_ret1 rfl rfl ?_; rw [ho] at S; exact ⟨_, rfl, trivial, (pick_end S).mono X0.size, ext_trans X0 B⟩
set_option maxHeartbeats 4000000 in
theorem spec_FindPaths (t : Topo) (q : Sdb) (v v1 : Value) (a b now : Int) (w : World) (h : VA topoT w v t) (h' : VA sdbT w v1 q) (hz : sz_topo t ≤ 1048576) (hz' : sz_sdb q ≤ 1048576) (hn : DbN q) (hP : PathsS (comb t q a b)) : Calls Tryz.prog 10 #[v, v1, I a, I b, I now] w fun e w' => ∃ v, e = .returned v ∧ True ∧ Sep w.heap.size w' [rdO pathT v (findP t now (comb t q a b))] ∧ Ext w w' := by
 have hPl := hP.1; have X0 := Below.refl w.heap.size w; refine enter Tryz.func10 rfl Tryz.ntmps10 rfl ?_; refine w_h ?_; refine t_boxr ‹_› rfl ?_ rfl rfl; intro p5 w20 x21 hp5; replace h := h.below x21; replace h' := h'.below x21; have X0 := ext_trans X0 x21; refine t_boxr ‹_› rfl ?_ rfl rfl; intro p6 w22 x23 hp6; replace h := h.below x23; replace h' := h'.below x23; replace hp5 := hp5.below x23; have X0 := ext_trans X0 x23; have S := Sep.nil w22; have B := Below.refl w22.heap.size w22; have Hb := Nat.le_refl w22.heap.size; refine t_a rfl ?_ rfl; refine t_k ?_; refine t_lit0 (T := pathT) S bs_path0 rfl ?_ rfl rfl; intro A14 w24 x25 S; have B := bx Hb B x25; refine t_a rfl ?_ rfl; refine t_k ?_; refine t_lda ‹_› ab_topo sb_topo B rfl ?_ rfl; intro v15 hv15; obtain ⟨v15_0, v15_1, rfl, hv15_0, hv15_1⟩ := topo_va hv15; refine t_lda ‹_› ab_sdb sb_sdb B rfl ?_ rfl; intro v16 hv16; obtain ⟨v16_0, v16_1, rfl, hv16_0, hv16_1⟩ := sdb_va hv16; (iterate 2 refine t_m rfl ?_ rfl)
 refine t_c Tryz.call48 rfl (spec_CombinePaths t q _ _ _ _ _ (by first | assumption | exact VA.below ‹_› B | exact topo_mkv (by first | assumption | exact SlR.below ‹_› B) (by first | assumption | exact SlR.below ‹_› B)) (by first | assumption | exact VA.below ‹_› B | exact sdb_mkv (by first | assumption | exact SlR.below ‹_› B) (by first | assumption | exact SlR.below ‹_› B)) (by omega) (by omega) ‹_›) ?_ rfl rfl; rintro e w26 ⟨v19, fpv19, rfl, hOv19, x27⟩; refine ⟨_, rfl, x27, ?_⟩; have S := S.add (o := slO _ _ _ _) x27 hOv19; have B := bx Hb B x27; refine t_a rfl ?_ rfl; refine t_e ?_; (iterate 2 refine w_s ?_); refine w_g ?_; refine t_a rfl ?_ rfl; refine t_e ?_; refine w_block ?_; obtain ⟨fp, hpk, S⟩ := S.toKeep
 skip
 refine w_loop (X := Nat × List Path × Value) (fun x wq => (fun k out u => k ≤ (comb t q a b).length ∧ out = findP t now ((comb t q a b).take k) ∧ Below w22.heap.size w22 wq ∧ Sep w22.heap.size wq [slO (pickT pathT fp w26) 38 u out, keepO fp w26]) x.1 x.2.1 x.2.2) (fun x => (fun k out u => [(13, I ((k : Int))), (11, u), (4, I now), (5, p5), (10, .slice none 0 0), (12, v19)]) x.1 x.2.1 x.2.2) (fun x => (fun k out u => (comb t q a b).length - k) x.1 x.2.1 x.2.2) (0, [], _) ?_ ⟨rfl, rfl, rfl, rfl, rfl, rfl, trivial⟩ ?_
 ·exact ⟨by omega, rfl, B, S.f1.pickNil⟩
 rintro ⟨k, out, u⟩ w28 hI; (try dsimp only at hI ⊢); obtain ⟨hk, ho, B, S⟩ := hI
 have hoS : PathsS out := by rw [ho]; exact findP_S hP k
 have hso := hoS.sz; have hlo := hoS.lenOk; have hgo := hoS.rng
 have hol : out.length ≤ 24 := by rw [ho]; exact (findP_all _).2.2.1
 (iterate 2 refine w_s ?_); refine w_g ?_; (iterate 2 refine t_m rfl ?_ rfl); refine t_len (T := (pickT pathT fp w26)) e_path (S.tail.kp hpk) rfl rfl ?_ rfl; refine t_lss rfl rfl ?_ rfl; refine t_m rfl ?_ rfl; refine t_partp (t := 24) rfl ?_ ?_
 ·intro hlt; obtain ⟨x, hx⟩ : ∃ e, (comb t q a b)[k]? = some e := getx (by omega); have hxS := hP.2 x (List.mem_of_getElem? hx); have hxz := hxS.sz; have hxl := hxS.lenOk; have hxr := hxS.rng; have hsucc := findP_succ (t := t) (now := now) hx; rw [← ho] at hsucc; refine t_on rfl rfl ?_; refine t_m rfl ?_ rfl; refine t_on rfl rfl ?_; refine t_len e_path (pick_sl S.sl S.tail.kept) rfl rfl ?_ rfl; refine t_on rfl rfl ?_; refine t_lss rfl rfl ?_ rfl; refine t_q rfl rfl ?_ rfl; refine t_e ?_; refine w_if rfl ?_ ?_
  ·intro h1; refine w_k ?_; refine x_s ?_; refine w_s ?_; refine w_block ?_; refine w_s ?_; refine w_draw (.st .take 0 (.st .take 1 (.st .take 2 (.st .take 3 (.st .take 4 (.st .take 5 (.st .run 6 (.st .take 7 (.st .take 8 (.st .take 9 (.st .take 10 (.st .take 11 (.st .take 12 (.st .run 13 (.st .take 14 (.st .take 15 .done)))))))))))))))) mixed (by kernel_rfl) ?_; intro w29 x30; have B := bx Hb B x30; have S := S.below x30; refine t_lda ‹_› ab_topo sb_topo B rfl ?_ rfl; intro v31 hv31; obtain ⟨v31_0, v31_1, rfl, hv31_0, hv31_1⟩ := topo_va hv31; (iterate 2 refine t_m rfl ?_ rfl); refine t_idxk e_path (k := k) hpk S.tail.kept hx rfl rfl (by first | rfl | omega) ?_ rfl; intro p34 hp34; refine t_lda (T := (pickT pathT fp w26)) (hp34 _ S.tail.kept) ab_path sb_path (Below.refl _ _) rfl ?_ rfl; intro v35 hv35; obtain ⟨v35_0, rfl, qv35_0⟩ := pick_va hv35; refine t_m rfl ?_ rfl; refine t_x Tryz.call62 rfl (spec_PathUsable t _ x _ _ _ (by first | assumption | exact VA.below ‹_› B | exact topo_mkv (by first | assumption | exact SlR.below ‹_› B) (by first | assumption | exact SlR.below ‹_› B)) (path_mkv (pk_rd qv35_0 S.tail.kept)) (by omega) (by omega) ‹_› ‹_›) ?_ rfl rfl; intro w31 x32
   have B := bx Hb B x32; have S := S.below x32; refine t_m rfl ?_ rfl; refine t_part (t := 38) rfl ?_ ?_
   ·intro h2; refine t_on rfl rfl ?_; refine t_m rfl ?_ rfl; refine t_on rfl rfl ?_; refine t_m rfl ?_ rfl; refine t_on rfl rfl ?_; refine t_m rfl ?_ rfl; refine t_on rfl rfl ?_; refine t_idxk e_path (k := k) hpk S.tail.kept hx rfl rfl (by first | rfl | omega) ?_ rfl; intro p42 hp42; refine t_on rfl rfl ?_; refine t_lda (T := (pickT pathT fp w26)) (hp42 _ S.tail.kept) ab_path sb_path (Below.refl _ _) rfl ?_ rfl; intro v43 hv43; obtain ⟨v43_0, rfl, qv43_0⟩ := pick_va hv43; refine t_on rfl rfl ?_; refine t_x Tryz.call23 rfl (spec_HasP out _ x _ _ (pick_sl S.sl S.tail.kept) (path_mkv (pk_rd qv43_0 S.tail.kept)) (by omega) ‹_› ‹_› (by omega) ‹_› ‹_›) ?_ rfl rfl; intro w33 x34; have B := bx Hb B x34; have S := S.below x34; refine t_on rfl rfl ?_; refine t_not rfl ?_ rfl; refine t_q rfl rfl ?_ rfl; refine t_e' ?_; refine w_if rfl ?_ ?_
    ·intro h3; refine w_g ?_; (iterate 3 refine t_m rfl ?_ rfl); refine t_idxk e_path (k := k) hpk S.tail.kept hx rfl rfl (by first | rfl | omega) ?_ rfl; intro p50 hp50; refine t_lda (T := (pickT pathT fp w26)) (hp50 _ S.tail.kept) ab_path sb_path (Below.refl _ _) rfl ?_ rfl; intro v51 hv51; obtain ⟨v51_0, rfl, qv51_0⟩ := pick_va hv51; refine t_lit1 (fun w => bs_path1 _ w) rfl ?_ rfl rfl; intro A52 w35 x36 hA52; have B := bx Hb B x36; have S := S.below x36; have S := Sep.addFlat (T := (pickT pathT fp w26)) (cs := [v51_0]) (a := x) S ⟨qv51_0, rfl⟩; have S := S.f1; refine t_snoc (T := (pickT pathT fp w26)) e_path S hA52 rfl rfl rfl (by first | omega | (simp; done) | (simp; omega)) (by (simp only [maxLen]); first | omega | (simp; done) | (simp; omega)) ?_ rfl; intro v53 w37 x38 S; have B := B.trans x38; refine t_a rfl ?_ rfl; refine t_d ?_; refine x_b ?_; refine x_s ?_; refine w_g ?_; refine t_m rfl ?_ rfl; refine t_add rfl rfl (by omega) ?_ rfl; refine t_a rfl ?_ rfl; refine t_d ?_; refine x_r (X := Nat × List Path × Value) (k + 1, out ++ [x], v53) ?_ (by exact ⟨rfl, rfl, rfl, rfl, rfl, rfl, trivial⟩) (by (try dsimp only); omega); (try dsimp only)
     exact ⟨by omega, by rw [hsucc, pick_yes ⟨h1, h2, h3⟩], B, S⟩
    ·intro h3; refine w_k ?_; refine x_b ?_; refine x_s ?_; refine w_g ?_; refine t_m rfl ?_ rfl; refine t_add rfl rfl (by omega) ?_ rfl; refine t_a rfl ?_ rfl; refine t_d ?_; refine x_r (X := Nat × List Path × Value) (k + 1, out, u) ?_ (by exact ⟨rfl, rfl, rfl, rfl, rfl, rfl, trivial⟩) (by (try dsimp only); omega); (try dsimp only); exact ⟨by omega, by rw [hsucc, pick_no (fun z => h3 z.2.2)], B, S⟩
   ·intro h2; (iterate 7 refine t_off rfl rfl rfl ?_ rfl); refine t_p rfl rfl ?_ rfl; refine t_e' ?_; refine w_no rfl ?_; refine w_k ?_; refine x_b ?_; refine x_s ?_; refine w_g ?_; refine t_m rfl ?_ rfl; refine t_add rfl rfl (by omega) ?_ rfl; refine t_a rfl ?_ rfl; refine t_d ?_; refine x_r (X := Nat × List Path × Value) (k + 1, out, u) ?_ (by exact ⟨rfl, rfl, rfl, rfl, rfl, rfl, trivial⟩) (by (try dsimp only); omega); (try dsimp only); exact ⟨by omega, by rw [hsucc, pick_no (fun z => by rw [h2] at z; exact absurd z.2.1 (by simp))], B, S⟩
  ·intro h1; refine w_exit ?_; (iterate 2 refine x_then_exit ?_); refine x_block_exit ?_; refine x_s ?_; refine w_h ?_; refine t_m rfl ?_ rfl; refine t_a rfl ?_ rfl; refine t_e ?_; refine w_r ?_; refine x_ret1 rfl rfl ?_; rw [ho] at h1; rw [ho, ← findP_full h1] at S; exact ⟨_, rfl, trivial, (pick_end S).mono X0.size, ext_trans X0 B⟩
 ·intro hge; rw [List.take_of_length_le (by omega)] at ho; (iterate 3 refine t_off rfl rfl rfl ?_ rfl); refine t_p rfl rfl ?_ rfl; refine t_e ?_; refine w_no rfl ?_; refine w_exit ?_; (iterate 2 refine x_then_exit ?_); refine x_block_exit ?_; refine x_s ?_; refine w_h ?_; refine t_m rfl ?_ rfl; refine t_a rfl ?_ rfl; refine t_e ?_; refine w_r ?_; refine x_ret1 rfl rfl ?_; rw [ho] at S; exact ⟨_, rfl, trivial, (pick_end S).mono X0.size, ext_trans X0 B⟩
theorem laws_samePaths (a b : List Path) (v u : Value) (w : World) (h : SlR pathT w v a) (h2 : SlR pathT w u b) (hz : sz_paths a ≤ 1048576) (hz2 : sz_paths b ≤ 1048576) : Calls Tryz.prog 21 #[v, u] w fun e w' => e = .returned (.bool (decide (a = b))) ∧ Below w.heap.size w w' := by
 have hl1 : a.length ≤ sz_paths a := by unfold sz_paths; omega
 have hl2 : b.length ≤ sz_paths b := by unfold sz_paths; omega
 have X0 := Below.refl w.heap.size w; refine enter Tryz.func21 rfl Tryz.ntmps21 rfl ?_; refine w_h ?_; have S := Sep.nil w; have B := Below.refl w.heap.size w; have Hb := Nat.le_refl w.heap.size; refine t_a rfl ?_ rfl; refine t_e ?_; (iterate 2 refine w_s ?_); refine w_g ?_; refine t_m rfl ?_ rfl; refine t_len e_path ‹_› rfl rfl ?_ rfl; refine t_m rfl ?_ rfl; refine t_len e_path ‹_› rfl rfl ?_ rfl; refine t_neq rfl rfl ?_ rfl; refine t_e ?_; refine w_if rfl ?_ ?_
 ·intro hl; refine w_h ?_; refine t_a rfl ?_ rfl; refine t_e ?_; refine w_r ?_; refine x_t ?_; refine x_ret1 rfl rfl ?_; exact ⟨ret_bool (decide_eq_false (fun e => hl (by rw [e]))).symm, ext_trans X0 B⟩
 ·intro hl; refine w_k ?_; refine x_s ?_; (iterate 2 refine w_s ?_); refine w_g ?_; refine t_a rfl ?_ rfl; refine t_e ?_; refine w_block ?_; refine w_loop (X := Nat) (fun k wq => k ≤ a.length ∧ a.take k = b.take k ∧ Below w.heap.size w wq ∧ Sep w.heap.size wq []) (fun k => [(5, I ((k : Int))), (0, v), (1, u)]) (fun k => a.length - k) (0) ?_ ⟨rfl, rfl, rfl, trivial⟩ ?_
  ·exact ⟨by omega, rfl, B, S⟩
  rintro k w1 hI; (try dsimp only at hI ⊢); obtain ⟨hk, hab, B, S⟩ := hI; (iterate 2 refine w_s ?_); refine w_g ?_; (iterate 2 refine t_m rfl ?_ rfl); refine t_len e_path ‹_› rfl rfl ?_ rfl; refine t_lss rfl rfl ?_ rfl; refine t_e ?_; refine w_if rfl ?_ ?_
  ·intro hlt; obtain ⟨e19, he19⟩ := getx (l := a) (k := k) (by omega); obtain ⟨e23, he23⟩ := getx (l := b) (k := k) (by omega); have hh1 := mem_sz_paths (List.mem_of_getElem? he19); have hh2 := mem_sz_paths (List.mem_of_getElem? he23); refine w_k ?_; refine x_s ?_; refine w_s ?_; refine w_block ?_; refine w_s ?_; refine w_draw (.st .take 0 (.st .take 1 (.st .take 2 (.st .take 3 (.st .take 4 (.st .take 5 (.st .take 6 (.st .take 7 (.st .run 8 (.st .take 9 .done)))))))))) mixed (by kernel_rfl) ?_; intro w2 x3; have B := bx Hb B x3; have S := S.below x3; (iterate 2 refine t_m rfl ?_ rfl); refine t_idx e_path (k := k) ‹_› he19 B rfl rfl (by first | rfl | omega) ?_ rfl; intro p19 hp19; refine t_lda ‹_› ab_path sb_path B rfl ?_ rfl; intro v20 hv20; obtain ⟨v20_0, rfl, hv20_0⟩ := path_va hv20; (iterate 2 refine t_m rfl ?_ rfl); refine t_idx e_path (k := k) ‹_› he23 B rfl rfl (by first | rfl | omega) ?_ rfl; intro p23 hp23; refine t_lda ‹_› ab_path sb_path B rfl ?_ rfl; intro v24 hv24; obtain ⟨v24_0, rfl, hv24_0⟩ := path_va hv24
   refine t_x Tryz.call43 rfl (laws_samePath e19 e23 _ _ _ (by first | assumption | exact VA.below ‹_› B | exact path_mkv (by first | assumption | exact SlR.below ‹_› B)) (by first | assumption | exact VA.below ‹_› B | exact path_mkv (by first | assumption | exact SlR.below ‹_› B)) (by omega) (by omega)) ?_ rfl rfl; intro w4 x5; have B := bx Hb B x5; have S := S.below x5; refine t_not rfl ?_ rfl; refine t_e' ?_; refine w_if rfl ?_ ?_
   ·intro hne; refine w_h ?_; refine t_a rfl ?_ rfl; refine t_e ?_; refine w_r ?_; refine x_block_ret ?_; (iterate 2 refine x_t ?_); refine x_block_ret ?_; refine x_t ?_; refine x_ret1 rfl rfl ?_; exact ⟨ret_bool (decide_eq_false (eq_not he19 he23 (by simpa using hne))).symm, ext_trans X0 B⟩
   ·intro hne; refine w_k ?_; refine x_b ?_; refine x_s ?_; refine w_g ?_; refine t_m rfl ?_ rfl; refine t_add rfl rfl (by omega) ?_ rfl; refine t_a rfl ?_ rfl; refine t_d ?_; refine x_r (X := Nat) (k + 1) ?_ (by exact ⟨rfl, rfl, rfl, trivial⟩) (by (try dsimp only); omega); (try dsimp only); exact ⟨by omega, eq_step hab he19 he23 (by simpa using hne), B, S⟩
  ·intro hge; refine w_exit ?_; (iterate 2 refine x_then_exit ?_); refine x_block_exit ?_; refine x_s ?_; refine w_h ?_; refine t_a rfl ?_ rfl; refine t_e ?_; refine w_r ?_; refine x_ret1 rfl rfl ?_; exact ⟨ret_bool (decide_eq_true (eq_end hab (by omega) (by omega))).symm, ext_trans X0 B⟩
theorem keep_end {b : Nat} {w w0 : World} {fp : List Nat} {os : List Ow} {Φ : World → Prop} (h : ∀ w', (∀ x ∈ fp, w'.heap[x]? = w0.heap[x]?) → Φ w') (S : Sep b w (keepO fp w0 :: os)) : Sep b w (rdsO Φ :: os) :=
  S.conv fun f hf => by
    obtain ⟨rfl, h1, h2⟩ := hf; exact ⟨h1, fun w' k => h w' fun x hx => (k x hx).trans (h2 x hx)⟩
theorem rds_two {b : Nat} {w : World} {os : List Ow} {Φ Ψ : World → Prop} (S : Sep b w (rdsO Φ :: rdsO Ψ :: os)) : Sep b w (rdsO (fun w => Φ w ∧ Ψ w) :: os) := by
  obtain ⟨h1, F, f, g, rfl, ⟨a1, a2⟩, ⟨f2, g2, rfl, ⟨b1, b2⟩, m2, m3⟩, h6⟩ := S; refine ⟨h1, (f ++ f2) ++ g2, f ++ f2, g2, rfl, ⟨fun x hx => ?_, fun w' k => ⟨a2 w' fun x hx => k x (List.mem_append.2 (.inl hx)), b2 w' fun x hx => k x (List.mem_append.2 (.inr hx))⟩⟩, m2, fun x hx hy => ?_⟩
  · rcases List.mem_append.1 hx with hx | hx
    · exact a1 x hx
    · exact b1 x hx
  · rcases List.mem_append.1 hx with hx | hx
    · exact h6 x hx (List.mem_append.2 (.inr hy))
    · exact m3 x hx hy
theorem sl_two {b : Nat} {w : World} {os : List Ow} {α β : Type} {T : Ty α} {U : Ty β} {e e' : TypeId} {v v' : Value} {l : List α} {l' : List β} (S : Sep b w (slO T e v l :: slO U e' v' l' :: os)) : Sep b w (rdsO (fun w => SlR T w v l ∧ SlR U w v' l') :: os) :=
  rds_two ((S.toRds fun _ h => h).f1.toRds fun _ h => h).f1
theorem pick_end2 {b : Nat} {w w0 : World} {fp : List Nat} {os : List Ow} {α : Type} {T : Ty α} {e : TypeId} {v : Value} {l : List α} {Ψ : World → Prop} (h : ∀ w', (∀ x ∈ fp, w'.heap[x]? = w0.heap[x]?) → Ψ w') (S : Sep b w (slO (pickT T fp w0) e v l :: keepO fp w0 :: os)) : Sep b w (rdsO (fun w => Ψ w ∧ SlR T w v l) :: os) := by
  obtain ⟨h1, F, f, g, rfl, hO, ⟨f2, g2, rfl, ⟨rfl, hk1, hk2⟩, m2, m3⟩, h6⟩ := S; have hlt := SlO.size_ok hO; refine ⟨h1, (f ++ f2) ++ g2, f ++ f2, g2, rfl, ⟨fun x hx => ?_, fun w' k => ⟨h w' fun x hx => (k x (List.mem_append.2 (.inr hx))).trans (hk2 x hx), ?_⟩⟩, m2, fun x hx hy => ?_⟩
  · rcases List.mem_append.1 hx with hx | hx
    · exact hlt x hx
    · exact hk1 x hx
  · obtain ⟨A, c, css, h1, h2, h3, h4, h5⟩ := (SlO.keep (w' := w') hO fun x hx => k x (List.mem_append.2 (.inl hx))).read
    exact ⟨A, c, css, h1, h2, h3, h4, fun i cs a hi ha => h5 i cs a hi ha w' fun x hx => (k x (List.mem_append.2 (.inr hx))).trans (hk2 x hx)⟩
  · rcases List.mem_append.1 hx with hx | hx
    · exact h6 x hx (List.mem_append.2 (.inr hy))
    · exact m3 x hx hy
set_option maxHeartbeats 4000000 in
theorem spec_DrawHasPath (code : List UInt8) (v : Value) (w : World) (h : SlR byteT w v code) (hz : code.length ≤ 1048576) : Calls Tryz.prog 19 #[v] w fun e w' => ∃ (vl vp : Value) (l p : _), e = .returned (.tuple #[vl, .agg #[vp]]) ∧ (PathsS l ∧ PathS p) ∧ Sep w.heap.size w' [rdsO fun w => SlR pathT w vl l ∧ SlR partT w vp p] ∧ Ext w w' := by
 have K := CodeK.of h hz; have X0 := Below.refl w.heap.size w; refine enter Tryz.func19 rfl Tryz.ntmps19 rfl ?_; have S := Sep.nil w; have B := Below.refl w.heap.size w; have Hb := Nat.le_refl w.heap.size; refine w_h ?_; refine t_a rfl ?_ rfl; refine t_w S z_path rfl ?_ rfl rfl; intro g3 w1 x2 S; have B := bx Hb B x2; refine t_k ?_; refine t_m rfl ?_ rfl; refine t_c Tryz.call59 rfl (spec_l1New _ _ _ (by first | assumption | exact SlR.below ‹_› B) (by omega)) ?_ rfl rfl; rintro e w3 ⟨g9, fpg9, rfl, hOg9, x4⟩; refine ⟨_, rfl, x4, ?_⟩; have S := S.add (o := curO _ _ _ _) x4 hOg9; have B := bx Hb B x4; refine t_a rfl ?_ rfl; refine t_k ?_; refine t_m rfl ?_ rfl; refine t_f Tryz.call69 rfl (spec_l23Paths S (K.below B)) ?_ rfl; rintro e w5 ⟨v11, l11, rfl, hf11, S, x6⟩; refine ⟨_, rfl, ?_⟩; have B := B.trans x6; refine t_a rfl ?_ rfl; refine t_e ?_; refine w_s ?_; have hll := hf11.1; refine w_h ?_; refine t_m rfl ?_ rfl; refine t_len e_path (S.sl) rfl rfl ?_ rfl; refine t_gtr rfl rfl ?_ rfl; refine t_m rfl ?_ rfl; refine t_partp (t := 15) rfl ?_ ?_
 ·intro h0; refine t_on rfl rfl ?_; refine t_m rfl ?_ rfl; refine t_on rfl rfl ?_; have S := S.f1; refine t_f Tryz.call70 rfl (spec_l1Once 2 S (K.below B)) ?_ rfl; rintro e w7 ⟨y17, rfl, hf17, S, x8⟩; refine ⟨_, rfl, ?_⟩; have B := B.trans x8; refine t_q rfl rfl ?_ rfl; refine t_e ?_; refine w_if rfl ?_ ?_
  ·intro h1; have S := S.f1; obtain ⟨fp, hpk, S⟩ := S.toKeep; obtain ⟨x, hx⟩ : ∃ e, l11[0]? = some e := getx (by omega); have hxS : ∀ y ∈ l11, PathS y := hf11.2; refine w_s ?_; refine w_drawP [0, 1, 2, 3] (.st .take 4 (.st .fin 5 (.alt (.st .fin 6 (.alt (.st .fin 7 (.st .fin 8 (.st .fin 9 .done))) (.st .fin 8 (.st .fin 7 (.st .fin 9 .done))))) (.st .fin 8 (.st .fin 6 (.st .fin 7 (.st .fin 9 .done))))))) mixed (by kernel_rfl) ?_; intro w9 x10; have B := bx Hb B x10; have S := S.below x10; (iterate 4 refine p_move rfl ?_ rfl); refine p_done ?_; refine t_len (T := (pickT pathT fp w7)) e_path (S.kp hpk) rfl rfl ?_ rfl; have S := S.f1; refine t_f Tryz.call68 rfl (spec_l1Below (l11.length : Int) S (K.below B)) ?_ rfl; rintro e w11 ⟨y24, rfl, hf24, S, x12⟩; refine ⟨_, rfl, ?_⟩; have B := B.trans x12; refine t_alt ?_ ?_
   ·obtain ⟨e25, he25⟩ : ∃ e, (l11)[y24.toNat]? = some e := getx (by omega); refine t_idxk e_path (k := y24.toNat) hpk S.tail.kept he25 rfl rfl (by first | rfl | omega) ?_ rfl; intro p25 hp25; refine t_alt ?_ ?_
    ·refine t_lda (T := (pickT pathT fp w7)) (hp25 _ S.tail.kept) ab_path sb_path (Below.refl _ _) rfl ?_ rfl; intro v26 hv26; obtain ⟨v26_0, rfl, qv26_0⟩ := pick_va hv26; refine t_a rfl ?_ rfl; have S := S.f2; refine t_stn S sb_path rfl rfl rfl rfl (by repeat first | exact oc0 | refine oc rfl ?_ | refine oc (SlR.cells (pk_rd qv26_0 S.tail.tail.kept)).2 ?_) ?_; intro w13 b14 S; have B := B.trans b14; refine t_e' ?_; refine w_r ?_; refine x_t ?_; refine x_rettc rfl rfl rfl S.box ab_path sb_path rfl ?_; have S := S.tail.tail; exact ⟨_, _, l11, e25, rfl, ⟨hf11, hxS e25 (List.mem_of_getElem? he25)⟩, keep_end (fun w' k => ⟨pick_sl (hpk w' k) k, pk_rd qv26_0 k⟩) S, ext_trans X0 B⟩
    ·refine t_a rfl ?_ rfl; refine t_lda (T := (pickT pathT fp w7)) (hp25 _ S.tail.kept) ab_path sb_path (Below.refl _ _) rfl ?_ rfl; intro v26 hv26; obtain ⟨v26_0, rfl, qv26_0⟩ := pick_va hv26; have S := S.f2; refine t_stn S sb_path rfl rfl rfl rfl (by repeat first | exact oc0 | refine oc rfl ?_ | refine oc (SlR.cells (pk_rd qv26_0 S.tail.tail.kept)).2 ?_) ?_; intro w15 b16 S; have B := B.trans b16; refine t_e' ?_; refine w_r ?_; refine x_t ?_; refine x_rettc rfl rfl rfl S.box ab_path sb_path rfl ?_; have S := S.tail.tail; exact ⟨_, _, l11, e25, rfl, ⟨hf11, hxS e25 (List.mem_of_getElem? he25)⟩, keep_end (fun w' k => ⟨pick_sl (hpk w' k) k, pk_rd qv26_0 k⟩) S, ext_trans X0 B⟩
   ·refine t_a rfl ?_ rfl; obtain ⟨e25, he25⟩ : ∃ e, (l11)[y24.toNat]? = some e := getx (by omega); refine t_idxk e_path (k := y24.toNat) hpk S.tail.kept he25 rfl rfl (by first | rfl | omega) ?_ rfl; intro p25 hp25; refine t_lda (T := (pickT pathT fp w7)) (hp25 _ S.tail.kept) ab_path sb_path (Below.refl _ _) rfl ?_ rfl; intro v26 hv26; obtain ⟨v26_0, rfl, qv26_0⟩ := pick_va hv26; have S := S.f2; refine t_stn S sb_path rfl rfl rfl rfl (by repeat first | exact oc0 | refine oc rfl ?_ | refine oc (SlR.cells (pk_rd qv26_0 S.tail.tail.kept)).2 ?_) ?_; intro w17 b18 S; have B := B.trans b18; refine t_e' ?_; refine w_r ?_; refine x_t ?_; refine x_rettc rfl rfl rfl S.box ab_path sb_path rfl ?_; have S := S.tail.tail; exact ⟨_, _, l11, e25, rfl, ⟨hf11, hxS e25 (List.mem_of_getElem? he25)⟩, keep_end (fun w' k => ⟨pick_sl (hpk w' k) k, pk_rd qv26_0 k⟩) S, ext_trans X0 B⟩
  ·intro h1; refine w_k ?_; refine x_s ?_; refine w_h ?_; refine t_m rfl ?_ rfl; refine t_f Tryz.call71 rfl (spec_l22Draw S (K.below B)) ?_ rfl; rintro e w19 ⟨va29, vl29, vp29, A29, L29, p29, rfl, hf29, S, x20⟩; refine ⟨_, rfl, ?_⟩; have B := B.trans x20; refine t_m rfl ?_ rfl; (iterate 2 refine t_extract rfl rfl ?_ rfl); refine t_w S z_topo rfl ?_ rfl rfl; intro g6 w21 x22 S; have B := bx Hb B x22; refine t_w S z_path rfl ?_ rfl rfl; intro g7 w23 x24 S; have B := bx Hb B x24; have S := S.f1; refine t_stn S sb_topo rfl rfl rfl rfl (by repeat first | exact oc0 | refine oc rfl ?_ | refine oc (SlR.cells (S.tail.tail.tail.sl)).2 ?_ | refine oc (SlR.cells (S.t4.sl)).2 ?_) ?_; intro w25 b26 S; have B := B.trans b26; have S := S.f1; refine t_stn S sb_path rfl rfl rfl rfl (by repeat first | exact oc0 | refine oc rfl ?_ | refine oc (SlR.cells (S.tail.tail.sl)).2 ?_) ?_; intro w27 b28 S; have B := B.trans b28; refine t_e ?_; refine w_s ?_; refine w_draw (.st .take 0 (.st .take 1 (.st .take 2 (.st .fin 3 .done)))) mixed (by kernel_rfl) ?_; intro w29 x30; have B := bx Hb B x30; have S := S.below x30; refine t_m rfl ?_ rfl; refine t_b S.box ab_path sb_path rfl rfl ?_ rfl; refine t_a rfl ?_ rfl
   have S := S.f7; refine t_stn S sb_path rfl rfl rfl rfl (by repeat first | exact oc0 | refine oc rfl ?_ | refine oc (SlR.cells (S.tail.tail.tail.sl)).2 ?_) ?_; intro w31 b32 S; have B := B.trans b32; refine t_e' ?_; refine w_r ?_; refine x_rettc rfl rfl rfl S.box ab_path sb_path rfl ?_; have S := S.tail.tail.tail.f1.tail.f1.tail.f1.tail.f1; exact ⟨_, _, _, _, rfl, ⟨hf11, hf29.2.toS⟩, sl_two S, ext_trans X0 B⟩
 ·intro h0; (iterate 2 refine t_off rfl rfl rfl ?_ rfl); refine t_p rfl rfl ?_ rfl; refine t_e ?_; refine w_no rfl ?_; refine w_k ?_; refine x_s ?_; refine w_h ?_; refine t_m rfl ?_ rfl; have S := S.f1; refine t_f Tryz.call71 rfl (spec_l22Draw S (K.below B)) ?_ rfl; rintro e w33 ⟨va29, vl29, vp29, A29, L29, p29, rfl, hf29, S, x34⟩; refine ⟨_, rfl, ?_⟩; have B := B.trans x34; refine t_m rfl ?_ rfl; (iterate 2 refine t_extract rfl rfl ?_ rfl); refine t_w S z_topo rfl ?_ rfl rfl; intro g6 w35 x36 S; have B := bx Hb B x36; refine t_w S z_path rfl ?_ rfl rfl; intro g7 w37 x38 S; have B := bx Hb B x38; have S := S.f1; refine t_stn S sb_topo rfl rfl rfl rfl (by repeat first | exact oc0 | refine oc rfl ?_ | refine oc (SlR.cells (S.tail.tail.tail.sl)).2 ?_ | refine oc (SlR.cells (S.t4.sl)).2 ?_) ?_; intro w39 b40 S; have B := B.trans b40; have S := S.f1; refine t_stn S sb_path rfl rfl rfl rfl (by repeat first | exact oc0 | refine oc rfl ?_ | refine oc (SlR.cells (S.tail.tail.sl)).2 ?_) ?_; intro w41 b42 S; have B := B.trans b42; refine t_e ?_; refine w_s ?_; refine w_draw (.st .take 0 (.st .take 1 (.st .take 2 (.st .fin 3 .done)))) mixed (by kernel_rfl) ?_; intro w43 x44
  have B := bx Hb B x44; have S := S.below x44; refine t_m rfl ?_ rfl; refine t_b S.box ab_path sb_path rfl rfl ?_ rfl; refine t_a rfl ?_ rfl; have S := S.f7; refine t_stn S sb_path rfl rfl rfl rfl (by repeat first | exact oc0 | refine oc rfl ?_ | refine oc (SlR.cells (S.tail.tail.tail.sl)).2 ?_) ?_; intro w45 b46 S; have B := B.trans b46; refine t_e' ?_; refine w_r ?_; refine x_rettc rfl rfl rfl S.box ab_path sb_path rfl ?_; have S := S.tail.tail.tail.f1.tail.f1.tail.f1.tail.f1; exact ⟨_, _, _, _, rfl, ⟨hf11, hf29.2.toS⟩, sl_two S, ext_trans X0 B⟩
theorem spec_DrawEqualPathLists (code : List UInt8) (v : Value) (w : World) (h : SlR byteT w v code) (hz : code.length ≤ 1048576) : Calls Tryz.prog 20 #[v] w fun e w' => ∃ (va vb : Value) (a b : List Path), e = .returned (.tuple #[va, vb]) ∧ (PathsS a ∧ PathsS b) ∧ Sep w.heap.size w' [rdsO fun w => SlR pathT w va a ∧ SlR pathT w vb b] ∧ Ext w w' := by
 have K := CodeK.of h hz; have X0 := Below.refl w.heap.size w; refine enter Tryz.func20 rfl Tryz.ntmps20 rfl ?_; have S := Sep.nil w; have B := Below.refl w.heap.size w; have Hb := Nat.le_refl w.heap.size; refine w_h ?_; (iterate 2 refine t_a rfl ?_ rfl); refine t_k ?_; refine t_m rfl ?_ rfl; refine t_c Tryz.call59 rfl (spec_l1New _ _ _ (by first | assumption | exact SlR.below ‹_› B) (by omega)) ?_ rfl rfl; rintro e w47 ⟨g7, fpg7, rfl, hOg7, x48⟩; refine ⟨_, rfl, x48, ?_⟩; have S := S.add (o := curO _ _ _ _) x48 hOg7; have B := bx Hb B x48; refine t_a rfl ?_ rfl; refine t_k ?_; refine t_m rfl ?_ rfl; refine t_f Tryz.call69 rfl (spec_l23Paths S (K.below B)) ?_ rfl; rintro e w49 ⟨v9, l9, rfl, hf9, S, x50⟩; refine ⟨_, rfl, ?_⟩; have B := B.trans x50; refine t_a rfl ?_ rfl; refine t_e ?_; refine w_s ?_; have hll := hf9.1; refine w_h ?_; refine t_m rfl ?_ rfl; have S := S.f1; refine t_f Tryz.call70 rfl (spec_l1Once 2 S (K.below B)) ?_ rfl; rintro e w51 ⟨y11, rfl, hf11, S, x52⟩; refine ⟨_, rfl, ?_⟩; have B := B.trans x52; refine t_e ?_; refine w_if rfl ?_ ?_
 ·intro h1; have S := S.f1; obtain ⟨fp, hpk, S⟩ := S.toKeep; refine w_h ?_; refine t_m rfl ?_ rfl; refine t_lit0 (T := pathT) S bs_path0 rfl ?_ rfl rfl; intro A13 w53 x54 S; have B := bx Hb B x54; refine t_m rfl ?_ rfl; have S := S.pickNil (fp := fp) (w0 := w51); refine t_cat (T := (pickT pathT fp w51)) (fun _ _ _ _ h => ⟨h, rfl⟩) e_path S (S.tail.kp hpk) rfl rfl rfl (by first | omega | (simp; done) | (simp; omega)) (by (simp only [maxLen]); first | omega | (simp; done) | (simp; omega)) ?_ rfl; intro v15 w55 x56 S; have B := B.trans x56; (iterate 2 refine t_a rfl ?_ rfl); refine t_e ?_; refine w_r ?_; refine x_t ?_; refine x_ret2 rfl rfl rfl ?_; have S := S.f2.tail.f1.f1; exact ⟨_, _, l9, l9, rfl, ⟨hf9, hf9⟩, pick_end2 (fun w' k => pick_sl (hpk w' k) k) S, ext_trans X0 B⟩
 ·intro h1; refine w_k ?_; refine x_s ?_; refine w_h ?_; (iterate 2 refine t_m rfl ?_ rfl); refine t_f Tryz.call69 rfl (spec_l23Paths S (K.below B)) ?_ rfl; rintro e w57 ⟨v18, l18, rfl, hf18, S, x58⟩; refine ⟨_, rfl, ?_⟩; have B := B.trans x58; (iterate 2 refine t_a rfl ?_ rfl); refine t_e ?_; refine w_r ?_; refine x_ret2 rfl rfl rfl ?_; have S := S.f1.tail.f1; exact ⟨_, _, _, _, rfl, ⟨hf9, hf18⟩, sl_two S, ext_trans X0 B⟩
theorem flat_rev (f : Nat → List Int) : ∀ L : Nat, (List.range L).flatMap (fun j => (f (L - 1 - j)).reverse) = ((List.range L).flatMap f).reverse
  | 0 => rfl
  | L + 1 => by
    have ih := flat_rev f L
    have e : (List.range (L + 1)).flatMap f = (List.range L).flatMap f ++ f L := by rw [List.range_succ, List.flatMap_append]; simp
    rw [e, List.reverse_append, ← ih, List.range_succ_eq_map, List.flatMap_cons, List.flatMap_map]
    have e2 : (fun a => (f (L + 1 - 1 - Nat.succ a)).reverse) = fun j => (f (L - 1 - j)).reverse := by
      funext j
      rw [show L + 1 - 1 - Nat.succ j = L - 1 - j by omega]
    rw [e2]
    rfl
theorem flat_congr {f g : Nat → List Int} : ∀ L : Nat, (∀ m, m < L → f m = g m) → (List.range L).flatMap f = (List.range L).flatMap g
  | 0, _ => rfl
  | L + 1, h => by
    rw [List.range_succ, List.flatMap_append, List.flatMap_append, flat_congr L fun m hm => h m (by omega)]
    simp [h L (by omega)]
def doorsAt (s : Seg) (n m : Nat) : List Int := match s.hops[n + m]?, s.hops[n + m + 1]? with
  | some x, some y => [nm x.ia x.eg, nm y.ia y.ing]
  | _, _ => []
theorem link_fwd {s : Seg} {kind : Int} (hk : 1 ≤ kind ∧ kind ≤ 4) (hr : isRev kind = false) {n : Nat} (hn : n < s.hops.length) : linkN (makePart s kind n) = (List.range (s.hops.length - n - 1)).flatMap (doorsAt s n) := by
  obtain ⟨hl, hm⟩ := make_out hk hn
  unfold linkN linkTo
  rw [hl]
  refine flat_congr _ fun j hj => ?_
  obtain ⟨x, y, hx, hy, e1, e2, e3, e4⟩ := hm j (by omega); rw [hr] at hx hy e1 e2 e3 e4
  simp only [Bool.false_eq_true, if_false] at hx hy e1 e2 e3 e4
  rw [e1, e2, e3, e4]
  unfold doorsAt
  rw [hx, hy]
theorem link_bwd {s : Seg} {kind : Int} (hk : 1 ≤ kind ∧ kind ≤ 4) (hr : isRev kind = true) {n : Nat} (hn : n < s.hops.length) : linkN (makePart s kind n) = ((List.range (s.hops.length - n - 1)).flatMap (doorsAt s n)).reverse := by
  obtain ⟨hl, hm⟩ := make_out hk hn; rw [← flat_rev]
  unfold linkN linkTo
  rw [hl]
  refine flat_congr _ fun j hj => ?_
  obtain ⟨x, y, hx, hy, e1, e2, e3, e4⟩ := hm j (by omega); rw [hr] at hx hy e1 e2 e3 e4
  simp only [if_true] at hx hy e1 e2 e3 e4
  rw [e1, e2, e3, e4]
  unfold doorsAt
  rw [show n + (s.hops.length - n - 1 - 1 - j) = s.hops.length - 2 - j by omega, hx, hy]
  rfl
theorem leastE_min : ∀ (n : Nat) (l : List Hop), l.length = n + 1 → (∃ x ∈ l, x.exp = leastE l) ∧ ∀ x ∈ l, leastE l ≤ x.exp
  | n, l, hl => by
    rcases List.eq_nil_or_concat l with h1 | ⟨u, x, h1⟩
    · rw [h1] at hl; simp at hl
    · rw [List.concat_eq_append] at h1
      subst h1; cases n with
      | zero =>
        have : u = [] := List.length_eq_zero_iff.1 (by rw [List.length_append, List.length_singleton] at hl; omega); subst this; exact ⟨⟨x, List.mem_singleton.2 rfl, rfl⟩, fun y hy => by rw [List.nil_append, List.mem_singleton] at hy; rw [hy]; exact Int.le_refl _⟩
      | succ n =>
        have hu : u.length = n + 1 := by rw [List.length_append, List.length_singleton] at hl; omega
        obtain ⟨⟨z, hz, ez⟩, hm⟩ := leastE_min n u hu; rw [leastE_snoc x (fun e => by rw [e] at hu; simp at hu)]
        split
        · rename_i hlt
          refine ⟨⟨x, by simp, rfl⟩, fun y hy => ?_⟩
          rcases List.mem_append.1 hy with hy | hy
          · have := hm y hy; omega
          · rw [List.mem_singleton] at hy; rw [hy]; exact Int.le_refl _
        · rename_i hlt
          refine ⟨⟨z, List.mem_append_left _ hz, ez⟩, fun y hy => ?_⟩
          rcases List.mem_append.1 hy with hy | hy
          · exact hm y hy
          · rw [List.mem_singleton] at hy; rw [hy]; omega
theorem leastE_rev (l : List Hop) : leastE l.reverse = leastE l := by
  cases hl : l.length with
  | zero => rw [List.length_eq_zero_iff.1 hl]; rfl
  | succ n =>
    obtain ⟨⟨x, hx, ex⟩, h1⟩ := leastE_min n l hl; obtain ⟨⟨y, hy, ey⟩, h2⟩ := leastE_min n l.reverse (by rw [List.length_reverse]; exact hl); have := h1 y (List.mem_reverse.1 hy); have := h2 x (List.mem_reverse.2 hx)
    omega
/-- A part turned round. -/
def Mir (x y : Part) : Prop := linkN y = (linkN x).reverse ∧ ∀ now, partNow now y = partNow now x
theorem Mir.symm {x y : Part} (h : Mir x y) : Mir y x := ⟨by rw [h.1, List.reverse_reverse], fun now => (h.2 now).symm⟩
theorem make_mir {s : Seg} {kr kf : Int} (hk : 1 ≤ kr ∧ kr ≤ 4) (hk' : 1 ≤ kf ∧ kf ≤ 4) (hr : isRev kr = true) (hf : isRev kf = false) {i : Int} (h0 : 0 ≤ i) (h1 : i < s.hops.length) : Mir (makePart s kf i) (makePart s kr i) := by
  obtain ⟨n, rfl⟩ : ∃ n : Nat, i = n := ⟨i.toNat, by omega⟩; have g1 : inR (n : Int) 0 ((s.hops.length : Int) - 1) = true := inR_yes (by omega) (by omega); refine ⟨by rw [link_fwd hk' hf (by omega), link_bwd hk hr (by omega)], fun now => ?_⟩; rw [make_rev g1 (inR_yes hk.1 hk.2) hr, make_fwd g1 (inR_yes hk'.1 hk'.2) hf]
  unfold partNow
  dsimp only; rw [leastE_rev]
theorem up_mir {s : Seg} {i : Int} (h0 : 0 ≤ i) (h1 : i < s.hops.length) : Mir (makePart s 1 i) (makePart s 4 i) := (make_mir (by omega) (by omega) rfl rfl h0 h1).symm
theorem core_mir {s : Seg} (h : 0 < (s.hops.length : Int)) (rev : Bool) : Mir (coreP s rev) (coreP s (!rev)) := by
  unfold coreP
  cases rev with
  | true => exact (make_mir (kr := 3) (kf := 2) (by omega) (by omega) rfl rfl (Int.le_refl _) h).symm
  | false => exact make_mir (kr := 3) (kf := 2) (by omega) (by omega) rfl rfl (Int.le_refl _) h
theorem btw_flip {k : Sdb} {rev : Bool} {a b : Int} {s : Seg} (h : s ∈ btw k rev a b) : s ∈ btw k (!rev) b a := by
  cases rev <;> exact h
/-- A path turned round. -/
def MirL (p q : Path) : Prop := q.flatMap linkN = (p.flatMap linkN).reverse ∧ ∀ now, q.all (partNow now) = p.all (partNow now)
theorem mir1 {x x' : Part} (h : Mir x x') : MirL [x] [x'] := ⟨by simp [h.1], fun now => by simp [h.2]⟩
theorem mir2 {x x' y y' : Part} (h : Mir x x') (h' : Mir y y') : MirL [x, y] [y', x'] := ⟨by simp [h.1, h'.1], fun now => by simp [h.2, h'.2, Bool.and_comm]⟩
theorem mir3 {x x' y y' z z' : Part} (h : Mir x x') (h' : Mir y y') (h'' : Mir z z') : MirL [x, y, z] [z', y', x'] := ⟨by simp [h.1, h'.1, h''.1], fun now => by
  simp only [List.all_cons, List.all_nil, h.2, h'.2, h''.2, Bool.and_true]
  cases partNow now x <;> cases partNow now y <;> cases partNow now z <;> rfl⟩
theorem lastI_has {l : List Hop} {r : Int} : ∀ (n : Nat) {m : Nat} {x : Hop}, m < n → l[m]? = some x → x.ia = r → (m : Int) ≤ lastI l r n
  | n + 1, m, x, hm, hx, e => by
    unfold lastI
    rcases Nat.lt_or_ge m n with q | q
    · have ih := lastI_has n q hx e
      split
      · split <;> omega
      · exact ih
    · have : m = n := by omega
      subst this; rw [hx]
      simp only [e, if_true]
      exact Int.le_refl _
/-- meet takes the last hop of the first that the second has. -/
theorem meet_max (u d : Seg) (n : Nat) : n ≤ u.hops.length → ∀ {m j : Nat} {x y : Hop}, m < n → u.hops[m]? = some x → d.hops[j]? = some y → y.ia = x.ia → ∃ (i : Nat) (j' : Int) (x' y' : Hop), meet u d n = [makePart u 1 i, makePart d 4 j'] ∧ u.hops[i]? = some x' ∧ 0 ≤ j' ∧ d.hops[j'.toNat]? = some y' ∧ y'.ia = x'.ia ∧ m ≤ i ∧ i < n := by
  induction n with
  | zero => intro _ m j x y hm; omega
  | succ n ih =>
    intro hn m j x y hm hx hy e; have hj := (List.getElem?_eq_some_iff.1 hy).1; have hmu := (List.getElem?_eq_some_iff.1 hx).1
    unfold meet
    cases hz : u.hops[n]? with
    | none =>
      rw [List.getElem?_eq_none_iff] at hz
      omega
    | some z =>
      dsimp only
      by_cases h0 : 0 ≤ lastI d.hops z.ia d.hops.length
      · rw [if_pos h0]
        obtain ⟨y', hy', e'⟩ := lastI_at d.hops z.ia _ h0; exact ⟨n, _, z, y', rfl, hz, h0, hy', e', by omega, by omega⟩
      · rw [if_neg h0]
        rcases Nat.lt_or_ge m n with q | q
        · obtain ⟨i, j', x', y', k1, k2, k3, k4, k5, k6, k7⟩ := ih (by omega) q hx hy e
          exact ⟨i, j', x', y', k1, k2, k3, k4, k5, k6, by omega⟩
        · exfalso
          have : m = n := by omega
          subst this; rw [hx] at hz; cases hz; have := lastI_has d.hops.length hj hy e
          omega
/-- Realms ascend along a segment down. -/
def Asc (s : Seg) : Prop := ∀ (i j : Nat) x y, i < j → s.hops[i]? = some x → s.hops[j]? = some y → x.ia < y.ia
theorem asc_of {s : Seg} (h : ∀ (i : Nat) x y, s.hops[i]? = some x → s.hops[i + 1]? = some y → x.ia < y.ia) : Asc s := by
  intro i j x y hij hx hy; obtain ⟨m, rfl⟩ : ∃ m, j = i + 1 + m := ⟨j - i - 1, by omega⟩; clear hij
  induction m generalizing y with
  | zero => exact h i x y hx hy
  | succ m ih =>
    have hlt := (List.getElem?_eq_some_iff.1 hy).1; obtain ⟨z, hz⟩ : ∃ z, s.hops[i + 1 + m]? = some z := getx (by omega); have h1 := ih z hz; have h2 := h (i + 1 + m) z y hz hy
    omega
theorem child_up {t : Topo} (hK : ∀ x ∈ t.links, x.a < x.b) {r d q e : Int} (h : remote t r d = (q, e)) (hq : 0 ≤ q) (hk : ifKind t r d = 2) : r < q := by
  obtain ⟨i, x, h1, h2, h3, h4, h5⟩ := link_of h hq; have hlt := hK x h3
  unfold ifKind at hk
  split at hk
  · omega
  · rw [h1, Option.bind_some, h2] at hk
    dsimp only at hk
    split at hk
    · omega
    · split at hk
      · omega
      · split at hk
        · split at hk
          · rename_i hc
            rw [if_pos hc] at h5; cases h5
            omega
          · omega
        · omega
theorem down_asc {t : Topo} (hK : ∀ x ∈ t.links, x.a < x.b) {k : Sdb} (D : DbL t k) {s : Seg} (hs : s ∈ k.down) : Asc s := asc_of fun i x y hx hy => by
  have W := (D.db.down s hs).2; have hy0 : 0 ≤ y.ia := (inR_iff.1 (W.ok y (List.mem_of_getElem? hy)).2).1; exact child_up hK (W.link i x y hx hy).2 hy0 (D.down s hs i x y hx hy)
theorem asc_inj {s : Seg} (h : Asc s) {i j : Nat} {x y : Hop} (hx : s.hops[i]? = some x) (hy : s.hops[j]? = some y) (hij : i ≤ j) : x.ia ≤ y.ia ∧ (x.ia = y.ia → i = j) := by
  rcases Nat.lt_or_ge i j with q | q
  · have := h i j x y q hx hy; omega
  · have : i = j := by omega
    subst this; rw [hx] at hy; cases hy; exact ⟨Int.le_refl _, fun _ => rfl⟩
theorem meet_mir {u d : Seg} (hu : Asc u) (hd : Asc d) (h : (joinUD u d).length ≠ 0) : (joinUD d u).length ≠ 0 ∧ MirL (joinUD u d) (joinUD d u) := by
  obtain ⟨i, j, x, y, e, hx, hj, hy, exy⟩ := meet_at u d u.hops.length h; obtain ⟨n, rfl⟩ : ∃ n : Nat, j = n := ⟨j.toNat, by omega⟩; rw [Int.toNat_natCast] at hy; have li := (List.getElem?_eq_some_iff.1 hx).1; have ln := (List.getElem?_eq_some_iff.1 hy).1; obtain ⟨j', i', y', x', e', hy', hi', hx', exy', hn, _⟩ := meet_max d u d.hops.length (Nat.le_refl _) ln hy hx exy.symm; obtain ⟨m, rfl⟩ : ∃ m : Nat, i' = m := ⟨i'.toNat, by omega⟩; rw [Int.toNat_natCast] at hx'; have lm := (List.getElem?_eq_some_iff.1 hx').1; obtain ⟨i2, _, x2, _, e2, hx2, _, _, _, hm2, _⟩ := meet_max u d u.hops.length (Nat.le_refl _) lm hx' hy' exy'.symm
  have hi2 : i2 = i := by
    rw [e] at e2; have h1 : makePart u 1 (i : Int) = makePart u 1 (i2 : Int) := (List.cons.inj e2).1; have li2 := (List.getElem?_eq_some_iff.1 hx2).1; have k1 := (make_out (s := u) (kind := 1) (by omega) li).1; have k2 := (make_out (s := u) (kind := 1) (by omega) li2).1; rw [h1, k2] at k1
    omega
  subst hi2; have a1 := asc_inj hd hy hy' hn; have a2 := asc_inj hu hx' hx2 hm2; rw [hx] at hx2; cases hx2; have q1 : n = j' := a1.2 (by omega); have q2 : m = i2 := a2.2 (by omega); subst q1; subst q2
  unfold joinUD
  rw [e, e']; refine ⟨by simp, mir2 (up_mir (by omega) (by omega)) ((up_mir (by omega) (by omega)).symm)⟩
theorem mirror {t : Topo} (hK : ∀ x ∈ t.links, x.a < x.b) {k : Sdb} (D : DbL t k) {a b : Int} {p : Path} (h : Comb t k a b p) : ∃ q, Comb t k b a q ∧ MirL p q := by
  have pd : ∀ {r : Int} {s : Seg}, s ∈ downs k r → 0 < (s.hops.length : Int) := fun h => seg_pos (downs_mem D.db h).2.1
  have pb : ∀ {x y : Int} {s : Seg} {rev : Bool}, s ∈ btw k rev x y → 0 < (s.hops.length : Int) := fun h => seg_pos (btw_mem D.db h).2
  have mu : ∀ {r : Int} {s : Seg}, s ∈ downs k r → Mir (makePart s 1 0) (makePart s 4 0) := fun h => up_mir (Int.le_refl _) (pd h)
  cases h with
  | up s hs h0 =>
    obtain ⟨_, _, _, hl⟩ := firstH_at h0; exact ⟨_, .down s hs h0, mir1 (up_mir h0 hl)⟩
  | down s hs h0 =>
    obtain ⟨_, _, _, hl⟩ := firstH_at h0; exact ⟨_, .up s hs h0, mir1 (up_mir h0 hl).symm⟩
  | core s rev hs => exact ⟨_, .core s (!rev) (btw_flip hs), mir1 (core_mir (pb hs) rev)⟩
  | meet u d hu hd hne =>
    have := meet_mir (down_asc hK D (downs_mem D.db hu).1) (down_asc hK D (downs_mem D.db hd).1) hne; exact ⟨_, .meet d u hd hu this.1, this.2⟩
  | coreDown s d rev hc hd hs => exact ⟨_, .upCore d s (!rev) hc hd (btw_flip hs), mir2 (core_mir (pb hs) rev) (mu hd).symm⟩
  | upCore u s rev hc hu hs => exact ⟨_, .coreDown s u (!rev) hc hu (btw_flip hs), mir2 (mu hu) (core_mir (pb hs) rev)⟩
  | three u s d rev hu hd hs => exact ⟨_, .three d s u (!rev) hd hu (btw_flip hs), mir3 (mu hu) (core_mir (pb hs) rev) (mu hd).symm⟩
theorem usable_mir {t : Topo} (hU : Uniq t.links) (hK : ∀ x ∈ t.links, x.a < x.b ∧ 1 ≤ x.ai ∧ 1 ≤ x.bi) {k : Sdb} (D : DbL t k) {a b now : Int} {p : Path} (h : p ∈ comb t k a b) (hu : usable t p now = true) : ∃ q ∈ comb t k b a, usable t q now = true := by
  have hK' : ∀ x ∈ t.links, 1 ≤ x.ai ∧ 1 ≤ x.bi := fun x hx => (hK x hx).2
  obtain ⟨hne, hc⟩ := (comb_iff D.db).1 h; obtain ⟨q, hq, m1, m2⟩ := mirror (fun x hx => (hK x hx).1) D hc; have hq' : q ∈ comb t k b a := (comb_iff D.db).2 ⟨fun z => hne (z.elim (fun z => .inl z.symm) fun z => .inr (z.symm)), hq⟩; obtain ⟨g1, g2, _⟩ := comb_good hU hK D.db q hq'; refine ⟨q, hq', ?_⟩
  unfold usable at hu ⊢
  rw [Bool.and_eq_true, Bool.and_eq_true] at hu ⊢; obtain ⟨⟨hs, hv⟩, hn⟩ := hu; obtain ⟨hw, hd⟩ := simple_nd hs; refine ⟨⟨simple_of g1 ?_, g2⟩, by rw [m2]; exact hn⟩; rw [nums_parts hK' g1, m1]; rw [nums_parts hK' hw] at hd; exact List.pairwise_reverse.2 (hd.imp Ne.symm)
/-- There is a path one way just when there is one the other way. -/
theorem find_both {t : Topo} (hU : Uniq t.links) (hK : ∀ x ∈ t.links, x.a < x.b ∧ 1 ≤ x.ai ∧ 1 ≤ x.bi) {k : Sdb} (D : DbL t k) (a b now : Int) : (findP t now (comb t k a b)).length = 0 ↔ (findP t now (comb t k b a)).length = 0 := by
  have key : ∀ a b : Int, (findP t now (comb t k a b)).length = 0 → (findP t now (comb t k b a)).length = 0 := by
    intro a b h; have h1 := (findP_all (comb t k a b)).2.2.2 h; rw [List.length_eq_zero_iff, List.eq_nil_iff_forall_not_mem]; intro x hx; obtain ⟨h2, h3⟩ := (findP_all (comb t k b a)).1 x hx; obtain ⟨q, hq, hu⟩ := usable_mir hU hK D h2 h3; rw [h1 q hq] at hu; cases hu
  exact ⟨key a b, key b a⟩
theorem findP_S0 {t : Topo} {now : Int} {l : List Path} (h : PathsS l) : PathsS (findP t now l) := by
  obtain ⟨h1, _, h3, _⟩ := findP_all (t := t) (now := now) l; exact ⟨by omega, fun x hx => h.2 x (h1 x hx).1⟩
theorem impl_FindP (t : Topo) (q : Sdb) (v v1 : Value) (a b now : Int) (l : List Path) (w : World) (h : VA topoT w v t) (h' : VA sdbT w v1 q) (hz : sz_topo t ≤ 1048576) (hz' : sz_sdb q ≤ 1048576) (hn : DbN q) (hP : PathsS (comb t q a b)) (hl : l = findP t now (comb t q a b)) : Calls Tryz.prog 9 #[v, v1, I a, I b, I now] w fun e w' => ∃ v, e = .returned v ∧ True ∧ Sep w.heap.size w' [rdO pathT v l] ∧ Ext w w' := by
  rw [hl]; exact impl_FindPaths t q v v1 a b now w h h' hz hz' hn hP
theorem spec_FindP (t : Topo) (q : Sdb) (v v1 : Value) (a b now : Int) (l : List Path) (w : World) (h : VA topoT w v t) (h' : VA sdbT w v1 q) (hz : sz_topo t ≤ 1048576) (hz' : sz_sdb q ≤ 1048576) (hn : DbN q) (hP : PathsS (comb t q a b)) (hl : l = findP t now (comb t q a b)) : Calls Tryz.prog 10 #[v, v1, I a, I b, I now] w fun e w' => ∃ v, e = .returned v ∧ True ∧ Sep w.heap.size w' [rdO pathT v l] ∧ Ext w w' := by
  rw [hl]; exact spec_FindPaths t q v v1 a b now w h h' hz hz' hn hP
section
variable (P : Program) (f : FuncId) (fn : Func) (s : ChangeSpec) (c : OpenClaim)
def jnA : Bool := c.wf (OpenSpec.ofChange s) && laidOutB P && mapsRowed P && fn.params.all (P.readableRec ·) && namedTie P c.named s.vars && (c.stops == []) && (P.stops == []) && (c.knobs == []) && (P.stopKnobs == [])
def jnB : Bool := (c.inPlace == P.inPlace f) && (c.unfollowed == P.unfollowed f) && (c.recurses == P.recurses f) && (c.named == P.varsNamed f)
def jnC : Bool := (c.maps == (fn.params.toList ++ s.plain.varTypes P).any (P.mapsRec ·)) && (c.ifaces == (fn.params.toList ++ s.plain.varTypes P).any (P.ifacesRec ·)) && (c.mapsOut == P.mapsAmong fn.resultTypes.toList) &&
  (c.loops == (fn.params.toList ++ s.plain.varTypes P).any (P.loopsFrom ·)) && (c.wideKeys == (fn.params.toList ++ s.plain.varTypes P ++ fn.resultTypes.toList).any (P.wideKeysFrom ·)) &&
  s.vars.all (P.varReadable ·) && fn.resultTypes.all (fun t => P.readableRec t && decide (t < P.types.size)) && (c.ifacesOut == fn.resultTypes.toList.any (P.ifacesRec ·)) && (c.loopsOut == fn.resultTypes.toList.any (P.loopsFrom ·)) && (c.plainKeys == P.plainKeys) && c.shortTexts.isNone
def jnD : Bool := P.stopsHeard
def jnE : Bool := P.mayEnter
def jnF : Bool := c.lifted == P.liftsFinal
def jnG : Bool := P.make == some c.make
def jnH : Bool := (c.kinds == (if c.domain.isEmpty then [] else fn.params.toList.map fun t => match P.underlying t with | some (.int k) => some k | _ => none))
def jnI : Bool := c.pinned == c.pinnedBy
def jnJ : Bool := (c.veiled == (fn.params.toList ++ s.plain.varTypes P ++ fn.resultTypes.toList).any (P.veiledRec ·)) && c.veiledFits P fn.params.toList (fn.params.toList ++ s.plain.varTypes P ++ fn.resultTypes.toList)
end
theorem joined_of {P : Program} {f : FuncId} {fn : Func} {s : ChangeSpec} {c : OpenClaim} (hA : jnA P fn s c = true) (hB : jnB P f c = true) (hC : jnC P fn s c = true) (hD : jnD P = true) (hE : jnE P = true) (hF : jnF P c = true) (hG : jnG P c = true) (hH : jnH P fn c = true) (hI : jnI c = true) (hJ : jnJ P fn s c = true) : joinedFacts P f fn s c = true := by
  unfold jnA at hA
  unfold jnB at hB
  unfold jnC at hC
  unfold jnD at hD
  unfold jnE at hE
  unfold jnF at hF
  unfold jnG at hG
  unfold jnH at hH
  unfold jnI at hI
  unfold jnJ at hJ
  simp only [Bool.and_eq_true] at hA hB hC hJ
  unfold joinedFacts
  simp only [Bool.and_eq_true]
  obtain ⟨⟨⟨⟨⟨⟨⟨⟨a1, a2⟩, a3⟩, a4⟩, a5⟩, a6⟩, a7⟩, a8⟩, a9⟩ := hA; obtain ⟨⟨⟨b1, b2⟩, b3⟩, b4⟩ := hB; obtain ⟨⟨⟨⟨⟨⟨⟨⟨⟨⟨c1, c2⟩, c3⟩, c4⟩, c5⟩, c6⟩, c7⟩, c8⟩, c9⟩, c10⟩, c11⟩ := hC; obtain ⟨d1, d2⟩ := hJ; exact ⟨⟨⟨⟨⟨⟨⟨⟨⟨⟨⟨⟨⟨⟨⟨⟨⟨⟨⟨⟨⟨⟨⟨⟨⟨⟨⟨⟨⟨⟨⟨a1, a2⟩, a3⟩, a4⟩, a5⟩, a6⟩, a7⟩, a8⟩, a9⟩, b1⟩, b2⟩, b3⟩, b4⟩, c1⟩, c2⟩, c3⟩, c4⟩, c5⟩, c6⟩, c7⟩, c8⟩, c9⟩, c10⟩, c11⟩, hD⟩, hE⟩, hF⟩, hG⟩, hH⟩, hI⟩, d1⟩, d2⟩
open Go.ChangeShapes Go.WideShapes Go.ChangeAt Go.RowKit Go.Deep
theorem knob : ownKnob Tryz.prog.godebug = none := by kernel_rfl
theorem laidOut : laidOutB Tryz.prog = true := by kernel_rfl
section
variable {H : Type} {enc : TypeId × Value → H} {P : Program} {w : World} {base : Nat} {spare : Nat → Bool} {held : Bool}
/-- A slice, by its elements. -/
theorem open_sl {α : Type} (T : Ty α) (good : α → Prop) {t e : TypeId} (ht : P.underlying t = some (.slice e)) (hC : P.cellsOf e = T.size)
  (hel : ∀ (n : Nat) cs y, DataW.trod enc P w base spare held n e cs = some y → ∃ a, T.R w cs a ∧ good a) {fuel : Nat} {cs : List Value} {x : DataW H × List MemPlace} (h : DataW.trod enc P w base spare held fuel t cs = some x) :
  ∃ A c l, cs = [.slice A l.length c] ∧ SlR T w (.slice A l.length c) l ∧ l.length ≤ 9223372036854775807 ∧ ∀ a ∈ l, good a := by
 rcases open_slice ht h with ⟨h0, _⟩ | ⟨a, len, cap, m, n, D, Pl, hcs, hb, hl, hm, hmm, hx, hi⟩
 ·exact ⟨none, 0, [], h0, ⟨none, 0, [], rfl, Nat.le_refl _, rfl, Rd.nil, fun i cs a hi => by simp at hi⟩, by simp, by simp⟩
 ·have hlm : len ≤ m := by rw [hmm]; split <;> omega
  have hall : ∀ i : Fin len, ∃ (cs : List Value) (x : α), T.R w cs x ∧ good x ∧ cs.length = T.size ∧ ∀ j, j < T.size → w.cell? ((a.add (i * T.size)).add j) = cs[j]? := fun i => by
   obtain ⟨cs', h1, h2⟩ := hi i (by omega); obtain ⟨x, h3, h4⟩ := hel _ _ _ h2; obtain ⟨_, h5, h6⟩ := World.cells?_some h1; rw [hC] at h5 h6; exact ⟨cs', x, h3, h4, h5, h6⟩
  obtain ⟨f, hf⟩ := Classical.axiomOfChoice hall; obtain ⟨g, hg⟩ := Classical.axiomOfChoice hf; have hlen : (List.ofFn g).length = len := List.length_ofFn; refine ⟨some a, cap, List.ofFn g, by rw [hlen]; exact hcs, ⟨some a, cap, List.ofFn f, rfl, by rw [hlen]; exact hl, by simp, ?_, ?_⟩, by rw [hlen]; simp only [maxLen] at hm; omega, ?_⟩
  ·intro hpos
   have hp : 0 < len := by
    rcases Nat.eq_zero_or_pos len with h0 | h0
    ·subst h0; simp at hpos
    ·exact h0
   have hsz := T.pos; have hc0 := (hg ⟨0, hp⟩).2.2.2 0 hsz
   simp only [Nat.zero_mul] at hc0
   have hspot : a.spot = none := by
    have hsome : (w.cell? a).isSome = true := by
     have h9 : w.cell? a = (f ⟨0, hp⟩)[0]? := by
      have : (a.add 0).add 0 = a := by simp [Addr.add]
      rw [← this]; exact hc0
     rw [h9, List.getElem?_eq_getElem (by rw [(hg ⟨0, hp⟩).2.2.1]; exact hsz)]
     rfl
    unfold World.cell? at hsome
    split at hsome
    ·split at hsome
     ·simp at hsome
     ·rename_i hs; simpa using hs
    ·simp at hsome
   obtain ⟨ab, ao, as'⟩ := a
   simp only at hspot
   subst hspot; refine ⟨ab, ao, rfl, fun j u hu => ?_⟩
   have hfl : ∀ (i : Nat) cs, (List.ofFn f)[i]? = some cs → cs.length = T.size := fun i cs hi => by
    obtain ⟨hlt, rfl⟩ := List.getElem?_eq_some_iff.1 hi; rw [List.getElem_ofFn]; exact (hg _).2.2.1
   have hj : j < len * T.size := by
    have := (List.getElem?_eq_some_iff.1 hu).1; rw [flatten_len hfl, List.length_ofFn] at this; exact this
   have hq : j / T.size < len := Nat.div_lt_of_lt_mul (by rw [Nat.mul_comm]; exact hj); have hr := Nat.mod_lt j hsz
   have ej : j / T.size * T.size + j % T.size = j := by rw [Nat.mul_comm]; exact Nat.div_add_mod j T.size
   have h1 := (hg ⟨j / T.size, hq⟩).2.2.2 (j % T.size) hr; have h2 := flatten_at hfl (j / T.size) (f ⟨j / T.size, hq⟩) (by rw [List.getElem?_ofFn, dif_pos hq]) (j % T.size) hr; rw [ej] at h2; rw [Addr.add_lit, Addr.add_lit] at h1
   simp only [Nat.add_assoc] at h1
   rw [ej] at h1; rw [h1, ← h2]; exact hu
  ·intro i cs x hi hx
   have hlt : i < len := by
    have := (List.getElem?_eq_some_iff.1 hi).1
    simpa using this
   rw [List.getElem?_ofFn, dif_pos hlt] at hi hx
   injection hi with hi
   injection hx with hx
   subst hi hx; exact (hg _).1
  ·intro x hx; obtain ⟨i, hi, rfl⟩ := List.getElem_of_mem hx; rw [List.getElem_ofFn]; exact (hg _).2.1
end
section
variable {H : Type} {enc : TypeId × Value → H} {w : World} {base : Nat} {spare : Nat → Bool} {held : Bool}
end
open Go.ChangeShapes Go.WideShapes Go.ChangeAt Go.RowKit Go.Deep
section
variable {H : Type} {enc : TypeId × Value → H} {w : World} {base : Nat} {spare : Nat → Bool} {held : Bool}
theorem byte_of (n : Nat) (cs : List Value) (y : DataW H × List MemPlace) (h : DataW.trod enc Tryz.prog w base spare held n 5 cs = some y) : ∃ a : UInt8, byteT.R w cs a ∧ True := by
  obtain ⟨a, e, _, wf⟩ := DataW.trod_int Tryz.underlying5 h; have hb := bounds_u8 wf; refine ⟨UInt8.ofNat a.toNat, ?_, trivial⟩
  show cs = [.int .u8 ((UInt8.ofNat a.toNat).toNat : Int)]
  rw [e, UInt8.toNat_ofNat', Nat.mod_eq_of_lt (by omega), Int.toNat_of_nonneg hb.1]
end
open Go.ChangeShapes Go.WideShapes Go.ChangeAt Go.RowKit Go.Deep
section
variable {H : Type} {enc : TypeId × Value → H} {w : World} {base : Nat} {spare : Nat → Bool} {held : Bool}
theorem open_byteS {r : Reach} {b0 : Nat} {v : Value} {d : DataW H} {p : List MemPlace} (hv : Value.okWide Tryz.prog w r b0 22 v) (h : DataW.Trod enc Tryz.prog w base spare held 22 v d p) :
    ∃ l, SlR byteT w v l ∧ l.length ≤ 9223372036854775807 := by
  obtain ⟨a0, len, cap, rfl⟩ := okWide_slice Tryz.underlying22 hv; obtain ⟨fuel, hf⟩ := h; obtain ⟨A, c, l, e, hR, hn, hg⟩ := open_sl byteT (fun _ => True) Tryz.underlying22 (by kernel_rfl) byte_of hf
  simp [Value.cells] at e
  obtain ⟨rfl, rfl, rfl⟩ := e; exact ⟨l, hR, hn⟩
end
end Go.Proofs.YtljkgpembicloaaGreat
