/- What LawFnJoins needs of the texts below it, part 5: contracts of functions, plain lemmas. (Put together by slim.py.) -/
import Derived.Test.YtljkgpembicloaaGreatSLawFnJoins4
namespace Go.Proofs.YtljkgpembicloaaGreat
open Go.RowKit
set_option linter.unusedVariables false
set_option maxRecDepth 100000
theorem take_eq_of {α : Type} {a b : List α} {k : Nat} {x : α} (h : a.take k = b.take k) (ha : a[k]? = some x) (hb : b[k]? = some x) : a.take (k + 1) = b.take (k + 1) := by
  rw [take_succ ha, take_succ hb, h]
theorem ne_of_at {α : Type} {a b : List α} {k : Nat} {x y : α} (ha : a[k]? = some x) (hb : b[k]? = some y) (hxy : x ≠ y) : a ≠ b := by
  rintro rfl; rw [ha] at hb
  injection hb with hb
  exact hxy hb
theorem hop_ne {x0 x1 x2 x3 x4 y0 y1 y2 y3 y4 : Int} (h : ¬ (Hop.mk x0 x1 x2 x3 x4) = Hop.mk y0 y1 y2 y3 y4) :
    (x0 == y0) = false ∨ (x0 = y0 ∧ (x1 == y1) = false) ∨ (x0 = y0 ∧ x1 = y1 ∧ (x2 == y2) = false) ∨ (x0 = y0 ∧ x1 = y1 ∧ x2 = y2 ∧ (x3 == y3) = false) ∨ (x0 = y0 ∧ x1 = y1 ∧ x2 = y2 ∧ x3 = y3 ∧ (x4 == y4) = false) := by
  simp only [Hop.mk.injEq] at h
  simp only [beq_eq_false_iff_ne, ne_eq]
  omega
set_option maxRecDepth 100000 in
theorem impl_sameHops (a b : List Hop) (v u : Value) (w : World) (h : SlR hopT w v a) (h' : SlR hopT w u b) (hn : a.length ≤ 1048576) (hn' : b.length ≤ 1048576) :
  Calls Tryz.prog 162 #[v, u] w fun e w' => e = .returned (.bool (decide (a = b))) ∧ Below w.heap.size w w' := by
 obtain ⟨A, c, rfl, _⟩ := h.form; obtain ⟨A', c', rfl, _⟩ := h'.form; obtain ⟨n, H⟩ : ∃ n, Hid (n = a.length) := ⟨_, rfl⟩; obtain ⟨n', H'⟩ : ∃ n, Hid (n = b.length) := ⟨_, rfl⟩
 by_cases hnn : n = n'
 ·subst hnn; rw [← H.out] at h hn ⊢; rw [← H'.out] at h' hn' ⊢
  go_enter Tryz.func162, Tryz.ntmps162
  go_wp2
  go_loopw [13] (fun i wr => ∃ k : Nat, k ≤ n ∧ i = I k ∧ a.take k = b.take k ∧ Below w.heap.size w wr) (fun i _ => n - (intOf i).toNat)
  case atStart => exact ⟨0, by omega, rfl, rfl, Below.refl _ _⟩
  case round =>
   rename_i wr
   obtain ⟨k, hk, rfl, hab, hb⟩ := hrel; have Hab := hid hab; clear hab
   by_cases hlt : k < n
   ·obtain ⟨g, o, q, x, e, hg, hxk, c0, c1, c2, c3, c4⟩ := hop_at (h.below hb) (by rw [← H.out]; exact hlt); obtain ⟨g', o', q', y, e', hg', hyk, b0, b1, b2, b3, b4⟩ := hop_at (h'.below hb) (by rw [← H'.out]; exact hlt); rw [← H.out] at e; rw [← H'.out] at e'; cases e; cases e'
    by_cases hxy : x = y
    ·subst hxy
     go_wp2
     go_quiet (fail)
     go_wp2
     go_roundw
     case rel => exact ⟨k + 1, by omega, by go_num, take_eq_of Hab.out hxk.out hyk.out, below_drewN hb _⟩
     case measure => simp [intOf]; omega
    ·have hne : Hid (decide (a = b) = false) := by simp [ne_of_at hxk.out hyk.out hxy, Hid]
     obtain ⟨x0, x1, x2, x3, x4⟩ := x; obtain ⟨y0, y1, y2, y3, y4⟩ := y; dsimp only at c0 c1 c2 c3 c4 b0 b1 b2 b3 b4; have hd := hop_ne hxy; clear hxy hxk hyk
     rcases hd with t | ⟨rfl, t⟩ | ⟨rfl, rfl, t⟩ | ⟨rfl, rfl, rfl, t⟩ | ⟨rfl, rfl, rfl, rfl, t⟩
     all_goals
      go_wp2
      go_quiet (fail)
      go_wp2
      go_ret
      exact ⟨by rw [hne.out]; rfl, below_drewN hb _⟩
   ·go_wp2
    go_ret
    have hkn : k = n := by omega
    subst hkn; have h1 := Hab.out; rw [H.out, List.take_length, ← H.out, H'.out, List.take_length] at h1; exact ⟨by rw [h1]; simp, hb⟩
 ·have hne : Hid (decide (a = b) = false) := by
   have : a ≠ b := by rintro rfl; exact hnn (H.out.trans H'.out.symm)
   simp [this, Hid]
  rw [hne.out, ← H.out, ← H'.out]
  go_enter Tryz.func162, Tryz.ntmps162
  go_wp2
  go_ret
  exact ⟨rfl, Below.refl _ _⟩
theorem part_eq_iff (a b : Part) : a = b ↔ a.kind = b.kind ∧ a.ts = b.ts ∧ a.beta = b.beta ∧ a.hops = b.hops := by
  cases a; cases b; simp
theorem impl_EqualParts (a b : Part) (cs ds : List Value) (w : World) (h : partT.R w cs a) (h' : partT.R w ds b) (hn : sz_part a ≤ 1048576) (hn' : sz_part b ≤ 1048576) :
  Calls Tryz.prog 122 #[.agg cs.toArray, .agg ds.toArray] w fun e w' => e = .returned (.bool (decide (a = b))) ∧ Below w.heap.size w w' := by
 obtain ⟨A, c, rfl, ⟨k, _⟩⟩ := part_form h; obtain ⟨B, d, rfl, ⟨k', _⟩⟩ := part_form h'; have hd := part_eq_iff a b; obtain ⟨r, Hr⟩ : ∃ r, Hid (r = decide (a = b)) := ⟨_, rfl⟩; rw [← Hr.out]
 by_cases e0 : a.kind = b.kind
 ·have f0 : (a.kind == b.kind) = true := by simp [e0]
  by_cases e1 : a.ts = b.ts
  ·have f1 : (a.ts == b.ts) = true := by simp [e1]
   by_cases e2 : a.beta = b.beta
   ·have f2 : (a.beta == b.beta) = true := by simp [e2]
    have HR : Hid (r = decide (a.hops = b.hops)) := by show r = _; rw [Hr.out]; simp [hd, e0, e1, e2]
    clear hd e0 e1 e2
    go_enter Tryz.func122, Tryz.ntmps122
    go_wp2_with (fail)
    refine (impl_sameHops a.hops b.hops _ _ _ (k.below ?e1) (k'.below ?e1) hn hn').mono ?_
    case e1 => exact ext_alloc (ext_alloc1 _ _) _
    rintro e w1 ⟨rfl, hb1⟩; rw [← HR.out]
    go_wp2_with (fail)
    go_ret
    exact ⟨rfl, ext_trans (ext_alloc (ext_alloc1 _ _) _) hb1⟩
   ·have f2 : (a.beta == b.beta) = false := by simp [e2]
    have HR : Hid (r = false) := by show r = _; rw [Hr.out]; simp [hd, e2]
    clear hd e0 e1 e2
    go_enter Tryz.func122, Tryz.ntmps122
    go_wp2_with (fail)
    go_ret
    exact ⟨by rw [HR.out]; rfl, ext_alloc (ext_alloc1 _ _) _⟩
  ·have f1 : (a.ts == b.ts) = false := by simp [e1]
   have HR : Hid (r = false) := by show r = _; rw [Hr.out]; simp [hd, e1]
   clear hd e0 e1
   go_enter Tryz.func122, Tryz.ntmps122
   go_wp2_with (fail)
   go_ret
   exact ⟨by rw [HR.out]; rfl, ext_alloc (ext_alloc1 _ _) _⟩
 ·have f0 : (a.kind == b.kind) = false := by simp [e0]
  have HR : Hid (r = false) := by show r = _; rw [Hr.out]; simp [hd, e0]
  clear hd e0
  go_enter Tryz.func122, Tryz.ntmps122
  go_wp2_with (fail)
  go_ret
  exact ⟨by rw [HR.out]; rfl, ext_alloc (ext_alloc1 _ _) _⟩
theorem mem_sz_path {p : Path} {x : Part} (h : x ∈ p) : sz_part x ≤ sz_path p := by
  have := le_sum_of_mem (List.mem_map.2 ⟨x, h, rfl⟩ : sz_part x ∈ p.map sz_part)
  show _ ≤ List.length p + _
  omega
set_option maxRecDepth 100000 in
theorem impl_EqualPaths (a : Path) (cs : List Value) (b : Path) (ds : List Value) (w : World) (h : pathT.R w cs a) (hz : sz_path a ≤ 1048576) (hl : lenOk_path a) (hg : rng_path a) (h' : pathT.R w ds b) (hz' : sz_path b ≤ 1048576) (hl' : lenOk_path b) (hg' : rng_path b) :
  Calls Tryz.prog 72 #[.agg cs.toArray, .agg ds.toArray] w fun e w' => e = .returned (.bool (decide (a = b))) ∧ Below w.heap.size w w' := by
 obtain ⟨A, c, rfl, ⟨h, _⟩⟩ := path_form h; obtain ⟨A', c', rfl, ⟨h', _⟩⟩ := path_form h'; obtain ⟨n, H⟩ : ∃ n, Hid (n = a.length) := ⟨_, rfl⟩; obtain ⟨n', H'⟩ : ∃ n, Hid (n = b.length) := ⟨_, rfl⟩
 have hn : n ≤ 1048576 := by rw [H.out]; have : sz_path a = List.length a + (a.map sz_part).sum := rfl; omega
 have hn' : n' ≤ 1048576 := by rw [H'.out]; have : sz_path b = List.length b + (b.map sz_part).sum := rfl; omega
 obtain ⟨r, Hr⟩ : ∃ r, Hid (r = decide (a = b)) := ⟨_, rfl⟩; rw [← Hr.out]; clear hl hg hl' hg'; have Hz := hid hz; have Hz' := hid hz'; clear hz hz'; rw [← H.out] at h ⊢; rw [← H'.out] at h' ⊢; have hb0 : Below w.heap.size w ((w.alloc (.cells #[.slice A n c] 38)).alloc (.cells #[.slice A' n' c'] 38)) := ext_alloc (ext_alloc1 _ _) _
 by_cases hnn : n = n'
 ·subst hnn
  have p0 : ((w.alloc (.cells #[.slice A n c] 38)).alloc (.cells #[.slice A' n c'] 38)).cell? ⟨w.heap.size, 0, none⟩ = some (.slice A n c) := by simp
  have p1 : ((w.alloc (.cells #[.slice A n c] 38)).alloc (.cells #[.slice A' n c'] 38)).cell? ⟨w.heap.size + 1, 0, none⟩ = some (.slice A' n c') := by simp
  have P0 := hid p0; have P1 := hid p1; clear p0 p1
  go_enter Tryz.func72, Tryz.ntmps72
  go_wp2
  go_loopw [16] (fun i wr => ∃ k : Nat, k ≤ n ∧ i = I k ∧ a.take k = b.take k ∧ Below w.heap.size w wr ∧ wr.cell? ⟨w.heap.size, 0, none⟩ = some (.slice A n c) ∧ wr.cell? ⟨w.heap.size + 1, 0, none⟩ = some (.slice A' n c')) (fun i _ => n - (intOf i).toNat)
  case atStart => exact ⟨0, by omega, rfl, rfl, hb0, P0.out, P1.out⟩
  case round =>
   rename_i wr
   obtain ⟨k, hk, rfl, hab, hb, p0, p1⟩ := hrel; have Hab := hid hab; clear hab P0 P1 hb0
   by_cases hlt : k < n
   ·obtain ⟨g, o, q, x, B, d, e, hg, hxk, hin, hd, c0, c1, c2, c3⟩ := part_at (h.below hb) (by rw [← H.out]; exact hlt); obtain ⟨g', o', q', y, B', d', e', hg', hyk, hin', hd', b0, b1, b2, b3⟩ := part_at (h'.below hb) (by rw [← H'.out]; exact hlt); rw [← H.out] at e; rw [← H'.out] at e'; cases e; cases e'; have sx : sz_part x ≤ 1048576 := Nat.le_trans (mem_sz_path (List.mem_of_getElem? hxk.out)) Hz.out; have sy : sz_part y ≤ 1048576 := Nat.le_trans (mem_sz_path (List.mem_of_getElem? hyk.out)) Hz'.out
    go_wp2
    go_still_tail 10, (by kernel_rfl)
    go_wp2_with (fail)
    refine (impl_EqualParts x y _ _ _ (part_mk (hin.below (below_drew _))) (part_mk (hin'.below (below_drew _))) sx sy).mono ?_; rintro e w1 ⟨rfl, hb1⟩; have x1 : Below w.heap.size w w1 := ext_trans hb.drew hb1; have p0' := ck hb1 (show wr.drew.cell? _ = _ from p0); have p1' := ck hb1 (show wr.drew.cell? _ = _ from p1)
    by_cases hxy : x = y
    ·have hdx : decide (x = y) = true := by simp [hxy]
     have Hxy := hid hxy; clear hxy; rw [hdx]; clear hdx
     go_wp2_with (fail)
     go_roundw
     case rel => exact ⟨k + 1, by omega, by go_num, take_eq_of Hab.out hxk.out (Hxy.out ▸ hyk.out), x1, p0', p1'⟩
     case measure => simp [intOf]; omega
    ·have hdx : decide (x = y) = false := by simp [hxy]
     have HR : Hid (r = false) := by show r = _; rw [Hr.out]; simp [ne_of_at hxk.out hyk.out hxy]
     rw [hdx]; clear hdx hxy
     go_wp2_with (fail)
     go_ret
     exact ⟨by rw [HR.out]; rfl, x1⟩
   ·go_wp2
    go_ret
    have hkn : k = n := by omega
    subst hkn; have h1 := Hab.out; rw [H.out, List.take_length, ← H.out, H'.out, List.take_length] at h1; exact ⟨by rw [Hr.out, h1]; simp, hb⟩
 ·have HR : Hid (r = false) := by
   have : a ≠ b := by rintro rfl; exact hnn (H.out.trans H'.out.symm)
   show r = _; rw [Hr.out]; simp [this]
  go_enter Tryz.func72, Tryz.ntmps72
  go_wp2
  go_ret
  exact ⟨by rw [HR.out]; rfl, hb0⟩
theorem mem_sz_paths {l : List Path} {x : Path} (h : x ∈ l) : sz_path x ≤ sz_paths l := by
  have := le_sum_of_mem (List.mem_map.2 ⟨x, h, rfl⟩ : sz_path x ∈ l.map sz_path)
  show _ ≤ l.length + _
  omega
theorem not_mem_succ {l : List Path} {k : Nat} {x p : Path} (h : ¬ p ∈ l.take k) (hx : l[k]? = some x) (hn : ¬ x = p) : ¬ p ∈ l.take (k + 1) := by
  rw [take_succ hx]; intro hm
  rcases List.mem_append.1 hm with hm | hm
  · exact h hm
  · rw [List.mem_singleton] at hm; exact hn hm.symm
set_option maxRecDepth 100000 in
theorem impl_HasPath (l : List Path) (v : Value) (p : Path) (cs : List Value) (w : World) (h : SlR pathT w v l) (hz : sz_paths l ≤ 1048576) (hl : l.length ≤ 9223372036854775807 ∧ ∀ x ∈ l, lenOk_path x) (hg : ∀ x ∈ l, rng_path x) (h' : pathT.R w cs p) (hz' : sz_path p ≤ 1048576) (hl' : lenOk_path p) (hg' : rng_path p) :
  Calls Tryz.prog 22 #[v, .agg cs.toArray] w fun e w' => e = .returned (.bool (decide (p ∈ l))) ∧ Below w.heap.size w w' := by
 obtain ⟨A, c, rfl, hc⟩ := h.form; have hp' := h'; obtain ⟨A', c', rfl, _⟩ := path_form h'; obtain ⟨n, H⟩ : ∃ n, Hid (n = l.length) := ⟨_, rfl⟩
 have hn : n ≤ 1048576 := by rw [H.out]; have : sz_paths l = l.length + (l.map sz_path).sum := rfl; omega
 obtain ⟨r, Hr⟩ : ∃ r, Hid (r = decide (p ∈ l)) := ⟨_, rfl⟩; rw [← Hr.out]; have Hz := hid hz; have Hl := hid hl.2; have Hg := hid hg; clear hz hl hg hc; rw [← H.out] at h ⊢; have hb0 : Below w.heap.size w (w.alloc (.cells #[.slice A' (List.length p) c'] 38)) := ext_alloc1 _ _
 have p0 : Hid ((w.alloc (.cells #[.slice A' (List.length p) c'] 38)).cell? ⟨w.heap.size, 0, none⟩ = some (.slice A' (List.length p) c')) := by show _ = _; simp
 go_enter Tryz.func22, Tryz.ntmps22
 go_wp2
 go_loopw [9] (fun i wr => ∃ k : Nat, k ≤ n ∧ i = I k ∧ ¬ p ∈ l.take k ∧ Below w.heap.size w wr ∧ wr.cell? ⟨w.heap.size, 0, none⟩ = some (.slice A' (List.length p) c')) (fun i _ => n - (intOf i).toNat)
 case atStart => exact ⟨0, by omega, rfl, by simp, hb0, p0.out⟩
 case round =>
  obtain ⟨k, hk, rfl, hab, hb, p1⟩ := hrel; have Hab := hid hab; clear hab p0 hb0
  by_cases hlt : k < n
  ·obtain ⟨g, o, q, x, B, d, e, hgg, hxk, hin, hd, c0⟩ := path_at (h.below hb) (by rw [← H.out]; exact hlt); rw [← H.out] at e; cases e; have hm := List.mem_of_getElem? hxk.out; have HC := hid (impl_EqualPaths x _ p _ (wr.alloc (.cells #[.slice B (List.length x) d] 38)) (path_mk (hin.below (ext_alloc1 _ _))) (Nat.le_trans (mem_sz_paths hm) Hz.out) (Hl.out x hm) (Hg.out x hm) (pathT.kp hp' (ext_alloc hb _)) hz' hl' hg'); clear hm; have hs : w.heap.size < wr.heap.size := World.block_lt_of_cell? wr _ p1
   go_wp2_with (fail)
   refine HC.out.mono ?_; rintro e w1 ⟨rfl, hb1⟩; have x1 : Below w.heap.size w w1 := ext_trans (ext_alloc hb _) hb1; have p2 := ck hb1 (ck (ext_alloc1 _ _) p1)
   by_cases hxy : x = p
   ·have hdx : decide (x = p) = true := by simp [hxy]
    have HR : Hid (r = true) := by show r = _; rw [Hr.out]; simp [← hxy, List.mem_of_getElem? hxk.out]
    rw [hdx]; clear hdx hxy
    go_wp2_with (fail)
    go_ret
    exact ⟨by rw [HR.out]; rfl, x1⟩
   ·have hdx : decide (x = p) = false := by simp [hxy]
    have Hxy := hid hxy; rw [hdx]; clear hdx hxy
    go_wp2_with (fail)
    go_roundw
    case rel => exact ⟨k + 1, by omega, by go_num, not_mem_succ Hab.out hxk.out Hxy.out, x1, p2⟩
    case measure => simp [intOf]; omega
  ·have hkn : k = n := by omega
   subst hkn
   have HR : Hid (r = false) := by show r = _; rw [Hr.out]; have := Hab.out; rw [H.out, List.take_length] at this; simp [this]
   go_wp2
   go_ret
   exact ⟨by rw [HR.out]; rfl, hb⟩
def countParts (l : List Path) : Nat := (l.map List.length).sum
theorem countParts_snoc (l : List Path) (p : Path) : countParts (l ++ [p]) = countParts l + p.length := by simp [countParts]
theorem countParts_take (l : List Path) (k : Nat) : countParts (l.take k) ≤ countParts l := by
  unfold countParts
  rw [List.map_take]; exact sum_take_le _ _
theorem countParts_le (l : List Path) : countParts l ≤ sz_paths l := by
  unfold countParts sz_paths
  induction l with
  | nil => simp
  | cons a t ih =>
    have : a.length ≤ sz_path a := by show _ ≤ List.length a + _; omega
    simp only [List.map_cons, List.sum_cons, List.length_cons] at ih ⊢
    omega
theorem impl_CountParts (l : List Path) (v : Value) (w : World) (h : SlR pathT w v l) (hz : sz_paths l ≤ 1048576) (hl : l.length ≤ 9223372036854775807 ∧ ∀ x ∈ l, lenOk_path x) (hg : ∀ x ∈ l, rng_path x) :
    Calls Tryz.prog 53 #[v] w fun r w' => r = .returned (I (countParts l)) ∧ Below w.heap.size w w' := by
  obtain ⟨A, c, rfl, _⟩ := h.form; obtain ⟨n, H⟩ : ∃ n, Hid (n = l.length) := ⟨_, rfl⟩
  have hcl : countParts l ≤ 1048576 := by have := countParts_le l; omega
  have hn : n ≤ 1048576 := by rw [H.out]; unfold sz_paths at hz; omega
  rw [← H.out] at h ⊢; clear hl hg hz
  go_enter Tryz.func53, Tryz.ntmps53
  go_wp2
  go_loopw [3, 8] (fun t i wr => ∃ k : Nat, k ≤ n ∧ i = I k ∧ t = I (countParts (l.take k)) ∧ Below w.heap.size w wr) (fun _ i _ => n - (intOf i).toNat)
  case atStart => exact ⟨0, by omega, rfl, rfl, Below.refl _ _⟩
  case round =>
    rename_i wr
    obtain ⟨k, hk, rfl, rfl, hb⟩ := hrel
    by_cases hlt : k < n
    · obtain ⟨g, o, q, x, B, d, e, hg, hxk, hin, hd, c0⟩ := path_at (h.below hb) (by rw [← H.out]; exact hlt)
      rw [← H.out] at e; cases e
      have hs : countParts (l.take (k + 1)) = countParts (l.take k) + x.length := by rw [take_succ hxk.out, countParts_snoc]
      have hle := countParts_take l (k + 1); rw [hs] at hle; have HS := hid hs; clear hs
      go_wp2
      go_roundw
      case rel => exact ⟨k + 1, by omega, by go_num, by rw [HS.out]; go_num, ext_alloc hb _⟩
      case measure => simp [intOf]; omega
    · go_wp2
      go_ret
      have : k = n := by omega
      subst this; rw [H.out, List.take_length]; exact ⟨rfl, hb⟩
theorem spec_CountParts (l : List Path) (v : Value) (w : World) (h : SlR pathT w v l) (hz : sz_paths l ≤ 1048576) (hl : l.length ≤ 9223372036854775807 ∧ ∀ x ∈ l, lenOk_path x) (hg : ∀ x ∈ l, rng_path x) :
    Calls Tryz.prog 54 #[v] w fun r w' => r = .returned (I (countParts l)) ∧ Below w.heap.size w w' := by
  obtain ⟨A, c, rfl, _⟩ := h.form; obtain ⟨n, H⟩ : ∃ n, Hid (n = l.length) := ⟨_, rfl⟩
  have hcl : countParts l ≤ 1048576 := by have := countParts_le l; omega
  have hn : n ≤ 1048576 := by rw [H.out]; unfold sz_paths at hz; omega
  rw [← H.out] at h ⊢; clear hl hg hz
  go_enter Tryz.func54, Tryz.ntmps54
  go_wp2
  go_loop [3, 4] (fun t i => ∃ k : Nat, k ≤ n ∧ i = I k ∧ t = I (countParts (l.take k))) (fun _ i => n - (intOf i).toNat)
  case atStart => exact ⟨0, by omega, rfl, rfl⟩
  case round =>
    obtain ⟨k, hk, rfl, rfl⟩ := hrel
    by_cases hlt : k < n
    · obtain ⟨g, o, q, x, B, d, e, hg, hxk, hin, hd, c0⟩ := path_at h (by rw [← H.out]; exact hlt)
      rw [← H.out] at e; cases e
      have hs : countParts (l.take (k + 1)) = countParts (l.take k) + x.length := by rw [take_succ hxk.out, countParts_snoc]
      have hle := countParts_take l (k + 1); rw [hs] at hle; have HS := hid hs; clear hs
      go_wp2
      go_round
      case rel => exact ⟨k + 1, by omega, by go_num, by rw [HS.out]; go_num⟩
      case measure => simp [intOf]; omega
    · go_wp2
      go_ret
      have : k = n := by omega
      subst this; rw [H.out, List.take_length]; exact ⟨rfl, Below.refl _ _⟩
theorem lastIa_eq {y : Part} {x : Hop} (h : y.hops[y.hops.length - 1]? = some x) : lastIa y = x.ia := by unfold lastIa; rw [h]
theorem firstIa_eq {y : Part} {x : Hop} (h : y.hops[0]? = some x) : firstIa y = x.ia := by unfold firstIa; rw [h]
theorem all_at {α : Type} {f : α → Bool} {l : List α} {k j : Nat} {x : α} (ha : (l.take k).all f = true) (hj : j < k) (hx : l[j]? = some x) : f x = true := by
  rw [List.all_eq_true] at ha; exact ha x (List.mem_of_getElem? (i := j) (by rw [List.getElem?_take_of_lt hj]; exact hx))
theorem impl_placeOf (k : Int) (w : World) : Calls Tryz.prog 111 #[I k] w fun e w' => e = .returned (I (place k)) ∧ w = w' := by
 have X0 := Below.refl w.heap.size w; refine enter Tryz.func111 rfl Tryz.ntmps111 rfl ?_; refine w_h ?_; have S := Sep.nil w; have B := Below.refl w.heap.size w; have Hb := Nat.le_refl w.heap.size; refine t_a rfl ?_ rfl; refine t_e ?_; (iterate 2 refine w_s ?_); refine w_g ?_; refine t_m rfl ?_ rfl; refine t_e ?_; refine w_block ?_; refine w_h ?_; refine t_eql rfl rfl ?_ rfl; refine t_a rfl ?_ rfl; refine t_e ?_; refine w_if rfl ?_ ?_
 ·intro h1; refine w_h ?_; refine t_a rfl ?_ rfl; refine t_e ?_; refine w_r ?_; refine x_block_ret ?_; refine x_t ?_; refine x_ret1 rfl rfl ?_; exact ⟨ret_int (by simp [place, h1]), rfl⟩
 ·intro h1; (iterate 2 refine w_s ?_); refine w_g ?_; refine t_eql rfl rfl ?_ rfl; refine t_a rfl ?_ rfl; refine t_e ?_; refine w_if rfl ?_ ?_
  ·intro h2; refine w_k ?_; refine x_s ?_; refine w_if rfl ?_ (fun h => (by exact absurd h2 h)); intro hc6; refine w_h ?_; refine t_a rfl ?_ rfl; refine t_e ?_; refine w_r ?_; refine x_block_ret ?_; refine x_t ?_; refine x_ret1 rfl rfl ?_; exact ⟨ret_int (by simp [place, h2]), rfl⟩
  ·intro h2; refine w_g ?_; refine t_eql rfl rfl ?_ rfl; refine t_a rfl ?_ rfl; refine t_e ?_; refine w_if rfl ?_ ?_
   ·intro h3; refine w_h ?_; refine t_a rfl ?_ rfl; refine t_e ?_; refine w_r ?_; refine x_block_ret ?_; refine x_t ?_; refine x_ret1 rfl rfl ?_; exact ⟨ret_int (by simp [place, h3]), rfl⟩
   ·intro h3; refine w_k ?_; refine x_b ?_; refine x_s ?_; refine w_h ?_; refine t_a rfl ?_ rfl; refine t_e ?_; refine w_r ?_; refine x_ret1 rfl rfl ?_; exact ⟨ret_int (by simp [place, h1, h2, h3]), rfl⟩
theorem impl_WellFormedPath (t : Topo) (v : Value) (p : Path) (u : Value) (w : World) (h : VA topoT w v t) (hp : VA pathT w u p) (hz : sz_topo t ≤ 1048576) (hz' : sz_path p ≤ 1048576) : Calls Tryz.prog 57 #[v, u] w fun e w' => e = .returned (.bool (wellFormed t p)) ∧ Below w.heap.size w w' := by
 have hpl : List.length p ≤ sz_path p := by show List.length p ≤ List.length p + _; omega
 have X0 := Below.refl w.heap.size w; refine enter Tryz.func57 rfl Tryz.ntmps57 rfl ?_; refine w_h ?_; refine t_boxr ‹_› rfl ?_ rfl rfl; intro p2 w1 x2 hp2; replace h := h.below x2; replace hp := hp.below x2; have X0 := ext_trans X0 x2; refine t_boxr ‹_› rfl ?_ rfl rfl; intro p3 w3 x4 hp3; replace h := h.below x4; replace hp := hp.below x4; replace hp2 := hp2.below x4; have X0 := ext_trans X0 x4; have S := Sep.nil w3; have B := Below.refl w3.heap.size w3; have Hb := Nat.le_refl w3.heap.size; refine t_a rfl ?_ rfl; refine t_e ?_; (iterate 2 refine w_s ?_); refine w_g ?_; refine t_fld ln_path_0 ‹_› fb_path_0 rfl ?_ rfl; intro p8 hp8; refine t_lds ‹_› ab_s_part B rfl ?_ rfl; intro v9 hv9; refine t_len e_part ‹_› rfl rfl ?_ rfl; refine t_calls Tryz.call109 rfl (impl_InRange _ _ _ _) ?_ rfl rfl; refine t_notb rfl ?_ rfl; refine t_e ?_; refine w_ifb rfl ?_ ?_
 ·intro h1; refine w_h ?_; refine t_a rfl ?_ rfl; refine t_e ?_; refine w_r ?_; refine x_t ?_; refine x_ret1 rfl rfl ?_; exact ⟨ret_bool (by simp at h1; simp [wellFormed, h1]), ext_trans X0 B⟩
 intro h1
 have h1' : inR (List.length p) 1 3 = true := by simpa using h1
 refine w_k ?_; refine x_s ?_; (iterate 2 refine w_s ?_); refine w_g ?_; refine t_fld ln_path_0 ‹_› fb_path_0 rfl ?_ rfl; intro p13 hp13; refine t_lds ‹_› ab_s_part B rfl ?_ rfl; intro v14 hv14; refine t_len e_part ‹_› rfl rfl ?_ rfl; refine t_m rfl ?_ rfl; refine t_e ?_; refine w_block ?_; refine w_loop (X := Nat) (fun k wq => k ≤ List.length p ∧ (p.take k).all (validPart t) = true ∧ (∀ j, j < k - 1 → joinOk p j = true) ∧ Below w3.heap.size w3 wq ∧ Sep w3.heap.size wq []) (fun k => [(16, I ((k : Int))), (2, p2), (3, p3), (14, v14), (15, I ((p.length : Int)))]) (fun k => List.length p - k) (0) ?_ ⟨rfl, rfl, rfl, rfl, rfl, trivial⟩ ?_
 ·exact ⟨by omega, rfl, by omega, B, S⟩
 ·rintro k w5 hI; (try dsimp only at hI ⊢); obtain ⟨hk, ha, hb, B, S⟩ := hI; refine w_h ?_; refine t_lss rfl rfl ?_ rfl; refine t_e ?_; refine w_s ?_; refine w_if rfl ?_ ?_
  ·intro hlt; obtain ⟨e19, he19⟩ : ∃ e, p[k]? = some e := getx (by omega); have hhl := hops_sz he19; refine w_k ?_; refine x_s ?_; refine w_s ?_; refine w_block ?_; refine w_h ?_; refine t_m rfl ?_ rfl; refine t_idx e_part (k := k) ‹_› he19 B rfl rfl (by first | rfl | omega) ?_ rfl; intro p19 hp19; refine t_lda ‹_› ab_part sb_part B rfl ?_ rfl; intro v20 hv20; obtain ⟨v20_3, rfl, hv20_3⟩ := part_va hv20; refine t_w S z_part rfl ?_ rfl rfl; intro g6 w6 x7 S; have B := bx Hb B x7; refine t_a rfl ?_ rfl; refine t_stn S sb_part rfl rfl rfl rfl (by repeat first | exact oc0 | refine oc rfl ?_ | refine oc (SlR.cells ‹_›).2 ?_) ?_; intro w8 b9 S; have B := B.trans b9; refine t_e ?_; (iterate 2 refine w_s ?_); refine w_g ?_; refine t_lda ‹_› ab_topo sb_topo B rfl ?_ rfl; intro v21 hv21; obtain ⟨v21_0, v21_1, rfl, hv21_0, hv21_1⟩ := topo_va hv21; refine t_b S.box ab_part sb_part rfl rfl ?_ rfl
   refine t_x Tryz.call110 rfl (impl_ValidPart _ _ _ _ _ (by first | assumption | exact VA.below ‹_› B | exact topo_mkv (by first | assumption | exact SlR.below ‹_› B) (by first | assumption | exact SlR.below ‹_› B)) (by first | assumption | exact VA.below ‹_› B | exact part_mkv (by first | assumption | exact SlR.below ‹_› B)) (by omega) (by omega)) ?_ rfl rfl; intro w10 x11; have B := bx Hb B x11; have S := S.below x11; refine t_notb rfl ?_ rfl; refine t_e ?_; refine w_ifb rfl ?_ ?_
   ·intro h2; refine w_h ?_; refine t_a rfl ?_ rfl; refine t_e ?_; refine w_r ?_; refine x_t ?_; refine x_block_ret ?_; (iterate 2 refine x_t ?_); refine x_block_ret ?_; refine x_t ?_; refine x_ret1 rfl rfl ?_; exact ⟨ret_bool (by rw [wellFormed, allF_bad he19 (by simpa using h2)]; simp), ext_trans X0 B⟩
   intro h2
   have h2' : validPart t e19 = true := by simpa using h2
   have ha2 := allF_succ he19 ha h2'; have hl2 := valid_len h2'; refine w_k ?_; refine x_s ?_; refine w_h ?_; refine t_m rfl ?_ rfl; refine t_gtr rfl rfl ?_ rfl; refine t_e ?_; refine w_if rfl ?_ ?_
   ·intro h3
    have hk3 : k - 1 + 1 = k := by omega
    have hlt3 : k - 1 < List.length p - 1 := by omega
    obtain ⟨e31, he31⟩ : ∃ e, p[k - 1]? = some e := getx (by omega); have hl3 := valid_len (all_at ha (by omega) he31); have hhl3 := hops_sz he31; have hJ := joinOk_eq he31 (by rw [hk3]; exact he19); obtain ⟨e47, he47⟩ : ∃ e, e31.hops[e31.hops.length - 1]? = some e := getx (by omega); obtain ⟨e52, he52⟩ : ∃ e, e19.hops[0]? = some e := getx (by omega); rw [lastIa_eq he47, firstIa_eq he52] at hJ; refine w_h ?_; refine t_fld ln_path_0 ‹_› fb_path_0 rfl ?_ rfl; intro p27 hp27; refine t_lds ‹_› ab_s_part B rfl ?_ rfl; intro v28 hv28; refine t_m rfl ?_ rfl; refine t_sub rfl rfl (by omega) ?_ rfl; refine t_idx e_part (k := (k - 1)) ‹_› he31 B rfl rfl (by first | rfl | omega) ?_ rfl; intro p31 hp31; refine t_lda ‹_› ab_part sb_part B rfl ?_ rfl; intro v32 hv32; obtain ⟨v32_3, rfl, hv32_3⟩ := part_va hv32; refine t_w S z_part rfl ?_ rfl rfl; intro g7 w12 x13 S; have B := bx Hb B x13; refine t_stn S sb_part rfl rfl rfl rfl (by repeat first | exact oc0 | refine oc rfl ?_ | refine oc (SlR.cells ‹_›).2 ?_) ?_; intro w14 b15 S; have B := B.trans b15; refine t_e ?_; refine w_s ?_
    refine w_draw (.st .take 0 (.st .take 1 (.st .take 3 (.st .take 4 (.st .run 2 (.st .run 5 (.st .take 6 (.st .take 7 (.st .take 8 (.st .take 9 (.st .take 10 (.st .take 11 (.st .take 12 (.st .take 13 (.st .take 14 (.st .take 15 (.st .take 16 (.st .take 17 (.st .take 18 (.st .take 19 (.st .take 20 (.st .take 21 (.st .take 22 (.st .take 23 .done)))))))))))))))))))))))) mixed (by kernel_rfl) ?_; intro w16 x17; have B := bx Hb B x17; have S := S.below x17; refine t_y fb_part_0 rfl rfl ?_ rfl; refine t_bx1 S.box ab_int rfl rfl ?_ rfl; refine t_y fb_part_0 rfl rfl ?_ rfl; refine t_bx1 S.tail.box ab_int rfl rfl ?_ rfl; refine t_calls Tryz.call111 rfl (impl_placeOf _ _) ?_ rfl rfl; refine t_calls Tryz.call111 rfl (impl_placeOf _ _) ?_ rfl rfl; refine t_geq rfl rfl ?_ rfl; refine t_m rfl ?_ rfl; refine t_partp (t := 40) rfl ?_ ?_
    ·intro h4; (iterate 15 refine t_off rfl rfl rfl ?_ rfl); refine t_q rfl rfl ?_ rfl; refine t_e' ?_; refine w_yes rfl ?_; refine w_h ?_; refine t_a rfl ?_ rfl; refine t_e ?_; refine w_r ?_; refine x_block_ret ?_; (iterate 2 refine x_t ?_); refine x_block_ret ?_; refine x_t ?_; refine x_ret1 rfl rfl ?_; exact ⟨ret_bool (by rw [wellFormed, all_no hlt3 (by rw [hJ, decide_eq_false (by omega)]; rfl)]; simp), ext_trans X0 B⟩
    intro h4; refine t_on rfl rfl ?_; refine t_y fb_part_3 rfl rfl ?_ rfl; refine t_on rfl rfl ?_; refine t_bx1 S.box ab_s_hop rfl rfl ?_ rfl; refine t_on rfl rfl ?_; refine t_y fb_part_3 rfl rfl ?_ rfl; refine t_on rfl rfl ?_; refine t_bx1 S.box ab_s_hop rfl rfl ?_ rfl; refine t_on rfl rfl ?_; refine t_len e_hop ‹_› rfl rfl ?_ rfl; refine t_on rfl rfl ?_; refine t_sub rfl rfl (by omega) ?_ rfl; refine t_on rfl rfl ?_; refine t_idx e_hop (k := (e31.hops.length - 1)) ‹_› he47 B rfl rfl (by first | rfl | omega) ?_ rfl; intro p47 hp47; refine t_on rfl rfl ?_; refine t_fld ln_hop_0 ‹_› fb_hop_0 rfl ?_ rfl; intro p48 hp48; refine t_on rfl rfl ?_; refine t_ldi ‹_› ab_int B rfl ?_ rfl; refine t_on rfl rfl ?_; refine t_y fb_part_3 rfl rfl ?_ rfl; refine t_on rfl rfl ?_; refine t_bx1 S.tail.box ab_s_hop rfl rfl ?_ rfl; refine t_on rfl rfl ?_; refine t_idx e_hop (k := 0) ‹_› he52 B rfl rfl (by first | rfl | omega) ?_ rfl; intro p52 hp52; refine t_on rfl rfl ?_; refine t_fld ln_hop_0 ‹_› fb_hop_0 rfl ?_ rfl; intro p53 hp53; refine t_on rfl rfl ?_; refine t_ldi ‹_› ab_int B rfl ?_ rfl; refine t_on rfl rfl ?_; refine t_neq rfl rfl ?_ rfl; refine t_p rfl rfl ?_ rfl; refine t_e' ?_
    refine w_if rfl ?_ ?_
    ·intro h5; refine w_h ?_; refine t_a rfl ?_ rfl; refine t_e ?_; refine w_r ?_; refine x_block_ret ?_; (iterate 2 refine x_t ?_); refine x_block_ret ?_; refine x_t ?_; refine x_ret1 rfl rfl ?_; exact ⟨ret_bool (by rw [wellFormed, all_no hlt3 (by rw [hJ, decide_eq_false h5]; simp)]; simp), ext_trans X0 B⟩
    intro h5; refine w_k ?_; refine x_b ?_; refine x_s ?_; refine w_g ?_; refine t_add rfl rfl (by omega) ?_ rfl; refine t_m rfl ?_ rfl; refine t_d ?_; have S := S.tail.tail; refine x_r (X := Nat) (k + 1) ?_ (by exact ⟨rfl, rfl, rfl, rfl, rfl, trivial⟩) (by (try dsimp only); omega); (try dsimp only); refine ⟨by omega, ha2, fun j hj => ?_, B, S⟩; refine upto_succ (k := k - 1) hb ?_ j (by omega); rw [hJ, decide_eq_true (by omega), decide_eq_true (by omega)]
    rfl
   ·intro h3; refine w_k ?_; refine x_b ?_; refine x_s ?_; refine w_g ?_; refine t_add rfl rfl (by omega) ?_ rfl; refine t_m rfl ?_ rfl; refine t_d ?_; have S := S.tail; refine x_r (X := Nat) (k + 1) ?_ (by exact ⟨rfl, rfl, rfl, rfl, rfl, trivial⟩) (by (try dsimp only); omega); (try dsimp only); exact ⟨by omega, ha2, fun j hj => by omega, B, S⟩
  ·intro hge; refine w_exit ?_; (iterate 2 refine x_then_exit ?_); refine x_block_exit ?_; refine x_s ?_; refine w_h ?_; refine t_a rfl ?_ rfl; refine t_e ?_; refine w_r ?_; refine x_ret1 rfl rfl ?_; exact ⟨ret_bool (by rw [wellFormed, h1', allF_end (by omega) ha, all_ok fun j hj => hb j (by omega)]; rfl), ext_trans X0 B⟩
theorem fresh_eq {l : List Int} {k : Nat} {x : Int} (h : l[k]? = some x) : fresh l k = !(l.take k).contains x := by unfold fresh; rw [h]
theorem impl_SimplePath (t : Topo) (v : Value) (p : Path) (u : Value) (w : World) (h : VA topoT w v t) (hp : VA pathT w u p) (hz : sz_topo t ≤ 1048576) (hz' : sz_path p ≤ 1048576) (hl : lenOk_path p) (hg : rng_path p) : Calls Tryz.prog 112 #[v, u] w fun e w' => e = .returned (.bool (simplePath t p)) ∧ Below w.heap.size w w' := by
 have hsl := pathSteps_len p; have hnl := nums_len (pathSteps p); have X0 := Below.refl w.heap.size w; refine enter Tryz.func112 rfl Tryz.ntmps112 rfl ?_; refine w_h ?_; refine t_boxr ‹_› rfl ?_ rfl rfl; intro p2 w33 x34 hp2; replace h := h.below x34; replace hp := hp.below x34; have X0 := ext_trans X0 x34; refine t_boxr ‹_› rfl ?_ rfl rfl; intro p3 w35 x36 hp3; replace h := h.below x36; replace hp := hp.below x36; replace hp2 := hp2.below x36; have X0 := ext_trans X0 x36; have S := Sep.nil w35; have B := Below.refl w35.heap.size w35; have Hb := Nat.le_refl w35.heap.size; refine t_a rfl ?_ rfl; refine t_e ?_; (iterate 2 refine w_s ?_); refine w_g ?_; refine t_lda ‹_› ab_topo sb_topo B rfl ?_ rfl; intro v8 hv8; obtain ⟨v8_0, v8_1, rfl, hv8_0, hv8_1⟩ := topo_va hv8; refine t_lda ‹_› ab_path sb_path B rfl ?_ rfl; intro v9 hv9; obtain ⟨v9_0, rfl, hv9_0⟩ := path_va hv9
 refine t_x Tryz.call57 rfl (impl_WellFormedPath _ _ _ _ _ (by first | assumption | exact VA.below ‹_› B | exact topo_mkv (by first | assumption | exact SlR.below ‹_› B) (by first | assumption | exact SlR.below ‹_› B)) (by first | assumption | exact VA.below ‹_› B | exact path_mkv (by first | assumption | exact SlR.below ‹_› B)) (by omega) (by omega)) ?_ rfl rfl; intro w37 x38; have B := bx Hb B x38; have S := S.below x38; refine t_notb rfl ?_ rfl; refine t_e ?_; refine w_ifb rfl ?_ ?_
 ·intro h1; refine w_h ?_; refine t_a rfl ?_ rfl; refine t_e ?_; refine w_r ?_; refine x_t ?_; refine x_ret1 rfl rfl ?_; exact ⟨ret_bool (by simp at h1; simp [simplePath, h1]), ext_trans X0 B⟩
 intro h1
 have h1' : wellFormed t p = true := by simpa using h1
 refine w_k ?_; refine x_s ?_; refine w_h ?_; refine t_lda ‹_› ab_path sb_path B rfl ?_ rfl; intro v12 hv12; obtain ⟨v12_0, rfl, hv12_0⟩ := path_va hv12; refine t_c Tryz.call44 rfl (va1 (by first | assumption | exact VA.below ‹_› B | exact path_mkv (by first | assumption | exact SlR.below ‹_› B)) fun cs h => impl_InterfacesUsed _ cs _ h (by omega) ‹_› ‹_›) ?_ rfl rfl; rintro e w39 ⟨v13, fpv13, rfl, hOv13, x40⟩; refine ⟨_, rfl, x40, ?_⟩; have S := S.add (o := slO _ _ _ _) x40 hOv13; have B := bx Hb B x40; refine t_a rfl ?_ rfl; refine t_e ?_; (iterate 2 refine w_s ?_); refine w_g ?_; refine t_m rfl ?_ rfl; refine t_len e_int (S.sl) rfl rfl ?_ rfl; refine t_m rfl ?_ rfl; refine t_e ?_; refine w_block ?_; refine w_loop (X := Nat) (fun k wq => k ≤ (nums (pathSteps p)).length ∧ (∀ j, j < k → fresh (nums (pathSteps p)) j = true) ∧ Below w35.heap.size w35 wq ∧ Sep w35.heap.size wq [slO intT 3 v13 (nums (pathSteps p))]) (fun k => [(16, I ((k : Int))), (5, v13), (14, v13), (15, I (((nums (pathSteps p)).length : Int)))]) (fun k => (nums (pathSteps p)).length - k) (0) ?_ ⟨rfl, rfl, rfl, rfl, trivial⟩ ?_
 ·exact ⟨by omega, by omega, B, S⟩
 ·rintro k w41 hI; (try dsimp only at hI ⊢); obtain ⟨hk, ha, B, S⟩ := hI
  have htl : ((nums (pathSteps p)).take k).length ≤ 16777216 := by rw [List.length_take]; omega
  refine w_h ?_; refine t_lss rfl rfl ?_ rfl; refine t_e ?_; refine w_s ?_; refine w_if rfl ?_ ?_
  ·intro hlt; refine w_k ?_; refine x_s ?_; refine w_s ?_; refine w_block ?_; refine w_h ?_; refine t_m rfl ?_ rfl; obtain ⟨e19, he19⟩ : ∃ e, (nums (pathSteps p))[k]? = some e := getx (by omega); refine t_idx e_int (k := k) (S.sl) he19 (Below.refl _ _) rfl rfl (by first | rfl | omega) ?_ rfl; intro p19 hp19; refine t_ldi ‹_› ab_int (Below.refl _ _) rfl ?_ rfl; (iterate 2 refine t_a rfl ?_ rfl); refine t_k ?_; (iterate 2 refine t_m rfl ?_ rfl); refine t_slt e_int (k := k) (S.sl) rfl rfl (by first | rfl | omega) (by omega) ?_ rfl; intro v23 hv23; refine t_m rfl ?_ rfl; refine t_calls Tryz.call80 rfl (impl_hasInt _ _ _ _ (by first | assumption | exact SlR.below ‹_› B) (by (try rw [List.length_take]); (try rw [List.length_map]); omega)) ?_ rfl rfl; refine t_e ?_; have hF := fresh_eq he19; refine w_ifb rfl ?_ ?_
   ·intro h2; refine w_h ?_; refine t_a rfl ?_ rfl; refine t_e ?_; refine w_r ?_; refine x_block_ret ?_; (iterate 2 refine x_t ?_); refine x_block_ret ?_; refine x_t ?_; refine x_ret1 rfl rfl ?_; exact ⟨ret_bool (by rw [simplePath, all_no (k := k) (by omega) (by rw [hF, h2]; rfl)]; simp), ext_trans X0 B⟩
   ·intro h2; refine w_k ?_; refine x_b ?_; refine x_s ?_; refine w_g ?_; refine t_add rfl rfl (by omega) ?_ rfl; refine t_m rfl ?_ rfl; refine t_d ?_; refine x_r (X := Nat) (k + 1) ?_ (by exact ⟨rfl, rfl, rfl, rfl, trivial⟩) (by (try dsimp only); omega); (try dsimp only); exact ⟨by omega, upto_succ ha (by rw [hF, h2]; rfl), B, S⟩
  ·intro hge; refine w_exit ?_; (iterate 2 refine x_then_exit ?_); refine x_block_exit ?_; refine x_s ?_; refine w_h ?_; refine t_a rfl ?_ rfl; refine t_e ?_; refine w_r ?_; refine x_ret1 rfl rfl ?_; exact ⟨ret_bool (by rw [simplePath, h1', all_ok fun j hj => ha j (by omega)]; rfl), ext_trans X0 B⟩
theorem impl_PathUsable (t : Topo) (v : Value) (p : Path) (u : Value) (now : Int) (w : World) (h : VA topoT w v t) (hp : VA pathT w u p) (hz : sz_topo t ≤ 1048576) (hz' : sz_path p ≤ 1048576) (hl : lenOk_path p) (hg : rng_path p) : Calls Tryz.prog 58 #[v, u, I now] w fun e w' => e = .returned (.bool (usable t p now)) ∧ Below w.heap.size w w' := by
 have hpl : List.length p ≤ sz_path p := by show List.length p ≤ List.length p + _; omega
 have X0 := Below.refl w.heap.size w; refine enter Tryz.func58 rfl Tryz.ntmps58 rfl ?_; refine w_h ?_; refine t_boxr ‹_› rfl ?_ rfl rfl; intro p3 w3 x4 hp3; replace h := h.below x4; replace hp := hp.below x4; have X0 := ext_trans X0 x4; refine t_boxr ‹_› rfl ?_ rfl rfl; intro p4 w5 x6 hp4; replace h := h.below x6; replace hp := hp.below x6; replace hp3 := hp3.below x6; have X0 := ext_trans X0 x6; have S := Sep.nil w5; have B := Below.refl w5.heap.size w5; have Hb := Nat.le_refl w5.heap.size; refine t_a rfl ?_ rfl; refine t_e ?_; (iterate 2 refine w_s ?_); refine w_g ?_; refine t_lda ‹_› ab_topo sb_topo B rfl ?_ rfl; intro v9 hv9; obtain ⟨v9_0, v9_1, rfl, hv9_0, hv9_1⟩ := topo_va hv9; refine t_lda ‹_› ab_path sb_path B rfl ?_ rfl; intro v10 hv10; obtain ⟨v10_0, rfl, hv10_0⟩ := path_va hv10; refine t_x Tryz.call112 rfl (impl_SimplePath _ _ _ _ _ (by first | assumption | exact VA.below ‹_› B | exact topo_mkv (by first | assumption | exact SlR.below ‹_› B) (by first | assumption | exact SlR.below ‹_› B)) (by first | assumption | exact VA.below ‹_› B | exact path_mkv (by first | assumption | exact SlR.below ‹_› B)) (by omega) (by omega) ‹_› ‹_›) ?_ rfl rfl; intro w7 x8
 have B := bx Hb B x8; have S := S.below x8; refine t_notb rfl ?_ rfl; refine t_m rfl ?_ rfl; refine t_part (t := 13) rfl ?_ ?_
 ·intro h1; (iterate 4 refine t_off rfl rfl rfl ?_ rfl); refine t_q rfl rfl ?_ rfl; refine t_e ?_; refine w_yes rfl ?_; refine w_h ?_; refine t_a rfl ?_ rfl; refine t_e ?_; refine w_r ?_; refine x_t ?_; refine x_ret1 rfl rfl ?_; exact ⟨ret_bool (by simp at h1; simp [usable, h1]), ext_trans X0 B⟩
 intro h1
 have h1' : simplePath t p = true := by simpa using h1
 refine t_on rfl rfl ?_; refine t_lda ‹_› ab_topo sb_topo B rfl ?_ rfl; intro v14 hv14; obtain ⟨v14_0, v14_1, rfl, hv14_0, hv14_1⟩ := topo_va hv14; refine t_on rfl rfl ?_; refine t_lda ‹_› ab_path sb_path B rfl ?_ rfl; intro v15 hv15; obtain ⟨v15_0, rfl, hv15_0⟩ := path_va hv15; refine t_on rfl rfl ?_; refine t_x Tryz.call56 rfl (impl_VerifyPath _ _ _ _ _ (by first | assumption | exact VA.below ‹_› B | exact topo_mkv (by first | assumption | exact SlR.below ‹_› B) (by first | assumption | exact SlR.below ‹_› B)) (by first | assumption | exact VA.below ‹_› B | exact path_mkv (by first | assumption | exact SlR.below ‹_› B)) (by omega) (by omega)) ?_ rfl rfl; intro w9 x10; have B := bx Hb B x10; have S := S.below x10; refine t_on rfl rfl ?_; refine t_notb rfl ?_ rfl; refine t_p rfl rfl ?_ rfl; refine t_e ?_; refine w_ifb rfl ?_ ?_
 ·intro h2; refine w_h ?_; refine t_a rfl ?_ rfl; refine t_e ?_; refine w_r ?_; refine x_t ?_; refine x_ret1 rfl rfl ?_; exact ⟨ret_bool (by simp at h2; simp [usable, h2]), ext_trans X0 B⟩
 intro h2
 have h2' : verifyPath t p = true := by simpa using h2
 refine w_k ?_; refine x_s ?_; (iterate 2 refine w_s ?_); refine w_g ?_; refine t_fld ln_path_0 ‹_› fb_path_0 rfl ?_ rfl; intro p19 hp19; refine t_lds ‹_› ab_s_part B rfl ?_ rfl; intro v20 hv20; refine t_len e_part ‹_› rfl rfl ?_ rfl; refine t_m rfl ?_ rfl; refine t_e ?_; refine w_block ?_; refine w_loop (X := Nat) (fun k wq => k ≤ List.length p ∧ (p.take k).all (partNow now) = true ∧ Below w5.heap.size w5 wq ∧ Sep w5.heap.size wq []) (fun k => [(22, I ((k : Int))), (2, I now), (20, v20), (21, I ((p.length : Int)))]) (fun k => List.length p - k) (0) ?_ ⟨rfl, rfl, rfl, rfl, trivial⟩ ?_
 ·exact ⟨by omega, rfl, B, S⟩
 ·rintro k w11 hI; (try dsimp only at hI ⊢); obtain ⟨hk, ha, B, S⟩ := hI; refine w_h ?_; refine t_lss rfl rfl ?_ rfl; refine t_e ?_; refine w_s ?_; refine w_if rfl ?_ ?_
  ·intro hlt; obtain ⟨e24, he24⟩ : ∃ e, p[k]? = some e := getx (by omega); have hhl := hops_sz he24; refine w_k ?_; refine x_s ?_; refine w_s ?_; refine w_block ?_; refine w_h ?_; refine t_idx e_part (k := k) ‹_› he24 B rfl rfl (by first | rfl | omega) ?_ rfl; intro p24 hp24; refine t_lda ‹_› ab_part sb_part B rfl ?_ rfl; intro v25 hv25; obtain ⟨v25_3, rfl, hv25_3⟩ := part_va hv25; refine t_w S z_part rfl ?_ rfl rfl; intro g8 w12 x13 S; have B := bx Hb B x13; refine t_stn S sb_part rfl rfl rfl rfl (by repeat first | exact oc0 | refine oc rfl ?_ | refine oc (SlR.cells ‹_›).2 ?_) ?_; intro w14 b15 S; have B := B.trans b15; refine t_k ?_; refine t_y fb_part_1 rfl rfl ?_ rfl; refine t_bx1 S.box ab_int rfl rfl ?_ rfl; refine t_m rfl ?_ rfl; refine t_gtr rfl rfl ?_ rfl; refine t_m rfl ?_ rfl; refine t_partp (t := 30) rfl ?_ ?_
   ·intro h3; (iterate 5 refine t_off rfl rfl rfl ?_ rfl); refine t_q rfl rfl ?_ rfl; refine t_e ?_; refine w_yes rfl ?_; refine w_h ?_; refine t_a rfl ?_ rfl; refine t_e ?_; refine w_r ?_; refine x_block_ret ?_; (iterate 2 refine x_t ?_); refine x_block_ret ?_; refine x_t ?_; refine x_ret1 rfl rfl ?_; exact ⟨ret_bool (by rw [usable, allF_bad he24 (by unfold partNow; rw [decide_eq_false (by omega)]; rfl)]; simp), ext_trans X0 B⟩
   intro h3; refine t_on rfl rfl ?_; refine t_m rfl ?_ rfl; refine t_on rfl rfl ?_; refine t_y fb_part_3 rfl rfl ?_ rfl; refine t_on rfl rfl ?_; refine t_bx1 S.box ab_s_hop rfl rfl ?_ rfl; refine t_on rfl rfl ?_; refine t_x Tryz.call84 rfl (impl_leastExpiry _ _ _ (by first | assumption | exact SlR.below ‹_› B) (by omega)) ?_ rfl rfl; intro w16 x17; have B := bx Hb B x17; have S := S.below x17; refine t_on rfl rfl ?_; refine t_gtr rfl rfl ?_ rfl; refine t_p rfl rfl ?_ rfl; refine t_e ?_; refine w_if rfl ?_ ?_
   ·intro h4; refine w_h ?_; refine t_a rfl ?_ rfl; refine t_e ?_; refine w_r ?_; refine x_block_ret ?_; (iterate 2 refine x_t ?_); refine x_block_ret ?_; refine x_t ?_; refine x_ret1 rfl rfl ?_; exact ⟨ret_bool (by rw [usable, allF_bad he24 (by unfold partNow; rw [decide_eq_false (p := now ≤ _) (by omega)]; simp)]; simp), ext_trans X0 B⟩
   intro h4; refine w_k ?_; refine x_b ?_; refine x_s ?_; refine w_g ?_; refine t_add rfl rfl (by omega) ?_ rfl; refine t_m rfl ?_ rfl; refine t_d ?_; have S := S.tail; refine x_r (X := Nat) (k + 1) ?_ (by exact ⟨rfl, rfl, rfl, rfl, trivial⟩) (by (try dsimp only); omega); (try dsimp only); exact ⟨by omega, allF_succ he24 ha (by unfold partNow; rw [decide_eq_true (by omega), decide_eq_true (by omega)]; rfl), B, S⟩
  ·intro hge; refine w_exit ?_; (iterate 2 refine x_then_exit ?_); refine x_block_exit ?_; refine x_s ?_; refine w_h ?_; refine t_a rfl ?_ rfl; refine t_e ?_; refine w_r ?_; refine x_ret1 rfl rfl ?_; exact ⟨ret_bool (by rw [usable, h1', h2', allF_end (by omega) ha]; rfl), ext_trans X0 B⟩
theorem pick_va {fp : List Nat} {w0 w : World} {u : Value} {x : Path} (h : VA (pickT pathT fp w0) w u x) : ∃ v0, u = .agg #[v0] ∧ ∀ w', (∀ y ∈ fp, w'.heap[y]? = w0.heap[y]?) → pathT.R w' [v0] x := by
  obtain ⟨cs, rfl, h2⟩ := h; have hl : cs.length = 1 := pathT.len _ _ _ (h2 w0 fun _ _ => rfl); obtain ⟨c, rfl⟩ := List.length_eq_one_iff.1 hl; exact ⟨c, rfl, h2⟩
theorem pk_rd {fp : List Nat} {w0 w : World} {v0 : Value} {x : Path} (h : ∀ w', (∀ y ∈ fp, w'.heap[y]? = w0.heap[y]?) → pathT.R w' [v0] x) (k : ∀ y ∈ fp, w.heap[y]? = w0.heap[y]?) : SlR partT w v0 x := by
  obtain ⟨v, e, h2⟩ := h w k; cases e; exact h2
theorem impl_HasP (l : List Path) (v : Value) (p : Path) (u : Value) (w : World) (h : SlR pathT w v l) (h' : VA pathT w u p) (hz : sz_paths l ≤ 1048576) (hl : ∀ x ∈ l, lenOk_path x) (hg : ∀ x ∈ l, rng_path x) (hz' : sz_path p ≤ 1048576) (hl' : lenOk_path p) (hg' : rng_path p) : Calls Tryz.prog 22 #[v, u] w fun e w' => e = .returned (.bool (decide (p ∈ l))) ∧ Below w.heap.size w w' := by
  obtain ⟨cs, rfl, h2⟩ := h'
  have hln : l.length ≤ 9223372036854775807 := by unfold sz_paths at hz; omega
  exact impl_HasPath l v p cs w h hz ⟨hln, hl⟩ hg h2 hz' hl' hg'
theorem impl_CountP (l : List Path) (v : Value) (w : World) (h : SlR pathT w v l) (hz : sz_paths l ≤ 1048576) (hl : ∀ x ∈ l, lenOk_path x) (hg : ∀ x ∈ l, rng_path x) : Calls Tryz.prog 53 #[v] w fun r w' => r = .returned (I (countParts l)) ∧ Below w.heap.size w w' :=
  impl_CountParts l v w h hz ⟨by unfold sz_paths at hz; omega, hl⟩ hg
theorem spec_CountP (l : List Path) (v : Value) (w : World) (h : SlR pathT w v l) (hz : sz_paths l ≤ 1048576) (hl : ∀ x ∈ l, lenOk_path x) (hg : ∀ x ∈ l, rng_path x) : Calls Tryz.prog 54 #[v] w fun r w' => r = .returned (I (countParts l)) ∧ Below w.heap.size w w' :=
  spec_CountParts l v w h hz ⟨by unfold sz_paths at hz; omega, hl⟩ hg
theorem pick_no {t : Topo} {now : Int} {out : List Path} {x : Path} (h : ¬ ((out.length : Int) < 24 ∧ usable t x now = true ∧ ¬ x ∈ out)) : pick t now out x = out := by unfold pick; rw [if_neg h]
theorem pick_yes {t : Topo} {now : Int} {out : List Path} {x : Path} (h : (out.length : Int) < 24 ∧ usable t x now = true ∧ ¬ x ∈ out) : pick t now out x = out ++ [x] := by unfold pick; rw [if_pos h]
theorem findP_S {t : Topo} {now : Int} {l : List Path} (h : PathsS l) (k : Nat) : PathsS (findP t now (l.take k)) := by
  obtain ⟨h1, _, h3, _⟩ := findP_all (t := t) (now := now) (l.take k); exact ⟨by omega, fun x hx => h.2 x (List.mem_of_mem_take (h1 x hx).1)⟩
set_option maxHeartbeats 4000000 in
theorem impl_FindPaths (t : Topo) (q : Sdb) (v v1 : Value) (a b now : Int) (w : World) (h : VA topoT w v t) (h' : VA sdbT w v1 q) (hz : sz_topo t ≤ 1048576) (hz' : sz_sdb q ≤ 1048576) (hn : DbN q) (hP : PathsS (comb t q a b)) : Calls Tryz.prog 9 #[v, v1, I a, I b, I now] w fun e w' => ∃ v, e = .returned v ∧ True ∧ Sep w.heap.size w' [rdO pathT v (findP t now (comb t q a b))] ∧ Ext w w' := by
 have hPl := hP.1; have X0 := Below.refl w.heap.size w; refine enter Tryz.func9 rfl Tryz.ntmps9 rfl ?_; refine w_h ?_; refine t_boxr ‹_› rfl ?_ rfl rfl; intro p5 w1 x2 hp5; replace h := h.below x2; replace h' := h'.below x2; have X0 := ext_trans X0 x2; refine t_boxr ‹_› rfl ?_ rfl rfl; intro p6 w3 x4 hp6; replace h := h.below x4; replace h' := h'.below x4; replace hp5 := hp5.below x4; have X0 := ext_trans X0 x4; have S := Sep.nil w3; have B := Below.refl w3.heap.size w3; have Hb := Nat.le_refl w3.heap.size; refine t_a rfl ?_ rfl; refine t_k ?_; refine t_a rfl ?_ rfl; refine t_e ?_; (iterate 2 refine w_s ?_); refine w_g ?_; refine t_lda ‹_› ab_topo sb_topo B rfl ?_ rfl; intro v14 hv14; obtain ⟨v14_0, v14_1, rfl, hv14_0, hv14_1⟩ := topo_va hv14; refine t_lda ‹_› ab_sdb sb_sdb B rfl ?_ rfl; intro v15 hv15; obtain ⟨v15_0, v15_1, rfl, hv15_0, hv15_1⟩ := sdb_va hv15; (iterate 2 refine t_m rfl ?_ rfl)
 refine t_c Tryz.call45 rfl (impl_CombinePaths t q _ _ _ _ _ (by first | assumption | exact VA.below ‹_› B | exact topo_mkv (by first | assumption | exact SlR.below ‹_› B) (by first | assumption | exact SlR.below ‹_› B)) (by first | assumption | exact VA.below ‹_› B | exact sdb_mkv (by first | assumption | exact SlR.below ‹_› B) (by first | assumption | exact SlR.below ‹_› B)) (by omega) (by omega) ‹_›) ?_ rfl rfl; rintro e w5 ⟨v18, fpv18, rfl, hOv18, x6⟩; refine ⟨_, rfl, x6, ?_⟩; have S := S.add (o := slO _ _ _ _) x6 hOv18; have B := bx Hb B x6; refine t_len e_path (S.sl) rfl rfl ?_ rfl; refine t_m rfl ?_ rfl; refine t_e ?_; refine w_block ?_; obtain ⟨fp, hpk, S⟩ := S.toKeep
 skip
 refine w_loop (X := Nat × List Path × Value) (fun x wq => (fun k out u => k ≤ (comb t q a b).length ∧ out = findP t now ((comb t q a b).take k) ∧ Below w3.heap.size w3 wq ∧ Sep w3.heap.size wq [slO (pickT pathT fp w5) 38 u out, keepO fp w5]) x.1 x.2.1 x.2.2) (fun x => (fun k out u => [(20, I ((k : Int))), (11, u), (4, I now), (5, p5), (10, .slice none 0 0), (18, v18), (19, I (((comb t q a b).length : Int)))]) x.1 x.2.1 x.2.2) (fun x => (fun k out u => (comb t q a b).length - k) x.1 x.2.1 x.2.2) (0, [], _) ?_ ⟨rfl, rfl, rfl, rfl, rfl, rfl, rfl, trivial⟩ ?_
 ·exact ⟨by omega, rfl, B, S.addNil⟩
 rintro ⟨k, out, u⟩ w7 hI; (try dsimp only at hI ⊢); obtain ⟨hk, ho, B, S⟩ := hI
 have hoS : PathsS out := by rw [ho]; exact findP_S hP k
 have hso := hoS.sz; have hlo := hoS.lenOk; have hgo := hoS.rng
 have hol : out.length ≤ 24 := by rw [ho]; exact (findP_all _).2.2.1
 refine w_h ?_; refine t_lss rfl rfl ?_ rfl; refine t_e ?_; refine w_s ?_; refine w_if rfl ?_ ?_
 ·intro hlt; obtain ⟨x, hx⟩ : ∃ e, (comb t q a b)[k]? = some e := getx (by omega); have hxS := hP.2 x (List.mem_of_getElem? hx); have hxz := hxS.sz; have hxl := hxS.lenOk; have hxr := hxS.rng; have hsucc := findP_succ (t := t) (now := now) hx; rw [← ho] at hsucc; refine w_k ?_; refine x_s ?_; refine w_s ?_; refine w_block ?_; refine w_h ?_; refine t_idxk e_path (k := k) hpk S.tail.kept hx rfl rfl (by first | rfl | omega) ?_ rfl; intro p22 hp22; refine t_lda (T := (pickT pathT fp w5)) (hp22 _ S.tail.kept) ab_path sb_path (Below.refl _ _) rfl ?_ rfl; intro v23 hv23; obtain ⟨v23_0, rfl, qv23_0⟩ := pick_va hv23; refine t_allocx S z_path rfl ?_ rfl rfl; intro g13 w8 ge13 x9 S; have B := bx Hb B x9; refine t_stx S sb_path rfl rfl rfl rfl (by repeat first | exact oc0 | refine oc rfl ?_ | refine oc (SlR.cells (pk_rd qv23_0 S.tail.tail.kept)).2 ?_) x9 ge13 ?_; intro w10 b11 S cb11; have B := B.trans b11; refine t_k ?_; refine t_m rfl ?_ rfl; refine t_len e_path (pick_sl S.tail.sl S.tail.tail.kept) rfl rfl ?_ rfl; refine t_lss rfl rfl ?_ rfl; refine t_m rfl ?_ rfl; refine t_partp (t := 27) rfl ?_ ?_
  ·intro h1; refine t_on rfl rfl ?_; refine t_lda ‹_› ab_topo sb_topo B rfl ?_ rfl; intro v28 hv28; obtain ⟨v28_0, v28_1, rfl, hv28_0, hv28_1⟩ := topo_va hv28; refine t_on rfl rfl ?_; refine t_b S.box ab_path sb_path rfl rfl ?_ rfl; refine t_on rfl rfl ?_; refine t_m rfl ?_ rfl; refine t_on rfl rfl ?_; refine t_x Tryz.call58 rfl (impl_PathUsable t _ x _ _ _ (by first | assumption | exact VA.below ‹_› B | exact topo_mkv (by first | assumption | exact SlR.below ‹_› B) (by first | assumption | exact SlR.below ‹_› B)) (path_mkv (pk_rd qv23_0 S.tail.tail.kept)) (by omega) (by omega) ‹_› ‹_›) ?_ rfl rfl; intro w12 x13; have B := bx Hb B x13; have S := S.below x13; refine t_q rfl rfl ?_ rfl; refine t_m rfl ?_ rfl; refine t_part (t := 33) rfl ?_ ?_
   ·intro h2; refine t_on rfl rfl ?_; refine t_m rfl ?_ rfl; refine t_on rfl rfl ?_; refine t_b S.box ab_path sb_path rfl rfl ?_ rfl; refine t_on rfl rfl ?_; refine t_x Tryz.call22 rfl (impl_HasP out _ x _ _ (pick_sl S.tail.sl S.tail.tail.kept) (path_mkv (pk_rd qv23_0 S.tail.tail.kept)) (by omega) ‹_› ‹_› (by omega) ‹_› ‹_›) ?_ rfl rfl; intro w14 x15; have B := bx Hb B x15; have S := S.below x15; refine t_on rfl rfl ?_; refine t_not rfl ?_ rfl; refine t_q rfl rfl ?_ rfl; refine t_e ?_; refine w_if rfl ?_ ?_
    ·intro h3; refine w_g ?_; refine t_m rfl ?_ rfl; refine t_b S.box ab_path sb_path rfl rfl ?_ rfl; refine t_lit1 (fun w => bs_path1 _ w) rfl ?_ rfl rfl; intro A41 w16 x17 hA41; have B := bx Hb B x17; have S := S.below x17; have S := S.f1; have S := Sep.addFlat (T := (pickT pathT fp w5)) (cs := [v23_0]) (a := x) S ⟨qv23_0, rfl⟩; have S := S.f1; refine t_snoc (T := (pickT pathT fp w5)) e_path S hA41 rfl rfl rfl (by first | omega | (simp; done) | (simp; omega)) (by (simp only [maxLen]); first | omega | (simp; done) | (simp; omega)) ?_ rfl; intro v42 w18 x19 S; have B := B.trans x19; refine t_a rfl ?_ rfl; refine t_d ?_; refine x_b ?_; refine x_s ?_; refine w_g ?_; refine t_add rfl rfl (by omega) ?_ rfl; refine t_m rfl ?_ rfl; refine t_d ?_; have S := S.f1.tail; refine x_r (X := Nat × List Path × Value) (k + 1, out ++ [x], v42) ?_ (by exact ⟨rfl, rfl, rfl, rfl, rfl, rfl, rfl, trivial⟩) (by (try dsimp only); omega); (try dsimp only); exact ⟨by omega, by rw [hsucc, pick_yes ⟨h1, h2, h3⟩], B, S⟩
    ·intro h3; refine w_k ?_; refine x_b ?_; refine x_s ?_; refine w_g ?_; refine t_add rfl rfl (by omega) ?_ rfl; refine t_m rfl ?_ rfl; refine t_d ?_; have S := S.tail; refine x_r (X := Nat × List Path × Value) (k + 1, out, u) ?_ (by exact ⟨rfl, rfl, rfl, rfl, rfl, rfl, rfl, trivial⟩) (by (try dsimp only); omega); (try dsimp only); exact ⟨by omega, by rw [hsucc, pick_no (fun z => h3 z.2.2)], B, S⟩
   ·intro h2; (iterate 4 refine t_off rfl rfl rfl ?_ rfl); refine t_p rfl rfl ?_ rfl; refine t_e ?_; refine w_no rfl ?_; refine w_k ?_; refine x_b ?_; refine x_s ?_; refine w_g ?_; refine t_add rfl rfl (by omega) ?_ rfl; refine t_m rfl ?_ rfl; refine t_d ?_; have S := S.tail; refine x_r (X := Nat × List Path × Value) (k + 1, out, u) ?_ (by exact ⟨rfl, rfl, rfl, rfl, rfl, rfl, rfl, trivial⟩) (by (try dsimp only); omega); (try dsimp only); exact ⟨by omega, by rw [hsucc, pick_no (fun z => by rw [h2] at z; exact absurd z.2.1 (by simp))], B, S⟩
  ·intro h1; (iterate 4 refine t_off rfl rfl rfl ?_ rfl); refine t_p rfl rfl ?_ rfl; refine t_m rfl ?_ rfl; (iterate 4 refine t_off rfl rfl rfl ?_ rfl); refine t_p rfl rfl ?_ rfl; refine t_e ?_; refine w_no rfl ?_; refine w_k ?_; refine x_b ?_; refine x_s ?_; refine w_g ?_; refine t_add rfl rfl (by omega) ?_ rfl; refine t_m rfl ?_ rfl; refine t_d ?_; have S := S.tail; refine x_r (X := Nat × List Path × Value) (k + 1, out, u) ?_ (by exact ⟨rfl, rfl, rfl, rfl, rfl, rfl, rfl, trivial⟩) (by (try dsimp only); omega); (try dsimp only); exact ⟨by omega, by rw [hsucc, pick_no (fun z => h1 z.1)], B, S⟩
 intro hge; rw [List.take_of_length_le (by omega)] at ho; refine w_exit ?_; (iterate 2 refine x_then_exit ?_); refine x_block_exit ?_; refine x_s ?_; refine w_h ?_; refine t_m rfl ?_ rfl; refine t_a rfl ?_ rfl; refine t_e ?_; refine w_r ?_; refine x_ret1 rfl rfl ?_; rw [ho] at S; exact ⟨_, rfl, trivial, (pick_end S).mono X0.size, ext_trans X0 B⟩
theorem laws_samePaths (a b : List Path) (v u : Value) (w : World) (h : SlR pathT w v a) (h2 : SlR pathT w u b) (hz : sz_paths a ≤ 1048576) (hz2 : sz_paths b ≤ 1048576) : Calls Tryz.prog 21 #[v, u] w fun e w' => e = .returned (.bool (decide (a = b))) ∧ Below w.heap.size w w' := by
 have hl1 : a.length ≤ sz_paths a := by unfold sz_paths; omega
 have hl2 : b.length ≤ sz_paths b := by unfold sz_paths; omega
 have X0 := Below.refl w.heap.size w; refine enter Tryz.func21 rfl Tryz.ntmps21 rfl ?_; refine w_h ?_; have S := Sep.nil w; have B := Below.refl w.heap.size w; have Hb := Nat.le_refl w.heap.size; refine t_a rfl ?_ rfl; refine t_e ?_; (iterate 2 refine w_s ?_); refine w_g ?_; refine t_m rfl ?_ rfl; refine t_len e_path ‹_› rfl rfl ?_ rfl; refine t_m rfl ?_ rfl; refine t_len e_path ‹_› rfl rfl ?_ rfl; refine t_neq rfl rfl ?_ rfl; refine t_e ?_; refine w_if rfl ?_ ?_
 ·intro hl; refine w_h ?_; refine t_a rfl ?_ rfl; refine t_e ?_; refine w_r ?_; refine x_t ?_; refine x_ret1 rfl rfl ?_; exact ⟨ret_bool (decide_eq_false (fun e => hl (by rw [e]))).symm, ext_trans X0 B⟩
 ·intro hl; refine w_k ?_; refine x_s ?_; (iterate 2 refine w_s ?_); refine w_g ?_; refine t_a rfl ?_ rfl; refine t_e ?_; refine w_block ?_; refine w_loop (X := Nat) (fun k wq => k ≤ a.length ∧ a.take k = b.take k ∧ Below w.heap.size w wq ∧ Sep w.heap.size wq []) (fun k => [(5, I ((k : Int))), (0, v), (1, u)]) (fun k => a.length - k) (0) ?_ ⟨rfl, rfl, rfl, trivial⟩ ?_
  ·exact ⟨by omega, rfl, B, S⟩
  rintro k w1 hI; (try dsimp only at hI ⊢); obtain ⟨hk, hab, B, S⟩ := hI; (iterate 2 refine w_s ?_); refine w_g ?_; (iterate 2 refine t_m rfl ?_ rfl); refine t_len e_path ‹_› rfl rfl ?_ rfl; refine t_lss rfl rfl ?_ rfl; refine t_e ?_; refine w_if rfl ?_ ?_
  ·intro hlt; obtain ⟨e19, he19⟩ := getx (l := a) (k := k) (by omega); obtain ⟨e23, he23⟩ := getx (l := b) (k := k) (by omega); have hh1 := mem_sz_paths (List.mem_of_getElem? he19); have hh2 := mem_sz_paths (List.mem_of_getElem? he23); refine w_k ?_; refine x_s ?_; refine w_s ?_; refine w_block ?_; refine w_s ?_; refine w_draw (.st .take 0 (.st .take 1 (.st .take 2 (.st .take 3 (.st .take 4 (.st .take 5 (.st .take 6 (.st .take 7 (.st .run 8 (.st .take 9 .done)))))))))) mixed (by kernel_rfl) ?_; intro w2 x3; have B := bx Hb B x3; have S := S.below x3; (iterate 2 refine t_m rfl ?_ rfl); refine t_idx e_path (k := k) ‹_› he19 B rfl rfl (by first | rfl | omega) ?_ rfl; intro p19 hp19; refine t_lda ‹_› ab_path sb_path B rfl ?_ rfl; intro v20 hv20; obtain ⟨v20_0, rfl, hv20_0⟩ := path_va hv20; (iterate 2 refine t_m rfl ?_ rfl); refine t_idx e_path (k := k) ‹_› he23 B rfl rfl (by first | rfl | omega) ?_ rfl; intro p23 hp23; refine t_lda ‹_› ab_path sb_path B rfl ?_ rfl; intro v24 hv24; obtain ⟨v24_0, rfl, hv24_0⟩ := path_va hv24
   refine t_x Tryz.call43 rfl (laws_samePath e19 e23 _ _ _ (by first | assumption | exact VA.below ‹_› B | exact path_mkv (by first | assumption | exact SlR.below ‹_› B)) (by first | assumption | exact VA.below ‹_› B | exact path_mkv (by first | assumption | exact SlR.below ‹_› B)) (by omega) (by omega)) ?_ rfl rfl; intro w4 x5; have B := bx Hb B x5; have S := S.below x5; refine t_not rfl ?_ rfl; refine t_e' ?_; refine w_if rfl ?_ ?_
   ·intro hne; refine w_h ?_; refine t_a rfl ?_ rfl; refine t_e ?_; refine w_r ?_; refine x_block_ret ?_; (iterate 2 refine x_t ?_); refine x_block_ret ?_; refine x_t ?_; refine x_ret1 rfl rfl ?_; exact ⟨ret_bool (decide_eq_false (eq_not he19 he23 (by simpa using hne))).symm, ext_trans X0 B⟩
   ·intro hne; refine w_k ?_; refine x_b ?_; refine x_s ?_; refine w_g ?_; refine t_m rfl ?_ rfl; refine t_add rfl rfl (by omega) ?_ rfl; refine t_a rfl ?_ rfl; refine t_d ?_; refine x_r (X := Nat) (k + 1) ?_ (by exact ⟨rfl, rfl, rfl, trivial⟩) (by (try dsimp only); omega); (try dsimp only); exact ⟨by omega, eq_step hab he19 he23 (by simpa using hne), B, S⟩
  ·intro hge; refine w_exit ?_; (iterate 2 refine x_then_exit ?_); refine x_block_exit ?_; refine x_s ?_; refine w_h ?_; refine t_a rfl ?_ rfl; refine t_e ?_; refine w_r ?_; refine x_ret1 rfl rfl ?_; exact ⟨ret_bool (decide_eq_true (eq_end hab (by omega) (by omega))).symm, ext_trans X0 B⟩
theorem spec_DrawJoinUpDown (code : List UInt8) (v : Value) (w : World) (h : SlR byteT w v code) (hz : code.length ≤ 1048576) : Calls Tryz.prog 46 #[v] w fun e w' => ∃ (vu vd : Value) (su sd : Seg), e = .returned (.tuple #[.agg #[I su.ts, I su.beta, vu], .agg #[I sd.ts, I sd.beta, vd]]) ∧ (su.hops.length ≤ 5 ∧ sd.hops.length ≤ 5) ∧ Sep w.heap.size w' [slO hopT 87 vu su.hops, slO hopT 87 vd sd.hops] ∧ Ext w w' := by
 have K := CodeK.of h hz; have X0 := Below.refl w.heap.size w; refine enter Tryz.func46 rfl Tryz.ntmps46 rfl ?_; have S := Sep.nil w; have B := Below.refl w.heap.size w; have Hb := Nat.le_refl w.heap.size; refine w_h ?_; refine t_w S z_seg rfl ?_ rfl rfl; intro g2 w6 x7 S; have B := bx Hb B x7; refine t_w S z_seg rfl ?_ rfl rfl; intro g3 w8 x9 S; have B := bx Hb B x9; refine t_k ?_; refine t_m rfl ?_ rfl; refine t_c Tryz.call59 rfl (spec_l1New _ _ _ (by first | assumption | exact SlR.below ‹_› B) (by omega)) ?_ rfl rfl; rintro e w10 ⟨g8, fpg8, rfl, hOg8, x11⟩; refine ⟨_, rfl, x11, ?_⟩; have S := S.add (o := curO _ _ _ _) x11 hOg8; have B := bx Hb B x11; refine t_a rfl ?_ rfl; refine t_k ?_; refine t_m rfl ?_ rfl; refine t_f Tryz.call97 rfl (spec_l5Draw S (K.below B)) ?_ rfl; rintro e w12 ⟨va10, vl10, A10, L10, rfl, hf10, S, x13⟩; refine ⟨_, rfl, ?_⟩; have B := B.trans x13; refine t_w S z_topo rfl ?_ rfl rfl; intro g5 w14 x15 S; have B := bx Hb B x15; refine t_stn S sb_topo rfl rfl rfl rfl (by repeat first | exact oc0 | refine oc rfl ?_ | refine oc (SlR.cells (S.tail.sl)).2 ?_ | refine oc (SlR.cells (S.tail.tail.sl)).2 ?_) ?_; intro w16 b17 S; have B := B.trans b17; refine t_e ?_
 refine w_s ?_; have T : TopK A10 L10 := hf10; refine w_g ?_; refine t_m rfl ?_ rfl; refine t_b S.box ab_topo sb_topo rfl rfl ?_ rfl; have S := S.f2.f2.f3; refine t_f Tryz.call98 rfl (spec_l9Grow 2 T S (K.below B)) ?_ rfl; rintro e w18 ⟨vh13, s13, rfl, hf13, S, x19⟩; refine ⟨_, rfl, ?_⟩; have B := B.trans x19; refine t_w S z_seg rfl ?_ rfl rfl; intro g6 w20 x21 S; have B := bx Hb B x21; refine t_stn S sb_seg rfl rfl rfl rfl (by repeat first | exact oc0 | refine oc rfl ?_ | refine oc (SlR.cells (S.tail.sl)).2 ?_) ?_; intro w22 b23 S; have B := B.trans b23; refine t_e ?_; refine w_s ?_; refine w_drawP [1] (.alt (.st .fin 0 (.st .fin 2 (.st .fin 3 (.st .fin 4 (.st .fin 5 .done))))) (.st .fin 2 (.alt (.st .fin 0 (.st .fin 3 (.st .fin 4 (.st .fin 5 .done)))) (.st .fin 3 (.st .fin 0 (.st .fin 4 (.st .fin 5 .done))))))) mixed (by kernel_rfl) ?_; intro w24 x25; have B := bx Hb B x25; have S := S.below x25; refine p_move rfl ?_ rfl; refine p_done ?_; refine t_alt ?_ ?_
 ·refine t_b S.box ab_seg sb_seg rfl rfl ?_ rfl; refine t_b S.t4.tail.box ab_topo sb_topo rfl rfl ?_ rfl; have S := S.f4.f4.f4; refine t_f Tryz.call98 rfl (spec_l9Grow 2 T S (K.below B)) ?_ rfl; rintro e w26 ⟨vh17, s17, rfl, hf17, S, x27⟩; refine ⟨_, rfl, ?_⟩; have B := B.trans x27; have S := S.f8; refine t_stn S sb_seg rfl rfl rfl rfl (by repeat first | exact oc0 | refine oc rfl ?_ | refine oc (SlR.cells (S.t4.tail.tail.sl)).2 ?_) ?_; intro w28 b29 S; have B := B.trans b29; have S := S.f8; refine t_stn S sb_seg rfl rfl rfl rfl (by repeat first | exact oc0 | refine oc rfl ?_ | refine oc (SlR.cells (S.tail.tail.sl)).2 ?_) ?_; intro w30 b31 S; have B := B.trans b31; refine t_e' ?_; refine w_r ?_; refine x_retcc rfl rfl S.tail.box ab_seg sb_seg rfl rfl S.box ab_seg sb_seg rfl ?_; have S := S.tail.tail.f1.tail.f1.tail.f1.tail.f1.tail.f2.tail.f1; exact ⟨_, _, s13, s17, rfl, ⟨hf13.len, hf17.len⟩, S, ext_trans X0 B⟩
 ·refine t_b S.t4.tail.box ab_topo sb_topo rfl rfl ?_ rfl; refine t_alt ?_ ?_
  ·refine t_b S.box ab_seg sb_seg rfl rfl ?_ rfl; have S := S.f4.f4.f4; refine t_f Tryz.call98 rfl (spec_l9Grow 2 T S (K.below B)) ?_ rfl; rintro e w32 ⟨vh17, s17, rfl, hf17, S, x33⟩; refine ⟨_, rfl, ?_⟩; have B := B.trans x33; have S := S.f8; refine t_stn S sb_seg rfl rfl rfl rfl (by repeat first | exact oc0 | refine oc rfl ?_ | refine oc (SlR.cells (S.t4.tail.tail.sl)).2 ?_) ?_; intro w34 b35 S; have B := B.trans b35; have S := S.f8; refine t_stn S sb_seg rfl rfl rfl rfl (by repeat first | exact oc0 | refine oc rfl ?_ | refine oc (SlR.cells (S.tail.tail.sl)).2 ?_) ?_; intro w36 b37 S; have B := B.trans b37; refine t_e' ?_; refine w_r ?_; refine x_retcc rfl rfl S.tail.box ab_seg sb_seg rfl rfl S.box ab_seg sb_seg rfl ?_; have S := S.tail.tail.f1.tail.f1.tail.f1.tail.f1.tail.f2.tail.f1; exact ⟨_, _, s13, s17, rfl, ⟨hf13.len, hf17.len⟩, S, ext_trans X0 B⟩
  ·have S := S.f4; have S := S.f4.f4; refine t_f Tryz.call98 rfl (spec_l9Grow 2 T S (K.below B)) ?_ rfl; rintro e w38 ⟨vh17, s17, rfl, hf17, S, x39⟩; refine ⟨_, rfl, ?_⟩; have B := B.trans x39; refine t_b S.t4.box ab_seg sb_seg rfl rfl ?_ rfl; have S := S.f8; refine t_stn S sb_seg rfl rfl rfl rfl (by repeat first | exact oc0 | refine oc rfl ?_ | refine oc (SlR.cells (S.t4.tail.tail.sl)).2 ?_) ?_; intro w40 b41 S; have B := B.trans b41; have S := S.f8; refine t_stn S sb_seg rfl rfl rfl rfl (by repeat first | exact oc0 | refine oc rfl ?_ | refine oc (SlR.cells (S.tail.tail.sl)).2 ?_) ?_; intro w42 b43 S; have B := B.trans b43; refine t_e' ?_; refine w_r ?_; refine x_retcc rfl rfl S.tail.box ab_seg sb_seg rfl rfl S.box ab_seg sb_seg rfl ?_; have S := S.tail.tail.f1.tail.f1.tail.f1.tail.f1.tail.f2.tail.f1; exact ⟨_, _, s13, s17, rfl, ⟨hf13.len, hf17.len⟩, S, ext_trans X0 B⟩
theorem spec_DrawJoinThree (code : List UInt8) (v : Value) (w : World) (h : SlR byteT w v code) (hz : code.length ≤ 1048576) : Calls Tryz.prog 47 #[v] w fun e w' => ∃ (vu vm vd : Value) (su sm : Seg) (bk : Bool) (sd : Seg), e = .returned (.tuple #[.agg #[I su.ts, I su.beta, vu], .agg #[I sm.ts, I sm.beta, vm], .bool bk, .agg #[I sd.ts, I sd.beta, vd]]) ∧ (su.hops.length ≤ 5 ∧ sm.hops.length ≤ 5 ∧ sd.hops.length ≤ 5) ∧ Sep w.heap.size w' [slO hopT 87 vu su.hops, slO hopT 87 vm sm.hops, slO hopT 87 vd sd.hops] ∧ Ext w w' := by
 have K := CodeK.of h hz; have X0 := Below.refl w.heap.size w; refine enter Tryz.func47 rfl Tryz.ntmps47 rfl ?_; have S := Sep.nil w; have B := Below.refl w.heap.size w; have Hb := Nat.le_refl w.heap.size; refine w_h ?_; refine t_w S z_seg rfl ?_ rfl rfl; intro g2 w44 x45 S; have B := bx Hb B x45; refine t_w S z_seg rfl ?_ rfl rfl; intro g3 w46 x47 S; have B := bx Hb B x47; refine t_a rfl ?_ rfl; refine t_w S z_seg rfl ?_ rfl rfl; intro g5 w48 x49 S; have B := bx Hb B x49; refine t_k ?_; refine t_m rfl ?_ rfl; refine t_c Tryz.call59 rfl (spec_l1New _ _ _ (by first | assumption | exact SlR.below ‹_› B) (by omega)) ?_ rfl rfl; rintro e w50 ⟨g12, fpg12, rfl, hOg12, x51⟩; refine ⟨_, rfl, x51, ?_⟩; have S := S.add (o := curO _ _ _ _) x51 hOg12; have B := bx Hb B x51; refine t_a rfl ?_ rfl; refine t_k ?_; refine t_m rfl ?_ rfl; refine t_f Tryz.call97 rfl (spec_l5Draw S (K.below B)) ?_ rfl; rintro e w52 ⟨va14, vl14, A14, L14, rfl, hf14, S, x53⟩; refine ⟨_, rfl, ?_⟩; have B := B.trans x53; refine t_w S z_topo rfl ?_ rfl rfl; intro g7 w54 x55 S; have B := bx Hb B x55
 refine t_stn S sb_topo rfl rfl rfl rfl (by repeat first | exact oc0 | refine oc rfl ?_ | refine oc (SlR.cells (S.tail.sl)).2 ?_ | refine oc (SlR.cells (S.tail.tail.sl)).2 ?_) ?_; intro w56 b57 S; have B := B.trans b57; refine t_e ?_; refine w_s ?_; have T : TopK A14 L14 := hf14; refine w_g ?_; refine t_m rfl ?_ rfl; refine t_b S.box ab_topo sb_topo rfl rfl ?_ rfl; have S := S.f2.f2.f3; refine t_f Tryz.call98 rfl (spec_l9Grow 2 T S (K.below B)) ?_ rfl; rintro e w58 ⟨vh17, s17, rfl, hf17, S, x59⟩; refine ⟨_, rfl, ?_⟩; have B := B.trans x59; refine t_w S z_seg rfl ?_ rfl rfl; intro g8 w60 x61 S; have B := bx Hb B x61; refine t_stn S sb_seg rfl rfl rfl rfl (by repeat first | exact oc0 | refine oc rfl ?_ | refine oc (SlR.cells (S.tail.sl)).2 ?_) ?_; intro w62 b63 S; have B := B.trans b63; refine t_k ?_; refine t_m rfl ?_ rfl; refine t_b S.t4.tail.box ab_topo sb_topo rfl rfl ?_ rfl; have S := S.f4.f4.f4; refine t_f Tryz.call98 rfl (spec_l9Grow 1 T S (K.below B)) ?_ rfl; rintro e w64 ⟨vh20, s20, rfl, hf20, S, x65⟩; refine ⟨_, rfl, ?_⟩; have B := B.trans x65; refine t_w S z_seg rfl ?_ rfl rfl; intro g9 w66 x67 S; have B := bx Hb B x67
 refine t_stn S sb_seg rfl rfl rfl rfl (by repeat first | exact oc0 | refine oc rfl ?_ | refine oc (SlR.cells (S.tail.sl)).2 ?_) ?_; intro w68 b69 S; have B := B.trans b69; refine t_k ?_; refine t_m rfl ?_ rfl; have S := S.f2; refine t_f Tryz.call70 rfl (spec_l1Once 2 S (K.below B)) ?_ rfl; rintro e w70 ⟨y22, rfl, hf22, S, x71⟩; refine ⟨_, rfl, ?_⟩; have B := B.trans x71; refine t_a rfl ?_ rfl; refine t_e ?_; refine w_s ?_
 refine w_drawP [2, 3] (.alt (.st .fin 0 (.alt (.st .fin 1 (.st .fin 4 (.st .fin 5 (.st .fin 6 (.st .fin 7 (.st .fin 8 (.st .fin 9 .done))))))) (.st .fin 4 (.alt (.st .fin 1 (.st .fin 5 (.st .fin 6 (.st .fin 7 (.st .fin 8 (.st .fin 9 .done)))))) (.st .fin 5 (.alt (.st .fin 1 (.st .fin 6 (.st .fin 7 (.st .fin 8 (.st .fin 9 .done))))) (.st .fin 6 (.st .fin 1 (.st .fin 7 (.st .fin 8 (.st .fin 9 .done))))))))))) (.alt (.st .fin 1 (.alt (.st .fin 0 (.st .fin 4 (.st .fin 5 (.st .fin 6 (.st .fin 7 (.st .fin 8 (.st .fin 9 .done))))))) (.st .fin 4 (.alt (.st .fin 0 (.st .fin 5 (.st .fin 6 (.st .fin 7 (.st .fin 8 (.st .fin 9 .done)))))) (.st .fin 5 (.st .fin 0 (.st .fin 6 (.st .fin 7 (.st .fin 8 (.st .fin 9 .done)))))))))) (.st .fin 4 (.alt (.st .fin 0 (.alt (.st .fin 1 (.st .fin 5 (.st .fin 6 (.st .fin 7 (.st .fin 8 (.st .fin 9 .done)))))) (.st .fin 5 (.alt (.st .fin 1 (.st .fin 6 (.st .fin 7 (.st .fin 8 (.st .fin 9 .done))))) (.st .fin 6 (.st .fin 1 (.st .fin 7 (.st .fin 8 (.st .fin 9 .done))))))))) (.alt (.st .fin 1 (.alt (.st .fin 0 (.st .fin 5 (.st .fin 6 (.st .fin 7 (.st .fin 8 (.st .fin 9 .done)))))) (.st .fin 5 (.st .fin 0 (.st .fin 6 (.st .fin 7 (.st .fin 8 (.st .fin 9 .done)))))))) (.st .fin 5 (.alt (.st .fin 0 (.alt (.st .fin 1 (.st .fin 6 (.st .fin 7 (.st .fin 8 (.st .fin 9 .done))))) (.st .fin 6 (.st .fin 1 (.st .fin 7 (.st .fin 8 (.st .fin 9 .done))))))) (.st .fin 1 (.st .fin 0 (.st .fin 6 (.st .fin 7 (.st .fin 8 (.st .fin 9 .done))))))))))))) mixed (by kernel_rfl) ?_
 intro w72 x73; have B := bx Hb B x73; have S := S.below x73; (iterate 2 refine p_move rfl ?_ rfl); refine p_done ?_; refine t_alt ?_ (t_alt ?_ ?_)
 ·refine t_b S.t4.tail.box ab_seg sb_seg rfl rfl ?_ rfl; refine t_alt ?_ ?_
  ·refine t_b S.tail.box ab_seg sb_seg rfl rfl ?_ rfl; refine t_b S.t4.tail.tail.tail.box ab_topo sb_topo rfl rfl ?_ rfl; have S := S.f4.f4.f2; refine t_f Tryz.call98 rfl (spec_l9Grow 2 T S (K.below B)) ?_ rfl; rintro e w74 ⟨vh28, s28, rfl, hf28, S, x75⟩; refine ⟨_, rfl, ?_⟩; have B := B.trans x75; have S := S.f11; refine t_stn S sb_seg rfl rfl rfl rfl (by repeat first | exact oc0 | refine oc rfl ?_ | refine oc (SlR.cells (S.t4.t4.sl)).2 ?_) ?_; intro w76 b77 S; have B := B.trans b77; have S := S.f11; refine t_stn S sb_seg rfl rfl rfl rfl (by repeat first | exact oc0 | refine oc rfl ?_ | refine oc (SlR.cells (S.t4.tail.tail.tail.sl)).2 ?_) ?_; intro w78 b79 S; have B := B.trans b79; refine t_a rfl ?_ rfl; have S := S.f11; refine t_stn S sb_seg rfl rfl rfl rfl (by repeat first | exact oc0 | refine oc rfl ?_ | refine oc (SlR.cells (S.tail.tail.tail.sl)).2 ?_) ?_; intro w80 b81 S; have B := B.trans b81; refine t_e' ?_; refine w_r ?_; refine x_retcctc rfl rfl S.tail.tail.box ab_seg sb_seg rfl rfl S.tail.box ab_seg sb_seg rfl rfl rfl S.box ab_seg sb_seg rfl ?_; have S := S.tail.tail.tail.f1.tail.f1.tail.f1.tail.f1.tail.f2.tail.f3.tail.f1.f2
   exact ⟨_, _, _, s17, s20, _, s28, rfl, ⟨hf17.len, hf20.len, hf28.len⟩, S, ext_trans X0 B⟩
  ·refine t_b S.t4.tail.tail.tail.box ab_topo sb_topo rfl rfl ?_ rfl; refine t_alt ?_ ?_
   ·refine t_b S.tail.box ab_seg sb_seg rfl rfl ?_ rfl; have S := S.f4.f4.f2; refine t_f Tryz.call98 rfl (spec_l9Grow 2 T S (K.below B)) ?_ rfl; rintro e w82 ⟨vh28, s28, rfl, hf28, S, x83⟩; refine ⟨_, rfl, ?_⟩; have B := B.trans x83; have S := S.f11; refine t_stn S sb_seg rfl rfl rfl rfl (by repeat first | exact oc0 | refine oc rfl ?_ | refine oc (SlR.cells (S.t4.t4.sl)).2 ?_) ?_; intro w84 b85 S; have B := B.trans b85; have S := S.f11; refine t_stn S sb_seg rfl rfl rfl rfl (by repeat first | exact oc0 | refine oc rfl ?_ | refine oc (SlR.cells (S.t4.tail.tail.tail.sl)).2 ?_) ?_; intro w86 b87 S; have B := B.trans b87; refine t_a rfl ?_ rfl; have S := S.f11; refine t_stn S sb_seg rfl rfl rfl rfl (by repeat first | exact oc0 | refine oc rfl ?_ | refine oc (SlR.cells (S.tail.tail.tail.sl)).2 ?_) ?_; intro w88 b89 S; have B := B.trans b89; refine t_e' ?_; refine w_r ?_; refine x_retcctc rfl rfl S.tail.tail.box ab_seg sb_seg rfl rfl S.tail.box ab_seg sb_seg rfl rfl rfl S.box ab_seg sb_seg rfl ?_; have S := S.tail.tail.tail.f1.tail.f1.tail.f1.tail.f1.tail.f2.tail.f3.tail.f1.f2; exact ⟨_, _, _, s17, s20, _, s28, rfl, ⟨hf17.len, hf20.len, hf28.len⟩, S, ext_trans X0 B⟩
   ·have S := S.f4; have S := S.f4.f2; refine t_f Tryz.call98 rfl (spec_l9Grow 2 T S (K.below B)) ?_ rfl; rintro e w90 ⟨vh28, s28, rfl, hf28, S, x91⟩; refine ⟨_, rfl, ?_⟩; have B := B.trans x91; refine t_alt ?_ ?_
    ·refine t_b S.t4.box ab_seg sb_seg rfl rfl ?_ rfl; have S := S.f11; refine t_stn S sb_seg rfl rfl rfl rfl (by repeat first | exact oc0 | refine oc rfl ?_ | refine oc (SlR.cells (S.t4.t4.sl)).2 ?_) ?_; intro w92 b93 S; have B := B.trans b93; have S := S.f11; refine t_stn S sb_seg rfl rfl rfl rfl (by repeat first | exact oc0 | refine oc rfl ?_ | refine oc (SlR.cells (S.t4.tail.tail.tail.sl)).2 ?_) ?_; intro w94 b95 S; have B := B.trans b95; refine t_a rfl ?_ rfl; have S := S.f11; refine t_stn S sb_seg rfl rfl rfl rfl (by repeat first | exact oc0 | refine oc rfl ?_ | refine oc (SlR.cells (S.tail.tail.tail.sl)).2 ?_) ?_; intro w96 b97 S; have B := B.trans b97; refine t_e' ?_; refine w_r ?_; refine x_retcctc rfl rfl S.tail.tail.box ab_seg sb_seg rfl rfl S.tail.box ab_seg sb_seg rfl rfl rfl S.box ab_seg sb_seg rfl ?_; have S := S.tail.tail.tail.f1.tail.f1.tail.f1.tail.f1.tail.f2.tail.f3.tail.f1.f2; exact ⟨_, _, _, s17, s20, _, s28, rfl, ⟨hf17.len, hf20.len, hf28.len⟩, S, ext_trans X0 B⟩
    ·have S := S.f11; refine t_stn S sb_seg rfl rfl rfl rfl (by repeat first | exact oc0 | refine oc rfl ?_ | refine oc (SlR.cells (S.t4.t4.sl)).2 ?_) ?_; intro w98 b99 S; have B := B.trans b99; refine t_b S.t4.tail.box ab_seg sb_seg rfl rfl ?_ rfl; have S := S.f11; refine t_stn S sb_seg rfl rfl rfl rfl (by repeat first | exact oc0 | refine oc rfl ?_ | refine oc (SlR.cells (S.t4.tail.tail.tail.sl)).2 ?_) ?_; intro w100 b101 S; have B := B.trans b101; refine t_a rfl ?_ rfl; have S := S.f11; refine t_stn S sb_seg rfl rfl rfl rfl (by repeat first | exact oc0 | refine oc rfl ?_ | refine oc (SlR.cells (S.tail.tail.tail.sl)).2 ?_) ?_; intro w102 b103 S; have B := B.trans b103; refine t_e' ?_; refine w_r ?_; refine x_retcctc rfl rfl S.tail.tail.box ab_seg sb_seg rfl rfl S.tail.box ab_seg sb_seg rfl rfl rfl S.box ab_seg sb_seg rfl ?_; have S := S.tail.tail.tail.f1.tail.f1.tail.f1.tail.f1.tail.f2.tail.f3.tail.f1.f2; exact ⟨_, _, _, s17, s20, _, s28, rfl, ⟨hf17.len, hf20.len, hf28.len⟩, S, ext_trans X0 B⟩
 ·refine t_b S.tail.box ab_seg sb_seg rfl rfl ?_ rfl; refine t_alt ?_ ?_
  ·refine t_b S.t4.tail.box ab_seg sb_seg rfl rfl ?_ rfl; refine t_b S.t4.tail.tail.tail.box ab_topo sb_topo rfl rfl ?_ rfl; have S := S.f4.f4.f2; refine t_f Tryz.call98 rfl (spec_l9Grow 2 T S (K.below B)) ?_ rfl; rintro e w104 ⟨vh28, s28, rfl, hf28, S, x105⟩; refine ⟨_, rfl, ?_⟩; have B := B.trans x105; have S := S.f11; refine t_stn S sb_seg rfl rfl rfl rfl (by repeat first | exact oc0 | refine oc rfl ?_ | refine oc (SlR.cells (S.t4.t4.sl)).2 ?_) ?_; intro w106 b107 S; have B := B.trans b107; have S := S.f11; refine t_stn S sb_seg rfl rfl rfl rfl (by repeat first | exact oc0 | refine oc rfl ?_ | refine oc (SlR.cells (S.t4.tail.tail.tail.sl)).2 ?_) ?_; intro w108 b109 S; have B := B.trans b109; refine t_a rfl ?_ rfl; have S := S.f11; refine t_stn S sb_seg rfl rfl rfl rfl (by repeat first | exact oc0 | refine oc rfl ?_ | refine oc (SlR.cells (S.tail.tail.tail.sl)).2 ?_) ?_; intro w110 b111 S; have B := B.trans b111; refine t_e' ?_; refine w_r ?_; refine x_retcctc rfl rfl S.tail.tail.box ab_seg sb_seg rfl rfl S.tail.box ab_seg sb_seg rfl rfl rfl S.box ab_seg sb_seg rfl ?_; have S := S.tail.tail.tail.f1.tail.f1.tail.f1.tail.f1.tail.f2.tail.f3.tail.f1.f2
   exact ⟨_, _, _, s17, s20, _, s28, rfl, ⟨hf17.len, hf20.len, hf28.len⟩, S, ext_trans X0 B⟩
  ·refine t_b S.t4.tail.tail.tail.box ab_topo sb_topo rfl rfl ?_ rfl; refine t_alt ?_ ?_
   ·refine t_b S.t4.tail.box ab_seg sb_seg rfl rfl ?_ rfl; have S := S.f4.f4.f2; refine t_f Tryz.call98 rfl (spec_l9Grow 2 T S (K.below B)) ?_ rfl; rintro e w112 ⟨vh28, s28, rfl, hf28, S, x113⟩; refine ⟨_, rfl, ?_⟩; have B := B.trans x113; have S := S.f11; refine t_stn S sb_seg rfl rfl rfl rfl (by repeat first | exact oc0 | refine oc rfl ?_ | refine oc (SlR.cells (S.t4.t4.sl)).2 ?_) ?_; intro w114 b115 S; have B := B.trans b115; have S := S.f11; refine t_stn S sb_seg rfl rfl rfl rfl (by repeat first | exact oc0 | refine oc rfl ?_ | refine oc (SlR.cells (S.t4.tail.tail.tail.sl)).2 ?_) ?_; intro w116 b117 S; have B := B.trans b117; refine t_a rfl ?_ rfl; have S := S.f11; refine t_stn S sb_seg rfl rfl rfl rfl (by repeat first | exact oc0 | refine oc rfl ?_ | refine oc (SlR.cells (S.tail.tail.tail.sl)).2 ?_) ?_; intro w118 b119 S; have B := B.trans b119; refine t_e' ?_; refine w_r ?_; refine x_retcctc rfl rfl S.tail.tail.box ab_seg sb_seg rfl rfl S.tail.box ab_seg sb_seg rfl rfl rfl S.box ab_seg sb_seg rfl ?_; have S := S.tail.tail.tail.f1.tail.f1.tail.f1.tail.f1.tail.f2.tail.f3.tail.f1.f2; exact ⟨_, _, _, s17, s20, _, s28, rfl, ⟨hf17.len, hf20.len, hf28.len⟩, S, ext_trans X0 B⟩
   ·have S := S.f4; have S := S.f4.f2; refine t_f Tryz.call98 rfl (spec_l9Grow 2 T S (K.below B)) ?_ rfl; rintro e w120 ⟨vh28, s28, rfl, hf28, S, x121⟩; refine ⟨_, rfl, ?_⟩; have B := B.trans x121; refine t_b S.t4.tail.tail.box ab_seg sb_seg rfl rfl ?_ rfl; have S := S.f11; refine t_stn S sb_seg rfl rfl rfl rfl (by repeat first | exact oc0 | refine oc rfl ?_ | refine oc (SlR.cells (S.t4.t4.sl)).2 ?_) ?_; intro w122 b123 S; have B := B.trans b123; have S := S.f11; refine t_stn S sb_seg rfl rfl rfl rfl (by repeat first | exact oc0 | refine oc rfl ?_ | refine oc (SlR.cells (S.t4.tail.tail.tail.sl)).2 ?_) ?_; intro w124 b125 S; have B := B.trans b125; refine t_a rfl ?_ rfl; have S := S.f11; refine t_stn S sb_seg rfl rfl rfl rfl (by repeat first | exact oc0 | refine oc rfl ?_ | refine oc (SlR.cells (S.tail.tail.tail.sl)).2 ?_) ?_; intro w126 b127 S; have B := B.trans b127; refine t_e' ?_; refine w_r ?_; refine x_retcctc rfl rfl S.tail.tail.box ab_seg sb_seg rfl rfl S.tail.box ab_seg sb_seg rfl rfl rfl S.box ab_seg sb_seg rfl ?_; have S := S.tail.tail.tail.f1.tail.f1.tail.f1.tail.f1.tail.f2.tail.f3.tail.f1.f2
    exact ⟨_, _, _, s17, s20, _, s28, rfl, ⟨hf17.len, hf20.len, hf28.len⟩, S, ext_trans X0 B⟩
 ·refine t_b S.t4.tail.tail.tail.box ab_topo sb_topo rfl rfl ?_ rfl; refine t_alt ?_ (t_alt ?_ ?_)
  ·refine t_b S.t4.tail.box ab_seg sb_seg rfl rfl ?_ rfl; refine t_alt ?_ ?_
   ·refine t_b S.tail.box ab_seg sb_seg rfl rfl ?_ rfl; have S := S.f4.f4.f2; refine t_f Tryz.call98 rfl (spec_l9Grow 2 T S (K.below B)) ?_ rfl; rintro e w128 ⟨vh28, s28, rfl, hf28, S, x129⟩; refine ⟨_, rfl, ?_⟩; have B := B.trans x129; have S := S.f11; refine t_stn S sb_seg rfl rfl rfl rfl (by repeat first | exact oc0 | refine oc rfl ?_ | refine oc (SlR.cells (S.t4.t4.sl)).2 ?_) ?_; intro w130 b131 S; have B := B.trans b131; have S := S.f11; refine t_stn S sb_seg rfl rfl rfl rfl (by repeat first | exact oc0 | refine oc rfl ?_ | refine oc (SlR.cells (S.t4.tail.tail.tail.sl)).2 ?_) ?_; intro w132 b133 S; have B := B.trans b133; refine t_a rfl ?_ rfl; have S := S.f11; refine t_stn S sb_seg rfl rfl rfl rfl (by repeat first | exact oc0 | refine oc rfl ?_ | refine oc (SlR.cells (S.tail.tail.tail.sl)).2 ?_) ?_; intro w134 b135 S; have B := B.trans b135; refine t_e' ?_; refine w_r ?_; refine x_retcctc rfl rfl S.tail.tail.box ab_seg sb_seg rfl rfl S.tail.box ab_seg sb_seg rfl rfl rfl S.box ab_seg sb_seg rfl ?_; have S := S.tail.tail.tail.f1.tail.f1.tail.f1.tail.f1.tail.f2.tail.f3.tail.f1.f2; exact ⟨_, _, _, s17, s20, _, s28, rfl, ⟨hf17.len, hf20.len, hf28.len⟩, S, ext_trans X0 B⟩
   ·have S := S.f4; have S := S.f4.f2; refine t_f Tryz.call98 rfl (spec_l9Grow 2 T S (K.below B)) ?_ rfl; rintro e w136 ⟨vh28, s28, rfl, hf28, S, x137⟩; refine ⟨_, rfl, ?_⟩; have B := B.trans x137; refine t_alt ?_ ?_
    ·refine t_b S.t4.box ab_seg sb_seg rfl rfl ?_ rfl; have S := S.f11; refine t_stn S sb_seg rfl rfl rfl rfl (by repeat first | exact oc0 | refine oc rfl ?_ | refine oc (SlR.cells (S.t4.t4.sl)).2 ?_) ?_; intro w138 b139 S; have B := B.trans b139; have S := S.f11; refine t_stn S sb_seg rfl rfl rfl rfl (by repeat first | exact oc0 | refine oc rfl ?_ | refine oc (SlR.cells (S.t4.tail.tail.tail.sl)).2 ?_) ?_; intro w140 b141 S; have B := B.trans b141; refine t_a rfl ?_ rfl; have S := S.f11; refine t_stn S sb_seg rfl rfl rfl rfl (by repeat first | exact oc0 | refine oc rfl ?_ | refine oc (SlR.cells (S.tail.tail.tail.sl)).2 ?_) ?_; intro w142 b143 S; have B := B.trans b143; refine t_e' ?_; refine w_r ?_; refine x_retcctc rfl rfl S.tail.tail.box ab_seg sb_seg rfl rfl S.tail.box ab_seg sb_seg rfl rfl rfl S.box ab_seg sb_seg rfl ?_; have S := S.tail.tail.tail.f1.tail.f1.tail.f1.tail.f1.tail.f2.tail.f3.tail.f1.f2; exact ⟨_, _, _, s17, s20, _, s28, rfl, ⟨hf17.len, hf20.len, hf28.len⟩, S, ext_trans X0 B⟩
    ·have S := S.f11; refine t_stn S sb_seg rfl rfl rfl rfl (by repeat first | exact oc0 | refine oc rfl ?_ | refine oc (SlR.cells (S.t4.t4.sl)).2 ?_) ?_; intro w144 b145 S; have B := B.trans b145; refine t_b S.t4.tail.box ab_seg sb_seg rfl rfl ?_ rfl; have S := S.f11; refine t_stn S sb_seg rfl rfl rfl rfl (by repeat first | exact oc0 | refine oc rfl ?_ | refine oc (SlR.cells (S.t4.tail.tail.tail.sl)).2 ?_) ?_; intro w146 b147 S; have B := B.trans b147; refine t_a rfl ?_ rfl; have S := S.f11; refine t_stn S sb_seg rfl rfl rfl rfl (by repeat first | exact oc0 | refine oc rfl ?_ | refine oc (SlR.cells (S.tail.tail.tail.sl)).2 ?_) ?_; intro w148 b149 S; have B := B.trans b149; refine t_e' ?_; refine w_r ?_; refine x_retcctc rfl rfl S.tail.tail.box ab_seg sb_seg rfl rfl S.tail.box ab_seg sb_seg rfl rfl rfl S.box ab_seg sb_seg rfl ?_; have S := S.tail.tail.tail.f1.tail.f1.tail.f1.tail.f1.tail.f2.tail.f3.tail.f1.f2; exact ⟨_, _, _, s17, s20, _, s28, rfl, ⟨hf17.len, hf20.len, hf28.len⟩, S, ext_trans X0 B⟩
  ·refine t_b S.tail.box ab_seg sb_seg rfl rfl ?_ rfl; refine t_alt ?_ ?_
   ·refine t_b S.t4.tail.box ab_seg sb_seg rfl rfl ?_ rfl; have S := S.f4.f4.f2; refine t_f Tryz.call98 rfl (spec_l9Grow 2 T S (K.below B)) ?_ rfl; rintro e w150 ⟨vh28, s28, rfl, hf28, S, x151⟩; refine ⟨_, rfl, ?_⟩; have B := B.trans x151; have S := S.f11; refine t_stn S sb_seg rfl rfl rfl rfl (by repeat first | exact oc0 | refine oc rfl ?_ | refine oc (SlR.cells (S.t4.t4.sl)).2 ?_) ?_; intro w152 b153 S; have B := B.trans b153; have S := S.f11; refine t_stn S sb_seg rfl rfl rfl rfl (by repeat first | exact oc0 | refine oc rfl ?_ | refine oc (SlR.cells (S.t4.tail.tail.tail.sl)).2 ?_) ?_; intro w154 b155 S; have B := B.trans b155; refine t_a rfl ?_ rfl; have S := S.f11; refine t_stn S sb_seg rfl rfl rfl rfl (by repeat first | exact oc0 | refine oc rfl ?_ | refine oc (SlR.cells (S.tail.tail.tail.sl)).2 ?_) ?_; intro w156 b157 S; have B := B.trans b157; refine t_e' ?_; refine w_r ?_; refine x_retcctc rfl rfl S.tail.tail.box ab_seg sb_seg rfl rfl S.tail.box ab_seg sb_seg rfl rfl rfl S.box ab_seg sb_seg rfl ?_; have S := S.tail.tail.tail.f1.tail.f1.tail.f1.tail.f1.tail.f2.tail.f3.tail.f1.f2; exact ⟨_, _, _, s17, s20, _, s28, rfl, ⟨hf17.len, hf20.len, hf28.len⟩, S, ext_trans X0 B⟩
   ·have S := S.f4; have S := S.f4.f2; refine t_f Tryz.call98 rfl (spec_l9Grow 2 T S (K.below B)) ?_ rfl; rintro e w158 ⟨vh28, s28, rfl, hf28, S, x159⟩; refine ⟨_, rfl, ?_⟩; have B := B.trans x159; refine t_b S.t4.tail.tail.box ab_seg sb_seg rfl rfl ?_ rfl; have S := S.f11; refine t_stn S sb_seg rfl rfl rfl rfl (by repeat first | exact oc0 | refine oc rfl ?_ | refine oc (SlR.cells (S.t4.t4.sl)).2 ?_) ?_; intro w160 b161 S; have B := B.trans b161; have S := S.f11; refine t_stn S sb_seg rfl rfl rfl rfl (by repeat first | exact oc0 | refine oc rfl ?_ | refine oc (SlR.cells (S.t4.tail.tail.tail.sl)).2 ?_) ?_; intro w162 b163 S; have B := B.trans b163; refine t_a rfl ?_ rfl; have S := S.f11; refine t_stn S sb_seg rfl rfl rfl rfl (by repeat first | exact oc0 | refine oc rfl ?_ | refine oc (SlR.cells (S.tail.tail.tail.sl)).2 ?_) ?_; intro w164 b165 S; have B := B.trans b165; refine t_e' ?_; refine w_r ?_; refine x_retcctc rfl rfl S.tail.tail.box ab_seg sb_seg rfl rfl S.tail.box ab_seg sb_seg rfl rfl rfl S.box ab_seg sb_seg rfl ?_; have S := S.tail.tail.tail.f1.tail.f1.tail.f1.tail.f1.tail.f2.tail.f3.tail.f1.f2
    exact ⟨_, _, _, s17, s20, _, s28, rfl, ⟨hf17.len, hf20.len, hf28.len⟩, S, ext_trans X0 B⟩
  ·have S := S.f4; have S := S.f4.f2; refine t_f Tryz.call98 rfl (spec_l9Grow 2 T S (K.below B)) ?_ rfl; rintro e w166 ⟨vh28, s28, rfl, hf28, S, x167⟩; refine ⟨_, rfl, ?_⟩; have B := B.trans x167; refine t_alt ?_ ?_
   ·refine t_b S.t4.tail.tail.box ab_seg sb_seg rfl rfl ?_ rfl; refine t_alt ?_ ?_
    ·refine t_b S.t4.box ab_seg sb_seg rfl rfl ?_ rfl; have S := S.f11; refine t_stn S sb_seg rfl rfl rfl rfl (by repeat first | exact oc0 | refine oc rfl ?_ | refine oc (SlR.cells (S.t4.t4.sl)).2 ?_) ?_; intro w168 b169 S; have B := B.trans b169; have S := S.f11; refine t_stn S sb_seg rfl rfl rfl rfl (by repeat first | exact oc0 | refine oc rfl ?_ | refine oc (SlR.cells (S.t4.tail.tail.tail.sl)).2 ?_) ?_; intro w170 b171 S; have B := B.trans b171; refine t_a rfl ?_ rfl; have S := S.f11; refine t_stn S sb_seg rfl rfl rfl rfl (by repeat first | exact oc0 | refine oc rfl ?_ | refine oc (SlR.cells (S.tail.tail.tail.sl)).2 ?_) ?_; intro w172 b173 S; have B := B.trans b173; refine t_e' ?_; refine w_r ?_; refine x_retcctc rfl rfl S.tail.tail.box ab_seg sb_seg rfl rfl S.tail.box ab_seg sb_seg rfl rfl rfl S.box ab_seg sb_seg rfl ?_; have S := S.tail.tail.tail.f1.tail.f1.tail.f1.tail.f1.tail.f2.tail.f3.tail.f1.f2; exact ⟨_, _, _, s17, s20, _, s28, rfl, ⟨hf17.len, hf20.len, hf28.len⟩, S, ext_trans X0 B⟩
    ·have S := S.f11; refine t_stn S sb_seg rfl rfl rfl rfl (by repeat first | exact oc0 | refine oc rfl ?_ | refine oc (SlR.cells (S.t4.t4.sl)).2 ?_) ?_; intro w174 b175 S; have B := B.trans b175; refine t_b S.t4.tail.box ab_seg sb_seg rfl rfl ?_ rfl; have S := S.f11; refine t_stn S sb_seg rfl rfl rfl rfl (by repeat first | exact oc0 | refine oc rfl ?_ | refine oc (SlR.cells (S.t4.tail.tail.tail.sl)).2 ?_) ?_; intro w176 b177 S; have B := B.trans b177; refine t_a rfl ?_ rfl; have S := S.f11; refine t_stn S sb_seg rfl rfl rfl rfl (by repeat first | exact oc0 | refine oc rfl ?_ | refine oc (SlR.cells (S.tail.tail.tail.sl)).2 ?_) ?_; intro w178 b179 S; have B := B.trans b179; refine t_e' ?_; refine w_r ?_; refine x_retcctc rfl rfl S.tail.tail.box ab_seg sb_seg rfl rfl S.tail.box ab_seg sb_seg rfl rfl rfl S.box ab_seg sb_seg rfl ?_; have S := S.tail.tail.tail.f1.tail.f1.tail.f1.tail.f1.tail.f2.tail.f3.tail.f1.f2; exact ⟨_, _, _, s17, s20, _, s28, rfl, ⟨hf17.len, hf20.len, hf28.len⟩, S, ext_trans X0 B⟩
   ·refine t_b S.t4.box ab_seg sb_seg rfl rfl ?_ rfl; refine t_b S.t4.tail.tail.box ab_seg sb_seg rfl rfl ?_ rfl; have S := S.f11; refine t_stn S sb_seg rfl rfl rfl rfl (by repeat first | exact oc0 | refine oc rfl ?_ | refine oc (SlR.cells (S.t4.t4.sl)).2 ?_) ?_; intro w180 b181 S; have B := B.trans b181; have S := S.f11; refine t_stn S sb_seg rfl rfl rfl rfl (by repeat first | exact oc0 | refine oc rfl ?_ | refine oc (SlR.cells (S.t4.tail.tail.tail.sl)).2 ?_) ?_; intro w182 b183 S; have B := B.trans b183; refine t_a rfl ?_ rfl; have S := S.f11; refine t_stn S sb_seg rfl rfl rfl rfl (by repeat first | exact oc0 | refine oc rfl ?_ | refine oc (SlR.cells (S.tail.tail.tail.sl)).2 ?_) ?_; intro w184 b185 S; have B := B.trans b185; refine t_e' ?_; refine w_r ?_; refine x_retcctc rfl rfl S.tail.tail.box ab_seg sb_seg rfl rfl S.tail.box ab_seg sb_seg rfl rfl rfl S.box ab_seg sb_seg rfl ?_; have S := S.tail.tail.tail.f1.tail.f1.tail.f1.tail.f1.tail.f2.tail.f3.tail.f1.f2; exact ⟨_, _, _, s17, s20, _, s28, rfl, ⟨hf17.len, hf20.len, hf28.len⟩, S, ext_trans X0 B⟩
theorem findP_S0 {t : Topo} {now : Int} {l : List Path} (h : PathsS l) : PathsS (findP t now l) := by
  obtain ⟨h1, _, h3, _⟩ := findP_all (t := t) (now := now) l; exact ⟨by omega, fun x hx => h.2 x (h1 x hx).1⟩
theorem find_in {t : Topo} {now : Int} {l : List Path} {k : Nat} {x : Path} (h : (findP t now l)[k]? = some x) : x ∈ l ∧ usable t x now = true ∧ ¬ x ∈ (findP t now l).take k := by
  obtain ⟨h1, h2, _, _⟩ := findP_all (t := t) (now := now) l; have hx := h1 x (List.mem_of_getElem? h); refine ⟨hx.1, hx.2, fun hm => ?_⟩; obtain ⟨j, hj, e⟩ := List.mem_iff_getElem.1 hm; have hk := List.getElem?_eq_some_iff.1 h; rw [List.length_take] at hj; rw [List.getElem_take] at e; have := (List.pairwise_iff_getElem.1 h2) j k (by omega) hk.1 (by omega); exact this (by rw [e, hk.2])
theorem impl_CombP (t : Topo) (q : Sdb) (v v1 : Value) (a b : Int) (l : List Path) (w : World) (h : VA topoT w v t) (h' : VA sdbT w v1 q) (hz : sz_topo t ≤ 1048576) (hz' : sz_sdb q ≤ 1048576) (hn : DbN q) (hl : l = comb t q a b) : Calls Tryz.prog 45 #[v, v1, I a, I b] w fun e w' => ∃ v, e = .returned v ∧ True ∧ Sep w.heap.size w' [slO pathT 38 v l] ∧ Ext w w' := by
  refine (impl_CombinePaths t q v v1 a b w h h' hz hz' hn).mono ?_; rintro e w' ⟨v, fp, rfl, hO, x⟩; rw [← hl] at hO; exact ⟨v, rfl, trivial, (Sep.nil w).add (o := slO _ _ _ _) x hO, x⟩
theorem impl_FindP (t : Topo) (q : Sdb) (v v1 : Value) (a b now : Int) (l : List Path) (w : World) (h : VA topoT w v t) (h' : VA sdbT w v1 q) (hz : sz_topo t ≤ 1048576) (hz' : sz_sdb q ≤ 1048576) (hn : DbN q) (hP : PathsS (comb t q a b)) (hl : l = findP t now (comb t q a b)) : Calls Tryz.prog 9 #[v, v1, I a, I b, I now] w fun e w' => ∃ v, e = .returned v ∧ True ∧ Sep w.heap.size w' [rdO pathT v l] ∧ Ext w w' := by
  rw [hl]; exact impl_FindPaths t q v v1 a b now w h h' hz hz' hn hP
theorem spec_CombP (t : Topo) (q : Sdb) (v v1 : Value) (a b : Int) (l : List Path) (w : World) (h : VA topoT w v t) (h' : VA sdbT w v1 q) (hz : sz_topo t ≤ 1048576) (hz' : sz_sdb q ≤ 1048576) (hn : DbN q) (hl : l = comb t q a b) : Calls Tryz.prog 48 #[v, v1, I a, I b] w fun e w' => ∃ v, e = .returned v ∧ True ∧ Sep w.heap.size w' [slO pathT 38 v l] ∧ Ext w w' := by
  refine (spec_CombinePaths t q v v1 a b w h h' hz hz' hn).mono ?_; rintro e w' ⟨v, fp, rfl, hO, x⟩; rw [← hl] at hO; exact ⟨v, rfl, trivial, (Sep.nil w).add (o := slO _ _ _ _) x hO, x⟩
section
variable (P : Program) (f : FuncId) (fn : Func) (s : ChangeSpec) (c : OpenClaim)
def jnA : Bool := c.wf (OpenSpec.ofChange s) && laidOutB P && mapsRowed P && fn.params.all (P.readableRec ·) && namedTie P c.named s.vars && (c.stops == []) && (P.stops == []) && (c.knobs == []) && (P.stopKnobs == [])
def jnB : Bool := (c.inPlace == P.inPlace f) && (c.unfollowed == P.unfollowed f) && (c.recurses == P.recurses f) && (c.named == P.varsNamed f)
def jnC : Bool := (c.maps == (fn.params.toList ++ s.plain.varTypes P).any (P.mapsRec ·)) && (c.ifaces == (fn.params.toList ++ s.plain.varTypes P).any (P.ifacesRec ·)) && (c.mapsOut == P.mapsAmong fn.resultTypes.toList) &&
  (c.loops == (fn.params.toList ++ s.plain.varTypes P).any (P.loopsFrom ·)) && (c.wideKeys == (fn.params.toList ++ s.plain.varTypes P ++ fn.resultTypes.toList).any (P.wideKeysFrom ·)) &&
  s.vars.all (P.varReadable ·) && fn.resultTypes.all (fun t => P.readableRec t && decide (t < P.types.size)) && (c.ifacesOut == fn.resultTypes.toList.any (P.ifacesRec ·)) && (c.loopsOut == fn.resultTypes.toList.any (P.loopsFrom ·)) && (c.plainKeys == P.plainKeys) && c.shortTexts.isNone
def jnD : Bool := P.stopsHeard
def jnE : Bool := P.mayEnter
def jnF : Bool := c.lifted == P.liftsFinal
def jnG : Bool := P.make == some c.make
def jnH : Bool := (c.kinds == (if c.domain.isEmpty then [] else fn.params.toList.map fun t => match P.underlying t with | some (.int k) => some k | _ => none))
def jnI : Bool := c.pinned == c.pinnedBy
def jnJ : Bool := (c.veiled == (fn.params.toList ++ s.plain.varTypes P ++ fn.resultTypes.toList).any (P.veiledRec ·)) && c.veiledFits P fn.params.toList (fn.params.toList ++ s.plain.varTypes P ++ fn.resultTypes.toList)
end
theorem joined_of {P : Program} {f : FuncId} {fn : Func} {s : ChangeSpec} {c : OpenClaim} (hA : jnA P fn s c = true) (hB : jnB P f c = true) (hC : jnC P fn s c = true) (hD : jnD P = true) (hE : jnE P = true) (hF : jnF P c = true) (hG : jnG P c = true) (hH : jnH P fn c = true) (hI : jnI c = true) (hJ : jnJ P fn s c = true) : joinedFacts P f fn s c = true := by
  unfold jnA at hA
  unfold jnB at hB
  unfold jnC at hC
  unfold jnD at hD
  unfold jnE at hE
  unfold jnF at hF
  unfold jnG at hG
  unfold jnH at hH
  unfold jnI at hI
  unfold jnJ at hJ
  simp only [Bool.and_eq_true] at hA hB hC hJ
  unfold joinedFacts
  simp only [Bool.and_eq_true]
  obtain ⟨⟨⟨⟨⟨⟨⟨⟨a1, a2⟩, a3⟩, a4⟩, a5⟩, a6⟩, a7⟩, a8⟩, a9⟩ := hA; obtain ⟨⟨⟨b1, b2⟩, b3⟩, b4⟩ := hB; obtain ⟨⟨⟨⟨⟨⟨⟨⟨⟨⟨c1, c2⟩, c3⟩, c4⟩, c5⟩, c6⟩, c7⟩, c8⟩, c9⟩, c10⟩, c11⟩ := hC; obtain ⟨d1, d2⟩ := hJ; exact ⟨⟨⟨⟨⟨⟨⟨⟨⟨⟨⟨⟨⟨⟨⟨⟨⟨⟨⟨⟨⟨⟨⟨⟨⟨⟨⟨⟨⟨⟨⟨a1, a2⟩, a3⟩, a4⟩, a5⟩, a6⟩, a7⟩, a8⟩, a9⟩, b1⟩, b2⟩, b3⟩, b4⟩, c1⟩, c2⟩, c3⟩, c4⟩, c5⟩, c6⟩, c7⟩, c8⟩, c9⟩, c10⟩, c11⟩, hD⟩, hE⟩, hF⟩, hG⟩, hH⟩, hI⟩, d1⟩, d2⟩
open Go.ChangeShapes Go.WideShapes Go.ChangeAt Go.RowKit Go.Deep
theorem knob : ownKnob Tryz.prog.godebug = none := by kernel_rfl
theorem laidOut : laidOutB Tryz.prog = true := by kernel_rfl
section
variable {H : Type} {enc : TypeId × Value → H} {P : Program} {w : World} {base : Nat} {spare : Nat → Bool} {held : Bool}
/-- A slice, by its elements. -/
theorem open_sl {α : Type} (T : Ty α) (good : α → Prop) {t e : TypeId} (ht : P.underlying t = some (.slice e)) (hC : P.cellsOf e = T.size)
  (hel : ∀ (n : Nat) cs y, DataW.trod enc P w base spare held n e cs = some y → ∃ a, T.R w cs a ∧ good a) {fuel : Nat} {cs : List Value} {x : DataW H × List MemPlace} (h : DataW.trod enc P w base spare held fuel t cs = some x) :
  ∃ A c l, cs = [.slice A l.length c] ∧ SlR T w (.slice A l.length c) l ∧ l.length ≤ 9223372036854775807 ∧ ∀ a ∈ l, good a := by
 rcases open_slice ht h with ⟨h0, _⟩ | ⟨a, len, cap, m, n, D, Pl, hcs, hb, hl, hm, hmm, hx, hi⟩
 ·exact ⟨none, 0, [], h0, ⟨none, 0, [], rfl, Nat.le_refl _, rfl, Rd.nil, fun i cs a hi => by simp at hi⟩, by simp, by simp⟩
 ·have hlm : len ≤ m := by rw [hmm]; split <;> omega
  have hall : ∀ i : Fin len, ∃ (cs : List Value) (x : α), T.R w cs x ∧ good x ∧ cs.length = T.size ∧ ∀ j, j < T.size → w.cell? ((a.add (i * T.size)).add j) = cs[j]? := fun i => by
   obtain ⟨cs', h1, h2⟩ := hi i (by omega); obtain ⟨x, h3, h4⟩ := hel _ _ _ h2; obtain ⟨_, h5, h6⟩ := World.cells?_some h1; rw [hC] at h5 h6; exact ⟨cs', x, h3, h4, h5, h6⟩
  obtain ⟨f, hf⟩ := Classical.axiomOfChoice hall; obtain ⟨g, hg⟩ := Classical.axiomOfChoice hf; have hlen : (List.ofFn g).length = len := List.length_ofFn; refine ⟨some a, cap, List.ofFn g, by rw [hlen]; exact hcs, ⟨some a, cap, List.ofFn f, rfl, by rw [hlen]; exact hl, by simp, ?_, ?_⟩, by rw [hlen]; simp only [maxLen] at hm; omega, ?_⟩
  ·intro hpos
   have hp : 0 < len := by
    rcases Nat.eq_zero_or_pos len with h0 | h0
    ·subst h0; simp at hpos
    ·exact h0
   have hsz := T.pos; have hc0 := (hg ⟨0, hp⟩).2.2.2 0 hsz
   simp only [Nat.zero_mul] at hc0
   have hspot : a.spot = none := by
    have hsome : (w.cell? a).isSome = true := by
     have h9 : w.cell? a = (f ⟨0, hp⟩)[0]? := by
      have : (a.add 0).add 0 = a := by simp [Addr.add]
      rw [← this]; exact hc0
     rw [h9, List.getElem?_eq_getElem (by rw [(hg ⟨0, hp⟩).2.2.1]; exact hsz)]
     rfl
    unfold World.cell? at hsome
    split at hsome
    ·split at hsome
     ·simp at hsome
     ·rename_i hs; simpa using hs
    ·simp at hsome
   obtain ⟨ab, ao, as'⟩ := a
   simp only at hspot
   subst hspot; refine ⟨ab, ao, rfl, fun j u hu => ?_⟩
   have hfl : ∀ (i : Nat) cs, (List.ofFn f)[i]? = some cs → cs.length = T.size := fun i cs hi => by
    obtain ⟨hlt, rfl⟩ := List.getElem?_eq_some_iff.1 hi; rw [List.getElem_ofFn]; exact (hg _).2.2.1
   have hj : j < len * T.size := by
    have := (List.getElem?_eq_some_iff.1 hu).1; rw [flatten_len hfl, List.length_ofFn] at this; exact this
   have hq : j / T.size < len := Nat.div_lt_of_lt_mul (by rw [Nat.mul_comm]; exact hj); have hr := Nat.mod_lt j hsz
   have ej : j / T.size * T.size + j % T.size = j := by rw [Nat.mul_comm]; exact Nat.div_add_mod j T.size
   have h1 := (hg ⟨j / T.size, hq⟩).2.2.2 (j % T.size) hr; have h2 := flatten_at hfl (j / T.size) (f ⟨j / T.size, hq⟩) (by rw [List.getElem?_ofFn, dif_pos hq]) (j % T.size) hr; rw [ej] at h2; rw [Addr.add_lit, Addr.add_lit] at h1
   simp only [Nat.add_assoc] at h1
   rw [ej] at h1; rw [h1, ← h2]; exact hu
  ·intro i cs x hi hx
   have hlt : i < len := by
    have := (List.getElem?_eq_some_iff.1 hi).1
    simpa using this
   rw [List.getElem?_ofFn, dif_pos hlt] at hi hx
   injection hi with hi
   injection hx with hx
   subst hi hx; exact (hg _).1
  ·intro x hx; obtain ⟨i, hi, rfl⟩ := List.getElem_of_mem hx; rw [List.getElem_ofFn]; exact (hg _).2.1
end
section
variable {H : Type} {enc : TypeId × Value → H} {w : World} {base : Nat} {spare : Nat → Bool} {held : Bool}
end
open Go.ChangeShapes Go.WideShapes Go.ChangeAt Go.RowKit Go.Deep
section
variable {H : Type} {enc : TypeId × Value → H} {w : World} {base : Nat} {spare : Nat → Bool} {held : Bool}
theorem byte_of (n : Nat) (cs : List Value) (y : DataW H × List MemPlace) (h : DataW.trod enc Tryz.prog w base spare held n 5 cs = some y) : ∃ a : UInt8, byteT.R w cs a ∧ True := by
  obtain ⟨a, e, _, wf⟩ := DataW.trod_int Tryz.underlying5 h; have hb := bounds_u8 wf; refine ⟨UInt8.ofNat a.toNat, ?_, trivial⟩
  show cs = [.int .u8 ((UInt8.ofNat a.toNat).toNat : Int)]
  rw [e, UInt8.toNat_ofNat', Nat.mod_eq_of_lt (by omega), Int.toNat_of_nonneg hb.1]
end
open Go.ChangeShapes Go.WideShapes Go.ChangeAt Go.RowKit Go.Deep
section
variable {H : Type} {enc : TypeId × Value → H} {w : World} {base : Nat} {spare : Nat → Bool} {held : Bool}
theorem open_byteS {r : Reach} {b0 : Nat} {v : Value} {d : DataW H} {p : List MemPlace} (hv : Value.okWide Tryz.prog w r b0 22 v) (h : DataW.Trod enc Tryz.prog w base spare held 22 v d p) :
    ∃ l, SlR byteT w v l ∧ l.length ≤ 9223372036854775807 := by
  obtain ⟨a0, len, cap, rfl⟩ := okWide_slice Tryz.underlying22 hv; obtain ⟨fuel, hf⟩ := h; obtain ⟨A, c, l, e, hR, hn, hg⟩ := open_sl byteT (fun _ => True) Tryz.underlying22 (by kernel_rfl) byte_of hf
  simp [Value.cells] at e
  obtain ⟨rfl, rfl, rfl⟩ := e; exact ⟨l, hR, hn⟩
end
end Go.Proofs.YtljkgpembicloaaGreat
