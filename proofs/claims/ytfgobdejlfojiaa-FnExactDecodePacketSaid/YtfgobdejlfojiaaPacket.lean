/- Where a packet stands: hasHop, CurrentAS, lastOfPart, AtLastHop, HopValidAt, CurrentHopValid, of the program and of the reference. -/
import Derived.Test.YtfgobdejlfojiaaNum
import Derived.Test.YtfgobdejlfojiaaFamPath
import Derived.Test.YtfgobdejlfojiaaMemB
import Derived.Deep.RegionWith
namespace Go.Proofs.Ytfgobdejlfojiaa
open Go.RowKit
set_option linter.unusedVariables false

/-- The part at which a packet stands. -/
def curPart (p : Pkt) : Option Part := if 0 ≤ p.pidx then p.path[p.pidx.toNat]? else none
def curHop (p : Pkt) : Option Hop := match curPart p with
  | none => none
  | some x => if 0 ≤ p.hidx then x.hops[p.hidx.toNat]? else none
def currentAS (p : Pkt) : Int := match curHop p with
  | none => -1
  | some h => h.ia

/-- A packet stands at no part, at a part but at no hop, or at a hop. -/
theorem cur_cases (p : Pkt) : (Hid (inR p.pidx 0 ((p.path.length : Int) - 1) = false) ∧ Hid (curHop p = none)) ∨
    (∃ k x, p.pidx = ((k : Nat) : Int) ∧ k < p.path.length ∧ Hid (p.path[k]? = some x) ∧ Hid (inR (k : Int) 0 ((p.path.length : Int) - 1) = true) ∧
      ((Hid (inR p.hidx 0 ((x.hops.length : Int) - 1) = false) ∧ Hid (curHop p = none)) ∨
       ∃ j h, p.hidx = ((j : Nat) : Int) ∧ j < x.hops.length ∧ Hid (x.hops[j]? = some h) ∧ Hid (inR (j : Int) 0 ((x.hops.length : Int) - 1) = true) ∧ Hid (curHop p = some h))) := by
  by_cases h1 : 0 ≤ p.pidx ∧ p.pidx < p.path.length
  · right
    obtain ⟨k, hk⟩ := Int.eq_ofNat_of_zero_le h1.1
    have hlt : k < p.path.length := by omega
    have hx : p.path[k]? = some (p.path[k]'hlt) := List.getElem?_eq_getElem hlt
    have hc : curPart p = some (p.path[k]'hlt) := by unfold curPart; rw [if_pos h1.1, hk, Int.toNat_natCast, hx]
    refine ⟨k, p.path[k]'hlt, hk, hlt, hx, inR_yes (by omega) (by omega), ?_⟩
    by_cases h2 : 0 ≤ p.hidx ∧ p.hidx < (p.path[k]'hlt).hops.length
    · right
      obtain ⟨j, hj⟩ := Int.eq_ofNat_of_zero_le h2.1
      have hjl : j < (p.path[k]'hlt).hops.length := by omega
      refine ⟨j, (p.path[k]'hlt).hops[j]'hjl, hj, hjl, List.getElem?_eq_getElem hjl, inR_yes (by omega) (by omega), ?_⟩
      show curHop p = _
      unfold curHop
      rw [hc]
      simp only []
      rw [if_pos h2.1, hj, Int.toNat_natCast, List.getElem?_eq_getElem hjl]
    · left
      refine ⟨?_, ?_⟩
      · by_cases h3 : 0 ≤ p.hidx
        · exact inR_hi (by omega)
        · exact inR_lo (by omega)
      · show curHop p = _
        unfold curHop
        rw [hc]
        simp only []
        by_cases h3 : 0 ≤ p.hidx
        · rw [if_pos h3, List.getElem?_eq_none (by omega)]
        · rw [if_neg h3]
  · left
    refine ⟨?_, ?_⟩
    · by_cases h3 : 0 ≤ p.pidx
      · exact inR_hi (by omega)
      · exact inR_lo (by omega)
    · show curHop p = _
      unfold curHop curPart
      by_cases h3 : 0 ≤ p.pidx
      · rw [if_pos h3, List.getElem?_eq_none (by omega)]
      · rw [if_neg h3]

theorem same_false {P : Program} {f : FuncId} {args : Array Value} {w : World} {b c : Bool} (hb : Hid (b = c)) (h : Calls P f args w fun e w' => e = .returned (.bool b) ∧ w = w') : Calls P f args w fun e w' => e = .returned (.bool c) ∧ w = w' := by
  rw [hb.out] at h; exact h

set_option maxRecDepth 100000 in
set_option maxHeartbeats 1000000 in
theorem impl_hasHop (p : Pkt) (cs : List Value) (w : World) (h : pktT.R w cs p) (hz : sz_pkt p ≤ 1048576) :
    Calls Try.prog 149 #[.agg cs.toArray] w fun e w' => e = .returned (.bool (curHop p).isSome) ∧ Below w.heap.size w w' := by
  obtain ⟨A3, c3, A9, c9, rfl, ⟨h3, _⟩, _⟩ := pkt_form h
  have hs : sz_path p.path ≤ 1048576 := by unfold sz_pkt at hz; omega
  have hn0 : p.path.length ≤ 1048576 := by have : sz_path p.path = List.length p.path + (p.path.map sz_part).sum := rfl; omega
  obtain ⟨r, Hr⟩ : ∃ r, Hid (r = (curHop p).isSome) := ⟨_, rfl⟩
  rw [← Hr.out]
  clear h hz
  have hcc := cur_cases p
  obtain ⟨n, H⟩ : ∃ n, Hid (n = List.length p.path) := ⟨_, rfl⟩
  rw [← H.out] at h3 hn0 ⊢
  obtain ⟨W, HW⟩ : ∃ W, Hid (W = w.alloc (.cells #[I p.kind, I p.src, I p.dst, .slice A3 n c3, I p.pidx, I p.hidx, I p.beta, I p.rid, I p.seq, .slice A9 p.pay.length c9] 51)) := ⟨_, rfl⟩
  have x0 : Below w.heap.size w W := by rw [HW.out]; exact ext_alloc1 _ _
  have a3 : ∀ m : Xt W, m.w.cell? ⟨w.heap.size, 3, none⟩ = some (.slice A3 n c3) := fun m => ck m.h (by rw [HW.out]; simp)
  have a4 : ∀ m : Xt W, m.w.cell? ⟨w.heap.size, 4, none⟩ = some (I p.pidx) := fun m => ck m.h (by rw [HW.out]; simp)
  have a5 : ∀ m : Xt W, m.w.cell? ⟨w.heap.size, 5, none⟩ = some (I p.hidx) := fun m => ck m.h (by rw [HW.out]; simp)
  rcases hcc with ⟨hr, hc⟩ | ⟨k, x, ek, hk, hx, hr, hj⟩
  · rw [← H.out] at hr
    have HR : Hid (r = false) := by show _ = _; rw [Hr.out, hc.out]; rfl
    go_enter Try.func149, Try.ntmps149
    go_wp2_with (fail)
    rw [← HW.out]
    refine wp_region_ext (by kernel_rfl) (by kernel_rfl) ?_
    repeat (go_big_quiet_step ((go_at_call 70; exact ext_of_same _ (same_false hr (impl_InRange _ _ _ _)))))
    refine wpQuiet_nil ?_
    rintro _ ⟨⟨w1, hb1⟩, rfl⟩
    go_wp2_with (fail)
    go_ret
    exact ⟨by rw [HR.out]; rfl, ext_trans x0 hb1⟩
  · rw [← H.out] at hr hk
    rw [ek] at a4
    clear ek
    obtain ⟨g, o, q, x', B, d, e, hg, hxk, hin, hd, c0, c1, c2, c3'⟩ := part_at (k := k) h3 (by rw [← H.out]; exact hk)
    rw [← H.out] at e
    cases e
    obtain rfl : x = x' := by have := hx.out.symm.trans hxk.out; injection this
    have b3 : ∀ m : Xt W, m.w.cell? ⟨g, o + k * 4 + 3, none⟩ = some (.slice B x.hops.length d) := fun m => ck m.h (ck x0 c3')
    clear c0 c1 c2 c3'
    have hm0 : x.hops.length ≤ 1048576 := by
      have := le_sum_of_mem (List.mem_map.2 ⟨x, List.mem_of_getElem? hx.out, rfl⟩ : sz_part x ∈ p.path.map sz_part)
      have h2 : sz_path p.path = List.length p.path + (p.path.map sz_part).sum := rfl
      have h3 : sz_part x = x.hops.length := rfl
      omega
    obtain ⟨m, Hm⟩ : ∃ m, Hid (m = x.hops.length) := ⟨_, rfl⟩
    rw [← Hm.out] at b3 hm0
    rcases hj with ⟨hr2, hc⟩ | ⟨j, y, ej, hjl, hy, hr2, hc⟩
    · rw [← Hm.out] at hr2
      have HR : Hid (r = false) := by show _ = _; rw [Hr.out, hc.out]; rfl
      go_enter Try.func149, Try.ntmps149
      go_wp2_with (fail)
      rw [← HW.out]
      refine wp_region_ext (by kernel_rfl) (by kernel_rfl) ?_
      repeat (go_big_quiet_step (first | (go_at_call_of 70 (I (k : Int)); exact ext_of_same _ (same_false hr (impl_InRange _ _ _ _))) | (go_at_call_of 70 (I p.hidx); exact ext_of_same _ (same_false hr2 (impl_InRange _ _ _ _)))))
      refine wpQuiet_nil ?_
      rintro _ ⟨⟨w1, hb1⟩, rfl⟩
      go_wp2_with (fail)
      go_ret
      exact ⟨by rw [HR.out]; rfl, ext_trans x0 hb1⟩
    · rw [← Hm.out] at hr2
      rw [ej] at a5
      clear ej
      have HR : Hid (r = true) := by show _ = _; rw [Hr.out, hc.out]; rfl
      go_enter Try.func149, Try.ntmps149
      go_wp2_with (fail)
      rw [← HW.out]
      refine wp_region_ext (by kernel_rfl) (by kernel_rfl) ?_
      repeat (go_big_quiet_step (first | (go_at_call_of 70 (I (k : Int)); exact ext_of_same _ (same_false hr (impl_InRange _ _ _ _))) | (go_at_call_of 70 (I (j : Int)); exact ext_of_same _ (same_false hr2 (impl_InRange _ _ _ _)))))
      refine wpQuiet_nil ?_
      rintro _ ⟨⟨w1, hb1⟩, rfl⟩
      go_wp2_with (fail)
      go_ret
      exact ⟨by rw [HR.out]; rfl, ext_trans x0 hb1⟩

set_option maxRecDepth 100000 in
set_option maxHeartbeats 1000000 in
theorem impl_CurrentAS (p : Pkt) (cs : List Value) (w : World) (h : pktT.R w cs p) (hz : sz_pkt p ≤ 1048576) (hl : lenOk_pkt p) (hg : rng_pkt p) :
    Calls Try.prog 89 #[.agg cs.toArray] w fun e w' => e = .returned (I (currentAS p)) ∧ Below w.heap.size w w' := by
  obtain ⟨A3, c3, A9, c9, rfl, ⟨h3, _⟩, _⟩ := pkt_form h
  have hs : sz_path p.path ≤ 1048576 := by unfold sz_pkt at hz; omega
  have hn0 : p.path.length ≤ 1048576 := by have : sz_path p.path = List.length p.path + (p.path.map sz_part).sum := rfl; omega
  obtain ⟨r, Hr⟩ : ∃ r, Hid (r = currentAS p) := ⟨_, rfl⟩
  rw [← Hr.out]
  have hcc := cur_cases p
  obtain ⟨n, H⟩ : ∃ n, Hid (n = List.length p.path) := ⟨_, rfl⟩
  have HC := hid fun w' (hw : Below w.heap.size w w') => impl_hasHop p _ w' (pktT.kp h hw) hz
  clear h hz hl hg
  rw [← H.out] at h3 hn0 HC ⊢
  obtain ⟨W, HW⟩ : ∃ W, Hid (W = w.alloc (.cells #[I p.kind, I p.src, I p.dst, .slice A3 n c3, I p.pidx, I p.hidx, I p.beta, I p.rid, I p.seq, .slice A9 p.pay.length c9] 51)) := ⟨_, rfl⟩
  have x0 : Below w.heap.size w W := by rw [HW.out]; exact ext_alloc1 _ _
  have a3 : ∀ m : Xt W, m.w.cell? ⟨w.heap.size, 3, none⟩ = some (.slice A3 n c3) := fun m => ck m.h (by rw [HW.out]; simp)
  have a4 : ∀ m : Xt W, m.w.cell? ⟨w.heap.size, 4, none⟩ = some (I p.pidx) := fun m => ck m.h (by rw [HW.out]; simp)
  have a5 : ∀ m : Xt W, m.w.cell? ⟨w.heap.size, 5, none⟩ = some (I p.hidx) := fun m => ck m.h (by rw [HW.out]; simp)
  rcases hcc with ⟨hr, hc⟩ | ⟨k, x, ek, hk, hx, hr, hj⟩
  · have HR : Hid (r = -1) := by show _ = _; rw [Hr.out]; unfold currentAS; rw [hc.out]
    have hsome : Hid ((curHop p).isSome = false) := by show _ = _; rw [hc.out]; rfl
    go_enter Try.func89, Try.ntmps89
    go_wp2_with (fail)
    rw [← HW.out]
    refine (HC.out W x0).mono ?_
    rintro e w1 ⟨rfl, hb1⟩
    rw [hsome.out]
    go_wp2_with (fail)
    go_ret
    exact ⟨by rw [HR.out]; rfl, ext_trans x0 hb1⟩
  · rw [← H.out] at hr hk
    rw [ek] at a4
    clear ek
    obtain ⟨g, o, q, x', B, d, e, hg, hxk, hin, hd, c0, c1, c2, c3'⟩ := part_at (k := k) h3 (by rw [← H.out]; exact hk)
    rw [← H.out] at e
    cases e
    obtain rfl : x = x' := by have := hx.out.symm.trans hxk.out; injection this
    have b3 : ∀ m : Xt W, m.w.cell? ⟨g, o + k * 4 + 3, none⟩ = some (.slice B x.hops.length d) := fun m => ck m.h (ck x0 c3')
    clear c0 c1 c2 c3'
    have hm0 : x.hops.length ≤ 1048576 := by
      have := le_sum_of_mem (List.mem_map.2 ⟨x, List.mem_of_getElem? hx.out, rfl⟩ : sz_part x ∈ p.path.map sz_part)
      have h2 : sz_path p.path = List.length p.path + (p.path.map sz_part).sum := rfl
      have h3 : sz_part x = x.hops.length := rfl
      omega
    obtain ⟨m, Hm⟩ : ∃ m, Hid (m = x.hops.length) := ⟨_, rfl⟩
    rw [← Hm.out] at b3 hm0
    rcases hj with ⟨hr2, hc⟩ | ⟨j, y, ej, hjl, hy, hr2, hc⟩
    · have HR : Hid (r = -1) := by show _ = _; rw [Hr.out]; unfold currentAS; rw [hc.out]
      have hsome : Hid ((curHop p).isSome = false) := by show _ = _; rw [hc.out]; rfl
      go_enter Try.func89, Try.ntmps89
      go_wp2_with (fail)
      rw [← HW.out]
      refine (HC.out W x0).mono ?_
      rintro e w1 ⟨rfl, hb1⟩
      rw [hsome.out]
      go_wp2_with (fail)
      go_ret
      exact ⟨by rw [HR.out]; rfl, ext_trans x0 hb1⟩
    · rw [ej] at a5
      clear ej
      obtain ⟨g', o', q', y', e', hg', hyj, b0, b1, b2, b3', b4⟩ := hop_at (k := j) hin (by omega)
      rw [← Hm.out] at hjl e'
      cases e'
      obtain rfl : y = y' := by have := hy.out.symm.trans hyj.out; injection this
      have HR : Hid (r = y.ia) := by show _ = _; rw [Hr.out]; unfold currentAS; rw [hc.out]
      have hsome : Hid ((curHop p).isSome = true) := by show _ = _; rw [hc.out]; rfl
      go_enter Try.func89, Try.ntmps89
      go_wp2_with (fail)
      rw [← HW.out]
      refine (HC.out W x0).mono ?_
      rintro e w1 ⟨rfl, hb1⟩
      rw [hsome.out]
      have f3 := a3 ⟨w1, hb1⟩
      have f4 := a4 ⟨w1, hb1⟩
      have f5 := a5 ⟨w1, hb1⟩
      have fb := b3 ⟨w1, hb1⟩
      have fh := ck (ext_trans x0 hb1) b0
      clear a3 a4 a5 b3 b0 b1 b2 b3' b4
      go_wp2_with (fail)
      go_quiet (fail)
      go_wp2_with (fail)
      go_ret
      exact ⟨by rw [HR.out]; rfl, below_drewN (ext_trans x0 hb1) _⟩

set_option maxRecDepth 100000 in
set_option maxHeartbeats 1000000 in
theorem spec_CurrentAS (p : Pkt) (cs : List Value) (w : World) (h : pktT.R w cs p) (hz : sz_pkt p ≤ 1048576) (hl : lenOk_pkt p) (hg : rng_pkt p) :
    Calls Try.prog 86 #[.agg cs.toArray] w fun e w' => e = .returned (I (currentAS p)) ∧ Below w.heap.size w w' := by
  obtain ⟨A3, c3, A9, c9, rfl, ⟨h3, _⟩, _⟩ := pkt_form h
  have hs : sz_path p.path ≤ 1048576 := by unfold sz_pkt at hz; omega
  have hn0 : p.path.length ≤ 1048576 := by have : sz_path p.path = List.length p.path + (p.path.map sz_part).sum := rfl; omega
  obtain ⟨r, Hr⟩ : ∃ r, Hid (r = currentAS p) := ⟨_, rfl⟩
  rw [← Hr.out]
  have hcc := cur_cases p
  obtain ⟨n, H⟩ : ∃ n, Hid (n = List.length p.path) := ⟨_, rfl⟩
  clear h hz hl hg
  rw [← H.out] at h3 hn0 ⊢
  obtain ⟨W, HW⟩ : ∃ W, Hid (W = w.alloc (.cells #[I p.kind, I p.src, I p.dst, .slice A3 n c3, I p.pidx, I p.hidx, I p.beta, I p.rid, I p.seq, .slice A9 p.pay.length c9] 51)) := ⟨_, rfl⟩
  have x0 : Below w.heap.size w W := by rw [HW.out]; exact ext_alloc1 _ _
  have a3 : ∀ m : Xt W, m.w.cell? ⟨w.heap.size, 3, none⟩ = some (.slice A3 n c3) := fun m => ck m.h (by rw [HW.out]; simp)
  have a4 : ∀ m : Xt W, m.w.cell? ⟨w.heap.size, 4, none⟩ = some (I p.pidx) := fun m => ck m.h (by rw [HW.out]; simp)
  have a5 : ∀ m : Xt W, m.w.cell? ⟨w.heap.size, 5, none⟩ = some (I p.hidx) := fun m => ck m.h (by rw [HW.out]; simp)
  rcases hcc with ⟨hr, hc⟩ | ⟨k, x, ek, hk, hx, hr, hj⟩
  · rw [← H.out] at hr
    have HR : Hid (r = -1) := by show _ = _; rw [Hr.out]; unfold currentAS; rw [hc.out]
    have hsome : Hid ((curHop p).isSome = false) := by show _ = _; rw [hc.out]; rfl
    go_enter Try.func86, Try.ntmps86
    go_wp2_with (fail)
    rw [← HW.out]
    refine wp_region_ext (by kernel_rfl) (by kernel_rfl) ?_
    repeat (go_big_quiet_step ((go_at_call 64; exact ext_of_same _ (same_false hr (spec_l1In _ _ _ _)))))
    refine wpQuiet_nil ?_
    rintro w1 ⟨⟨_, hb1⟩, rfl⟩
    go_wp2_with (fail)
    go_ret
    exact ⟨by rw [HR.out]; rfl, ext_trans x0 hb1⟩
  · rw [← H.out] at hr hk
    rw [ek] at a4
    clear ek
    obtain ⟨g, o, q, x', B, d, e, hg, hxk, hin, hd, c0, c1, c2, c3'⟩ := part_at (k := k) h3 (by rw [← H.out]; exact hk)
    rw [← H.out] at e
    cases e
    obtain rfl : x = x' := by have := hx.out.symm.trans hxk.out; injection this
    have b3 : ∀ m : Xt W, m.w.cell? ⟨g, o + k * 4 + 3, none⟩ = some (.slice B x.hops.length d) := fun m => ck m.h (ck x0 c3')
    clear c0 c1 c2 c3'
    have hm0 : x.hops.length ≤ 1048576 := by
      have := le_sum_of_mem (List.mem_map.2 ⟨x, List.mem_of_getElem? hx.out, rfl⟩ : sz_part x ∈ p.path.map sz_part)
      have h2 : sz_path p.path = List.length p.path + (p.path.map sz_part).sum := rfl
      have h3 : sz_part x = x.hops.length := rfl
      omega
    obtain ⟨m, Hm⟩ : ∃ m, Hid (m = x.hops.length) := ⟨_, rfl⟩
    rw [← Hm.out] at b3 hm0
    rcases hj with ⟨hr2, hc⟩ | ⟨j, y, ej, hjl, hy, hr2, hc⟩
    · rw [← Hm.out] at hr2
      have HR : Hid (r = -1) := by show _ = _; rw [Hr.out]; unfold currentAS; rw [hc.out]
      have hsome : Hid ((curHop p).isSome = false) := by show _ = _; rw [hc.out]; rfl
      go_enter Try.func86, Try.ntmps86
      go_wp2_with (fail)
      rw [← HW.out]
      refine wp_region_ext (by kernel_rfl) (by kernel_rfl) ?_
      repeat (go_big_quiet_step (first | (go_at_call_of 64 (I (k : Int)); exact ext_of_same _ (same_false hr (spec_l1In _ _ _ _))) | (go_at_call_of 64 (I p.hidx); exact ext_of_same _ (same_false hr2 (spec_l1In _ _ _ _)))))
      refine wpQuiet_nil ?_
      rintro w1 ⟨⟨_, hb1⟩, rfl⟩
      go_wp2_with (fail)
      go_ret
      exact ⟨by rw [HR.out]; rfl, ext_trans x0 hb1⟩
    · rw [← Hm.out] at hr2
      rw [ej] at a5
      clear ej
      obtain ⟨g', o', q', y', e', hg', hyj, b0, b1, b2, b3', b4⟩ := hop_at (k := j) hin (by omega)
      rw [← Hm.out] at hjl e'
      cases e'
      obtain rfl : y = y' := by have := hy.out.symm.trans hyj.out; injection this
      have HR : Hid (r = y.ia) := by show _ = _; rw [Hr.out]; unfold currentAS; rw [hc.out]
      have hsome : Hid ((curHop p).isSome = true) := by show _ = _; rw [hc.out]; rfl
      go_enter Try.func86, Try.ntmps86
      go_wp2_with (fail)
      rw [← HW.out]
      refine wp_region_ext (by kernel_rfl) (by kernel_rfl) ?_
      repeat (go_big_quiet_step (first | (go_at_call_of 64 (I (k : Int)); exact ext_of_same _ (same_false hr (spec_l1In _ _ _ _))) | (go_at_call_of 64 (I (j : Int)); exact ext_of_same _ (same_false hr2 (spec_l1In _ _ _ _)))))
      refine wpQuiet_nil ?_
      rintro w1 ⟨⟨_, hb1⟩, rfl⟩
      have f3 := a3 ⟨w1, hb1⟩
      have f4 := a4 ⟨w1, hb1⟩
      have f5 := a5 ⟨w1, hb1⟩
      have fb := b3 ⟨w1, hb1⟩
      have fh := ck (ext_trans x0 hb1) b0
      clear a3 a4 a5 b3 b0 b1 b2 b3' b4
      go_wp2_with (fail)
      go_quiet (fail)
      go_wp2_with (fail)
      go_ret
      exact ⟨by rw [HR.out]; rfl, below_drewN (ext_trans x0 hb1) _⟩

end Go.Proofs.Ytfgobdejlfojiaa
