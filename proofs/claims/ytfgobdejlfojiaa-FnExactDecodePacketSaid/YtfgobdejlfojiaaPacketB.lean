/- lastOfPart, AtLastHop, HopValidAt, CurrentHopValid, of the program and of the reference. -/
import Derived.Test.YtfgobdejlfojiaaPacket
namespace Go.Proofs.Ytfgobdejlfojiaa
open Go.RowKit
set_option linter.unusedVariables false

/-- Whether a packet stands at the last hop of its path. -/
def atLastHop (p : Pkt) : Bool := match curPart p with
  | none => false
  | some x => decide (0 ≤ currentAS p) && ((p.hidx == (x.hops.length : Int) - 1) && (p.pidx == (p.path.length : Int) - 1))

set_option maxRecDepth 100000 in
set_option maxHeartbeats 1000000 in
theorem impl_lastOfPart (p : Pkt) (cs : List Value) (w : World) (h : pktT.R w cs p) (hz : sz_pkt p ≤ 1048576) (k : Nat) (x : Part) (ek : p.pidx = (k : Int)) (hx : Hid (p.path[k]? = some x)) :
    Calls Try.prog 91 #[.agg cs.toArray] w fun e w' => e = .returned (.bool (p.hidx == (x.hops.length : Int) - 1)) ∧ Below w.heap.size w w' := by
  obtain ⟨A3, c3, A9, c9, rfl, ⟨h3, _⟩, _⟩ := pkt_form h
  have hs : sz_path p.path ≤ 1048576 := by unfold sz_pkt at hz; omega
  have hn0 : p.path.length ≤ 1048576 := by have : sz_path p.path = List.length p.path + (p.path.map sz_part).sum := rfl; omega
  obtain ⟨r, Hr⟩ : ∃ r, Hid (r = (p.hidx == (x.hops.length : Int) - 1)) := ⟨_, rfl⟩
  rw [← Hr.out]
  clear h hz
  have hk : k < p.path.length := (List.getElem?_eq_some_iff.1 hx.out).1
  obtain ⟨n, H⟩ : ∃ n, Hid (n = List.length p.path) := ⟨_, rfl⟩
  rw [← H.out] at h3 hn0 hk ⊢
  obtain ⟨W, HW⟩ : ∃ W, Hid (W = w.alloc (.cells #[I p.kind, I p.src, I p.dst, .slice A3 n c3, I p.pidx, I p.hidx, I p.beta, I p.rid, I p.seq, .slice A9 p.pay.length c9] 51)) := ⟨_, rfl⟩
  have x0 : Below w.heap.size w W := by rw [HW.out]; exact ext_alloc1 _ _
  have a3 : ∀ m : Xt W, m.w.cell? ⟨w.heap.size, 3, none⟩ = some (.slice A3 n c3) := fun m => ck m.h (by rw [HW.out]; simp)
  have a4 : ∀ m : Xt W, m.w.cell? ⟨w.heap.size, 4, none⟩ = some (I p.pidx) := fun m => ck m.h (by rw [HW.out]; simp)
  have a5 : ∀ m : Xt W, m.w.cell? ⟨w.heap.size, 5, none⟩ = some (I p.hidx) := fun m => ck m.h (by rw [HW.out]; simp)
  rw [ek] at a4
  clear ek
  obtain ⟨g, o, q, x', B, d, e, hg, hxk, hin, hd, c0, c1, c2, c3'⟩ := part_at (k := k) h3 (by rw [← H.out]; exact hk)
  rw [← H.out] at e
  cases e
  obtain rfl : x = x' := by have := hx.out.symm.trans hxk.out; injection this
  have b3 : ∀ m : Xt W, m.w.cell? ⟨g, o + k * 4 + 3, none⟩ = some (.slice B x.hops.length d) := fun m => ck m.h (ck x0 c3')
  clear c0 c1 c2 c3'
  have hm0 : x.hops.length ≤ 1048576 := by
    have := le_sum_of_mem (List.mem_map.2 ⟨x, List.mem_of_getElem? hx.out, rfl⟩ : sz_part x ∈ p.path.map sz_part)
    have h2 : sz_path p.path = List.length p.path + (p.path.map sz_part).sum := rfl
    have h3 : sz_part x = x.hops.length := rfl
    omega
  obtain ⟨m, Hm⟩ : ∃ m, Hid (m = x.hops.length) := ⟨_, rfl⟩
  rw [← Hm.out] at b3 hm0
  have HR : Hid (r = (p.hidx == (m : Int) - 1)) := by show _ = _; rw [Hr.out, Hm.out]
  have f3 := a3 ⟨W, Below.refl _ _⟩
  have f4 := a4 ⟨W, Below.refl _ _⟩
  have f5 := a5 ⟨W, Below.refl _ _⟩
  have fb := b3 ⟨W, Below.refl _ _⟩
  clear a3 a4 a5 b3
  go_enter Try.func91, Try.ntmps91
  go_wp2_with (fail)
  rw [← HW.out]
  go_quiet (fail)
  go_wp2_with (fail)
  go_ret
  exact ⟨by rw [HR.out]; rfl, below_drewN x0 _⟩

theorem some_of_as {p : Pkt} (h : decide (0 ≤ currentAS p) = true) : ∃ k x, p.pidx = ((k : Nat) : Int) ∧ k < p.path.length ∧ Hid (p.path[k]? = some x) ∧ Hid (curPart p = some x) ∧ ∃ j y, p.hidx = ((j : Nat) : Int) ∧ j < x.hops.length ∧ Hid (x.hops[j]? = some y) := by
  have h0 : 0 ≤ currentAS p := by simpa using h
  rcases cur_cases p with ⟨_, hc⟩ | ⟨k, x, ek, hk, hx, _, ⟨_, hc⟩ | ⟨j, y, ej, hj, hy, _, _⟩⟩
  · unfold currentAS at h0; rw [hc.out] at h0; simp at h0
  · unfold currentAS at h0; rw [hc.out] at h0; simp at h0
  · exact ⟨k, x, ek, hk, hx, by show _ = _; unfold curPart; rw [if_pos (by omega), ek, Int.toNat_natCast]; exact hx.out, j, y, ej, hj, hy⟩


set_option maxRecDepth 100000 in
set_option maxHeartbeats 1000000 in
theorem impl_AtLastHop (p : Pkt) (cs : List Value) (w : World) (h : pktT.R w cs p) (hz : sz_pkt p ≤ 1048576) (hl : lenOk_pkt p) (hg : rng_pkt p) :
    Calls Try.prog 90 #[.agg cs.toArray] w fun e w' => e = .returned (.bool (atLastHop p)) ∧ Below w.heap.size w w' := by
  obtain ⟨A3, c3, A9, c9, rfl, ⟨h3, _⟩, _⟩ := pkt_form h
  have hs : sz_path p.path ≤ 1048576 := by unfold sz_pkt at hz; omega
  have hn0 : p.path.length ≤ 1048576 := by have : sz_path p.path = List.length p.path + (p.path.map sz_part).sum := rfl; omega
  obtain ⟨r, Hr⟩ : ∃ r, Hid (r = atLastHop p) := ⟨_, rfl⟩
  rw [← Hr.out]
  obtain ⟨n, H⟩ : ∃ n, Hid (n = List.length p.path) := ⟨_, rfl⟩
  obtain ⟨c, Hc⟩ : ∃ c, Hid (c = currentAS p) := ⟨_, rfl⟩
  have HC := hid fun w' (hw : Below w.heap.size w w') => impl_CurrentAS p _ w' (pktT.kp h hw) hz hl hg
  rw [← H.out, ← Hc.out] at HC
  rw [← H.out] at h3 hn0 ⊢
  obtain ⟨W, HW⟩ : ∃ W, Hid (W = w.alloc (.cells #[I p.kind, I p.src, I p.dst, .slice A3 n c3, I p.pidx, I p.hidx, I p.beta, I p.rid, I p.seq, .slice A9 p.pay.length c9] 51)) := ⟨_, rfl⟩
  have x0 : Below w.heap.size w W := by rw [HW.out]; exact ext_alloc1 _ _
  cases hA : decide (0 ≤ c)
  · have HR : Hid (r = false) := by show _ = _; rw [Hr.out]; unfold atLastHop; rw [← Hc.out, hA]; split <;> rfl
    go_enter Try.func90, Try.ntmps90
    go_wp2_with (fail)
    rw [← HW.out]
    refine (HC.out W x0).mono ?_
    rintro e w1 ⟨rfl, hb1⟩
    go_wp2_with (fail)
    go_ret
    exact ⟨by rw [HR.out]; rfl, ext_trans x0 hb1⟩
  · obtain ⟨k, x, ek, hk, hx, hcp, _⟩ := some_of_as (p := p) (by rw [← Hc.out]; exact hA)
    have HL := hid fun w' (hw : Below w.heap.size w w') => impl_lastOfPart p _ w' (pktT.kp h hw) hz k x ek hx
    rw [← H.out] at HL
    obtain ⟨b1, h1⟩ : ∃ b, (p.hidx == (x.hops.length : Int) - 1) = b := ⟨_, rfl⟩
    rw [h1] at HL
    obtain ⟨b2, h2⟩ : ∃ b, (p.pidx == (n : Int) - 1) = b := ⟨_, rfl⟩
    have HR : Hid (r = (b1 && b2)) := by show _ = _; rw [Hr.out]; unfold atLastHop; rw [hcp.out]; simp only []; rw [← Hc.out, hA, h1, ← H.out, h2]; rfl
    have a3 : ∀ m : Xt W, m.w.cell? ⟨w.heap.size, 3, none⟩ = some (.slice A3 n c3) := fun m => ck m.h (by rw [HW.out]; simp)
    have a4 : ∀ m : Xt W, m.w.cell? ⟨w.heap.size, 4, none⟩ = some (I p.pidx) := fun m => ck m.h (by rw [HW.out]; simp)
    have aw : ∀ m : Xt W, m.w.cell? ⟨w.heap.size, 0, none⟩ = some (I p.kind) ∧ m.w.cell? ⟨w.heap.size, 1, none⟩ = some (I p.src) ∧ m.w.cell? ⟨w.heap.size, 2, none⟩ = some (I p.dst) ∧ m.w.cell? ⟨w.heap.size, 5, none⟩ = some (I p.hidx) ∧ m.w.cell? ⟨w.heap.size, 6, none⟩ = some (I p.beta) ∧ m.w.cell? ⟨w.heap.size, 7, none⟩ = some (I p.rid) ∧ m.w.cell? ⟨w.heap.size, 8, none⟩ = some (I p.seq) ∧ m.w.cell? ⟨w.heap.size, 9, none⟩ = some (.slice A9 p.pay.length c9) := fun m => ⟨ck m.h (by rw [HW.out]; simp), ck m.h (by rw [HW.out]; simp), ck m.h (by rw [HW.out]; simp), ck m.h (by rw [HW.out]; simp), ck m.h (by rw [HW.out]; simp), ck m.h (by rw [HW.out]; simp), ck m.h (by rw [HW.out]; simp), ck m.h (by rw [HW.out]; simp)⟩
    clear ek h h1
    cases b1 <;> cases b2
    all_goals
      go_enter Try.func90, Try.ntmps90
      go_wp2_with (fail)
      rw [← HW.out]
      refine (HC.out W x0).mono ?_
      rintro e w1 ⟨rfl, hb1⟩
      have f3 := a3 ⟨w1, hb1⟩
      have f4 := a4 ⟨w1, hb1⟩
      obtain ⟨f0, f1, f2, f5, f6, f7, f8, f9⟩ := aw ⟨w1, hb1⟩
      go_wp2_with (fail)
      refine (HL.out w1 (ext_trans x0 hb1)).mono ?_
      rintro e w2 ⟨rfl, hb2⟩
      have g3 := ck hb2 f3
      have g4 := ck hb2 f4
      go_wp2_with (fail)
      go_ret
      exact ⟨by rw [HR.out]; rfl, ext_trans x0 (ext_trans hb1 hb2)⟩

set_option maxRecDepth 100000 in
set_option maxHeartbeats 1000000 in
theorem spec_AtLastHop (p : Pkt) (cs : List Value) (w : World) (h : pktT.R w cs p) (hz : sz_pkt p ≤ 1048576) (hl : lenOk_pkt p) (hg : rng_pkt p) :
    Calls Try.prog 87 #[.agg cs.toArray] w fun e w' => e = .returned (.bool (atLastHop p)) ∧ Below w.heap.size w w' := by
  obtain ⟨A3, c3, A9, c9, rfl, ⟨h3, _⟩, _⟩ := pkt_form h
  have hs : sz_path p.path ≤ 1048576 := by unfold sz_pkt at hz; omega
  have hn0 : p.path.length ≤ 1048576 := by have : sz_path p.path = List.length p.path + (p.path.map sz_part).sum := rfl; omega
  obtain ⟨r, Hr⟩ : ∃ r, Hid (r = atLastHop p) := ⟨_, rfl⟩
  rw [← Hr.out]
  obtain ⟨n, H⟩ : ∃ n, Hid (n = List.length p.path) := ⟨_, rfl⟩
  obtain ⟨c, Hc⟩ : ∃ c, Hid (c = currentAS p) := ⟨_, rfl⟩
  have HC := hid fun w' (hw : Below w.heap.size w w') => spec_CurrentAS p _ w' (pktT.kp h hw) hz hl hg
  rw [← H.out, ← Hc.out] at HC
  rw [← H.out] at h3 hn0 ⊢
  obtain ⟨W, HW⟩ : ∃ W, Hid (W = w.alloc (.cells #[I p.kind, I p.src, I p.dst, .slice A3 n c3, I p.pidx, I p.hidx, I p.beta, I p.rid, I p.seq, .slice A9 p.pay.length c9] 51)) := ⟨_, rfl⟩
  have x0 : Below w.heap.size w W := by rw [HW.out]; exact ext_alloc1 _ _
  have a3 : ∀ m : Xt W, m.w.cell? ⟨w.heap.size, 3, none⟩ = some (.slice A3 n c3) := fun m => ck m.h (by rw [HW.out]; simp)
  have a4 : ∀ m : Xt W, m.w.cell? ⟨w.heap.size, 4, none⟩ = some (I p.pidx) := fun m => ck m.h (by rw [HW.out]; simp)
  have a5 : ∀ m : Xt W, m.w.cell? ⟨w.heap.size, 5, none⟩ = some (I p.hidx) := fun m => ck m.h (by rw [HW.out]; simp)
  have a0 : ∀ m : Xt W, m.w.cell? ⟨w.heap.size, 0, none⟩ = some (I p.kind) := fun m => ck m.h (by rw [HW.out]; simp)
  have a1 : ∀ m : Xt W, m.w.cell? ⟨w.heap.size, 1, none⟩ = some (I p.src) := fun m => ck m.h (by rw [HW.out]; simp)
  have a2 : ∀ m : Xt W, m.w.cell? ⟨w.heap.size, 2, none⟩ = some (I p.dst) := fun m => ck m.h (by rw [HW.out]; simp)
  have a6 : ∀ m : Xt W, m.w.cell? ⟨w.heap.size, 6, none⟩ = some (I p.beta) := fun m => ck m.h (by rw [HW.out]; simp)
  have a7 : ∀ m : Xt W, m.w.cell? ⟨w.heap.size, 7, none⟩ = some (I p.rid) := fun m => ck m.h (by rw [HW.out]; simp)
  have a8 : ∀ m : Xt W, m.w.cell? ⟨w.heap.size, 8, none⟩ = some (I p.seq) := fun m => ck m.h (by rw [HW.out]; simp)
  have a9 : ∀ m : Xt W, m.w.cell? ⟨w.heap.size, 9, none⟩ = some (.slice A9 p.pay.length c9) := fun m => ck m.h (by rw [HW.out]; simp)
  cases hA : decide (0 ≤ c)
  · have HR : Hid (r = false) := by show _ = _; rw [Hr.out]; unfold atLastHop; rw [← Hc.out, hA]; split <;> rfl
    go_enter Try.func87, Try.ntmps87
    go_wp2_with (fail)
    rw [← HW.out]
    refine wp_region_ext (by kernel_rfl) (by kernel_rfl) ?_
    repeat (go_big_quiet_step ((go_at_call 86; exact ext_of _ (HC.out _ (ext_trans x0 (Xt.h _))))))
    refine wpQuiet_nil ?_
    rintro w1 ⟨⟨_, hb1⟩, rfl⟩
    go_wp2_with (fail)
    go_ret
    exact ⟨by rw [HR.out]; rfl, ext_trans x0 hb1⟩
  · obtain ⟨k, x, ek, hk, hx, hcp, _⟩ := some_of_as (p := p) (by rw [← Hc.out]; exact hA)
    rw [← H.out] at hk
    obtain ⟨g, o, q, x', B, d, e, hg, hxk, hin, hd, c0, c1, c2, c3'⟩ := part_at (k := k) h3 (by rw [← H.out]; exact hk)
    rw [← H.out] at e
    cases e
    obtain rfl : x = x' := by have := hx.out.symm.trans hxk.out; injection this
    have b3 : ∀ m : Xt W, m.w.cell? ⟨g, o + k * 4 + 3, none⟩ = some (.slice B x.hops.length d) := fun m => ck m.h (ck x0 c3')
    clear c0 c1 c2 c3'
    have hm0 : x.hops.length ≤ 1048576 := by
      have := le_sum_of_mem (List.mem_map.2 ⟨x, List.mem_of_getElem? hx.out, rfl⟩ : sz_part x ∈ p.path.map sz_part)
      have h2 : sz_path p.path = List.length p.path + (p.path.map sz_part).sum := rfl
      have h3 : sz_part x = x.hops.length := rfl
      omega
    obtain ⟨m, Hm⟩ : ∃ m, Hid (m = x.hops.length) := ⟨_, rfl⟩
    rw [← Hm.out] at b3 hm0
    obtain ⟨b1, h1⟩ : ∃ b, ((k : Int) == (n : Int) - 1) = b := ⟨_, rfl⟩
    obtain ⟨b2, h2⟩ : ∃ b, (p.hidx == (m : Int) - 1) = b := ⟨_, rfl⟩
    have HR : Hid (r = (b2 && b1)) := by show _ = _; rw [Hr.out]; unfold atLastHop; rw [hcp.out]; simp only []; rw [← Hc.out, hA, ek, ← H.out, h1, ← Hm.out, h2]; rfl
    rw [ek] at a4 HC
    clear ek
    cases b1 <;> cases b2
    all_goals
      go_enter Try.func87, Try.ntmps87
      go_wp2_with (fail)
      rw [← HW.out]
      refine wp_region_ext (by kernel_rfl) (by kernel_rfl) ?_
      repeat (go_big_quiet_step ((go_at_call 86; exact ext_of _ (HC.out _ (ext_trans x0 (Xt.h _))))))
      refine wpQuiet_nil ?_
      rintro w1 ⟨⟨_, hb1⟩, rfl⟩
      go_wp2_with (fail)
      go_ret
      exact ⟨by rw [HR.out]; rfl, ext_trans x0 hb1⟩

end Go.Proofs.Ytfgobdejlfojiaa
