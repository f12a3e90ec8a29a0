/- HopValidAt, CurrentHopValid, of the program and of the reference. -/
import Derived.Test.YtailmflghbdglaaPacketB
namespace Go.Proofs.Ytailmflghbdglaa
open Go.RowKit
set_option linter.unusedVariables false

/-- Whether the hop at which a packet stands is valid at a time. -/
def hopValid (p : Pkt) (now : Int) : Bool := if currentAS p < 0 then false else match curPart p, curHop p with
  | some x, some h => decide (x.ts ≤ now) && decide (now ≤ h.exp)
  | _, _ => false

theorem impl_HopValidAt (y : Hop) (now : Int) (w : World) :
    Calls Try.prog 69 #[.agg #[I y.ia, I y.ing, I y.eg, I y.exp, I y.mac], I now] w fun e w' => e = .returned (.bool (decide (now ≤ y.exp))) ∧ Below w.heap.size w w' := by
  go_enter Try.func69, Try.ntmps69
  go_wp2_with (fail)
  go_ret
  exact ⟨rfl, ext_alloc1 _ _⟩

set_option maxRecDepth 100000 in
set_option maxHeartbeats 1000000 in
theorem impl_CurrentHopValid (p : Pkt) (cs : List Value) (now : Int) (w : World) (h : pktT.R w cs p) (hz : sz_pkt p ≤ 1048576) (hl : lenOk_pkt p) (hg : rng_pkt p) (hnow : In64 now) :
    Calls Try.prog 33 #[.agg cs.toArray, I now] w fun e w' => e = .returned (.bool (hopValid p now)) ∧ Below w.heap.size w w' := by
  obtain ⟨A3, c3, A9, c9, rfl, ⟨h3, _⟩, _⟩ := pkt_form h
  clear hnow
  obtain ⟨r, Hr⟩ : ∃ r, Hid (r = hopValid p now) := ⟨_, rfl⟩
  rw [← Hr.out]
  obtain ⟨n, H⟩ : ∃ n, Hid (n = List.length p.path) := ⟨_, rfl⟩
  obtain ⟨c, Hc⟩ : ∃ c, Hid (c = currentAS p) := ⟨_, rfl⟩
  have HC := hid fun w' (hw : Below w.heap.size w w') => impl_CurrentAS p _ w' (pktT.kp h hw) hz hl hg
  rw [← H.out, ← Hc.out] at HC
  rw [← H.out] at h3 ⊢
  obtain ⟨W, HW⟩ : ∃ W, Hid (W = w.alloc (.cells #[I p.kind, I p.src, I p.dst, .slice A3 n c3, I p.pidx, I p.hidx, I p.beta, I p.rid, I p.seq, .slice A9 p.pay.length c9] 44)) := ⟨_, rfl⟩
  have x0 : Below w.heap.size w W := by rw [HW.out]; exact ext_alloc1 _ _
  cases hA : decide (c < 0)
  · have hA0 : ¬ c < 0 := by simpa using hA
    obtain ⟨k, x, ek, hk, hx, hcp, j, y, ej, hj, hy⟩ := some_of_as (p := p) (by rw [← Hc.out]; simp; omega)
    rw [← H.out] at hk
    have hch : Hid (curHop p = some y) := by show _ = _; unfold curHop; rw [hcp.out]; simp only []; rw [if_pos (by omega), ej, Int.toNat_natCast]; exact hy.out
    obtain ⟨g, o, q, x', B, d, e, hg', hxk, hin, hd, c0, c1, c2, c3'⟩ := part_at (k := k) h3 (by rw [← H.out]; exact hk)
    rw [← H.out] at e
    cases e
    obtain rfl : x = x' := by have := hx.out.symm.trans hxk.out; injection this
    obtain ⟨g', o', q', y', e', hg'', hyj, b0, b1, b2, b3, b4⟩ := hop_at (k := j) hin hj
    cases e'
    obtain rfl : y = y' := by have := hy.out.symm.trans hyj.out; injection this
    obtain ⟨m, Hm⟩ : ∃ m, Hid (m = x.hops.length) := ⟨_, rfl⟩
    rw [← Hm.out] at hj c3'
    have HR : Hid (r = (decide (x.ts ≤ now) && decide (now ≤ y.exp))) := by show _ = _; rw [Hr.out]; unfold hopValid; rw [if_neg (by rw [← Hc.out]; exact hA0), hcp.out, hch.out]
    have a3 : ∀ m : Xt W, m.w.cell? ⟨w.heap.size, 3, none⟩ = some (.slice (some ⟨g, o, none⟩) n c3) := fun m => ck m.h (by rw [HW.out]; simp)
    have a4 : ∀ m : Xt W, m.w.cell? ⟨w.heap.size, 4, none⟩ = some (I p.pidx) := fun m => ck m.h (by rw [HW.out]; simp)
    have a5 : ∀ m : Xt W, m.w.cell? ⟨w.heap.size, 5, none⟩ = some (I p.hidx) := fun m => ck m.h (by rw [HW.out]; simp)
    rw [ek] at a4
    rw [ej] at a5
    rw [ek, ej] at HC HW ⊢
    clear ek ej h hA0 h3 hin
    obtain ⟨b1', hb1'⟩ : ∃ b, decide (x.ts ≤ now) = b := ⟨_, rfl⟩
    rw [hb1'] at HR
    cases b1'
    all_goals
      go_enter Try.func33, Try.ntmps33
      go_wp2_with (fail)
      rw [← HW.out]
      refine (HC.out W x0).mono ?_
      rintro e w1 ⟨rfl, hb1⟩
      have f3 := a3 ⟨w1, hb1⟩
      have f4 := a4 ⟨w1, hb1⟩
      have f5 := a5 ⟨w1, hb1⟩
      have X := ext_trans x0 hb1
      have s1 : w.heap.size < w1.heap.size := World.block_lt_of_cell? w1 _ f3
      have s2 : g' < w1.heap.size := Nat.lt_of_lt_of_le hg'' X.size
      have p0 := ck X c0
      have p1 := ck X c1
      have p2 := ck X c2
      have p3 := ck X c3'
      have y0 := ck X b0
      have y1 := ck X b1
      have y2 := ck X b2
      have y3 := ck X b3
      have y4 := ck X b4
      clear a3 a4 a5 c0 c1 c2 c3' b0 b1 b2 b3 b4
      go_wp2_with (fail)
    · go_ret
      exact ⟨by rw [HR.out]; rfl, ext_alloc X _⟩
    · refine (impl_HopValidAt y now _).mono ?_
      rintro e w2 ⟨rfl, hb2⟩
      go_wp2_with (fail)
      go_ret
      exact ⟨by rw [HR.out]; rfl, ext_trans (ext_alloc X _) hb2⟩
  · have hA0 : c < 0 := by simpa using hA
    have HR : Hid (r = false) := by show _ = _; rw [Hr.out]; unfold hopValid; rw [if_pos (by rw [← Hc.out]; exact hA0)]
    go_enter Try.func33, Try.ntmps33
    go_wp2_with (fail)
    rw [← HW.out]
    refine (HC.out W x0).mono ?_
    rintro e w1 ⟨rfl, hb1⟩
    go_wp2_with (fail)
    go_ret
    exact ⟨by rw [HR.out]; rfl, ext_trans x0 hb1⟩
theorem spec_HopValidAt (y : Hop) (now : Int) (w : World) :
    Calls Try.prog 68 #[.agg #[I y.ia, I y.ing, I y.eg, I y.exp, I y.mac], I now] w fun e w' => e = .returned (.bool (decide (now ≤ y.exp))) ∧ Below w.heap.size w w' := by
  go_enter Try.func68, Try.ntmps68
  go_wp2_with (fail)
  go_ret
  exact ⟨rfl, ext_alloc1 _ _⟩

set_option maxRecDepth 100000 in
set_option maxHeartbeats 1000000 in
theorem spec_CurrentHopValid (p : Pkt) (cs : List Value) (now : Int) (w : World) (h : pktT.R w cs p) (hz : sz_pkt p ≤ 1048576) (hl : lenOk_pkt p) (hg : rng_pkt p) (hnow : In64 now) :
    Calls Try.prog 32 #[.agg cs.toArray, I now] w fun e w' => e = .returned (.bool (hopValid p now)) ∧ Below w.heap.size w w' := by
  obtain ⟨A3, c3, A9, c9, rfl, ⟨h3, _⟩, _⟩ := pkt_form h
  clear hnow
  obtain ⟨r, Hr⟩ : ∃ r, Hid (r = hopValid p now) := ⟨_, rfl⟩
  rw [← Hr.out]
  obtain ⟨n, H⟩ : ∃ n, Hid (n = List.length p.path) := ⟨_, rfl⟩
  obtain ⟨c, Hc⟩ : ∃ c, Hid (c = currentAS p) := ⟨_, rfl⟩
  have HC := hid fun w' (hw : Below w.heap.size w w') => spec_CurrentAS p _ w' (pktT.kp h hw) hz hl hg
  rw [← H.out, ← Hc.out] at HC
  rw [← H.out] at h3 ⊢
  obtain ⟨W, HW⟩ : ∃ W, Hid (W = w.alloc (.cells #[I p.kind, I p.src, I p.dst, .slice A3 n c3, I p.pidx, I p.hidx, I p.beta, I p.rid, I p.seq, .slice A9 p.pay.length c9] 44)) := ⟨_, rfl⟩
  have x0 : Below w.heap.size w W := by rw [HW.out]; exact ext_alloc1 _ _
  cases hA : decide (c < 0)
  · have hA0 : ¬ c < 0 := by simpa using hA
    obtain ⟨k, x, ek, hk, hx, hcp, j, y, ej, hj, hy⟩ := some_of_as (p := p) (by rw [← Hc.out]; simp; omega)
    rw [← H.out] at hk
    have hch : Hid (curHop p = some y) := by show _ = _; unfold curHop; rw [hcp.out]; simp only []; rw [if_pos (by omega), ej, Int.toNat_natCast]; exact hy.out
    obtain ⟨g, o, q, x', B, d, e, hg', hxk, hin, hd, c0, c1, c2, c3'⟩ := part_at (k := k) h3 (by rw [← H.out]; exact hk)
    rw [← H.out] at e
    cases e
    obtain rfl : x = x' := by have := hx.out.symm.trans hxk.out; injection this
    obtain ⟨g', o', q', y', e', hg'', hyj, b0, b1, b2, b3, b4⟩ := hop_at (k := j) hin hj
    cases e'
    obtain rfl : y = y' := by have := hy.out.symm.trans hyj.out; injection this
    obtain ⟨m, Hm⟩ : ∃ m, Hid (m = x.hops.length) := ⟨_, rfl⟩
    rw [← Hm.out] at hj c3'
    have HR : Hid (r = (decide (x.ts ≤ now) && decide (now ≤ y.exp))) := by show _ = _; rw [Hr.out]; unfold hopValid; rw [if_neg (by rw [← Hc.out]; exact hA0), hcp.out, hch.out]
    have a3 : ∀ m : Xt W, m.w.cell? ⟨w.heap.size, 3, none⟩ = some (.slice (some ⟨g, o, none⟩) n c3) := fun m => ck m.h (by rw [HW.out]; simp)
    have a4 : ∀ m : Xt W, m.w.cell? ⟨w.heap.size, 4, none⟩ = some (I p.pidx) := fun m => ck m.h (by rw [HW.out]; simp)
    have a5 : ∀ m : Xt W, m.w.cell? ⟨w.heap.size, 5, none⟩ = some (I p.hidx) := fun m => ck m.h (by rw [HW.out]; simp)
    rw [ek] at a4
    rw [ej] at a5
    rw [ek, ej] at HC HW ⊢
    clear ek ej h hA0 h3 hin
    obtain ⟨b1', hb1'⟩ : ∃ b, decide (x.ts ≤ now) = b := ⟨_, rfl⟩
    rw [hb1'] at HR
    cases b1'
    all_goals
      go_enter Try.func32, Try.ntmps32
      go_wp2_with (fail)
      rw [← HW.out]
      refine (HC.out W x0).mono ?_
      rintro e w1 ⟨rfl, hb1⟩
      have f3 := a3 ⟨w1, hb1⟩
      have f4 := a4 ⟨w1, hb1⟩
      have f5 := a5 ⟨w1, hb1⟩
      have X := ext_trans x0 hb1
      have s1 : w.heap.size < w1.heap.size := World.block_lt_of_cell? w1 _ f3
      have s2 : g' < w1.heap.size := Nat.lt_of_lt_of_le hg'' X.size
      have p0 := ck X c0
      have p1 := ck X c1
      have p2 := ck X c2
      have p3 := ck X c3'
      have y0 := ck X b0
      have y1 := ck X b1
      have y2 := ck X b2
      have y3 := ck X b3
      have y4 := ck X b4
      clear a3 a4 a5 c0 c1 c2 c3' b0 b1 b2 b3 b4
      go_wp2_with (fail)
    · go_ret
      exact ⟨by rw [HR.out]; rfl, ext_alloc X _⟩
    · refine (spec_HopValidAt y now _).mono ?_
      rintro e w2 ⟨rfl, hb2⟩
      go_wp2_with (fail)
      go_ret
      exact ⟨by rw [HR.out]; rfl, ext_trans (ext_alloc X _) hb2⟩
  · have hA0 : c < 0 := by simpa using hA
    have HR : Hid (r = false) := by show _ = _; rw [Hr.out]; unfold hopValid; rw [if_pos (by rw [← Hc.out]; exact hA0)]
    go_enter Try.func32, Try.ntmps32
    go_wp2_with (fail)
    rw [← HW.out]
    refine (HC.out W x0).mono ?_
    rintro e w1 ⟨rfl, hb1⟩
    go_wp2_with (fail)
    go_ret
    exact ⟨by rw [HR.out]; rfl, ext_trans x0 hb1⟩

end Go.Proofs.Ytailmflghbdglaa
